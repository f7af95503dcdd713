import Derived.Test.YthfcfmkdeheicaaGreatGC3
import Derived.Test.YthfcfmkdeheicaaGreatJL
set_option linter.all false
set_option linter.all false
namespace Go.Proofs.YthfcfmkdeheicaaGreat
open Go.J
open Go.J.Enc (enc)
set_option maxRecDepth 100000
set_option maxHeartbeats 4000000
open Classical in
noncomputable def nextF (t : Tp) (n : Int) : Option (Tp × Int) := if t.ok ∧ -1000000 ≤ n ∧ n ≤ 1000000 then some (t.next n) else none
open Classical in
noncomputable def typeF (d : Nat) (t : Tp) (D : List Decl) (Lv : List Ty) (n : Int) : Option (Tp × Ty) := if t.ok ∧ DOk D ∧ Lv.length ≤ 100000 ∧ n ≤ d then some (typeM n.toNat t D Lv) else none
section
variable {ρ : Nat → Value} (hρ : J.Good ρ) {E : Env} (hE : E.P = Tryz.prog) (hcon : ConsOk ρ E)
include hρ hE hcon
theorem make_Tape_Type_run (hN : E.con 56 = stS (stF1 nextF)) (hC : E.con 61 = fnS (spec2 fun n l => if l.length ≤ 10000 then some (tCon n l) else none)) (hI : E.con 49 = fnS (spec0 tInt)) (hA : E.con 62 = fnS (spec2 fun a b => some (tArrow a b)))
    {d : Nat} {n : Int} (hT0 : 0 < n → E.con 15 = stS (stF3 (typeF d))) {t : Tp} {D : List Decl} {Lv : List Ty} (ht : t.ok) (hD : DOk D) (hLv : Lv.length ≤ 100000) (hn : n ≤ d + 1) (hdd : d ≤ 1000) (hs : HS) (id : Nat) (hid : id < hs.n) (hg : hs.H.get id = some (box (Cel.cells t))) :
    CallOk ρ Tryz.prog 15 [.ptr id 0 0, enc D, enc Lv, enc n] hs (enc (typeM n.toNat t D Lv).2) (hs.wr id (box (Cel.cells (typeM n.toNat t D Lv).1))) := by
  have h7 : nextF t 7 = some (t.next 7) := if_pos ⟨ht, by omega, by omega⟩
  have ht1 := next_ok ht 7
  have hk0 := next_nn t 7
  generalize hR : typeM n.toNat t D Lv = R
  rw [typeM.eq_def] at hR
  rcases hq : t.next 7 with ⟨t1, k⟩
  simp only [hq] at h7 ht1 hk0 hR
  refine st hρ hE hcon Tryz.func15 fB15 rfl (by simp) (by simp) (by simp) (by simp) ?_ hid hg
  by_cases c1 : k < 3 ∧ Lv ≠ []
  · rw [if_pos c1] at hR
    obtain ⟨j, hj, e1, e2⟩ := next_get t1 c1.2
    have hF : nextF t1 (Lv.length : Int) = some (t1.next (Lv.length : Int)) := if_pos ⟨ht1, by omega, by omega⟩
    rw [e2] at hR
    rcases hq2 : t1.next (Lv.length : Int) with ⟨t2, k2⟩
    simp only [hq2] at hF e1 hR
    subst e1 hR
    have hlp : 0 < Lv.length := by omega
    simp [fS15r0, fS15r1, fS15r2, fS15r3, fS15r4, fS15r5, fS15r6, fS15r7, fS15r8, fS15r9, fS15r10, fS15r11, fS15r12, fS15b0, fS15r13, fS15b1, fS15r14, fS15b2, fS15r15, fS15r16, fS15, hE, hN, h7, c1.1, hlp, hF, hj]
    exact GivesL.keep rfl rfl (by simp) (by simp) (by simp)
  · rw [if_neg c1] at hR
    have hp1 : ¬ (k < 3 ∧ 0 < Lv.length) := fun h => c1 ⟨h.1, List.length_pos_iff.1 h.2⟩
    by_cases c2 : k < 4
    · rw [if_pos c2] at hR
      subst hR
      by_cases c3 : k < 3
      · have hL0 : Lv = [] := Classical.byContradiction fun h => c1 ⟨c3, h⟩
        subst hL0
        simp [fS15r0, fS15r1, fS15r2, fS15r3, fS15r4, fS15r5, fS15r6, fS15r7, fS15r8, fS15r9, fS15r10, fS15r11, fS15r12, fS15b0, fS15r13, fS15b1, fS15r14, fS15b2, fS15r15, fS15r16, fS15, hE, hN, h7, c3, c2, hI]
        exact GivesL.keep rfl rfl (by simp) (by simp) (by simp)
      · simp [fS15r0, fS15r1, fS15r2, fS15r3, fS15r4, fS15r5, fS15r6, fS15r7, fS15r8, fS15r9, fS15r10, fS15r11, fS15r12, fS15b0, fS15r13, fS15b1, fS15r14, fS15b2, fS15r15, fS15r16, fS15, hE, hN, h7, c3, c2, hI]
        exact GivesL.keep rfl rfl (by simp) (by simp) (by simp)
    · rw [if_neg c2] at hR
      have c3 : ¬ k < 3 := by omega
      by_cases c4 : n < 1
      · have h0 : n.toNat = 0 := by omega
        rw [h0] at hR
        simp only [] at hR
        subst hR
        simp [fS15r0, fS15r1, fS15r2, fS15r3, fS15r4, fS15r5, fS15r6, fS15r7, fS15r8, fS15r9, fS15r10, fS15r11, fS15r12, fS15b0, fS15r13, fS15b1, fS15r14, fS15b2, fS15r15, fS15r16, fS15, hE, hN, h7, c3, c2, c4, hI]
        exact GivesL.keep rfl rfl (by simp) (by simp) (by simp)
      · have hT := hT0 (by omega)
        obtain ⟨m, hm⟩ : ∃ m, n.toNat = m + 1 := ⟨n.toNat - 1, by omega⟩
        have hnm : n = (m : Int) + 1 := by omega
        have hmd : m ≤ d := by omega
        rw [hm] at hR
        simp only [] at hR
        have hw : IntKind.i64.wrap (n - 1) = (m : Int) := by rw [hnm, wrap_i64 (by omega) (by omega)]; omega
        have hTy : ∀ t' : Tp, t'.ok → typeF d t' D Lv (m : Int) = some (typeM m t' D Lv) := fun t' h => by
          unfold typeF
          rw [if_pos ⟨h, hD, hLv, by omega⟩, Int.toNat_natCast]
        by_cases c5 : (k = 4 ∨ k = 5) ∧ D ≠ []
        · rw [if_pos c5] at hR
          obtain ⟨j, hj, e1, e2⟩ := next_get t1 c5.2
          have hF : nextF t1 (D.length : Int) = some (t1.next (D.length : Int)) := if_pos ⟨ht1, by have := hD.1; omega, by have := hD.1; omega⟩
          have ht2 := next_ok ht1 (D.length : Int)
          rw [e2] at hR
          rcases hq2 : t1.next (D.length : Int) with ⟨t2, k2⟩
          simp only [hq2, Option.getD_some] at hF e1 hR ht2
          subst e1
          have hdp := hD.2 _ (List.getElem_mem hj)
          have hDp : 0 < D.length := by omega
          generalize hdj : D[j] = dd at hR hdp
          obtain ⟨dpos, dname, dparams, dctors⟩ := dd
          simp only at hR hdp
          have main : ∀ T hs, Less 1 T hs (mkP [(0, .ptr 0 0 0), (1, .sl (D.map encDecl) false), (2, .sl (Lv.map encTy) false), (3, .int .i64 n), (8, .ptr 1 0 0), (10, .ptr 2 0 0), (11, oV 3 (([] : List Ty).map encTy)), (12, .int .i64 ((0 : Nat) : Int))])
              { H := mkP ([(0, box (Cel.cells t2)), (1, box [.int .i64 0, .str [], .int .i64 0, .int .i64 0, .snil]), (2, box (encDecl ⟨dpos, dname, dparams, dctors⟩))] ++ oH 3 5 (([] : List Ty).map encTy)), n := 4, log := [] } →
              ∀ Q, Q (.exit 1) (mkP [(8, .ptr 1 0 0), (10, .ptr 2 0 0), (11, oV 3 ((argsM m t2 D Lv dparams.length).2.map encTy))])
                { H := mkP ([(0, box (Cel.cells (argsM m t2 D Lv dparams.length).1)), (1, box [.int .i64 0, .str [], .int .i64 0, .int .i64 0, .snil]), (2, box (encDecl ⟨dpos, dname, dparams, dctors⟩))] ++ oH 3 5 ((argsM m t2 D Lv dparams.length).2.map encTy)), n := 4, log := [] } →
              Ls ρ E 1 95 (.loop fS15l0) T hs Q := by
            intro T hs hl Q hQ
            refine lpi hρ hE hcon dparams.length (fun i (p : Tp × List Ty) => [(0, .ptr 0 0 0), (1, .sl (D.map encDecl) false), (2, .sl (Lv.map encTy) false), (3, .int .i64 n), (8, .ptr 1 0 0), (10, .ptr 2 0 0), (11, oV 3 (p.2.map encTy)), (12, .int .i64 (i : Int))])
              (fun i p => [(0, box (Cel.cells p.1)), (1, box [.int .i64 0, .str [], .int .i64 0, .int .i64 0, .snil]), (2, box (encDecl ⟨dpos, dname, dparams, dctors⟩))] ++ oH 3 5 (p.2.map encTy)) (fun i p => p = argsM m t2 D Lv i) (t2, []) hl (by rw [argsM]) ?_ ?_
            · intro p hp K
              rw [← hp] at hQ
              obtain ⟨t3, L⟩ := p
              rcases L with _ | ⟨x, L⟩ <;> simp [fS15l0, fS15r0, fS15r1, fS15r2, fS15r3, fS15r4, fS15r5, fS15r6, fS15r7, fS15r8, fS15r9, fS15r10, fS15r11, fS15r12, fS15b0, fS15r13, fS15b1, fS15r14, fS15b2, fS15r15, fS15r16, fS15, hE] <;> exact LessQ.mk (Less.auto (by simp) (by simp) rfl rfl) hQ
            · intro i p hi hp K hK
              have hlen := argsM_len m t2 D Lv i
              have hok := argsM_ok (D := D) (Lv := Lv) m ht2 i
              rw [← hp] at hlen hok
              have hTp := hTy p.1 hok
              have hnew := hK (typeM m p.1 D Lv |>.1, p.2 ++ [(typeM m p.1 D Lv).2]) (by rw [argsM, ← hp])
              have hi' : (i : Int) < dparams.length := by omega
              have hw2 : IntKind.i64.wrap ((i : Int) + 1) = ((i + 1 : Nat) : Int) := wrap_succ (by omega)
              obtain ⟨t3, L⟩ := p
              simp only at hTp hnew hlen
              rcases hq3 : typeM m t3 D Lv with ⟨t4, x4⟩
              simp only [hq3] at hTp hnew
              rcases L with _ | ⟨x, L⟩
              · simp [fS15l0, fS15r0, fS15r1, fS15r2, fS15r3, fS15r4, fS15r5, fS15r6, fS15r7, fS15r8, fS15r9, fS15r10, fS15r11, fS15r12, fS15b0, fS15r13, fS15b1, fS15r14, fS15b2, fS15r15, fS15r16, fS15, hE, hi, hi', hw, hw2, hT, hTp, -Int.natCast_add]
                exact hnew _ _ (Less.auto (by simp [-Int.natCast_add]) (by simp) rfl rfl)
              · have h64 : (L.length + 1 + 1) * 64 ≤ 1048576 := by simp at hlen; omega
                simp [fS15l0, fS15r0, fS15r1, fS15r2, fS15r3, fS15r4, fS15r5, fS15r6, fS15r7, fS15r8, fS15r9, fS15r10, fS15r11, fS15r12, fS15b0, fS15r13, fS15b1, fS15r14, fS15b2, fS15r15, fS15r16, fS15, hE, hi, hi', hw, hw2, hT, hTp, h64, Nat.not_succ_le_self, -Int.natCast_add]
                exact hnew _ _ (Less.auto (by simp [-Int.natCast_add]) (by simp) rfl rfl)
          have hlenR := argsM_len m t2 D Lv dparams.length
          rcases hq4 : argsM m t2 D Lv dparams.length with ⟨t5, L⟩
          simp only [hq4] at main hR hlenR
          subst hR
          have hlen2 : L.length ≤ 10000 := by omega
          rcases c5.1 with rfl | rfl <;> simp [fS15r0, fS15r1, fS15r2, fS15r3, fS15r4, fS15r5, fS15r6, fS15r7, fS15r8, fS15r9, fS15r10, fS15r11, fS15r12, fS15b0, fS15r13, fS15b1, fS15r14, fS15b2, fS15r15, fS15r16, fS15, hE, hN, h7, c4, hF, hj, hdj, hDp] <;> refine main _ _ (Less.auto (by simp) (by simp) rfl rfl) _ ?_ <;>
          (rcases L with _ | ⟨x, L⟩
           · simp [fS15r0, fS15r1, fS15r2, fS15r3, fS15r4, fS15r5, fS15r6, fS15r7, fS15r8, fS15r9, fS15r10, fS15r11, fS15r12, fS15b0, fS15r13, fS15b1, fS15r14, fS15b2, fS15r15, fS15r16, fS15, hE, hC]
             exact GivesL.keep rfl rfl (by simp [tCon]) (by simp) (by simp)
           · have hl9 : L.length ≤ 9999 := by simpa using hlen2
             simp [fS15r0, fS15r1, fS15r2, fS15r3, fS15r4, fS15r5, fS15r6, fS15r7, fS15r8, fS15r9, fS15r10, fS15r11, fS15r12, fS15b0, fS15r13, fS15b1, fS15r14, fS15b2, fS15r15, fS15r16, fS15, hE, hC, hl9]
             exact GivesL.keep rfl rfl (by simp [tCon]) (by simp) (by simp))
        · rw [if_neg c5] at hR
          have hp5 : ¬ ((k = 4 ∨ k = 5) ∧ 0 < D.length) := fun h => c5 ⟨h.1, List.length_pos_iff.1 h.2⟩
          have hF1 := hTy t1 ht1
          have ht2 := (typeM_ok (D := D) (Lv := Lv) m t1 ht1).1
          rcases hq2 : typeM m t1 D Lv with ⟨t2, a⟩
          simp only [hq2] at hF1 hR ht2
          have hF2 := hTy t2 ht2
          rcases hq3 : typeM m t2 D Lv with ⟨t3, b⟩
          simp only [hq3] at hF2 hR
          subst hR
          have hD0 : (k = 4 ∨ k = 5) → D = [] := fun h => Classical.byContradiction fun hne => c5 ⟨h, hne⟩
          by_cases c6 : k = 4
          · have := hD0 (.inl c6)
            subst this c6
            simp [fS15r0, fS15r1, fS15r2, fS15r3, fS15r4, fS15r5, fS15r6, fS15r7, fS15r8, fS15r9, fS15r10, fS15r11, fS15r12, fS15b0, fS15r13, fS15b1, fS15r14, fS15b2, fS15r15, fS15r16, fS15, hE, hN, h7, c4, hw, hT, hF1, hF2, hA]
            exact GivesL.keep rfl rfl (by simp) (by simp) (by simp)
          · by_cases c7 : k = 5
            · have := hD0 (.inr c7)
              subst this c7
              simp [fS15r0, fS15r1, fS15r2, fS15r3, fS15r4, fS15r5, fS15r6, fS15r7, fS15r8, fS15r9, fS15r10, fS15r11, fS15r12, fS15b0, fS15r13, fS15b1, fS15r14, fS15b2, fS15r15, fS15r16, fS15, hE, hN, h7, c4, hw, hT, hF1, hF2, hA]
              exact GivesL.keep rfl rfl (by simp) (by simp) (by simp)
            · simp [fS15r0, fS15r1, fS15r2, fS15r3, fS15r4, fS15r5, fS15r6, fS15r7, fS15r8, fS15r9, fS15r10, fS15r11, fS15r12, fS15b0, fS15r13, fS15b1, fS15r14, fS15b2, fS15r15, fS15r16, fS15, hE, hN, h7, c3, c2, c4, c6, c7, hw, hT, hF1, hF2, hA]
              exact GivesL.keep rfl rfl (by simp) (by simp) (by simp)
end
end Go.Proofs.YthfcfmkdeheicaaGreat
