import Derived.Test.YthfcfmkdeheicaaPW4
import Derived.Test.YthfcfmkdeheicaaJP
set_option linter.all false
/- The reference's Unify; the stores that tapes make. -/
set_option linter.all false
namespace Go.Proofs.Ythfcfmkdeheicaa
open Go.J
open Go.J.Enc (enc)
set_option maxRecDepth 100000
set_option maxHeartbeats 4000000
noncomputable def storeF (t : Tp) (D : List Decl) : Option (Tp × Store) := by
  classical exact if t.ok ∧ DOk D ∧ DOk3 D then some (Store.storeM t D) else none
section
variable {ρ : Nat → Value} (hρ : J.Good ρ) {E : Env} (hE : E.P = Try.prog) (hcon : ConsOk ρ E)
include hρ hE hcon
theorem ref17_Unify_run {S : Nat} (hc : E.con 93 = fnS (spec3 (Store.uF S 300000))) {s : Store} {a b : Ty} (h : Store.UAll S s a b) (hs : HS) :
    CallOk ρ Try.prog 60 [enc s, enc a, enc b] hs (enc (Store.topM s a b)) hs := by
  refine fn hρ hE hcon Try.func60 BS_ref17_Unify rfl (by simp) ?_ hs
  have hF := h.run
  unfold Store.topM
  generalize Store.unifT s a b = r at hF
  obtain ⟨r1, r2⟩ := r
  by_cases h0 : r2 = 0
  · subst h0
    simp [S_ref17_Unify_r0, S_ref17_Unify_r1, S_ref17_Unify_r2, S_ref17_Unify_r3, S_ref17_Unify_r4, S_ref17_Unify, hE, hc, hF]
  · simp [S_ref17_Unify_r0, S_ref17_Unify_r1, S_ref17_Unify_r2, S_ref17_Unify_r3, S_ref17_Unify_r4, S_ref17_Unify, hE, hc, hF, h0]
theorem make_Tape_Store_run (h1 : E.con 21 = fnS (spec0 (⟨[], []⟩ : Store))) (h2 : E.con 58 = stS (stF1 nextF)) (h3 : E.con 17 = fnS (spec3 fun (s : Store) (h : Int) (b : Bool) => if s.small then some (s.fresh h b) else none))
    (h4 : E.con 32 = mkVarsS) (h5 : E.con 31 = stS (stF3 (typeF 1))) (h6 : E.con 59 = fnS (spec2 fun h i : Int => some (tRigid h i))) (h7 : E.con 60 = fnS (spec3 (Store.topF 7)))
    {t : Tp} {D : List Decl} (ht : t.ok) (hD : DOk D) (hD3 : DOk3 D) (hs : HS) (id : Nat) (hid : id < hs.n) (hg : hs.H.get id = some (box (Cel.cells t))) :
    CallOk ρ Try.prog 14 [.ptr id 0 0, enc D] hs (enc (Store.storeM t D).2) (hs.wr id (box (Cel.cells (Store.storeM t D).1))) := by
  refine st hρ hE hcon Try.func14 BS_make_Tape_Store rfl (by simp) (by simp) (by simp) (by simp) ?_ hid hg
  have hnx : ∀ (t : Tp) (m : Int), t.ok → -1000000 ≤ m → m ≤ 1000000 → nextF t m = some (t.next m) := fun t m h a b => if_pos ⟨h, a, b⟩
  have hn := Store.storeN_le t
  have hN5 := next_nn t 5
  have hL5 := next_lt t (n := 5) (by omega)
  have ht1 := next_ok ht 5
  have hx1 := hnx t 5 ht (by omega) (by omega)
  unfold Store.storeM
  have hne : ((Store.storeN t : Nat) : Int) = 1 + (t.next 5).2 := by unfold Store.storeN; omega
  generalize hnn : Store.storeN t = n at hn hne
  rcases hq : t.next 5 with ⟨t1, k1⟩
  simp only [hq] at hx1 ht1 hne hN5 hL5
  have hw1 : IntKind.i64.wrap (1 + k1) = (n : Int) := by rw [← hne]; exact wrap_i64 (by omega) (by omega)
  simp [S_make_Tape_Store_r0, S_make_Tape_Store_r1, S_make_Tape_Store_r2, S_make_Tape_Store_r3, S_make_Tape_Store_r4, S_make_Tape_Store_r5, S_make_Tape_Store_b0, S_make_Tape_Store_r6, S_make_Tape_Store_b1, S_make_Tape_Store_r7, S_make_Tape_Store_r8, S_make_Tape_Store_r9, S_make_Tape_Store_r10, S_make_Tape_Store_r11, S_make_Tape_Store_b2, S_make_Tape_Store_r12, S_make_Tape_Store_b3, S_make_Tape_Store_r13, S_make_Tape_Store, hE, h1, h2, hx1, hw1]
  have hfo := Store.frM_ok ht1
  refine lpi hρ hE hcon n (nn := 4) (fun i (p : Tp × Store) => [(0, .ptr 0 0 0), (1, .sl (D.map encDecl) false), (4, .ptr 1 0 0), (5, .ptr 3 0 0), (6, .int .i64 (n : Int)), (7, .int .i64 (i : Int))])
    (fun i p => [(0, box (Cel.cells p.1)), (1, box [.snil, .snil]), (3, box (encStore p.2))]) (fun i p => p = Store.frM t1 i) (t1, ⟨[], []⟩)
    (Less.auto (by simp) (by simp) (by simp) (by simp)) rfl ?_ ?_
  · rintro p hp K
    have hf := hfo n
    rw [← hp] at hf ⊢
    obtain ⟨t2, s⟩ := p
    simp only at hf
    obtain ⟨ht2, _, hfr⟩ := hf
    have hx4 := hnx t2 4 ht2 (by omega) (by omega)
    have ht3 := next_ok ht2 4
    have hN4 := next_nn t2 4
    have hL4 := next_lt t2 (n := 4) (by omega)
    rcases hq4 : t2.next 4 with ⟨t3, k4⟩
    simp only [hq4] at hx4 ht3 hN4 hL4
    obtain ⟨m, rfl⟩ := Int.eq_ofNat_of_zero_le hN4
    simp [S_make_Tape_Store_l0, S_make_Tape_Store_r0, S_make_Tape_Store_r1, S_make_Tape_Store_r2, S_make_Tape_Store_r3, S_make_Tape_Store_r4, S_make_Tape_Store_r5, S_make_Tape_Store_b0, S_make_Tape_Store_r6, S_make_Tape_Store_b1, S_make_Tape_Store_r7, S_make_Tape_Store_r8, S_make_Tape_Store_r9, S_make_Tape_Store_r10, S_make_Tape_Store_r11, S_make_Tape_Store_b2, S_make_Tape_Store_r12, S_make_Tape_Store_b3, S_make_Tape_Store_r13, S_make_Tape_Store, hE]
    refine LessQ.mk (Less.auto (TL := [(0, .ptr 0 0 0), (1, .sl (D.map encDecl) false), (4, .ptr 1 0 0), (5, .ptr 3 0 0), (6, .int .i64 (n : Int))]) (HL := [(0, box (Cel.cells t2)), (1, box [.snil, .snil]), (3, box (encStore s))]) (n := 4) (by simp) (by simp) (by simp) (by simp)) ?_
    simp [S_make_Tape_Store_r0, S_make_Tape_Store_r1, S_make_Tape_Store_r2, S_make_Tape_Store_r3, S_make_Tape_Store_r4, S_make_Tape_Store_r5, S_make_Tape_Store_b0, S_make_Tape_Store_r6, S_make_Tape_Store_b1, S_make_Tape_Store_r7, S_make_Tape_Store_r8, S_make_Tape_Store_r9, S_make_Tape_Store_r10, S_make_Tape_Store_r11, S_make_Tape_Store_b2, S_make_Tape_Store_r12, S_make_Tape_Store_b3, S_make_Tape_Store_r13, S_make_Tape_Store, hE, h2, hx4]
    have hT := hfr.tame (S := 7)
    have hr := hfr.room (S := 7)
    have hr' : Store.room n 7 s ≤ 990 := by
      have : (n * 7 + 7 + 2) * n ≤ 44 * 5 := Nat.mul_le_mul (by omega) hn.2
      omega
    have huo := Store.unM_ok (D := D) hD3 ht3 (by omega) (by omega) hT hr'
    have hua := Store.unM_all (D := D) hD3 ht3 (by omega) (by omega) hT hr'
    have hF1 : ∀ (t : Tp) (L : List Ty), t.ok → L.length ≤ 100000 → typeF 1 t D L 1 = some (typeM 1 t D L) := fun t L ht hl => if_pos ⟨ht, hD, hl, by decide⟩
    refine lpi hρ hE hcon m (nn := 4) (fun i (p : Tp × Store) => [(0, .ptr 0 0 0), (1, .sl (D.map encDecl) false), (4, .ptr 1 0 0), (5, .ptr 3 0 0), (6, .int .i64 (n : Int)), (8, .int .i64 (m : Int)), (9, .int .i64 (i : Int))])
      (fun i p => [(0, box (Cel.cells p.1)), (1, box [.snil, .snil]), (3, box (encStore p.2))]) (fun i p => p = Store.unM D n t3 s i) (t3, s)
      (Less.auto (by simp) (by simp) (by simp) (by simp)) rfl ?_ ?_
    · rintro p hp K
      rw [← hp]
      obtain ⟨t4, s4⟩ := p
      simp [S_make_Tape_Store_l1, S_make_Tape_Store_r0, S_make_Tape_Store_r1, S_make_Tape_Store_r2, S_make_Tape_Store_r3, S_make_Tape_Store_r4, S_make_Tape_Store_r5, S_make_Tape_Store_b0, S_make_Tape_Store_r6, S_make_Tape_Store_b1, S_make_Tape_Store_r7, S_make_Tape_Store_r8, S_make_Tape_Store_r9, S_make_Tape_Store_r10, S_make_Tape_Store_r11, S_make_Tape_Store_b2, S_make_Tape_Store_r12, S_make_Tape_Store_b3, S_make_Tape_Store_r13, S_make_Tape_Store, hE]
      refine LessQ.mk (Less.auto (TL := [(0, .ptr 0 0 0), (4, .ptr 1 0 0), (5, .ptr 3 0 0)]) (HL := [(0, box (Cel.cells t4)), (1, box [.snil, .snil]), (3, box (encStore s4))]) (n := 4) (by simp) (by simp) (by simp) (by simp)) ?_
      simp [S_make_Tape_Store_r0, S_make_Tape_Store_r1, S_make_Tape_Store_r2, S_make_Tape_Store_r3, S_make_Tape_Store_r4, S_make_Tape_Store_r5, S_make_Tape_Store_b0, S_make_Tape_Store_r6, S_make_Tape_Store_b1, S_make_Tape_Store_r7, S_make_Tape_Store_r8, S_make_Tape_Store_r9, S_make_Tape_Store_r10, S_make_Tape_Store_r11, S_make_Tape_Store_b2, S_make_Tape_Store_r12, S_make_Tape_Store_b3, S_make_Tape_Store_r13, S_make_Tape_Store, hE]
      exact GivesL.keep rfl rfl (by simp) (by simp) (by simp)
    · rintro i p hi hp K hK
      have ho := huo i
      have ha := hua i
      have hnew := hK _ (show _ = Store.unM D n t3 s (i + 1) from rfl)
      rw [Store.unM] at hnew
      rw [← hp] at ho ha hnew
      obtain ⟨t4, s4⟩ := p
      simp only at ho ha hnew
      have hy1 := hF1 t4 (varTs n) ho.1 (by simp; omega)
      have ho1 := (typeM_ok (D := D) (Lv := varTs n) 1 t4 ho.1).1
      rcases hq1 : typeM 1 t4 D (varTs n) with ⟨t5, a⟩
      simp only [hq1] at hy1 ho1 ha hnew
      have hy2 := hF1 t5 (varTs n ++ [tRigid 1 0]) ho1 (by simp; omega)
      rcases hq2 : typeM 1 t5 D (varTs n ++ [tRigid 1 0]) with ⟨t6, b⟩
      simp only [hq2] at hy2 ha hnew
      have hF : Store.topF 7 s4 a b = some (Store.topM s4 a b) := if_pos ha
      rcases hq3 : Store.topM s4 a b with ⟨s5, e5⟩
      rw [hq3] at hF
      simp only [hq3] at hnew
      have hi' : (i : Int) < m := by omega
      have hn0 : n ≤ 10000 := by omega
      have hnI : ((n : Nat) : Int) ≤ 10000 := by omega
      have hlv := varTs_len n
      have hw2 : IntKind.i64.wrap ((i : Int) + 1) = ((i + 1 : Nat) : Int) := wrap_succ (by omega)
      generalize hV : varTs n = L at hy1 hy2 hlv
      rcases L with _ | ⟨v, L⟩
      · simp at hlv; omega
      · have h64 : (L.length + 1 + 1) * 64 ≤ 1048576 := by simp at hlv; omega
        rw [List.cons_append] at hy2
        simp [S_make_Tape_Store_l1, S_make_Tape_Store_r0, S_make_Tape_Store_r1, S_make_Tape_Store_r2, S_make_Tape_Store_r3, S_make_Tape_Store_r4, S_make_Tape_Store_r5, S_make_Tape_Store_b0, S_make_Tape_Store_r6, S_make_Tape_Store_b1, S_make_Tape_Store_r7, S_make_Tape_Store_r8, S_make_Tape_Store_r9, S_make_Tape_Store_r10, S_make_Tape_Store_r11, S_make_Tape_Store_b2, S_make_Tape_Store_r12, S_make_Tape_Store_b3, S_make_Tape_Store_r13, S_make_Tape_Store, hE, hi', h4, mkVarsS, h5, h6, h7, hn0, hnI, hV, hy1, hy2, hF, h64, Nat.not_succ_le_self, hw2, -Int.natCast_add]
        exact hnew _ _ (Less.auto (by simp [-Int.natCast_add]) (by simp) (by simp) (by simp))
  · rintro i p hi hp K hK
    have hf := hfo i
    rw [← hp] at hf
    have hnew := hK ((((p.1.next 3).1.next 5).1, (p.2.fresh (p.1.next 3).2 (decide (((p.1.next 3).1.next 5).2 = 0))).1)) (by rw [Store.frM, ← hp])
    obtain ⟨t2, s⟩ := p
    simp only at hf hnew
    obtain ⟨ht2, _, hfr⟩ := hf
    have hx3 := hnx t2 3 ht2 (by omega) (by omega)
    have ht3 := next_ok ht2 3
    rcases hq3 : t2.next 3 with ⟨t3, k3⟩
    simp only [hq3] at hx3 ht3 hnew
    have hx5 := hnx t3 5 ht3 (by omega) (by omega)
    rcases hq5 : t3.next 5 with ⟨t4, k5⟩
    simp only [hq5] at hx5 hnew
    have hsm : s.small := ⟨by rw [hfr.1]; omega, by rw [hfr.2.1]; omega⟩
    have hi' : (i : Int) < n := by omega
    have hw2 : IntKind.i64.wrap ((i : Int) + 1) = ((i + 1 : Nat) : Int) := wrap_succ (by omega)
    by_cases h5 : k5 = 0
    · subst h5
      simp only [decide_true] at hnew
      rcases hq6 : s.fresh k3 true with ⟨s2, x2⟩
      simp only [hq6] at hnew
      simp [S_make_Tape_Store_l0, S_make_Tape_Store_r0, S_make_Tape_Store_r1, S_make_Tape_Store_r2, S_make_Tape_Store_r3, S_make_Tape_Store_r4, S_make_Tape_Store_r5, S_make_Tape_Store_b0, S_make_Tape_Store_r6, S_make_Tape_Store_b1, S_make_Tape_Store_r7, S_make_Tape_Store_r8, S_make_Tape_Store_r9, S_make_Tape_Store_r10, S_make_Tape_Store_r11, S_make_Tape_Store_b2, S_make_Tape_Store_r12, S_make_Tape_Store_b3, S_make_Tape_Store_r13, S_make_Tape_Store, hE, hi', hx3, hx5, h2, h3, hsm, hq6, hw2, -Int.natCast_add]
      exact hnew _ _ (Less.auto (by simp [-Int.natCast_add]) (by simp) (by simp) (by simp))
    · simp only [decide_eq_false h5] at hnew
      rcases hq6 : s.fresh k3 false with ⟨s2, x2⟩
      simp only [hq6] at hnew
      simp [S_make_Tape_Store_l0, S_make_Tape_Store_r0, S_make_Tape_Store_r1, S_make_Tape_Store_r2, S_make_Tape_Store_r3, S_make_Tape_Store_r4, S_make_Tape_Store_r5, S_make_Tape_Store_b0, S_make_Tape_Store_r6, S_make_Tape_Store_b1, S_make_Tape_Store_r7, S_make_Tape_Store_r8, S_make_Tape_Store_r9, S_make_Tape_Store_r10, S_make_Tape_Store_r11, S_make_Tape_Store_b2, S_make_Tape_Store_r12, S_make_Tape_Store_b3, S_make_Tape_Store_r13, S_make_Tape_Store, hE, hi', hx3, hx5, h2, h3, hsm, h5, hq6, hw2, -Int.natCast_add]
      exact hnew _ _ (Less.auto (by simp [-Int.natCast_add]) (by simp) (by simp) (by simp))
end
end Go.Proofs.Ythfcfmkdeheicaa
