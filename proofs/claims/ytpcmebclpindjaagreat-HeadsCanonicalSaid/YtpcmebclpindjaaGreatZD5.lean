import Derived.Test.YtpcmebclpindjaaGreatZD4
import Derived.Test.YtpcmebclpindjaaGreatJN
set_option linter.all false
set_option linter.all false
namespace Go.Proofs.YtpcmebclpindjaaGreat
open Go.J
open Go.J.Enc (enc)
set_option maxRecDepth 100000
set_option maxHeartbeats 1000000
section
variable {ρ : Nat → Value} (hρ : J.Good ρ) {E : Env} (hE : E.P = Tryz.prog) (hcon : ConsOk ρ E)
include hρ hE hcon
theorem ref30_Canonical_run (hV : E.con 61 = varsS1 10000) (hR : E.con 62 = fnS (spec2 (replF 10000))) (hv : E.con 26 = fnS (spec1 fun i : Int => some (tVar i))) {l : List Ty} (hl : Ty.oks l = true) (hll : l.length ≤ 1000) (hsz : Ty.sizes l ≤ 10000) (hvl : (varsM l).length ≤ 1000) (hs : HS) :
    CallOk ρ Tryz.prog 20 [enc l] hs (enc (l.map (Ty.repl (numA (varsM l) 0)))) hs := by
  refine fn hρ hE hcon Tryz.func20 BS_ref30_Canonical rfl (by simp) ?_ hs
  have h10 : l.length ≤ 10000 := by omega
  simp [S_ref30_Canonical_r0, S_ref30_Canonical_r1, S_ref30_Canonical_r2, S_ref30_Canonical_r3, S_ref30_Canonical_r4, S_ref30_Canonical_r5, S_ref30_Canonical_b0, S_ref30_Canonical_r6, S_ref30_Canonical_b1, S_ref30_Canonical_r7, S_ref30_Canonical_r8, S_ref30_Canonical_r9, S_ref30_Canonical_r10, S_ref30_Canonical_b2, S_ref30_Canonical_r11, S_ref30_Canonical_b3, S_ref30_Canonical_r12, S_ref30_Canonical, hE, hV, varsS1, hl, h10, hsz]
  generalize varsM l = ids at hvl ⊢
  refine lpi hρ hE hcon ids.length (nn := 1) (fun i (S : List Assign) => [(0, .sl (l.map encTy) false), (3, .sl (ids.map encI) false), (4, oV 0 (S.map encAssign)), (5, .int .i64 (i : Int))]) (fun i S => oH 0 6 (S.map encAssign)) (fun i S => S = numA (ids.take i) 0) []
    (Less.auto (by simp) (by simp) (by simp) (by simp)) rfl ?_ ?_
  · intro S hS K
    rw [List.take_length] at hS
    rw [← hS]
    have hSl : S.length ≤ 100000 := by rw [hS, numA_len]; omega
    clear hS
    have hrep : ∀ (i : Nat) (hi : i < l.length), replF 10000 l[i] S = some (l[i].repl S) := fun i hi => by
      unfold replF
      rw [if_pos ⟨Ty.oks_iff.1 hl _ (List.getElem_mem hi), by have := Ty.size_mem (List.getElem_mem hi); omega, hSl⟩]
    rcases S with _ | ⟨x, S⟩
    · simp [S_ref30_Canonical_l0, S_ref30_Canonical_r0, S_ref30_Canonical_r1, S_ref30_Canonical_r2, S_ref30_Canonical_r3, S_ref30_Canonical_r4, S_ref30_Canonical_r5, S_ref30_Canonical_b0, S_ref30_Canonical_r6, S_ref30_Canonical_b1, S_ref30_Canonical_r7, S_ref30_Canonical_r8, S_ref30_Canonical_r9, S_ref30_Canonical_r10, S_ref30_Canonical_b2, S_ref30_Canonical_r11, S_ref30_Canonical_b3, S_ref30_Canonical_r12, S_ref30_Canonical, hE]
      refine LessQ.mk (Less.auto (TL := [(0, .sl (l.map encTy) false), (4, .snil)]) (HL := []) (n := 1) (by simp) (by simp) (by simp) (by simp)) ?_
      simp [S_ref30_Canonical_r0, S_ref30_Canonical_r1, S_ref30_Canonical_r2, S_ref30_Canonical_r3, S_ref30_Canonical_r4, S_ref30_Canonical_r5, S_ref30_Canonical_b0, S_ref30_Canonical_r6, S_ref30_Canonical_b1, S_ref30_Canonical_r7, S_ref30_Canonical_r8, S_ref30_Canonical_r9, S_ref30_Canonical_r10, S_ref30_Canonical_b2, S_ref30_Canonical_r11, S_ref30_Canonical_b3, S_ref30_Canonical_r12, S_ref30_Canonical, hE]
      refine lpi hρ hE hcon l.length (nn := 2) (fun i (L : List Ty) => [(0, .sl (l.map encTy) false), (4, .snil), (6, oV 1 (L.map encTy)), (7, .int .i64 (i : Int))]) (fun i L => oH 1 5 (L.map encTy)) (fun i L => L = (l.take i).map (Ty.repl [])) []
        (Less.auto (by simp) (by simp) (by simp) (by simp)) rfl ?_ ?_
      · intro L hL K
        rw [List.take_length] at hL
        rw [← hL]
        clear hL
        rcases L with _ | ⟨y, L⟩
        · simp [S_ref30_Canonical_l1, S_ref30_Canonical_r0, S_ref30_Canonical_r1, S_ref30_Canonical_r2, S_ref30_Canonical_r3, S_ref30_Canonical_r4, S_ref30_Canonical_r5, S_ref30_Canonical_b0, S_ref30_Canonical_r6, S_ref30_Canonical_b1, S_ref30_Canonical_r7, S_ref30_Canonical_r8, S_ref30_Canonical_r9, S_ref30_Canonical_r10, S_ref30_Canonical_b2, S_ref30_Canonical_r11, S_ref30_Canonical_b3, S_ref30_Canonical_r12, S_ref30_Canonical, hE]
          refine LessQ.mk (Less.auto (TL := [(6, .snil)]) (HL := []) (n := 1) (by simp) (by simp) (by simp) (by simp)) ?_
          simp [S_ref30_Canonical_r0, S_ref30_Canonical_r1, S_ref30_Canonical_r2, S_ref30_Canonical_r3, S_ref30_Canonical_r4, S_ref30_Canonical_r5, S_ref30_Canonical_b0, S_ref30_Canonical_r6, S_ref30_Canonical_b1, S_ref30_Canonical_r7, S_ref30_Canonical_r8, S_ref30_Canonical_r9, S_ref30_Canonical_r10, S_ref30_Canonical_b2, S_ref30_Canonical_r11, S_ref30_Canonical_b3, S_ref30_Canonical_r12, S_ref30_Canonical, hE]
        · simp [S_ref30_Canonical_l1, S_ref30_Canonical_r0, S_ref30_Canonical_r1, S_ref30_Canonical_r2, S_ref30_Canonical_r3, S_ref30_Canonical_r4, S_ref30_Canonical_r5, S_ref30_Canonical_b0, S_ref30_Canonical_r6, S_ref30_Canonical_b1, S_ref30_Canonical_r7, S_ref30_Canonical_r8, S_ref30_Canonical_r9, S_ref30_Canonical_r10, S_ref30_Canonical_b2, S_ref30_Canonical_r11, S_ref30_Canonical_b3, S_ref30_Canonical_r12, S_ref30_Canonical, hE]
          refine LessQ.mk (Less.auto (TL := [(6, oV 1 ((y :: L).map encTy))]) (HL := oH 1 5 ((y :: L).map encTy)) (n := 2) (by simp) (by simp) (by simp) (by simp)) ?_
          simp [S_ref30_Canonical_r0, S_ref30_Canonical_r1, S_ref30_Canonical_r2, S_ref30_Canonical_r3, S_ref30_Canonical_r4, S_ref30_Canonical_r5, S_ref30_Canonical_b0, S_ref30_Canonical_r6, S_ref30_Canonical_b1, S_ref30_Canonical_r7, S_ref30_Canonical_r8, S_ref30_Canonical_r9, S_ref30_Canonical_r10, S_ref30_Canonical_b2, S_ref30_Canonical_r11, S_ref30_Canonical_b3, S_ref30_Canonical_r12, S_ref30_Canonical, hE]
      · intro i L hi hL K hK
        have hi' : (i : Int) < l.length := by omega
        have hw2 : IntKind.i64.wrap ((i : Int) + 1) = ((i + 1 : Nat) : Int) := wrap_succ (by omega)
        have hF := hrep i hi
        have hnew := hK (L ++ [l[i].repl []]) (by rw [List.take_add_one, List.getElem?_eq_getElem hi, Option.toList_some, List.map_append, hL]; rfl)
        have hLl : L.length = i := by rw [hL, List.length_map, List.length_take]; omega
        clear hL
        generalize l[i].repl [] = y at hF hnew
        have hb : L.length ≤ 1000 := by omega
        rcases L with _ | ⟨z, L⟩
        · simp [S_ref30_Canonical_l1, S_ref30_Canonical_r0, S_ref30_Canonical_r1, S_ref30_Canonical_r2, S_ref30_Canonical_r3, S_ref30_Canonical_r4, S_ref30_Canonical_r5, S_ref30_Canonical_b0, S_ref30_Canonical_r6, S_ref30_Canonical_b1, S_ref30_Canonical_r7, S_ref30_Canonical_r8, S_ref30_Canonical_r9, S_ref30_Canonical_r10, S_ref30_Canonical_b2, S_ref30_Canonical_r11, S_ref30_Canonical_b3, S_ref30_Canonical_r12, S_ref30_Canonical, hE, hi, hi', hR, hF, hw2, -Int.natCast_add]
          exact hnew _ _ (Less.auto (by simp [-Int.natCast_add]) (by simp) (by simp) (by simp))
        · have hb1 : L.length + 1 ≤ 1000 := hb
          have k1 : (L.length + 1 + 1) * 64 ≤ 1048576 := Nat.le_trans (Nat.mul_le_mul_right 64 (Nat.succ_le_succ hb1)) (by decide)
          simp [S_ref30_Canonical_l1, S_ref30_Canonical_r0, S_ref30_Canonical_r1, S_ref30_Canonical_r2, S_ref30_Canonical_r3, S_ref30_Canonical_r4, S_ref30_Canonical_r5, S_ref30_Canonical_b0, S_ref30_Canonical_r6, S_ref30_Canonical_b1, S_ref30_Canonical_r7, S_ref30_Canonical_r8, S_ref30_Canonical_r9, S_ref30_Canonical_r10, S_ref30_Canonical_b2, S_ref30_Canonical_r11, S_ref30_Canonical_b3, S_ref30_Canonical_r12, S_ref30_Canonical, hE, hi, hi', hR, hF, hw2, k1, Nat.not_succ_le_self, -Int.natCast_add]
          exact hnew _ _ (Less.auto (by simp [-Int.natCast_add]) (by simp) (by simp) (by simp))
    · simp [S_ref30_Canonical_l0, S_ref30_Canonical_r0, S_ref30_Canonical_r1, S_ref30_Canonical_r2, S_ref30_Canonical_r3, S_ref30_Canonical_r4, S_ref30_Canonical_r5, S_ref30_Canonical_b0, S_ref30_Canonical_r6, S_ref30_Canonical_b1, S_ref30_Canonical_r7, S_ref30_Canonical_r8, S_ref30_Canonical_r9, S_ref30_Canonical_r10, S_ref30_Canonical_b2, S_ref30_Canonical_r11, S_ref30_Canonical_b3, S_ref30_Canonical_r12, S_ref30_Canonical, hE]
      refine LessQ.mk (Less.auto (TL := [(0, .sl (l.map encTy) false), (4, oV 0 ((x :: S).map encAssign))]) (HL := oH 0 6 ((x :: S).map encAssign)) (n := 1) (by simp) (by simp) (by simp) (by simp)) ?_
      simp [S_ref30_Canonical_r0, S_ref30_Canonical_r1, S_ref30_Canonical_r2, S_ref30_Canonical_r3, S_ref30_Canonical_r4, S_ref30_Canonical_r5, S_ref30_Canonical_b0, S_ref30_Canonical_r6, S_ref30_Canonical_b1, S_ref30_Canonical_r7, S_ref30_Canonical_r8, S_ref30_Canonical_r9, S_ref30_Canonical_r10, S_ref30_Canonical_b2, S_ref30_Canonical_r11, S_ref30_Canonical_b3, S_ref30_Canonical_r12, S_ref30_Canonical, hE]
      refine lpi hρ hE hcon l.length (nn := 2) (fun i (p : List Ty × Bool) => [(0, .sl (l.map encTy) false), (4, oV 0 ((x :: S).map encAssign)), (6, oV 1 (p.1.map encTy)), (7, .int .i64 (i : Int))]) (fun i p => (0, J.Obj.arr 6 S.length ((x :: S).map encAssign) false p.2 true) :: oH 1 5 (p.1.map encTy)) (fun i p => p.1 = (l.take i).map (Ty.repl (x :: S))) ([], false)
        (Less.auto (by simp) (by simp [oO]) (by simp) (by simp)) rfl ?_ ?_
      · rintro ⟨L, b⟩ hL K
        simp only at hL
        rw [List.take_length] at hL
        rw [← hL]
        clear hL
        rcases L with _ | ⟨y, L⟩
        · simp [S_ref30_Canonical_l1, S_ref30_Canonical_r0, S_ref30_Canonical_r1, S_ref30_Canonical_r2, S_ref30_Canonical_r3, S_ref30_Canonical_r4, S_ref30_Canonical_r5, S_ref30_Canonical_b0, S_ref30_Canonical_r6, S_ref30_Canonical_b1, S_ref30_Canonical_r7, S_ref30_Canonical_r8, S_ref30_Canonical_r9, S_ref30_Canonical_r10, S_ref30_Canonical_b2, S_ref30_Canonical_r11, S_ref30_Canonical_b3, S_ref30_Canonical_r12, S_ref30_Canonical, hE]
          refine LessQ.mk (Less.auto (TL := [(6, .snil)]) (HL := []) (n := 1) (by simp) (by simp) (by simp) (by simp)) ?_
          simp [S_ref30_Canonical_r0, S_ref30_Canonical_r1, S_ref30_Canonical_r2, S_ref30_Canonical_r3, S_ref30_Canonical_r4, S_ref30_Canonical_r5, S_ref30_Canonical_b0, S_ref30_Canonical_r6, S_ref30_Canonical_b1, S_ref30_Canonical_r7, S_ref30_Canonical_r8, S_ref30_Canonical_r9, S_ref30_Canonical_r10, S_ref30_Canonical_b2, S_ref30_Canonical_r11, S_ref30_Canonical_b3, S_ref30_Canonical_r12, S_ref30_Canonical, hE]
        · simp [S_ref30_Canonical_l1, S_ref30_Canonical_r0, S_ref30_Canonical_r1, S_ref30_Canonical_r2, S_ref30_Canonical_r3, S_ref30_Canonical_r4, S_ref30_Canonical_r5, S_ref30_Canonical_b0, S_ref30_Canonical_r6, S_ref30_Canonical_b1, S_ref30_Canonical_r7, S_ref30_Canonical_r8, S_ref30_Canonical_r9, S_ref30_Canonical_r10, S_ref30_Canonical_b2, S_ref30_Canonical_r11, S_ref30_Canonical_b3, S_ref30_Canonical_r12, S_ref30_Canonical, hE]
          refine LessQ.mk (Less.auto (TL := [(6, oV 1 ((y :: L).map encTy))]) (HL := oH 1 5 ((y :: L).map encTy)) (n := 2) (by simp) (by simp) (by simp) (by simp)) ?_
          simp [S_ref30_Canonical_r0, S_ref30_Canonical_r1, S_ref30_Canonical_r2, S_ref30_Canonical_r3, S_ref30_Canonical_r4, S_ref30_Canonical_r5, S_ref30_Canonical_b0, S_ref30_Canonical_r6, S_ref30_Canonical_b1, S_ref30_Canonical_r7, S_ref30_Canonical_r8, S_ref30_Canonical_r9, S_ref30_Canonical_r10, S_ref30_Canonical_b2, S_ref30_Canonical_r11, S_ref30_Canonical_b3, S_ref30_Canonical_r12, S_ref30_Canonical, hE]
      · rintro i ⟨L, b⟩ hi hL K hK
        simp only at hL
        have hi' : (i : Int) < l.length := by omega
        have hw2 : IntKind.i64.wrap ((i : Int) + 1) = ((i + 1 : Nat) : Int) := wrap_succ (by omega)
        have hF := hrep i hi
        have hnew := hK (L ++ [l[i].repl (x :: S)], true) (by rw [List.take_add_one, List.getElem?_eq_getElem hi, Option.toList_some, List.map_append, hL]; rfl)
        have hLl : L.length = i := by rw [hL, List.length_map, List.length_take]; omega
        clear hL
        generalize l[i].repl (x :: S) = y at hF hnew
        have hb : L.length ≤ 1000 := by omega
        rcases L with _ | ⟨z, L⟩
        · simp [S_ref30_Canonical_l1, S_ref30_Canonical_r0, S_ref30_Canonical_r1, S_ref30_Canonical_r2, S_ref30_Canonical_r3, S_ref30_Canonical_r4, S_ref30_Canonical_r5, S_ref30_Canonical_b0, S_ref30_Canonical_r6, S_ref30_Canonical_b1, S_ref30_Canonical_r7, S_ref30_Canonical_r8, S_ref30_Canonical_r9, S_ref30_Canonical_r10, S_ref30_Canonical_b2, S_ref30_Canonical_r11, S_ref30_Canonical_b3, S_ref30_Canonical_r12, S_ref30_Canonical, hE, hi, hi', hR, hF, hw2, -Int.natCast_add]
          exact hnew _ _ (Less.auto (by simp [-Int.natCast_add]) (by simp) (by simp) (by simp))
        · have hb1 : L.length + 1 ≤ 1000 := hb
          have k1 : (L.length + 1 + 1) * 64 ≤ 1048576 := Nat.le_trans (Nat.mul_le_mul_right 64 (Nat.succ_le_succ hb1)) (by decide)
          simp [S_ref30_Canonical_l1, S_ref30_Canonical_r0, S_ref30_Canonical_r1, S_ref30_Canonical_r2, S_ref30_Canonical_r3, S_ref30_Canonical_r4, S_ref30_Canonical_r5, S_ref30_Canonical_b0, S_ref30_Canonical_r6, S_ref30_Canonical_b1, S_ref30_Canonical_r7, S_ref30_Canonical_r8, S_ref30_Canonical_r9, S_ref30_Canonical_r10, S_ref30_Canonical_b2, S_ref30_Canonical_r11, S_ref30_Canonical_b3, S_ref30_Canonical_r12, S_ref30_Canonical, hE, hi, hi', hR, hF, hw2, k1, Nat.not_succ_le_self, -Int.natCast_add]
          exact hnew _ _ (Less.auto (by simp [-Int.natCast_add]) (by simp) (by simp) (by simp))
  · intro i S hi hS K hK
    have hi' : (i : Int) < ids.length := by omega
    have hw2 : IntKind.i64.wrap ((i : Int) + 1) = ((i + 1 : Nat) : Int) := wrap_succ (by omega)
    have hnew := hK (S ++ [⟨ids[i], tVar (i : Int)⟩]) (by
      rw [List.take_add_one, List.getElem?_eq_getElem hi, Option.toList_some, numA_snoc, hS, List.length_take]
      rw [Nat.min_eq_left (by omega), Nat.zero_add])
    have hSl : S.length = i := by rw [hS, numA_len, List.length_take]; omega
    clear hS
    have hb : S.length ≤ 1000 := by omega
    rcases S with _ | ⟨x, S⟩
    · simp [S_ref30_Canonical_l0, S_ref30_Canonical_r0, S_ref30_Canonical_r1, S_ref30_Canonical_r2, S_ref30_Canonical_r3, S_ref30_Canonical_r4, S_ref30_Canonical_r5, S_ref30_Canonical_b0, S_ref30_Canonical_r6, S_ref30_Canonical_b1, S_ref30_Canonical_r7, S_ref30_Canonical_r8, S_ref30_Canonical_r9, S_ref30_Canonical_r10, S_ref30_Canonical_b2, S_ref30_Canonical_r11, S_ref30_Canonical_b3, S_ref30_Canonical_r12, S_ref30_Canonical, hE, hi, hi', hv, tVar, hw2, -Int.natCast_add]
      exact hnew _ _ (Less.auto (by simp [tVar, -Int.natCast_add]) (by simp [tVar]) (by simp) (by simp))
    · have hb1 : S.length + 1 ≤ 1000 := hb
      have k1 : (S.length + 1 + 1) * 72 ≤ 1048576 := Nat.le_trans (Nat.mul_le_mul_right 72 (Nat.succ_le_succ hb1)) (by decide)
      simp [S_ref30_Canonical_l0, S_ref30_Canonical_r0, S_ref30_Canonical_r1, S_ref30_Canonical_r2, S_ref30_Canonical_r3, S_ref30_Canonical_r4, S_ref30_Canonical_r5, S_ref30_Canonical_b0, S_ref30_Canonical_r6, S_ref30_Canonical_b1, S_ref30_Canonical_r7, S_ref30_Canonical_r8, S_ref30_Canonical_r9, S_ref30_Canonical_r10, S_ref30_Canonical_b2, S_ref30_Canonical_r11, S_ref30_Canonical_b3, S_ref30_Canonical_r12, S_ref30_Canonical, hE, hi, hi', hv, tVar, hw2, k1, Nat.not_succ_le_self, -Int.natCast_add]
      exact hnew _ _ (Less.auto (by simp [tVar, -Int.natCast_add]) (by simp [tVar]) (by simp) (by simp))
end
end Go.Proofs.YtpcmebclpindjaaGreat
