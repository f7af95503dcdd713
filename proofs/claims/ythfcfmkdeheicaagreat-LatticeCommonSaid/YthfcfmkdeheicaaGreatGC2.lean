import Derived.Test.YthfcfmkdeheicaaGreatGC1
set_option linter.all false
set_option linter.all false
namespace Go.Proofs.YthfcfmkdeheicaaGreat
open Go.J
open Go.J.Enc (enc)
set_option maxRecDepth 100000
set_option maxHeartbeats 4000000
section
variable {ρ : Nat → Value} (hρ : J.Good ρ) {E : Env} (hE : E.P = Tryz.prog) (hcon : ConsOk ρ E)
include hρ hE hcon
theorem make_Vars_loop (hc : E.con 52 = fnS (spec1 fun i => some (tVar i))) {n : Nat} (hn : n ≤ 10000) {Q : Ex → PT V → HS → Prop}
    (hQ : Q (.exit 0) (mkP [(3, oV 0 ((varTs n).map encTy))]) { H := mkP (oH 0 5 ((varTs n).map encTy)), n := 1, log := [] }) :
    ∀ (m i : Nat) (L : List Ty), i + m = n → L = varTs i → LsN ρ E 0 16 fS16l0 (LessQ 0 Q) (m + 1) (mkP [(0, .int .i64 (n : Int)), (3, oV 0 (L.map encTy)), (4, .int .i64 (i : Int))]) { H := mkP (oH 0 5 (L.map encTy)), n := 1, log := [] } := by
  intro m
  induction m with
  | zero =>
    intro i L hi hL
    obtain rfl : i = n := by omega
    refine lp hρ hE hcon fun K hK => ?_
    rw [← hL] at hQ
    simp [fS16l0, fS16r0, fS16r1, fS16r2, fS16r3, fS16r4, fS16b0, fS16r5, fS16b1, fS16r6, fS16, hE]
    refine LessQ.mk (Less.keep 1 ?_ ?_ ?_ rfl) hQ <;> rcases L with _ | ⟨x, L⟩ <;> first | rfl | simp
  | succ m ih =>
    intro i L hi hL
    have hil : (i : Int) < n := by omega
    have hw : IntKind.i64.wrap ((i : Int) + 1) = ((i + 1 : Nat) : Int) := wrap_succ (by omega)
    have hLl : L.length = i := by rw [hL]; simp
    have hnew : L ++ [tVar i] = varTs (i + 1) := by rw [hL, varTs_succ]
    refine lp hρ hE hcon fun K hK => ?_
    rcases L with _ | ⟨x, L⟩
    · simp [fS16l0, fS16r0, fS16r1, fS16r2, fS16r3, fS16r4, fS16b0, fS16r5, fS16b1, fS16r6, fS16, hE, hil, hc, hw, -Int.natCast_add]
      exact hK _ _ (LsN_less (Less.lit (fun k => if k = 0 then 8 else k) 1 (by simp [-Int.natCast_add]) (by simp) rfl rfl) (ih (i + 1) _ (by omega) hnew))
    · have h64 : (L.length + 1 + 1) * 64 ≤ 1048576 := by simp at hLl; omega
      simp [fS16l0, fS16r0, fS16r1, fS16r2, fS16r3, fS16r4, fS16b0, fS16r5, fS16b1, fS16r6, fS16, hE, hil, hc, hw, h64, Nat.not_succ_le_self, -Int.natCast_add]
      exact hK _ _ (LsN_less (Less.keep 1 (by simp [-Int.natCast_add]) (by simp) rfl rfl) (ih (i + 1) _ (by omega) hnew))
theorem make_Vars_run (hc : E.con 52 = fnS (spec1 fun i => some (tVar i))) {n : Nat} (hn : n ≤ 10000) {hs : HS} (hv : hs.H.get hs.n = none) :
    CallOk ρ Tryz.prog 16 [enc (n : Int)] hs (oV hs.n ((varTs n).map encTy)) (bi (Nat.beq (lenL ((varTs n).map encTy)) 0) hs { H := hs.H.set hs.n (oO 5 ((varTs n).map encTy)), n := hs.n + 1, log := hs.n :: hs.log }) := by
  refine row hρ hE hcon Tryz.func16 fB16 rfl (by simp) (by simp) ?_ hv
  simp [fS16r0, fS16r1, fS16r2, fS16r3, fS16r4, fS16b0, fS16r5, fS16b1, fS16r6, fS16, hE]
  refine Ls_lessQ (Ls_loop (LsN_less (Less.keep (TL := [(0, .int .i64 (n : Int)), (3, oV 0 (([] : List Ty).map encTy)), (4, .int .i64 ((0 : Nat) : Int))]) (HL := oH 0 5 (([] : List Ty).map encTy)) 1 (by simp) (by simp) rfl rfl)
    (make_Vars_loop hρ hE hcon hc hn ?_ n 0 [] (by omega) rfl)))
  generalize varTs n = L
  rcases L with _ | ⟨x, L⟩
  · simp [fS16r0, fS16r1, fS16r2, fS16r3, fS16r4, fS16b0, fS16r5, fS16b1, fS16r6, fS16, hE]
    exact GivesL.keepX rfl rfl (by simp) (by simp)
  · simp [fS16r0, fS16r1, fS16r2, fS16r3, fS16r4, fS16b0, fS16r5, fS16b1, fS16r6, fS16, hE]
    exact GivesL.keepX rfl rfl (by simp) (by simp)
end
end Go.Proofs.YthfcfmkdeheicaaGreat
