import Derived.Test.YthfcfmkdeheicaaGreatGA1
import Derived.Test.YthfcfmkdeheicaaGreatJL
set_option linter.all false
set_option linter.all false
namespace Go.Proofs.YthfcfmkdeheicaaGreat
open Go.J
open Go.J.Enc (enc)
set_option maxRecDepth 100000
set_option maxHeartbeats 4000000
section
variable {ρ : Nat → Value} (hρ : J.Good ρ) {E : Env} (hE : E.P = Tryz.prog) (hcon : ConsOk ρ E)
include hρ hE hcon
theorem make_Mod_run {n m : Int} (h1 : -4611686018427387904 ≤ m) (h2 : m ≤ 4611686018427387904) (hs : HS) : CallOk ρ Tryz.prog 14 [enc n, enc m] hs (enc (modI n m)) hs := by
  refine fn hρ hE hcon Tryz.func14 fB14 rfl (by simp) ?_ hs
  simp [fS14r0, fS14r1, fS14r2, fS14r3, fS14r4, fS14r5, fS14r6, fS14, hE]
  refine brT_mk (fun h => ?_) (fun h => ?_) <;> simp [fS14r0, fS14r1, fS14r2, fS14r3, fS14r4, fS14r5, fS14r6, fS14, hE, h, modI]
  have hm : 1 ≤ m := by omega
  have hm1 : ¬ m < 1 := h
  have hm0 : ¬ m = 0 := by omega
  simp [hm0]
  refine brT_mk (fun h => ?_) (fun h => ?_) <;> simp [fS14r0, fS14r1, fS14r2, fS14r3, fS14r4, fS14r5, fS14r6, fS14, hE, h]
  · have h3 := Int.lt_tmod_of_pos n (show 0 < m by omega)
    rw [wrap_i64 (by omega) (by omega), if_neg hm1, tmod_neg hm h]
  · rw [if_neg hm1, tmod_pos hm (by omega)]
theorem make_Few_run {l : List Int} (hs : HS) : CallOk ρ Tryz.prog 10 [enc l] hs (enc (decide (l.length ≤ 60))) hs := by
  refine fn hρ hE hcon Tryz.func10 fB10 rfl (by simp) ?_ hs
  simp [fS10r0, fS10r1, fS10, hE]
  omega
theorem ref3_Con_run {n : List Nat} {l : List Ty} (hl : l.length ≤ 10000) (hs : HS) : CallOk ρ Tryz.prog 61 [enc n, enc l] hs (enc (tCon n l)) hs := by
  refine fn hρ hE hcon Tryz.func61 fB61 rfl (by simp) ?_ hs
  rcases l with _ | ⟨x, l⟩
  · simp [fS61r0, fS61r1, fS61, hE, tCon]
  · have h1 : (l.length + 1) * 64 ≤ 1048576 := by simp at hl; omega
    simp [fS61r0, fS61r1, fS61, hE, tCon, h1]
theorem ref3_Int_run (hc : E.con 61 = fnS (spec2 fun n l => if l.length ≤ 10000 then some (tCon n l) else none)) (hs : HS) : CallOk ρ Tryz.prog 49 [] hs (enc tInt) hs := by
  refine fn hρ hE hcon Tryz.func49 fB49 rfl (by simp) ?_ hs
  simp [fS49r0, fS49r1, fS49, hE, tCon, tInt, hc]
theorem ref3_Arrow_run (hc : E.con 61 = fnS (spec2 fun n l => if l.length ≤ 10000 then some (tCon n l) else none)) {a b : Ty} (hs : HS) : CallOk ρ Tryz.prog 62 [enc a, enc b] hs (enc (tArrow a b)) hs := by
  refine fn hρ hE hcon Tryz.func62 fB62 rfl (by simp) ?_ hs
  simp [fS62r0, fS62r1, fS62, hE, tCon, tArrow, hc]
theorem ref3_Var_run {i : Int} (hs : HS) : CallOk ρ Tryz.prog 52 [enc i] hs (enc (tVar i)) hs := by
  refine fn hρ hE hcon Tryz.func52 fB52 rfl (by simp) ?_ hs
  simp [fS52r0, fS52r1, fS52, hE, tVar]
theorem ref3_Rigid_run {h i : Int} (hs : HS) : CallOk ρ Tryz.prog 58 [enc h, enc i] hs (enc (tRigid h i)) hs := by
  refine fn hρ hE hcon Tryz.func58 fB58 rfl (by simp) ?_ hs
  simp [fS58r0, fS58r1, fS58, hE, tRigid]
theorem make_Tape_Next_run (hc : E.con 14 = fnS (spec2 fun n m => if -1000000 ≤ m ∧ m ≤ 1000000 then some (modI n m) else none)) {t : Tp} {n : Int} (hi : 0 ≤ t.i) (hl : t.l.length ≤ 100000) (hn : -1000000 ≤ n ∧ n ≤ 1000000) (hs : HS) (id : Nat) (hid : id < hs.n) (hg : hs.H.get id = some (box (Cel.cells t))) :
    CallOk ρ Tryz.prog 56 [.ptr id 0 0, enc n] hs (enc (t.next n).2) (hs.wr id (box (Cel.cells (t.next n).1))) := by
  refine st hρ hE hcon Tryz.func56 fB56 rfl (by simp) (by simp) (by simp) (by simp) ?_ hid hg
  obtain ⟨l, i⟩ := t
  obtain ⟨j, rfl⟩ := Int.eq_ofNat_of_zero_le hi
  simp only at hl
  simp [fS56r0, fS56r1, fS56r2, fS56r3, fS56r4, fS56, hE]
  refine brT_mk (fun h => ?_) (fun h => ?_)
  · simp [fS56r0, fS56r1, fS56r2, fS56r3, fS56r4, fS56, hE, h, Tp.next]
    exact GivesL.keep rfl rfl (by simp) (by simp) (by simp)
  · have hw : IntKind.i64.wrap ((j : Int) + 1) = ((j + 1 : Nat) : Int) := wrap_succ (by omega)
    have hw2 : IntKind.i64.wrap (((j + 1 : Nat) : Int) - 1) = (j : Int) := by rw [wrap_i64 (by omega) (by omega)]; omega
    have hj : j < l.length := by omega
    simp [fS56r0, fS56r1, fS56r2, fS56r3, fS56r4, fS56, hE, h, hw, hw2, hj, hc, hn, Tp.next, -Int.natCast_add]
    exact GivesL.keep rfl rfl (by simp) (by simp) (by simp)
end
end Go.Proofs.YthfcfmkdeheicaaGreat
