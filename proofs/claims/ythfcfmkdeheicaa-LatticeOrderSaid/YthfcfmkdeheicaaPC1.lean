import Derived.Test.YthfcfmkdeheicaaPAG
import Derived.Test.YthfcfmkdeheicaaJL
set_option linter.all false
set_option linter.all false
namespace Go.Proofs.Ythfcfmkdeheicaa
open Go.J
open Go.J.Enc (enc)
set_option maxRecDepth 100000
set_option maxHeartbeats 4000000
section
variable {ρ : Nat → Value} (hρ : J.Good ρ) {E : Env} (hE : E.P = Try.prog) (hcon : ConsOk ρ E)
include hρ hE hcon
theorem make_Mod_run {n m : Int} (h1 : -4611686018427387904 ≤ m) (h2 : m ≤ 4611686018427387904) (hs : HS) : CallOk ρ Try.prog 22 [enc n, enc m] hs (enc (modI n m)) hs := by
  refine fn hρ hE hcon Try.func22 BS_make_Mod rfl (by simp) ?_ hs
  simp [S_make_Mod_r0, S_make_Mod_r1, S_make_Mod_r2, S_make_Mod_r3, S_make_Mod_r4, S_make_Mod_r5, S_make_Mod_r6, S_make_Mod, hE]
  refine brT_mk (fun h => ?_) (fun h => ?_) <;> simp [S_make_Mod_r0, S_make_Mod_r1, S_make_Mod_r2, S_make_Mod_r3, S_make_Mod_r4, S_make_Mod_r5, S_make_Mod_r6, S_make_Mod, hE, h, modI]
  have hm : 1 ≤ m := by omega
  have hm1 : ¬ m < 1 := h
  have hm0 : ¬ m = 0 := by omega
  simp [hm0]
  refine brT_mk (fun h => ?_) (fun h => ?_) <;> simp [S_make_Mod_r0, S_make_Mod_r1, S_make_Mod_r2, S_make_Mod_r3, S_make_Mod_r4, S_make_Mod_r5, S_make_Mod_r6, S_make_Mod, hE, h]
  · have h3 := Int.lt_tmod_of_pos n (show 0 < m by omega)
    rw [wrap_i64 (by omega) (by omega), if_neg hm1, tmod_neg hm h]
  · rw [if_neg hm1, tmod_pos hm (by omega)]
theorem make_Few_run {l : List Int} (hs : HS) : CallOk ρ Try.prog 11 [enc l] hs (enc (decide (l.length ≤ 60))) hs := by
  refine fn hρ hE hcon Try.func11 BS_make_Few rfl (by simp) ?_ hs
  simp [S_make_Few_r0, S_make_Few_r1, S_make_Few, hE]
  omega
theorem ref3_Con_run {n : List Nat} {l : List Ty} (hl : l.length ≤ 10000) (hs : HS) : CallOk ρ Try.prog 67 [enc n, enc l] hs (enc (tCon n l)) hs := by
  refine fn hρ hE hcon Try.func67 BS_ref3_Con rfl (by simp) ?_ hs
  rcases l with _ | ⟨x, l⟩
  · simp [S_ref3_Con_r0, S_ref3_Con_r1, S_ref3_Con, hE, tCon]
  · have h1 : (l.length + 1) * 64 ≤ 1048576 := by simp at hl; omega
    simp [S_ref3_Con_r0, S_ref3_Con_r1, S_ref3_Con, hE, tCon, h1]
theorem ref3_Int_run (hc : E.con 67 = fnS (spec2 fun n l => if l.length ≤ 10000 then some (tCon n l) else none)) (hs : HS) : CallOk ρ Try.prog 26 [] hs (enc tInt) hs := by
  refine fn hρ hE hcon Try.func26 BS_ref3_Int rfl (by simp) ?_ hs
  simp [S_ref3_Int_r0, S_ref3_Int_r1, S_ref3_Int, hE, tCon, tInt, hc]
theorem ref3_Arrow_run (hc : E.con 67 = fnS (spec2 fun n l => if l.length ≤ 10000 then some (tCon n l) else none)) {a b : Ty} (hs : HS) : CallOk ρ Try.prog 72 [enc a, enc b] hs (enc (tArrow a b)) hs := by
  refine fn hρ hE hcon Try.func72 BS_ref3_Arrow rfl (by simp) ?_ hs
  simp [S_ref3_Arrow_r0, S_ref3_Arrow_r1, S_ref3_Arrow, hE, tCon, tArrow, hc]
theorem ref3_Var_run {i : Int} (hs : HS) : CallOk ρ Try.prog 55 [enc i] hs (enc (tVar i)) hs := by
  refine fn hρ hE hcon Try.func55 BS_ref3_Var rfl (by simp) ?_ hs
  simp [S_ref3_Var_r0, S_ref3_Var_r1, S_ref3_Var, hE, tVar]
theorem ref3_Rigid_run {h i : Int} (hs : HS) : CallOk ρ Try.prog 59 [enc h, enc i] hs (enc (tRigid h i)) hs := by
  refine fn hρ hE hcon Try.func59 BS_ref3_Rigid rfl (by simp) ?_ hs
  simp [S_ref3_Rigid_r0, S_ref3_Rigid_r1, S_ref3_Rigid, hE, tRigid]
theorem make_Tape_Next_run (hc : E.con 22 = fnS (spec2 fun n m => if -1000000 ≤ m ∧ m ≤ 1000000 then some (modI n m) else none)) {t : Tp} {n : Int} (hi : 0 ≤ t.i) (hl : t.l.length ≤ 100000) (hn : -1000000 ≤ n ∧ n ≤ 1000000) (hs : HS) (id : Nat) (hid : id < hs.n) (hg : hs.H.get id = some (box (Cel.cells t))) :
    CallOk ρ Try.prog 58 [.ptr id 0 0, enc n] hs (enc (t.next n).2) (hs.wr id (box (Cel.cells (t.next n).1))) := by
  refine st hρ hE hcon Try.func58 BS_make_Tape_Next rfl (by simp) (by simp) (by simp) (by simp) ?_ hid hg
  obtain ⟨l, i⟩ := t
  obtain ⟨j, rfl⟩ := Int.eq_ofNat_of_zero_le hi
  simp only at hl
  simp [S_make_Tape_Next_r0, S_make_Tape_Next_r1, S_make_Tape_Next_r2, S_make_Tape_Next_r3, S_make_Tape_Next_r4, S_make_Tape_Next, hE]
  refine brT_mk (fun h => ?_) (fun h => ?_)
  · simp [S_make_Tape_Next_r0, S_make_Tape_Next_r1, S_make_Tape_Next_r2, S_make_Tape_Next_r3, S_make_Tape_Next_r4, S_make_Tape_Next, hE, h, Tp.next]
    exact GivesL.keep rfl rfl (by simp) (by simp) (by simp)
  · have hw : IntKind.i64.wrap ((j : Int) + 1) = ((j + 1 : Nat) : Int) := wrap_succ (by omega)
    have hw2 : IntKind.i64.wrap (((j + 1 : Nat) : Int) - 1) = (j : Int) := by rw [wrap_i64 (by omega) (by omega)]; omega
    have hj : j < l.length := by omega
    simp [S_make_Tape_Next_r0, S_make_Tape_Next_r1, S_make_Tape_Next_r2, S_make_Tape_Next_r3, S_make_Tape_Next_r4, S_make_Tape_Next, hE, h, hw, hw2, hj, hc, hn, Tp.next, -Int.natCast_add]
    exact GivesL.keep rfl rfl (by simp) (by simp) (by simp)
end
end Go.Proofs.Ythfcfmkdeheicaa
