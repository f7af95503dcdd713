import Derived.Test.YthfcfmkdeheicaaPC4
import Derived.Test.YthfcfmkdeheicaaJL
set_option linter.all false
set_option linter.all false
namespace Go.Proofs.Ythfcfmkdeheicaa
open Go.J
open Go.J.Enc (enc)
set_option maxRecDepth 100000
set_option maxHeartbeats 4000000
theorem room1 {n : Nat} (h : n ≤ 1000) : ∀ b, b ≤ 200 → n * b ≤ 1048576 := fun b hb => Nat.le_trans (Nat.mul_le_mul h hb) (by decide)
theorem room2 {n : Nat} (h : n ≤ 1000) : ∀ b, b ≤ 200 → (n + 1) * b ≤ 1048576 := fun b hb => Nat.le_trans (Nat.mul_le_mul (Nat.succ_le_succ h) hb) (by decide)
section
variable {ρ : Nat → Value} (hρ : J.Good ρ) {E : Env} (hE : E.P = Try.prog) (hcon : ConsOk ρ E)
include hρ hE hcon
theorem ref16_New_run (hs : HS) : CallOk ρ Try.prog 21 [] hs (enc (⟨[], []⟩ : Store)) hs := by
  refine fn hρ hE hcon Try.func21 BS_ref16_New rfl (by simp) ?_ hs
  simp [S_ref16_New_r0, S_ref16_New_r1, S_ref16_New, hE]
theorem ref16_Fresh_run (hc : E.con 55 = fnS (spec1 fun i => some (tVar i))) {s : Store} {home : Int} {base : Bool} (h : s.small) (hs : HS) : CallOk ρ Try.prog 17 [enc s, enc home, enc base] hs (enc (s.fresh home base)) hs := by
  refine fn hρ hE hcon Try.func17 BS_ref16_Fresh rfl (by simp) ?_ hs
  obtain ⟨sl, tr⟩ := s
  obtain ⟨h1, h2⟩ := h
  simp only at h1 h2
  have k1 := room1 h1
  have k2 := room2 h1
  have k3 := room1 h2
  have k4 := room2 h2
  rcases sl with _ | ⟨a, sl⟩ <;> rcases tr with _ | ⟨b, tr⟩ <;> simp at k1 k2 k3 k4 <;>
  simp [S_ref16_Fresh_r0, S_ref16_Fresh_r1, S_ref16_Fresh_r2, S_ref16_Fresh_r3, S_ref16_Fresh_r4, S_ref16_Fresh, hE, hc, Store.fresh, ty0, slotZ, tVar, k1, k2, k3, k4, Nat.not_succ_le_self]
theorem ref3_IsArrow_run {t : Ty} (hs : HS) : CallOk ρ Try.prog 131 [enc t] hs (enc (isArrow t)) hs := by
  refine fn hρ hE hcon Try.func131 BS_ref3_IsArrow rfl (by simp) ?_ hs
  obtain ⟨k, n, i, h, l⟩ := t
  rcases l with _ | ⟨a, _ | ⟨b, _ | ⟨c, l⟩⟩⟩ <;> simp [S_ref3_IsArrow_r0, S_ref3_IsArrow_r1, S_ref3_IsArrow_r2, S_ref3_IsArrow_r3, S_ref3_IsArrow, hE] <;>
  repeat' (refine brT_mk (fun h => ?_) (fun h => ?_) <;> simp [h, hE, S_ref3_IsArrow_r0, S_ref3_IsArrow_r1, S_ref3_IsArrow_r2, S_ref3_IsArrow_r3, S_ref3_IsArrow])
  all_goals first | omega | simp_all [isArrow, ty0]
theorem store_has_run {s : Store} {i : Int} (hs : HS) : CallOk ρ Try.prog 66 [enc s, enc i] hs (enc (s.slot? i).isSome) hs := by
  refine fn hρ hE hcon Try.func66 BS_store_has rfl (by simp) ?_ hs
  have e : (s.slot? i).isSome = decide (0 ≤ i ∧ i < s.slots.length) := by
    cases h : s.slot? i with
    | none => have := Store.slot?_none h; simp; omega
    | some x => obtain ⟨j, rfl, hj, _⟩ := Store.slot?_some h; simp; omega
  rw [e]
  simp [S_store_has_r0, S_store_has_r1, S_store_has, hE]
  repeat' (refine brT_mk (fun h => ?_) (fun h => ?_) <;> simp [h, hE, S_store_has_r0, S_store_has_r1, S_store_has])
end
end Go.Proofs.Ythfcfmkdeheicaa
