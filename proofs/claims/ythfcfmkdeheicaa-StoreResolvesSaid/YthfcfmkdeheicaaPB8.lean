import Derived.Test.YthfcfmkdeheicaaPB7
set_option linter.all false
set_option linter.all false
namespace Go.Proofs.Ythfcfmkdeheicaa
open Go.J
open Go.J.Enc (enc)
set_option maxRecDepth 100000
set_option maxHeartbeats 4000000
section
variable {ρ : Nat → Value} (hρ : J.Good ρ) {E : Env} (hE : E.P = Try.prog) (hcon : ConsOk ρ E)
include hρ hE hcon
theorem ref16_Set_run {s : Store} {id : Int} {x : Slot} (h : s.small) (hs : HS) : CallOk ρ Try.prog 24 [enc s, enc id, enc x] hs (enc (s.set id x)) hs := by
  refine fn hρ hE hcon Try.func24 BS_ref16_Set rfl (by simp) ?_ hs
  cases hx : s.slot? id with
  | none =>
    have := Store.slot?_none hx
    by_cases h0 : id < 0
    · simp [S_ref16_Set_r0, S_ref16_Set_r1, S_ref16_Set_r2, S_ref16_Set_r3, S_ref16_Set_r4, S_ref16_Set_r5, S_ref16_Set_r6, S_ref16_Set, hE, Store.set, hx, h0]
    · have h3 : (s.slots.length : Int) ≤ id := by omega
      simp [S_ref16_Set_r0, S_ref16_Set_r1, S_ref16_Set_r2, S_ref16_Set_r3, S_ref16_Set_r4, S_ref16_Set_r5, S_ref16_Set_r6, S_ref16_Set, hE, Store.set, hx, h0, h3]
  | some old =>
    have hset : s.set id x = (⟨s.slots.set id.toNat x, s.trail ++ [⟨id, old, false⟩]⟩, true) := by unfold Store.set; rw [hx]
    rw [hset]
    obtain ⟨i, hl, rfl, hold⟩ := Store.slot?_at hx
    clear hset hx
    obtain ⟨sl, tr⟩ := s
    obtain ⟨h1, h2⟩ := h
    simp only at h1 h2 hl hold
    have k1 := room1 h1
    have k2 := room2 h1
    have k3 := room1 h2
    have k4 := room2 h2
    have hgi : (sl.map encSlot)[i]? = some (encSlot old) := by rw [List.getElem?_map, List.getElem?_eq_getElem hl, hold]; rfl
    have hd1 : i * 8 / 8 = i := by omega
    have hd2 : i * 8 % 8 = 0 := by omega
    rcases sl with _ | ⟨a, sl⟩
    · simp at hl
    have hl2 : i < sl.length + 1 := by simpa using hl
    have hl3 : ¬ (sl.length : Int) + 1 ≤ (i : Int) := by omega
    have hl4 : ¬ (i : Int) < 0 := by omega
    simp only [List.map_cons, encSlot] at hgi
    have hgi3 : ∀ h, (encSlot a :: sl.map encSlot)[i]'h = encSlot old := fun h => by simp only [encSlot]; exact (List.getElem?_eq_some_iff.1 hgi).2
    simp only [encSlot] at hgi3
    rcases tr with _ | ⟨b, tr⟩ <;> simp at k1 k2 k3 k4 <;>
    simp [S_ref16_Set_r0, S_ref16_Set_r1, S_ref16_Set_r2, S_ref16_Set_r3, S_ref16_Set_r4, S_ref16_Set_r5, S_ref16_Set_r6, S_ref16_Set, hE, k1, k2, k3, k4, Nat.not_succ_le_self, hl2, hl3, hl4, hd1, hd2, hgi3, hold]
    all_goals
      have e1 : (encSlot a :: sl.map encSlot).set i (encSlot x) = ((a :: sl).set i x).map encSlot := by rw [List.map_set]; rfl
      simp only [encSlot] at e1
      rw [e1, List.take_of_length_le (by simp), norm_Slot]
end
end Go.Proofs.Ythfcfmkdeheicaa
