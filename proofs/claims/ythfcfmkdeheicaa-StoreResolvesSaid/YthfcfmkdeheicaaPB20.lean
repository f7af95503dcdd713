import Derived.Test.YthfcfmkdeheicaaPB19
import Derived.Test.YthfcfmkdeheicaaJN
set_option linter.all false
set_option linter.all false
namespace Go.Proofs.Ythfcfmkdeheicaa
open Go.J
open Go.J.Enc (enc)
set_option maxRecDepth 100000
set_option maxHeartbeats 4000000
section
variable {ρ : Nat → Value} (hρ : J.Good ρ) {E : Env} (hE : E.P = Try.prog) (hcon : ConsOk ρ E)
include hρ hE hcon
theorem ref17_slot_run {s : Store} {t : Ty} (hs : HS) : CallOk ρ Try.prog 113 [enc s, enc t] hs (enc (s.isSlot t)) hs := by
  refine fn hρ hE hcon Try.func113 BS_ref17_slot rfl (by simp) ?_ hs
  obtain ⟨k, nm, i, h, l⟩ := t
  have e : (s.slot? i).isSome = (decide (0 ≤ i) && decide (i < s.slots.length)) := by
    cases h : s.slot? i with
    | none =>
      have := Store.slot?_none h
      by_cases h0 : 0 ≤ i
      · have h1 : ¬ i < s.slots.length := by omega
        simp [h0, h1]
      · simp [h0]
    | some x => obtain ⟨j, rfl, hj, _⟩ := Store.slot?_some h; simp [hj]
  have e2 : s.isSlot (Ty.mk k nm i h l) = (decide (k = 1) && (decide (0 ≤ i) && decide (i < s.slots.length))) := by rw [← e]; rfl
  rw [e2]
  by_cases h1 : k = 1 <;> by_cases h2 : 0 ≤ i <;> by_cases h3 : i < s.slots.length <;> simp [S_ref17_slot_r0, S_ref17_slot_r1, S_ref17_slot, hE, h1, h2, h3]
theorem ref17_join_run (hSet : E.con 24 = fnS (spec3 fun (s : Store) (i : Int) (x : Slot) => if s.small then some (s.set i x) else none)) (hVar : E.con 55 = fnS (spec1 fun i : Int => some (tVar i)))
    {s : Store} {x y : Ty} (hs : s.slots.length ≤ 1000 ∧ s.trail.length ≤ 990) (hx : s.isSlot x = true) (hy : s.isSlot y = true) (hs0 : HS) : CallOk ρ Try.prog 114 [enc s, enc x, enc y] hs0 (enc (s.join x.id y.id)) hs0 := by
  refine fn hρ hE hcon Try.func114 BS_ref17_join rfl (by simp) ?_ hs0
  obtain ⟨k, nm, i, h, l⟩ := x
  obtain ⟨k', nm', j, h', l'⟩ := y
  unfold Store.isSlot at hx hy
  simp only [Ty.kind_mk, Ty.id_mk, Bool.and_eq_true, decide_eq_true_eq] at hx hy ⊢
  obtain ⟨rfl, hx⟩ := hx
  obtain ⟨rfl, hy⟩ := hy
  by_cases hij : i = j
  · subst hij
    simp [S_ref17_join_r0, S_ref17_join_r1, S_ref17_join_r2, S_ref17_join_r3, S_ref17_join_r4, S_ref17_join_r5, S_ref17_join_r6, S_ref17_join_r7, S_ref17_join_r8, S_ref17_join_r9, S_ref17_join, hE, Store.join]
  · obtain ⟨xi, hxi⟩ := Option.isSome_iff_exists.1 hx
    obtain ⟨xj, hxj⟩ := Option.isSome_iff_exists.1 hy
    obtain ⟨a, ha, rfl, hax⟩ := Store.slot?_at hxi
    obtain ⟨b, hb, rfl, hbx⟩ := Store.slot?_at hxj
    have hsm : s.small := ⟨hs.1, by omega⟩
    have hd1 : ∀ a : Nat, a * 8 / 8 = a := by omega
    have hd2 : ∀ a : Nat, a * 8 % 8 = 0 := by omega
    by_cases hlt : a < b
    · have h1 : ¬ (b : Int) < a := by omega
      have h2 : (a : Int) < b := by omega
      have h3 : ¬ b < a := by omega
      have hs2 : ∀ x, (s.set (a : Int) x).1.small := by
        intro x
        unfold Store.set
        rw [hxi]
        exact ⟨by simpa using hs.1, by simp; omega⟩
      obtain ⟨b1, t1, o1, g1⟩ := xi
      obtain ⟨b2, t2, o2, g2⟩ := xj
      have ej : s.join a b = ((s.set a ⟨b1, t1, min o1 o2, g1 || g2⟩).1.set b ⟨true, tVar a, o2, g2⟩).1 := by
        unfold Store.join
        rw [if_neg hij]
        have m1 : min (a : Int) b = a := by omega
        have m2 : max (a : Int) b = b := by omega
        unfold Store.joinL Store.joinH Store.slotD
        rw [m1, m2, hxi, hxj]; rfl
      have ej' : s.join (Ty.mk 1 nm (a : Int) h l).id (Ty.mk 1 nm' (b : Int) h' l').id = _ := ej
      rw [ej', show min o1 o2 = (if o2 < o1 then o2 else o1) by split <;> omega]
      cases g1 <;> cases g2 <;> simp [S_ref17_join_r0, S_ref17_join_r1, S_ref17_join_r2, S_ref17_join_r3, S_ref17_join_r4, S_ref17_join_r5, S_ref17_join_r6, S_ref17_join_r7, S_ref17_join_r8, S_ref17_join_r9, S_ref17_join, hE, hij, h1, h2, h3, hlt, ha, hb, hax, hbx, hSet, hVar, hsm, hs2, enc_setp]
    · have h1 : (b : Int) < a := by omega
      have h2 : ¬ (a : Int) < b := by omega
      have h3 : b < a := by omega
      have hs2 : ∀ x, (s.set (b : Int) x).1.small := by
        intro x
        unfold Store.set
        rw [hxj]
        exact ⟨by simpa using hs.1, by simp; omega⟩
      obtain ⟨b1, t1, o1, g1⟩ := xi
      obtain ⟨b2, t2, o2, g2⟩ := xj
      have ej : s.join a b = ((s.set b ⟨b2, t2, min o2 o1, g2 || g1⟩).1.set a ⟨true, tVar b, o1, g1⟩).1 := by
        unfold Store.join
        rw [if_neg hij]
        have m1 : min (a : Int) b = b := by omega
        have m2 : max (a : Int) b = a := by omega
        unfold Store.joinL Store.joinH Store.slotD
        rw [m1, m2, hxi, hxj]; rfl
      have ej' : s.join (Ty.mk 1 nm (a : Int) h l).id (Ty.mk 1 nm' (b : Int) h' l').id = _ := ej
      rw [ej', show min o2 o1 = (if o1 < o2 then o1 else o2) by split <;> omega]
      cases g1 <;> cases g2 <;> simp [S_ref17_join_r0, S_ref17_join_r1, S_ref17_join_r2, S_ref17_join_r3, S_ref17_join_r4, S_ref17_join_r5, S_ref17_join_r6, S_ref17_join_r7, S_ref17_join_r8, S_ref17_join_r9, S_ref17_join, hE, hij, h1, h2, h3, hlt, ha, hb, hax, hbx, hSet, hVar, hsm, hs2, enc_setp]
end
end Go.Proofs.Ythfcfmkdeheicaa
