import Derived.Test.YthfcfmkdeheicaaPB4
set_option linter.all false
set_option linter.all false
namespace Go.Proofs.Ythfcfmkdeheicaa
open Go.J
open Go.J.Enc (enc)
set_option maxRecDepth 100000
set_option maxHeartbeats 4000000
section
variable {ρ : Nat → Value} (hρ : J.Good ρ) {E : Env} (hE : E.P = Try.prog) (hcon : ConsOk ρ E)
include hρ hE hcon
theorem law16_same_loop0 (hc : E.con 64 = fnS (spec2 fun a b : Slot => if a.type.ok = true then some (decide (a = b)) else none)) {a b : Store} (hl : a.slots.length = b.slots.length) (h1 : a.slots.length ≤ 1000000) (h2 : ∀ x ∈ a.slots, x.type.ok = true) {Q : Ex → PT V → HS → Prop}
    (hf : a.slots ≠ b.slots → ∀ T hs, T.get 4 = some (.bool false) → Q .ret T hs) (ht : a.slots = b.slots → Q (.exit 0) (mkP [(2, .ptr 0 0 0), (3, .ptr 1 0 0)]) { H := mkP [(0, box (encStore a)), (1, box (encStore b))], n := 2, log := [] }) :
    ∀ (n i : Nat), i + n = a.slots.length → a.slots.take i = b.slots.take i → LsN ρ E 0 93 S_law16_same_l0 (LessQ 0 Q) (n + 1) (mkP [(2, .ptr 0 0 0), (3, .ptr 1 0 0), (5, .int .i64 (i : Int))]) { H := mkP [(0, box (encStore a)), (1, box (encStore b))], n := 2, log := [] } := by
  intro n
  induction n with
  | zero =>
    intro i hi he
    have hil : ¬ (i : Int) < a.slots.length := by omega
    have e := take_all hl (by omega) he
    refine lp hρ hE hcon fun K hK => ?_
    simp [S_law16_same_l0, S_law16_same_r0, S_law16_same_r1, S_law16_same_r2, S_law16_same_r3, S_law16_same_r4, S_law16_same_r5, S_law16_same_r6, S_law16_same_b0, S_law16_same_r7, S_law16_same_b1, S_law16_same_r8, S_law16_same_r9, S_law16_same_r10, S_law16_same_r11, S_law16_same_b2, S_law16_same_r12, S_law16_same_b3, S_law16_same_r13, S_law16_same, hE, hil]
    refine LessQ.mk (Less.keep 2 ?_ ?_ rfl rfl) (ht e) <;> simp
  | succ n ih =>
    intro i hi he
    have hil : i < a.slots.length := by omega
    have hil' : (i : Int) < a.slots.length := by omega
    have him : i < b.slots.length := by omega
    have hx := h2 _ (List.getElem_mem hil)
    have hw : IntKind.i64.wrap ((i : Int) + 1) = ((i + 1 : Nat) : Int) := wrap_succ (by omega)
    refine lp hρ hE hcon fun K hK => ?_
    simp [S_law16_same_l0, S_law16_same_r0, S_law16_same_r1, S_law16_same_r2, S_law16_same_r3, S_law16_same_r4, S_law16_same_r5, S_law16_same_r6, S_law16_same_b0, S_law16_same_r7, S_law16_same_b1, S_law16_same_r8, S_law16_same_r9, S_law16_same_r10, S_law16_same_r11, S_law16_same_b2, S_law16_same_r12, S_law16_same_b3, S_law16_same_r13, S_law16_same, hE, hil', hil, him, hc, hx]
    refine brT_mk (fun h => ?_) (fun h => ?_) <;> simp [S_law16_same_r0, S_law16_same_r1, S_law16_same_r2, S_law16_same_r3, S_law16_same_r4, S_law16_same_r5, S_law16_same_r6, S_law16_same_b0, S_law16_same_r7, S_law16_same_b1, S_law16_same_r8, S_law16_same_r9, S_law16_same_r10, S_law16_same_r11, S_law16_same_b2, S_law16_same_r12, S_law16_same_b3, S_law16_same_r13, S_law16_same, hE, hw, -Int.natCast_add]
    · exact LessQ.mk (T2 := mkP [(4, .bool false)]) (hs2 := { H := mkP [], n := 0, log := [] }) (Less.keep 0 (by simp) (by simp) rfl rfl) (hf (fun e => h (by simp [e])) _ _ (by simp))
    · exact hK _ _ (LsN_less (Less.keep 2 (by simp [-Int.natCast_add]) (by simp) rfl rfl) (ih (i + 1) (by omega) (take_eq_succ he hil him (Classical.not_not.1 h))))
theorem law16_same_loop1 (hc : E.con 64 = fnS (spec2 fun a b : Slot => if a.type.ok = true then some (decide (a = b)) else none)) {a b : Store} (hl : a.trail.length = b.trail.length) (h1 : a.trail.length ≤ 1000000) (h2 : ∀ x ∈ a.trail, x.old.type.ok = true) {Q : Ex → PT V → HS → Prop}
    (hf : a.trail ≠ b.trail → ∀ T hs, T.get 4 = some (.bool false) → Q .ret T hs) (ht : a.trail = b.trail → ∀ T hs, Q (.exit 2) T hs) :
    ∀ (n i : Nat), i + n = a.trail.length → a.trail.take i = b.trail.take i → LsN ρ E 0 93 S_law16_same_l1 Q (n + 1) (mkP [(2, .ptr 0 0 0), (3, .ptr 1 0 0), (6, .int .i64 (i : Int))]) { H := mkP [(0, box (encStore a)), (1, box (encStore b))], n := 2, log := [] } := by
  intro n
  induction n with
  | zero =>
    intro i hi he
    have hil : ¬ (i : Int) < a.trail.length := by omega
    have e := take_all hl (by omega) he
    refine lp hρ hE hcon fun K hK => ?_
    simp [S_law16_same_l1, S_law16_same_r0, S_law16_same_r1, S_law16_same_r2, S_law16_same_r3, S_law16_same_r4, S_law16_same_r5, S_law16_same_r6, S_law16_same_b0, S_law16_same_r7, S_law16_same_b1, S_law16_same_r8, S_law16_same_r9, S_law16_same_r10, S_law16_same_r11, S_law16_same_b2, S_law16_same_r12, S_law16_same_b3, S_law16_same_r13, S_law16_same, hE, hil]
    exact ht e _ _
  | succ n ih =>
    intro i hi he
    have hil : i < a.trail.length := by omega
    have hil' : (i : Int) < a.trail.length := by omega
    have him : i < b.trail.length := by omega
    have hx := h2 _ (List.getElem_mem hil)
    have hw : IntKind.i64.wrap ((i : Int) + 1) = ((i + 1 : Nat) : Int) := wrap_succ (by omega)
    refine lp hρ hE hcon fun K hK => ?_
    generalize hA : a.trail[i] = A at hx
    generalize hB : b.trail[i] = B
    have hne : A ≠ B → a.trail ≠ b.trail := fun h e => h (by rw [← hA, ← hB]; simp [e])
    have hst : A = B → a.trail.take (i + 1) = b.trail.take (i + 1) := fun h => take_eq_succ he hil him (by rw [hA, hB, h])
    obtain ⟨a1, a2, a3⟩ := A
    obtain ⟨b1, b2, b3⟩ := B
    simp only at hx
    cases a3 <;> cases b3 <;> simp [S_law16_same_l1, S_law16_same_r0, S_law16_same_r1, S_law16_same_r2, S_law16_same_r3, S_law16_same_r4, S_law16_same_r5, S_law16_same_r6, S_law16_same_b0, S_law16_same_r7, S_law16_same_b1, S_law16_same_r8, S_law16_same_r9, S_law16_same_r10, S_law16_same_r11, S_law16_same_b2, S_law16_same_r12, S_law16_same_b3, S_law16_same_r13, S_law16_same, hE, hil', hil, him, hc, hx, hA, hB] <;>
    repeat' (refine brT_mk (fun h => ?_) (fun h => ?_) <;> simp [*, S_law16_same_r0, S_law16_same_r1, S_law16_same_r2, S_law16_same_r3, S_law16_same_r4, S_law16_same_r5, S_law16_same_r6, S_law16_same_b0, S_law16_same_r7, S_law16_same_b1, S_law16_same_r8, S_law16_same_r9, S_law16_same_r10, S_law16_same_r11, S_law16_same_b2, S_law16_same_r12, S_law16_same_b3, S_law16_same_r13, S_law16_same, -Int.natCast_add])
    all_goals exact hK _ _ (LsN_less (Less.keep 2 (by simp [-Int.natCast_add]) (by simp) rfl rfl) (ih (i + 1) (by omega) (hst (by simp_all))))
theorem law16_same_run (hc : E.con 64 = fnS (spec2 fun a b : Slot => if a.type.ok = true then some (decide (a = b)) else none)) {a b : Store} (h1 : a.slots.length ≤ 1000000) (h2 : ∀ x ∈ a.slots, x.type.ok = true) (h3 : a.trail.length ≤ 1000000) (h4 : ∀ x ∈ a.trail, x.old.type.ok = true) (hs : HS) :
    CallOk ρ Try.prog 18 [enc a, enc b] hs (enc (decide (a = b))) hs := by
  refine fn hρ hE hcon Try.func18 BS_law16_same rfl (by simp) ?_ hs
  have hne1 : a.slots ≠ b.slots → a ≠ b := fun h e => h (by rw [e])
  have hne2 : a.trail ≠ b.trail → a ≠ b := fun h e => h (by rw [e])
  by_cases hl1 : a.slots.length = b.slots.length
  case neg =>
    have hl1' : ¬ (a.slots.length : Int) = b.slots.length := by omega
    simp [hl1, hl1', hE, S_law16_same_r0, S_law16_same_r1, S_law16_same_r2, S_law16_same_r3, S_law16_same_r4, S_law16_same_r5, S_law16_same_r6, S_law16_same_b0, S_law16_same_r7, S_law16_same_b1, S_law16_same_r8, S_law16_same_r9, S_law16_same_r10, S_law16_same_r11, S_law16_same_b2, S_law16_same_r12, S_law16_same_b3, S_law16_same_r13, S_law16_same]
    exact hne1 fun e => hl1 (by rw [e])
  by_cases hl2 : a.trail.length = b.trail.length
  case neg =>
    have hl2' : ¬ (a.trail.length : Int) = b.trail.length := by omega
    simp [hl1, hl2, hl2', hE, S_law16_same_r0, S_law16_same_r1, S_law16_same_r2, S_law16_same_r3, S_law16_same_r4, S_law16_same_r5, S_law16_same_r6, S_law16_same_b0, S_law16_same_r7, S_law16_same_b1, S_law16_same_r8, S_law16_same_r9, S_law16_same_r10, S_law16_same_r11, S_law16_same_b2, S_law16_same_r12, S_law16_same_b3, S_law16_same_r13, S_law16_same]
    exact hne2 fun e => hl2 (by rw [e])
  simp [hl1, hl2, hE, S_law16_same_r0, S_law16_same_r1, S_law16_same_r2, S_law16_same_r3, S_law16_same_r4, S_law16_same_r5, S_law16_same_r6, S_law16_same_b0, S_law16_same_r7, S_law16_same_b1, S_law16_same_r8, S_law16_same_r9, S_law16_same_r10, S_law16_same_r11, S_law16_same_b2, S_law16_same_r12, S_law16_same_b3, S_law16_same_r13, S_law16_same]
  refine Ls_lessQ (Ls_loop (LsN_less (Less.keep (TL := [(2, .ptr 0 0 0), (3, .ptr 1 0 0), (5, .int .i64 ((0 : Nat) : Int))]) 2 ?_ ?_ rfl rfl) (law16_same_loop0 hρ hE hcon hc hl1 h1 h2 ?_ ?_ a.slots.length 0 (by omega) rfl)))
  · simp
  · simp
  · intro hne T hs hT
    simp [hT, hE, hne1 hne]
  · intro e1
    simp [hE, S_law16_same_r0, S_law16_same_r1, S_law16_same_r2, S_law16_same_r3, S_law16_same_r4, S_law16_same_r5, S_law16_same_r6, S_law16_same_b0, S_law16_same_r7, S_law16_same_b1, S_law16_same_r8, S_law16_same_r9, S_law16_same_r10, S_law16_same_r11, S_law16_same_b2, S_law16_same_r12, S_law16_same_b3, S_law16_same_r13, S_law16_same]
    refine Ls_loop (LsN_less (Less.keep (TL := [(2, .ptr 0 0 0), (3, .ptr 1 0 0), (6, .int .i64 ((0 : Nat) : Int))]) 2 ?_ ?_ rfl rfl) (law16_same_loop1 hρ hE hcon hc hl2 h3 h4 ?_ ?_ a.trail.length 0 (by omega) rfl))
    · simp
    · simp
    · intro hne T hs hT
      simp [hT, hE, hne2 hne]
    · intro e2 T hs
      have e : a = b := by cases a; cases b; simp_all
      simp [S_law16_same_r0, S_law16_same_r1, S_law16_same_r2, S_law16_same_r3, S_law16_same_r4, S_law16_same_r5, S_law16_same_r6, S_law16_same_b0, S_law16_same_r7, S_law16_same_b1, S_law16_same_r8, S_law16_same_r9, S_law16_same_r10, S_law16_same_r11, S_law16_same_b2, S_law16_same_r12, S_law16_same_b3, S_law16_same_r13, S_law16_same, hE, e]
end
end Go.Proofs.Ythfcfmkdeheicaa
