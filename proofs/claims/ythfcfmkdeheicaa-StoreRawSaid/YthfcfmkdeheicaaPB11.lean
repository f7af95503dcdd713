import Derived.Test.YthfcfmkdeheicaaPB10
set_option linter.all false
set_option linter.all false
namespace Go.Proofs.Ythfcfmkdeheicaa
open Go.J
open Go.J.Enc (enc)
set_option maxRecDepth 100000
set_option maxHeartbeats 4000000
section
variable {ρ : Nat → Value} (hρ : J.Good ρ) {E : Env} (hE : E.P = Try.prog) (hcon : ConsOk ρ E)
include hρ hE hcon
theorem law16_few_loop0 (hc : E.con 12 = fnS (spec2 fun (t : Ty) (n : Int) => if -1000000 ≤ n ∧ n ≤ 999999 then some (decide ((t.size : Int) ≤ n)) else none)) {s : Store} (h1 : s.slots.length ≤ 6) {Q : Ex → PT V → HS → Prop}
    (hf : (¬ ∀ x ∈ s.slots, x.type.size ≤ 20) → Q .ret (mkP [(2, .bool false)]) { H := mkP [], n := 0, log := [] }) (hq : (∀ x ∈ s.slots, x.type.size ≤ 20) → Q (.exit 0) (mkP [(1, .ptr 0 0 0)]) { H := mkP [(0, box (encStore s))], n := 1, log := [] }) :
    ∀ (n i : Nat), i + n = s.slots.length → (∀ x ∈ s.slots.take i, x.type.size ≤ 20) → LsN ρ E 0 46 S_law16_few_l0 (LessQ 0 Q) (n + 1) (mkP [(1, .ptr 0 0 0), (3, .int .i64 (i : Int))]) { H := mkP [(0, box (encStore s))], n := 1, log := [] } := by
  intro n
  induction n with
  | zero =>
    intro i hi he
    have hil : ¬ (i : Int) < s.slots.length := by omega
    refine lp hρ hE hcon fun K hK => ?_
    simp [S_law16_few_l0, S_law16_few_r0, S_law16_few_r1, S_law16_few_r2, S_law16_few_r3, S_law16_few_r4, S_law16_few_r5, S_law16_few_r6, S_law16_few_b0, S_law16_few_r7, S_law16_few_b1, S_law16_few_r8, S_law16_few_r9, S_law16_few_r10, S_law16_few_r11, S_law16_few_b2, S_law16_few_r12, S_law16_few_b3, S_law16_few_r13, S_law16_few, hE, hil]
    exact LessQ.mk (Less.keep 1 (by simp) (by simp) rfl rfl) (hq (forall_take_all (by omega) he))
  | succ n ih =>
    intro i hi he
    have hil : i < s.slots.length := by omega
    have hil' : (i : Int) < s.slots.length := by omega
    have hw : IntKind.i64.wrap ((i : Int) + 1) = ((i + 1 : Nat) : Int) := wrap_succ (by omega)
    have hd1 : (i * 8 + 1) / 8 = i := by omega
    have hd2 : (i * 8 + 1) % 8 = 1 := by omega
    refine lp hρ hE hcon fun K hK => ?_
    by_cases hb : s.slots[i].type.size ≤ 20
    · have hb' : ((s.slots[i].type.size : Nat) : Int) ≤ 20 := by omega
      simp [S_law16_few_l0, S_law16_few_r0, S_law16_few_r1, S_law16_few_r2, S_law16_few_r3, S_law16_few_r4, S_law16_few_r5, S_law16_few_r6, S_law16_few_b0, S_law16_few_r7, S_law16_few_b1, S_law16_few_r8, S_law16_few_r9, S_law16_few_r10, S_law16_few_r11, S_law16_few_b2, S_law16_few_r12, S_law16_few_b3, S_law16_few_r13, S_law16_few, hE, hil', hil, hc, hb, hb', hw, -Int.natCast_add]
      exact hK _ _ (LsN_less (Less.keep 1 (by simp [-Int.natCast_add]) (by simp) rfl rfl) (ih (i + 1) (by omega) (forall_take_succ hil he hb)))
    · have hb' : ¬ ((s.slots[i].type.size : Nat) : Int) ≤ 20 := by omega
      simp [S_law16_few_l0, S_law16_few_r0, S_law16_few_r1, S_law16_few_r2, S_law16_few_r3, S_law16_few_r4, S_law16_few_r5, S_law16_few_r6, S_law16_few_b0, S_law16_few_r7, S_law16_few_b1, S_law16_few_r8, S_law16_few_r9, S_law16_few_r10, S_law16_few_r11, S_law16_few_b2, S_law16_few_r12, S_law16_few_b3, S_law16_few_r13, S_law16_few, hE, hil', hil, hc, hb, hb']
      exact LessQ.mk (Less.keep 0 (by simp) (by simp) rfl rfl) (hf fun h => hb (h _ (List.getElem_mem hil)))
theorem law16_few_loop1 (hc : E.con 12 = fnS (spec2 fun (t : Ty) (n : Int) => if -1000000 ≤ n ∧ n ≤ 999999 then some (decide ((t.size : Int) ≤ n)) else none)) {s : Store} (h1 : s.trail.length ≤ 6) {Q : Ex → PT V → HS → Prop}
    (hf : (¬ ∀ x ∈ s.trail, x.old.type.size ≤ 20) → Q .ret (mkP [(2, .bool false)]) { H := mkP [], n := 0, log := [] }) (hq : (∀ x ∈ s.trail, x.old.type.size ≤ 20) → Q (.exit 2) (mkP []) { H := mkP [], n := 0, log := [] }) :
    ∀ (n i : Nat), i + n = s.trail.length → (∀ x ∈ s.trail.take i, x.old.type.size ≤ 20) → LsN ρ E 0 46 S_law16_few_l1 (LessQ 0 Q) (n + 1) (mkP [(1, .ptr 0 0 0), (4, .int .i64 (i : Int))]) { H := mkP [(0, box (encStore s))], n := 1, log := [] } := by
  intro n
  induction n with
  | zero =>
    intro i hi he
    have hil : ¬ (i : Int) < s.trail.length := by omega
    refine lp hρ hE hcon fun K hK => ?_
    simp [S_law16_few_l1, S_law16_few_r0, S_law16_few_r1, S_law16_few_r2, S_law16_few_r3, S_law16_few_r4, S_law16_few_r5, S_law16_few_r6, S_law16_few_b0, S_law16_few_r7, S_law16_few_b1, S_law16_few_r8, S_law16_few_r9, S_law16_few_r10, S_law16_few_r11, S_law16_few_b2, S_law16_few_r12, S_law16_few_b3, S_law16_few_r13, S_law16_few, hE, hil]
    exact LessQ.mk (Less.keep 0 (by simp) (by simp) rfl rfl) (hq (forall_take_all (by omega) he))
  | succ n ih =>
    intro i hi he
    have hil : i < s.trail.length := by omega
    have hil' : (i : Int) < s.trail.length := by omega
    have hw : IntKind.i64.wrap ((i : Int) + 1) = ((i + 1 : Nat) : Int) := wrap_succ (by omega)
    refine lp hρ hE hcon fun K hK => ?_
    by_cases hb : s.trail[i].old.type.size ≤ 20
    · have hb' : ((s.trail[i].old.type.size : Nat) : Int) ≤ 20 := by omega
      simp [S_law16_few_l1, S_law16_few_r0, S_law16_few_r1, S_law16_few_r2, S_law16_few_r3, S_law16_few_r4, S_law16_few_r5, S_law16_few_r6, S_law16_few_b0, S_law16_few_r7, S_law16_few_b1, S_law16_few_r8, S_law16_few_r9, S_law16_few_r10, S_law16_few_r11, S_law16_few_b2, S_law16_few_r12, S_law16_few_b3, S_law16_few_r13, S_law16_few, hE, hil', hil, hc, hb, hb', hw, -Int.natCast_add]
      exact hK _ _ (LsN_less (Less.keep 1 (by simp [-Int.natCast_add]) (by simp) rfl rfl) (ih (i + 1) (by omega) (forall_take_succ hil he hb)))
    · have hb' : ¬ ((s.trail[i].old.type.size : Nat) : Int) ≤ 20 := by omega
      simp [S_law16_few_l1, S_law16_few_r0, S_law16_few_r1, S_law16_few_r2, S_law16_few_r3, S_law16_few_r4, S_law16_few_r5, S_law16_few_r6, S_law16_few_b0, S_law16_few_r7, S_law16_few_b1, S_law16_few_r8, S_law16_few_r9, S_law16_few_r10, S_law16_few_r11, S_law16_few_b2, S_law16_few_r12, S_law16_few_b3, S_law16_few_r13, S_law16_few, hE, hil', hil, hc, hb, hb']
      exact LessQ.mk (Less.keep 0 (by simp) (by simp) rfl rfl) (hf fun h => hb (h _ (List.getElem_mem hil)))
theorem law16_few_run (hc : E.con 12 = fnS (spec2 fun (t : Ty) (n : Int) => if -1000000 ≤ n ∧ n ≤ 999999 then some (decide ((t.size : Int) ≤ n)) else none)) {s : Store} (hs : HS) : CallOk ρ Try.prog 29 [enc s] hs (enc (decide s.few)) hs := by
  refine fn hρ hE hcon Try.func29 BS_law16_few rfl (by simp) ?_ hs
  by_cases h1 : s.slots.length ≤ 6
  · by_cases h2 : s.trail.length ≤ 6
    · simp [S_law16_few_r0, S_law16_few_r1, S_law16_few_r2, S_law16_few_r3, S_law16_few_r4, S_law16_few_r5, S_law16_few_r6, S_law16_few_b0, S_law16_few_r7, S_law16_few_b1, S_law16_few_r8, S_law16_few_r9, S_law16_few_r10, S_law16_few_r11, S_law16_few_b2, S_law16_few_r12, S_law16_few_b3, S_law16_few_r13, S_law16_few, hE, show ¬ (6 < (s.slots.length : Int)) by omega, show ¬ (6 < (s.trail.length : Int)) by omega]
      refine Ls_lessQ (Ls_loop (LsN_less (Less.keep (TL := [(1, .ptr 0 0 0), (3, .int .i64 ((0 : Nat) : Int))]) (HL := [(0, box (encStore s))]) 1 (by simp) (by simp) rfl rfl) (law16_few_loop0 hρ hE hcon hc h1 ?_ ?_ s.slots.length 0 (by omega) (by simp))))
      · intro h3
        simp [S_law16_few_r0, S_law16_few_r1, S_law16_few_r2, S_law16_few_r3, S_law16_few_r4, S_law16_few_r5, S_law16_few_r6, S_law16_few_b0, S_law16_few_r7, S_law16_few_b1, S_law16_few_r8, S_law16_few_r9, S_law16_few_r10, S_law16_few_r11, S_law16_few_b2, S_law16_few_r12, S_law16_few_b3, S_law16_few_r13, S_law16_few, hE, Store.few, h1, h2, h3]
      · intro h3
        simp [S_law16_few_r0, S_law16_few_r1, S_law16_few_r2, S_law16_few_r3, S_law16_few_r4, S_law16_few_r5, S_law16_few_r6, S_law16_few_b0, S_law16_few_r7, S_law16_few_b1, S_law16_few_r8, S_law16_few_r9, S_law16_few_r10, S_law16_few_r11, S_law16_few_b2, S_law16_few_r12, S_law16_few_b3, S_law16_few_r13, S_law16_few, hE]
        refine Ls_lessQ (Ls_loop (LsN_less (Less.keep (TL := [(1, .ptr 0 0 0), (4, .int .i64 ((0 : Nat) : Int))]) (HL := [(0, box (encStore s))]) 1 (by simp) (by simp) rfl rfl) (law16_few_loop1 hρ hE hcon hc h2 ?_ ?_ s.trail.length 0 (by omega) (by simp))))
        · intro h4
          simp [S_law16_few_r0, S_law16_few_r1, S_law16_few_r2, S_law16_few_r3, S_law16_few_r4, S_law16_few_r5, S_law16_few_r6, S_law16_few_b0, S_law16_few_r7, S_law16_few_b1, S_law16_few_r8, S_law16_few_r9, S_law16_few_r10, S_law16_few_r11, S_law16_few_b2, S_law16_few_r12, S_law16_few_b3, S_law16_few_r13, S_law16_few, hE, Store.few, h1, h2, h3, h4]
        · intro h4
          simp [S_law16_few_r0, S_law16_few_r1, S_law16_few_r2, S_law16_few_r3, S_law16_few_r4, S_law16_few_r5, S_law16_few_r6, S_law16_few_b0, S_law16_few_r7, S_law16_few_b1, S_law16_few_r8, S_law16_few_r9, S_law16_few_r10, S_law16_few_r11, S_law16_few_b2, S_law16_few_r12, S_law16_few_b3, S_law16_few_r13, S_law16_few, hE, Store.few, h1, h2, h3, h4]
          exact ⟨h3, h4⟩
    · simp [S_law16_few_r0, S_law16_few_r1, S_law16_few_r2, S_law16_few_r3, S_law16_few_r4, S_law16_few_r5, S_law16_few_r6, S_law16_few_b0, S_law16_few_r7, S_law16_few_b1, S_law16_few_r8, S_law16_few_r9, S_law16_few_r10, S_law16_few_r11, S_law16_few_b2, S_law16_few_r12, S_law16_few_b3, S_law16_few_r13, S_law16_few, hE, Store.few, h1, h2, show ¬ (6 < (s.slots.length : Int)) by omega, show (6 < (s.trail.length : Int)) by omega]
  · simp [S_law16_few_r0, S_law16_few_r1, S_law16_few_r2, S_law16_few_r3, S_law16_few_r4, S_law16_few_r5, S_law16_few_r6, S_law16_few_b0, S_law16_few_r7, S_law16_few_b1, S_law16_few_r8, S_law16_few_r9, S_law16_few_r10, S_law16_few_r11, S_law16_few_b2, S_law16_few_r12, S_law16_few_b3, S_law16_few_r13, S_law16_few, hE, Store.few, h1, show (6 < (s.slots.length : Int)) by omega]
end
end Go.Proofs.Ythfcfmkdeheicaa
