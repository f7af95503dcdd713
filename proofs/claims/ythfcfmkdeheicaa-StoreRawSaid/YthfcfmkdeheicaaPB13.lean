import Derived.Test.YthfcfmkdeheicaaPB12
set_option linter.all false
set_option linter.all false
namespace Go.Proofs.Ythfcfmkdeheicaa
open Go.J
open Go.J.Enc (enc)
set_option maxRecDepth 100000
set_option maxHeartbeats 4000000
section
variable {ρ : Nat → Value} (hρ : J.Good ρ) {E : Env} (hE : E.P = Try.prog) (hcon : ConsOk ρ E)
include hρ hE hcon
theorem ref16_Valid_loop0 {s : Store} (h1 : s.trail.length ≤ 1000) {Q : Ex → PT V → HS → Prop}
    (hf : (¬ ∀ c ∈ s.trail, 0 ≤ c.id ∧ c.id < s.slots.length) → Q .ret (mkP [(2, .bool false)]) { H := mkP [], n := 0, log := [] })
    (hq : (∀ c ∈ s.trail, 0 ≤ c.id ∧ c.id < s.slots.length) → Q (.exit 0) (mkP [(1, .ptr 0 0 0)]) { H := mkP [(0, box (encStore s))], n := 1, log := [] }) :
    ∀ (n i : Nat), i + n = s.trail.length → (∀ c ∈ s.trail.take i, 0 ≤ c.id ∧ c.id < s.slots.length) → LsN ρ E 0 92 S_ref16_Valid_l0 (LessQ 0 Q) (n + 1) (mkP [(1, .ptr 0 0 0), (3, .int .i64 (i : Int))]) { H := mkP [(0, box (encStore s))], n := 1, log := [] } := by
  intro n
  induction n with
  | zero =>
    intro i hi he
    have hil : ¬ (i : Int) < s.trail.length := by omega
    refine lp hρ hE hcon fun K hK => ?_
    simp [S_ref16_Valid_l0, S_ref16_Valid_r0, S_ref16_Valid_r1, S_ref16_Valid_r2, S_ref16_Valid_r3, S_ref16_Valid_r4, S_ref16_Valid_b0, S_ref16_Valid_r5, S_ref16_Valid_b1, S_ref16_Valid_r6, S_ref16_Valid_r7, S_ref16_Valid_r8, S_ref16_Valid_r9, S_ref16_Valid_r10, S_ref16_Valid_r11, S_ref16_Valid_r12, S_ref16_Valid_r13, S_ref16_Valid_r14, S_ref16_Valid_r15, S_ref16_Valid_r16, S_ref16_Valid_r17, S_ref16_Valid_r18, S_ref16_Valid_b2, S_ref16_Valid_r19, S_ref16_Valid_b3, S_ref16_Valid_b4, S_ref16_Valid_r20, S_ref16_Valid_b5, S_ref16_Valid_r21, S_ref16_Valid_r22, S_ref16_Valid_r23, S_ref16_Valid_r24, S_ref16_Valid_b6, S_ref16_Valid_r25, S_ref16_Valid_b7, S_ref16_Valid_r26, S_ref16_Valid, hE, hil]
    exact LessQ.mk (Less.keep 1 (by simp) (by simp) rfl rfl) (hq (forall_take_all (by omega) he))
  | succ n ih =>
    intro i hi he
    have hil : i < s.trail.length := by omega
    have hil' : (i : Int) < s.trail.length := by omega
    have hw : IntKind.i64.wrap ((i : Int) + 1) = ((i + 1 : Nat) : Int) := wrap_succ (by omega)
    refine lp hρ hE hcon fun K hK => ?_
    by_cases hb0 : s.trail[i].id < 0
    · simp [S_ref16_Valid_l0, S_ref16_Valid_r0, S_ref16_Valid_r1, S_ref16_Valid_r2, S_ref16_Valid_r3, S_ref16_Valid_r4, S_ref16_Valid_b0, S_ref16_Valid_r5, S_ref16_Valid_b1, S_ref16_Valid_r6, S_ref16_Valid_r7, S_ref16_Valid_r8, S_ref16_Valid_r9, S_ref16_Valid_r10, S_ref16_Valid_r11, S_ref16_Valid_r12, S_ref16_Valid_r13, S_ref16_Valid_r14, S_ref16_Valid_r15, S_ref16_Valid_r16, S_ref16_Valid_r17, S_ref16_Valid_r18, S_ref16_Valid_b2, S_ref16_Valid_r19, S_ref16_Valid_b3, S_ref16_Valid_b4, S_ref16_Valid_r20, S_ref16_Valid_b5, S_ref16_Valid_r21, S_ref16_Valid_r22, S_ref16_Valid_r23, S_ref16_Valid_r24, S_ref16_Valid_b6, S_ref16_Valid_r25, S_ref16_Valid_b7, S_ref16_Valid_r26, S_ref16_Valid, hE, hil', hil, hb0]
      exact LessQ.mk (Less.keep 0 (by simp) (by simp) rfl rfl) (hf fun h => by have := h _ (List.getElem_mem hil); omega)
    · by_cases hb : s.trail[i].id < s.slots.length
      · have hb' : ¬ ((s.slots.length : Int) ≤ s.trail[i].id) := by omega
        simp [S_ref16_Valid_l0, S_ref16_Valid_r0, S_ref16_Valid_r1, S_ref16_Valid_r2, S_ref16_Valid_r3, S_ref16_Valid_r4, S_ref16_Valid_b0, S_ref16_Valid_r5, S_ref16_Valid_b1, S_ref16_Valid_r6, S_ref16_Valid_r7, S_ref16_Valid_r8, S_ref16_Valid_r9, S_ref16_Valid_r10, S_ref16_Valid_r11, S_ref16_Valid_r12, S_ref16_Valid_r13, S_ref16_Valid_r14, S_ref16_Valid_r15, S_ref16_Valid_r16, S_ref16_Valid_r17, S_ref16_Valid_r18, S_ref16_Valid_b2, S_ref16_Valid_r19, S_ref16_Valid_b3, S_ref16_Valid_b4, S_ref16_Valid_r20, S_ref16_Valid_b5, S_ref16_Valid_r21, S_ref16_Valid_r22, S_ref16_Valid_r23, S_ref16_Valid_r24, S_ref16_Valid_b6, S_ref16_Valid_r25, S_ref16_Valid_b7, S_ref16_Valid_r26, S_ref16_Valid, hE, hil', hil, hb0, hb, hb', hw, -Int.natCast_add]
        exact hK _ _ (LsN_less (Less.keep 1 (by simp [-Int.natCast_add]) (by simp) rfl rfl) (ih (i + 1) (by omega) (forall_take_succ hil he ⟨by omega, hb⟩)))
      · have hb' : ((s.slots.length : Int) ≤ s.trail[i].id) := by omega
        simp [S_ref16_Valid_l0, S_ref16_Valid_r0, S_ref16_Valid_r1, S_ref16_Valid_r2, S_ref16_Valid_r3, S_ref16_Valid_r4, S_ref16_Valid_b0, S_ref16_Valid_r5, S_ref16_Valid_b1, S_ref16_Valid_r6, S_ref16_Valid_r7, S_ref16_Valid_r8, S_ref16_Valid_r9, S_ref16_Valid_r10, S_ref16_Valid_r11, S_ref16_Valid_r12, S_ref16_Valid_r13, S_ref16_Valid_r14, S_ref16_Valid_r15, S_ref16_Valid_r16, S_ref16_Valid_r17, S_ref16_Valid_r18, S_ref16_Valid_b2, S_ref16_Valid_r19, S_ref16_Valid_b3, S_ref16_Valid_b4, S_ref16_Valid_r20, S_ref16_Valid_b5, S_ref16_Valid_r21, S_ref16_Valid_r22, S_ref16_Valid_r23, S_ref16_Valid_r24, S_ref16_Valid_b6, S_ref16_Valid_r25, S_ref16_Valid_b7, S_ref16_Valid_r26, S_ref16_Valid, hE, hil', hil, hb0, hb']
        exact LessQ.mk (Less.keep 0 (by simp) (by simp) rfl rfl) (hf fun h => by have := h _ (List.getElem_mem hil); omega)
theorem ref16_Valid_loop1 {s : Store} {L : List Int} (hl : L.length ≤ 10000) {Q : Ex → PT V → HS → Prop} {i4 : Int}
    (hf : (¬ ∀ v ∈ L, v < s.slots.length) → Q .ret (mkP [(2, .bool false)]) { H := mkP [], n := 0, log := [] })
    (hq : (∀ v ∈ L, v < s.slots.length) → Q (.exit 4) (mkP [(1, .ptr 0 0 0), (4, .int .i64 i4)]) { H := mkP [(0, box (encStore s))], n := 1, log := [] }) :
    ∀ (n i : Nat), i + n = L.length → (∀ v ∈ L.take i, v < s.slots.length) → LsN ρ E 0 92 S_ref16_Valid_l1 (LessQ 0 Q) (n + 1) (mkP [(1, .ptr 0 0 0), (4, .int .i64 i4), (6, .sl (L.map encI) false), (7, .int .i64 (i : Int))]) { H := mkP [(0, box (encStore s))], n := 1, log := [] } := by
  intro n
  induction n with
  | zero =>
    intro i hi he
    have hil : ¬ (i : Int) < L.length := by omega
    refine lp hρ hE hcon fun K hK => ?_
    simp [S_ref16_Valid_l1, S_ref16_Valid_r0, S_ref16_Valid_r1, S_ref16_Valid_r2, S_ref16_Valid_r3, S_ref16_Valid_r4, S_ref16_Valid_b0, S_ref16_Valid_r5, S_ref16_Valid_b1, S_ref16_Valid_r6, S_ref16_Valid_r7, S_ref16_Valid_r8, S_ref16_Valid_r9, S_ref16_Valid_r10, S_ref16_Valid_r11, S_ref16_Valid_r12, S_ref16_Valid_r13, S_ref16_Valid_r14, S_ref16_Valid_r15, S_ref16_Valid_r16, S_ref16_Valid_r17, S_ref16_Valid_r18, S_ref16_Valid_b2, S_ref16_Valid_r19, S_ref16_Valid_b3, S_ref16_Valid_b4, S_ref16_Valid_r20, S_ref16_Valid_b5, S_ref16_Valid_r21, S_ref16_Valid_r22, S_ref16_Valid_r23, S_ref16_Valid_r24, S_ref16_Valid_b6, S_ref16_Valid_r25, S_ref16_Valid_b7, S_ref16_Valid_r26, S_ref16_Valid, hE, hil]
    exact LessQ.mk (Less.keep 1 (by simp) (by simp) rfl rfl) (hq (forall_take_all (by omega) he))
  | succ n ih =>
    intro i hi he
    have hil : i < L.length := by omega
    have hil' : (i : Int) < L.length := by omega
    have hw : IntKind.i64.wrap ((i : Int) + 1) = ((i + 1 : Nat) : Int) := wrap_succ (by omega)
    refine lp hρ hE hcon fun K hK => ?_
    by_cases hb : L[i] < s.slots.length
    · have hb' : ¬ ((s.slots.length : Int) ≤ L[i]) := by omega
      simp [S_ref16_Valid_l1, S_ref16_Valid_r0, S_ref16_Valid_r1, S_ref16_Valid_r2, S_ref16_Valid_r3, S_ref16_Valid_r4, S_ref16_Valid_b0, S_ref16_Valid_r5, S_ref16_Valid_b1, S_ref16_Valid_r6, S_ref16_Valid_r7, S_ref16_Valid_r8, S_ref16_Valid_r9, S_ref16_Valid_r10, S_ref16_Valid_r11, S_ref16_Valid_r12, S_ref16_Valid_r13, S_ref16_Valid_r14, S_ref16_Valid_r15, S_ref16_Valid_r16, S_ref16_Valid_r17, S_ref16_Valid_r18, S_ref16_Valid_b2, S_ref16_Valid_r19, S_ref16_Valid_b3, S_ref16_Valid_b4, S_ref16_Valid_r20, S_ref16_Valid_b5, S_ref16_Valid_r21, S_ref16_Valid_r22, S_ref16_Valid_r23, S_ref16_Valid_r24, S_ref16_Valid_b6, S_ref16_Valid_r25, S_ref16_Valid_b7, S_ref16_Valid_r26, S_ref16_Valid, hE, hil', hil, hb, hb', hw, -Int.natCast_add]
      exact hK _ _ (LsN_less (Less.keep 1 (by simp [-Int.natCast_add]) (by simp) rfl rfl) (ih (i + 1) (by omega) (forall_take_succ hil he hb)))
    · have hb' : ((s.slots.length : Int) ≤ L[i]) := by omega
      simp [S_ref16_Valid_l1, S_ref16_Valid_r0, S_ref16_Valid_r1, S_ref16_Valid_r2, S_ref16_Valid_r3, S_ref16_Valid_r4, S_ref16_Valid_b0, S_ref16_Valid_r5, S_ref16_Valid_b1, S_ref16_Valid_r6, S_ref16_Valid_r7, S_ref16_Valid_r8, S_ref16_Valid_r9, S_ref16_Valid_r10, S_ref16_Valid_r11, S_ref16_Valid_r12, S_ref16_Valid_r13, S_ref16_Valid_r14, S_ref16_Valid_r15, S_ref16_Valid_r16, S_ref16_Valid_r17, S_ref16_Valid_r18, S_ref16_Valid_b2, S_ref16_Valid_r19, S_ref16_Valid_b3, S_ref16_Valid_b4, S_ref16_Valid_r20, S_ref16_Valid_b5, S_ref16_Valid_r21, S_ref16_Valid_r22, S_ref16_Valid_r23, S_ref16_Valid_r24, S_ref16_Valid_b6, S_ref16_Valid_r25, S_ref16_Valid_b7, S_ref16_Valid_r26, S_ref16_Valid, hE, hil', hil, hb']
      exact LessQ.mk (Less.keep 0 (by simp) (by simp) rfl rfl) (hf fun h => hb (h _ (List.getElem_mem hil)))
theorem ref16_Valid_loop2 (hEq : E.con 19 = fnS (spec2 fun a b : Ty => if a.ok = true then some (decide (a = b)) else none)) (hVa : E.con 57 = fnS (spec1 fun t : Ty => if t.size ≤ 10000 ∧ t.short = true then some t.valid else none))
    (hV : E.con 46 = fnS (spec1 fun l : List Ty => if Ty.oks l = true ∧ l.length ≤ 10000 ∧ Ty.sizes l ≤ 10000 then some (varsM l) else none))
    {s : Store} (hfi : s.fine) {Q : Ex → PT V → HS → Prop}
    (hf : (¬ ∀ x ∈ s.slots, s.slotOk x) → Q .ret (mkP [(2, .bool false)]) { H := mkP [], n := 0, log := [] })
    (hq : (∀ x ∈ s.slots, s.slotOk x) → Q (.exit 2) (mkP [(1, .ptr 0 0 0)]) { H := mkP [(0, box (encStore s))], n := 1, log := [] }) :
    ∀ (n i : Nat), i + n = s.slots.length → (∀ x ∈ s.slots.take i, s.slotOk x) → LsN ρ E 0 92 S_ref16_Valid_l2 (LessQ 0 Q) (n + 1) (mkP [(1, .ptr 0 0 0), (4, .int .i64 (i : Int))]) { H := mkP [(0, box (encStore s))], n := 1, log := [] } := by
  intro n
  induction n with
  | zero =>
    intro i hi he
    have hil : ¬ (i : Int) < s.slots.length := by omega
    refine lp hρ hE hcon fun K hK => ?_
    simp [S_ref16_Valid_l2, S_ref16_Valid_r0, S_ref16_Valid_r1, S_ref16_Valid_r2, S_ref16_Valid_r3, S_ref16_Valid_r4, S_ref16_Valid_b0, S_ref16_Valid_r5, S_ref16_Valid_b1, S_ref16_Valid_r6, S_ref16_Valid_r7, S_ref16_Valid_r8, S_ref16_Valid_r9, S_ref16_Valid_r10, S_ref16_Valid_r11, S_ref16_Valid_r12, S_ref16_Valid_r13, S_ref16_Valid_r14, S_ref16_Valid_r15, S_ref16_Valid_r16, S_ref16_Valid_r17, S_ref16_Valid_r18, S_ref16_Valid_b2, S_ref16_Valid_r19, S_ref16_Valid_b3, S_ref16_Valid_b4, S_ref16_Valid_r20, S_ref16_Valid_b5, S_ref16_Valid_r21, S_ref16_Valid_r22, S_ref16_Valid_r23, S_ref16_Valid_r24, S_ref16_Valid_b6, S_ref16_Valid_r25, S_ref16_Valid_b7, S_ref16_Valid_r26, S_ref16_Valid, hE, hil]
    exact LessQ.mk (Less.keep 1 (by simp) (by simp) rfl rfl) (hq (forall_take_all (by omega) he))
  | succ n ih =>
    intro i hi he
    have hil : i < s.slots.length := by omega
    have hil' : (i : Int) < s.slots.length := by omega
    have hfl := hfi.1
    have hw : IntKind.i64.wrap ((i : Int) + 1) = ((i + 1 : Nat) : Int) := wrap_succ (by omega)
    have hm := List.getElem_mem hil
    obtain ⟨g1, g2, g3⟩ := hfi.2.2 _ hm
    have hnx := fun h => ih (i + 1) (by omega) (forall_take_succ hil he h)
    have hno : ¬ s.slotOk s.slots[i] → ¬ ∀ x ∈ s.slots, s.slotOk x := fun h hh => h (hh _ hm)
    generalize hx : s.slots[i] = x at g1 g2 g3 hnx hno
    obtain ⟨b, t, ho, ba⟩ := x
    simp only at g1 g2 g3
    refine lp hρ hE hcon fun K hK => ?_
    cases b with
    | false =>
      by_cases ht : t = ty0
      · have hok : s.slotOk ⟨false, t, ho, ba⟩ := by simp [Store.slotOk, ht]
        replace hnx := hnx hok
        obtain rfl : t = Ty.mk 0 [] 0 0 [] := ht
        simp [S_ref16_Valid_l2, S_ref16_Valid_r0, S_ref16_Valid_r1, S_ref16_Valid_r2, S_ref16_Valid_r3, S_ref16_Valid_r4, S_ref16_Valid_b0, S_ref16_Valid_r5, S_ref16_Valid_b1, S_ref16_Valid_r6, S_ref16_Valid_r7, S_ref16_Valid_r8, S_ref16_Valid_r9, S_ref16_Valid_r10, S_ref16_Valid_r11, S_ref16_Valid_r12, S_ref16_Valid_r13, S_ref16_Valid_r14, S_ref16_Valid_r15, S_ref16_Valid_r16, S_ref16_Valid_r17, S_ref16_Valid_r18, S_ref16_Valid_b2, S_ref16_Valid_r19, S_ref16_Valid_b3, S_ref16_Valid_b4, S_ref16_Valid_r20, S_ref16_Valid_b5, S_ref16_Valid_r21, S_ref16_Valid_r22, S_ref16_Valid_r23, S_ref16_Valid_r24, S_ref16_Valid_b6, S_ref16_Valid_r25, S_ref16_Valid_b7, S_ref16_Valid_r26, S_ref16_Valid, hE, hil', hil, hx, hEq, g1, hw, -Int.natCast_add]
        exact hK _ _ (LsN_less (Less.keep 1 (by simp [-Int.natCast_add]) (by simp) rfl rfl) hnx)
      · have hok : ¬ s.slotOk ⟨false, t, ho, ba⟩ := by simp [Store.slotOk, ht]
        have ht' : ¬ t = Ty.mk 0 [] 0 0 [] := ht
        simp [S_ref16_Valid_l2, S_ref16_Valid_r0, S_ref16_Valid_r1, S_ref16_Valid_r2, S_ref16_Valid_r3, S_ref16_Valid_r4, S_ref16_Valid_b0, S_ref16_Valid_r5, S_ref16_Valid_b1, S_ref16_Valid_r6, S_ref16_Valid_r7, S_ref16_Valid_r8, S_ref16_Valid_r9, S_ref16_Valid_r10, S_ref16_Valid_r11, S_ref16_Valid_r12, S_ref16_Valid_r13, S_ref16_Valid_r14, S_ref16_Valid_r15, S_ref16_Valid_r16, S_ref16_Valid_r17, S_ref16_Valid_r18, S_ref16_Valid_b2, S_ref16_Valid_r19, S_ref16_Valid_b3, S_ref16_Valid_b4, S_ref16_Valid_r20, S_ref16_Valid_b5, S_ref16_Valid_r21, S_ref16_Valid_r22, S_ref16_Valid_r23, S_ref16_Valid_r24, S_ref16_Valid_b6, S_ref16_Valid_r25, S_ref16_Valid_b7, S_ref16_Valid_r26, S_ref16_Valid, hE, hil', hil, hx, hEq, g1, ht']
        exact LessQ.mk (Less.keep 0 (by simp) (by simp) rfl rfl) (hf (hno hok))
    | true =>
      by_cases hv : t.valid = true
      · have hoks : Ty.oks [t] = true := by simp [Ty.oks, g1]
        have hszs : Ty.sizes [t] ≤ 10000 := by simp [Ty.sizes]; exact g3
        have hlen : (varsM [t]).length ≤ 10000 := by
          have e1 := idsOf_len (leavesL 1 [t] [])
          have e2 := (leavesL_len 1 [t] []).2
          simp at e2
          unfold varsM; omega
        have hok : s.slotOk ⟨true, t, ho, ba⟩ ↔ ∀ v ∈ varsM [t], v < s.slots.length := by simp [Store.slotOk, hv]
        generalize hL : varsM [t] = L at hok hlen
        simp [S_ref16_Valid_l2, S_ref16_Valid_r0, S_ref16_Valid_r1, S_ref16_Valid_r2, S_ref16_Valid_r3, S_ref16_Valid_r4, S_ref16_Valid_b0, S_ref16_Valid_r5, S_ref16_Valid_b1, S_ref16_Valid_r6, S_ref16_Valid_r7, S_ref16_Valid_r8, S_ref16_Valid_r9, S_ref16_Valid_r10, S_ref16_Valid_r11, S_ref16_Valid_r12, S_ref16_Valid_r13, S_ref16_Valid_r14, S_ref16_Valid_r15, S_ref16_Valid_r16, S_ref16_Valid_r17, S_ref16_Valid_r18, S_ref16_Valid_b2, S_ref16_Valid_r19, S_ref16_Valid_b3, S_ref16_Valid_b4, S_ref16_Valid_r20, S_ref16_Valid_b5, S_ref16_Valid_r21, S_ref16_Valid_r22, S_ref16_Valid_r23, S_ref16_Valid_r24, S_ref16_Valid_b6, S_ref16_Valid_r25, S_ref16_Valid_b7, S_ref16_Valid_r26, S_ref16_Valid, hE, hil', hil, hx, hVa, g1, g2, g3, hv, hV, hoks, hszs, hL]
        refine Ls_lessQ (Ls_loop (LsN_less (Less.keep (TL := [(1, .ptr 0 0 0), (4, .int .i64 (i : Int)), (6, .sl (L.map encI) false), (7, .int .i64 ((0 : Nat) : Int))]) (HL := [(0, box (encStore s))]) 1 (by simp) (by simp) rfl rfl)
          (ref16_Valid_loop1 hρ hE hcon hlen ?_ ?_ L.length 0 (by omega) (by simp))))
        · intro h
          simp [S_ref16_Valid_r0, S_ref16_Valid_r1, S_ref16_Valid_r2, S_ref16_Valid_r3, S_ref16_Valid_r4, S_ref16_Valid_b0, S_ref16_Valid_r5, S_ref16_Valid_b1, S_ref16_Valid_r6, S_ref16_Valid_r7, S_ref16_Valid_r8, S_ref16_Valid_r9, S_ref16_Valid_r10, S_ref16_Valid_r11, S_ref16_Valid_r12, S_ref16_Valid_r13, S_ref16_Valid_r14, S_ref16_Valid_r15, S_ref16_Valid_r16, S_ref16_Valid_r17, S_ref16_Valid_r18, S_ref16_Valid_b2, S_ref16_Valid_r19, S_ref16_Valid_b3, S_ref16_Valid_b4, S_ref16_Valid_r20, S_ref16_Valid_b5, S_ref16_Valid_r21, S_ref16_Valid_r22, S_ref16_Valid_r23, S_ref16_Valid_r24, S_ref16_Valid_b6, S_ref16_Valid_r25, S_ref16_Valid_b7, S_ref16_Valid_r26, S_ref16_Valid, hE]
          exact LessQ.mk (Less.keep 0 (by simp) (by simp) rfl rfl) (hf (hno fun e => h (hok.1 e)))
        · intro h
          simp [S_ref16_Valid_r0, S_ref16_Valid_r1, S_ref16_Valid_r2, S_ref16_Valid_r3, S_ref16_Valid_r4, S_ref16_Valid_b0, S_ref16_Valid_r5, S_ref16_Valid_b1, S_ref16_Valid_r6, S_ref16_Valid_r7, S_ref16_Valid_r8, S_ref16_Valid_r9, S_ref16_Valid_r10, S_ref16_Valid_r11, S_ref16_Valid_r12, S_ref16_Valid_r13, S_ref16_Valid_r14, S_ref16_Valid_r15, S_ref16_Valid_r16, S_ref16_Valid_r17, S_ref16_Valid_r18, S_ref16_Valid_b2, S_ref16_Valid_r19, S_ref16_Valid_b3, S_ref16_Valid_b4, S_ref16_Valid_r20, S_ref16_Valid_b5, S_ref16_Valid_r21, S_ref16_Valid_r22, S_ref16_Valid_r23, S_ref16_Valid_r24, S_ref16_Valid_b6, S_ref16_Valid_r25, S_ref16_Valid_b7, S_ref16_Valid_r26, S_ref16_Valid, hE, hw, -Int.natCast_add]
          exact hK _ _ (LsN_less (Less.keep 1 (by simp [-Int.natCast_add]) (by simp) rfl rfl) (hnx (hok.2 h)))
      · have hok : ¬ s.slotOk ⟨true, t, ho, ba⟩ := by simp [Store.slotOk, hv]
        simp [S_ref16_Valid_l2, S_ref16_Valid_r0, S_ref16_Valid_r1, S_ref16_Valid_r2, S_ref16_Valid_r3, S_ref16_Valid_r4, S_ref16_Valid_b0, S_ref16_Valid_r5, S_ref16_Valid_b1, S_ref16_Valid_r6, S_ref16_Valid_r7, S_ref16_Valid_r8, S_ref16_Valid_r9, S_ref16_Valid_r10, S_ref16_Valid_r11, S_ref16_Valid_r12, S_ref16_Valid_r13, S_ref16_Valid_r14, S_ref16_Valid_r15, S_ref16_Valid_r16, S_ref16_Valid_r17, S_ref16_Valid_r18, S_ref16_Valid_b2, S_ref16_Valid_r19, S_ref16_Valid_b3, S_ref16_Valid_b4, S_ref16_Valid_r20, S_ref16_Valid_b5, S_ref16_Valid_r21, S_ref16_Valid_r22, S_ref16_Valid_r23, S_ref16_Valid_r24, S_ref16_Valid_b6, S_ref16_Valid_r25, S_ref16_Valid_b7, S_ref16_Valid_r26, S_ref16_Valid, hE, hil', hil, hx, hVa, g1, g2, g3, hv]
        exact LessQ.mk (Less.keep 0 (by simp) (by simp) rfl rfl) (hf (hno hok))
theorem ref16_Valid_loop3 (hcy : E.con 71 = mtS 2 1 (mtF3 fun S s i fr => cycF (s.slots.length + 1) S s i fr))
    {s : Store} (hcl : s.closed) {Q : Ex → PT V → HS → Prop}
    (hf : (¬ ∀ i ∈ List.range s.slots.length, s.cyc i = false) → Q .ret (mkP [(2, .bool false)]) { H := mkP [], n := 0, log := [] })
    (hq : (∀ i ∈ List.range s.slots.length, s.cyc i = false) → Q (.exit 6) (mkP []) { H := mkP [], n := 0, log := [] }) :
    ∀ (n i : Nat), i + n = s.slots.length → (∀ k ∈ List.range i, s.cyc k = false) → LsN ρ E 0 92 S_ref16_Valid_l3 (LessQ 0 Q) (n + 1) (mkP [(1, .ptr 0 0 0), (8, .int .i64 (i : Int))]) { H := mkP [(0, box (encStore s))], n := 1, log := [] } := by
  intro n
  induction n with
  | zero =>
    intro i hi he
    have hil : ¬ (i : Int) < s.slots.length := by omega
    obtain rfl : i = s.slots.length := by omega
    refine lp hρ hE hcon fun K hK => ?_
    simp [S_ref16_Valid_l3, S_ref16_Valid_r0, S_ref16_Valid_r1, S_ref16_Valid_r2, S_ref16_Valid_r3, S_ref16_Valid_r4, S_ref16_Valid_b0, S_ref16_Valid_r5, S_ref16_Valid_b1, S_ref16_Valid_r6, S_ref16_Valid_r7, S_ref16_Valid_r8, S_ref16_Valid_r9, S_ref16_Valid_r10, S_ref16_Valid_r11, S_ref16_Valid_r12, S_ref16_Valid_r13, S_ref16_Valid_r14, S_ref16_Valid_r15, S_ref16_Valid_r16, S_ref16_Valid_r17, S_ref16_Valid_r18, S_ref16_Valid_b2, S_ref16_Valid_r19, S_ref16_Valid_b3, S_ref16_Valid_b4, S_ref16_Valid_r20, S_ref16_Valid_b5, S_ref16_Valid_r21, S_ref16_Valid_r22, S_ref16_Valid_r23, S_ref16_Valid_r24, S_ref16_Valid_b6, S_ref16_Valid_r25, S_ref16_Valid_b7, S_ref16_Valid_r26, S_ref16_Valid, hE, hil]
    exact LessQ.mk (Less.keep 0 (by simp) (by simp) rfl rfl) (hq he)
  | succ n ih =>
    intro i hi he
    have hil' : (i : Int) < s.slots.length := by omega
    have hll := hcl.1
    have hw : IntKind.i64.wrap ((i : Int) + 1) = ((i + 1 : Nat) : Int) := wrap_succ (by omega)
    have hroom : s.slots.length * 8 ≤ 1048576 := by omega
    have hroom2 : s.slots.length ≤ 1048576 := by omega
    have hF : cycF (s.slots.length + 1) (List.replicate s.slots.length 0) s (i : Int) (i : Int) = some (cycM s i (s.slots.length + 1) i (List.replicate s.slots.length 0)) := by
      unfold cycF
      rw [if_pos ⟨hcl, by simp, by omega, hil', by have := List.count_le_length (a := (0 : Int)) (l := List.replicate s.slots.length 0); simp⟩]
    have hlen := cycM_len s i (s.slots.length + 1) i (List.replicate s.slots.length 0)
    have hcyc : s.cyc i = (cycM s i (s.slots.length + 1) i (List.replicate s.slots.length 0)).2 := rfl
    generalize cycM s i (s.slots.length + 1) i (List.replicate s.slots.length 0) = r at hF hlen hcyc
    obtain ⟨S', b⟩ := r
    have e1 : List.replicate s.slots.length [V.int IntKind.i64 0] = (List.replicate s.slots.length (0 : Int)).map encI := by rw [List.map_replicate]
    refine lp hρ hE hcon fun K hK => ?_
    cases b with
    | true =>
      simp [S_ref16_Valid_l3, S_ref16_Valid_r0, S_ref16_Valid_r1, S_ref16_Valid_r2, S_ref16_Valid_r3, S_ref16_Valid_r4, S_ref16_Valid_b0, S_ref16_Valid_r5, S_ref16_Valid_b1, S_ref16_Valid_r6, S_ref16_Valid_r7, S_ref16_Valid_r8, S_ref16_Valid_r9, S_ref16_Valid_r10, S_ref16_Valid_r11, S_ref16_Valid_r12, S_ref16_Valid_r13, S_ref16_Valid_r14, S_ref16_Valid_r15, S_ref16_Valid_r16, S_ref16_Valid_r17, S_ref16_Valid_r18, S_ref16_Valid_b2, S_ref16_Valid_r19, S_ref16_Valid_b3, S_ref16_Valid_b4, S_ref16_Valid_r20, S_ref16_Valid_b5, S_ref16_Valid_r21, S_ref16_Valid_r22, S_ref16_Valid_r23, S_ref16_Valid_r24, S_ref16_Valid_b6, S_ref16_Valid_r25, S_ref16_Valid_b7, S_ref16_Valid_r26, S_ref16_Valid, hE, hil', hcy, hroom, hroom2, e1, hF, -List.map_replicate]
      refine ⟨rfl, by simpa using hlen.1, ?_⟩
      exact LessQ.mk (Less.keep 0 (by simp) (by simp) rfl rfl) (hf fun h => by have := h i (List.mem_range.2 (by omega)); rw [hcyc] at this; cases this)
    | false =>
      simp [S_ref16_Valid_l3, S_ref16_Valid_r0, S_ref16_Valid_r1, S_ref16_Valid_r2, S_ref16_Valid_r3, S_ref16_Valid_r4, S_ref16_Valid_b0, S_ref16_Valid_r5, S_ref16_Valid_b1, S_ref16_Valid_r6, S_ref16_Valid_r7, S_ref16_Valid_r8, S_ref16_Valid_r9, S_ref16_Valid_r10, S_ref16_Valid_r11, S_ref16_Valid_r12, S_ref16_Valid_r13, S_ref16_Valid_r14, S_ref16_Valid_r15, S_ref16_Valid_r16, S_ref16_Valid_r17, S_ref16_Valid_r18, S_ref16_Valid_b2, S_ref16_Valid_r19, S_ref16_Valid_b3, S_ref16_Valid_b4, S_ref16_Valid_r20, S_ref16_Valid_b5, S_ref16_Valid_r21, S_ref16_Valid_r22, S_ref16_Valid_r23, S_ref16_Valid_r24, S_ref16_Valid_b6, S_ref16_Valid_r25, S_ref16_Valid_b7, S_ref16_Valid_r26, S_ref16_Valid, hE, hil', hcy, hroom, hroom2, e1, hF, hw, -List.map_replicate, -Int.natCast_add]
      refine ⟨rfl, by simpa using hlen.1, ?_⟩
      have hnx : ∀ k ∈ List.range (i + 1), s.cyc k = false := by
        intro k hk
        rcases Nat.lt_succ_iff_lt_or_eq.1 (List.mem_range.1 hk) with h | rfl
        · exact he k (List.mem_range.2 h)
        · exact hcyc
      exact hK _ _ (LsN_less (Less.keep 1 (by simp [-Int.natCast_add]) (by simp) rfl rfl) (ih (i + 1) (by omega) hnx))
theorem ref16_Valid_run (hcy : E.con 71 = mtS 2 1 (mtF3 fun S s i fr => cycF (s.slots.length + 1) S s i fr)) (hEq : E.con 19 = fnS (spec2 fun a b : Ty => if a.ok = true then some (decide (a = b)) else none)) (hVa : E.con 57 = fnS (spec1 fun t : Ty => if t.size ≤ 10000 ∧ t.short = true then some t.valid else none))
    (hV : E.con 46 = fnS (spec1 fun l : List Ty => if Ty.oks l = true ∧ l.length ≤ 10000 ∧ Ty.sizes l ≤ 10000 then some (varsM l) else none))
    {s : Store} (hfi : s.fine) (hs : HS) : CallOk ρ Try.prog 30 [enc s] hs (enc s.valid) hs := by
  refine fn hρ hE hcon Try.func30 BS_ref16_Valid rfl (by simp) ?_ hs
  simp [S_ref16_Valid_r0, S_ref16_Valid_r1, S_ref16_Valid_r2, S_ref16_Valid_r3, S_ref16_Valid_r4, S_ref16_Valid_b0, S_ref16_Valid_r5, S_ref16_Valid_b1, S_ref16_Valid_r6, S_ref16_Valid_r7, S_ref16_Valid_r8, S_ref16_Valid_r9, S_ref16_Valid_r10, S_ref16_Valid_r11, S_ref16_Valid_r12, S_ref16_Valid_r13, S_ref16_Valid_r14, S_ref16_Valid_r15, S_ref16_Valid_r16, S_ref16_Valid_r17, S_ref16_Valid_r18, S_ref16_Valid_b2, S_ref16_Valid_r19, S_ref16_Valid_b3, S_ref16_Valid_b4, S_ref16_Valid_r20, S_ref16_Valid_b5, S_ref16_Valid_r21, S_ref16_Valid_r22, S_ref16_Valid_r23, S_ref16_Valid_r24, S_ref16_Valid_b6, S_ref16_Valid_r25, S_ref16_Valid_b7, S_ref16_Valid_r26, S_ref16_Valid, hE]
  refine Ls_lessQ (Ls_loop (LsN_less (Less.keep (TL := [(1, .ptr 0 0 0), (3, .int .i64 ((0 : Nat) : Int))]) (HL := [(0, box (encStore s))]) 1 (by simp) (by simp) rfl rfl) (ref16_Valid_loop0 hρ hE hcon hfi.2.1 ?_ ?_ s.trail.length 0 (by omega) (by simp))))
  · intro h1
    have e : s.valid = false := by unfold Store.valid; rw [decide_eq_false h1]; rfl
    simp [S_ref16_Valid_r0, S_ref16_Valid_r1, S_ref16_Valid_r2, S_ref16_Valid_r3, S_ref16_Valid_r4, S_ref16_Valid_b0, S_ref16_Valid_r5, S_ref16_Valid_b1, S_ref16_Valid_r6, S_ref16_Valid_r7, S_ref16_Valid_r8, S_ref16_Valid_r9, S_ref16_Valid_r10, S_ref16_Valid_r11, S_ref16_Valid_r12, S_ref16_Valid_r13, S_ref16_Valid_r14, S_ref16_Valid_r15, S_ref16_Valid_r16, S_ref16_Valid_r17, S_ref16_Valid_r18, S_ref16_Valid_b2, S_ref16_Valid_r19, S_ref16_Valid_b3, S_ref16_Valid_b4, S_ref16_Valid_r20, S_ref16_Valid_b5, S_ref16_Valid_r21, S_ref16_Valid_r22, S_ref16_Valid_r23, S_ref16_Valid_r24, S_ref16_Valid_b6, S_ref16_Valid_r25, S_ref16_Valid_b7, S_ref16_Valid_r26, S_ref16_Valid, hE, e]
  intro h1
  simp [S_ref16_Valid_r0, S_ref16_Valid_r1, S_ref16_Valid_r2, S_ref16_Valid_r3, S_ref16_Valid_r4, S_ref16_Valid_b0, S_ref16_Valid_r5, S_ref16_Valid_b1, S_ref16_Valid_r6, S_ref16_Valid_r7, S_ref16_Valid_r8, S_ref16_Valid_r9, S_ref16_Valid_r10, S_ref16_Valid_r11, S_ref16_Valid_r12, S_ref16_Valid_r13, S_ref16_Valid_r14, S_ref16_Valid_r15, S_ref16_Valid_r16, S_ref16_Valid_r17, S_ref16_Valid_r18, S_ref16_Valid_b2, S_ref16_Valid_r19, S_ref16_Valid_b3, S_ref16_Valid_b4, S_ref16_Valid_r20, S_ref16_Valid_b5, S_ref16_Valid_r21, S_ref16_Valid_r22, S_ref16_Valid_r23, S_ref16_Valid_r24, S_ref16_Valid_b6, S_ref16_Valid_r25, S_ref16_Valid_b7, S_ref16_Valid_r26, S_ref16_Valid, hE]
  refine Ls_lessQ (Ls_loop (LsN_less (Less.keep (TL := [(1, .ptr 0 0 0), (4, .int .i64 ((0 : Nat) : Int))]) (HL := [(0, box (encStore s))]) 1 (by simp) (by simp) rfl rfl) (ref16_Valid_loop2 hρ hE hcon hEq hVa hV hfi ?_ ?_ s.slots.length 0 (by omega) (by simp))))
  · intro h2
    have e : s.valid = false := by unfold Store.valid; rw [decide_eq_false h2]; simp
    simp [S_ref16_Valid_r0, S_ref16_Valid_r1, S_ref16_Valid_r2, S_ref16_Valid_r3, S_ref16_Valid_r4, S_ref16_Valid_b0, S_ref16_Valid_r5, S_ref16_Valid_b1, S_ref16_Valid_r6, S_ref16_Valid_r7, S_ref16_Valid_r8, S_ref16_Valid_r9, S_ref16_Valid_r10, S_ref16_Valid_r11, S_ref16_Valid_r12, S_ref16_Valid_r13, S_ref16_Valid_r14, S_ref16_Valid_r15, S_ref16_Valid_r16, S_ref16_Valid_r17, S_ref16_Valid_r18, S_ref16_Valid_b2, S_ref16_Valid_r19, S_ref16_Valid_b3, S_ref16_Valid_b4, S_ref16_Valid_r20, S_ref16_Valid_b5, S_ref16_Valid_r21, S_ref16_Valid_r22, S_ref16_Valid_r23, S_ref16_Valid_r24, S_ref16_Valid_b6, S_ref16_Valid_r25, S_ref16_Valid_b7, S_ref16_Valid_r26, S_ref16_Valid, hE, e]
  intro h2
  simp [S_ref16_Valid_r0, S_ref16_Valid_r1, S_ref16_Valid_r2, S_ref16_Valid_r3, S_ref16_Valid_r4, S_ref16_Valid_b0, S_ref16_Valid_r5, S_ref16_Valid_b1, S_ref16_Valid_r6, S_ref16_Valid_r7, S_ref16_Valid_r8, S_ref16_Valid_r9, S_ref16_Valid_r10, S_ref16_Valid_r11, S_ref16_Valid_r12, S_ref16_Valid_r13, S_ref16_Valid_r14, S_ref16_Valid_r15, S_ref16_Valid_r16, S_ref16_Valid_r17, S_ref16_Valid_r18, S_ref16_Valid_b2, S_ref16_Valid_r19, S_ref16_Valid_b3, S_ref16_Valid_b4, S_ref16_Valid_r20, S_ref16_Valid_b5, S_ref16_Valid_r21, S_ref16_Valid_r22, S_ref16_Valid_r23, S_ref16_Valid_r24, S_ref16_Valid_b6, S_ref16_Valid_r25, S_ref16_Valid_b7, S_ref16_Valid_r26, S_ref16_Valid, hE]
  refine Ls_lessQ (Ls_loop (LsN_less (Less.keep (TL := [(1, .ptr 0 0 0), (8, .int .i64 ((0 : Nat) : Int))]) (HL := [(0, box (encStore s))]) 1 (by simp) (by simp) rfl rfl) (ref16_Valid_loop3 hρ hE hcon hcy (Store.closed_of hfi h2) ?_ ?_ s.slots.length 0 (by omega) (by simp))))
  · intro h3
    have e : s.valid = false := by unfold Store.valid; rw [decide_eq_false h3]; simp
    simp [S_ref16_Valid_r0, S_ref16_Valid_r1, S_ref16_Valid_r2, S_ref16_Valid_r3, S_ref16_Valid_r4, S_ref16_Valid_b0, S_ref16_Valid_r5, S_ref16_Valid_b1, S_ref16_Valid_r6, S_ref16_Valid_r7, S_ref16_Valid_r8, S_ref16_Valid_r9, S_ref16_Valid_r10, S_ref16_Valid_r11, S_ref16_Valid_r12, S_ref16_Valid_r13, S_ref16_Valid_r14, S_ref16_Valid_r15, S_ref16_Valid_r16, S_ref16_Valid_r17, S_ref16_Valid_r18, S_ref16_Valid_b2, S_ref16_Valid_r19, S_ref16_Valid_b3, S_ref16_Valid_b4, S_ref16_Valid_r20, S_ref16_Valid_b5, S_ref16_Valid_r21, S_ref16_Valid_r22, S_ref16_Valid_r23, S_ref16_Valid_r24, S_ref16_Valid_b6, S_ref16_Valid_r25, S_ref16_Valid_b7, S_ref16_Valid_r26, S_ref16_Valid, hE, e]
  intro h3
  have e : s.valid = true := by unfold Store.valid; rw [decide_eq_true h1, decide_eq_true h2, decide_eq_true h3]; rfl
  simp [S_ref16_Valid_r0, S_ref16_Valid_r1, S_ref16_Valid_r2, S_ref16_Valid_r3, S_ref16_Valid_r4, S_ref16_Valid_b0, S_ref16_Valid_r5, S_ref16_Valid_b1, S_ref16_Valid_r6, S_ref16_Valid_r7, S_ref16_Valid_r8, S_ref16_Valid_r9, S_ref16_Valid_r10, S_ref16_Valid_r11, S_ref16_Valid_r12, S_ref16_Valid_r13, S_ref16_Valid_r14, S_ref16_Valid_r15, S_ref16_Valid_r16, S_ref16_Valid_r17, S_ref16_Valid_r18, S_ref16_Valid_b2, S_ref16_Valid_r19, S_ref16_Valid_b3, S_ref16_Valid_b4, S_ref16_Valid_r20, S_ref16_Valid_b5, S_ref16_Valid_r21, S_ref16_Valid_r22, S_ref16_Valid_r23, S_ref16_Valid_r24, S_ref16_Valid_b6, S_ref16_Valid_r25, S_ref16_Valid_b7, S_ref16_Valid_r26, S_ref16_Valid, hE, e]
end
end Go.Proofs.Ythfcfmkdeheicaa
