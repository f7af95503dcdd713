import Derived.Test.YthfcfmkdeheicaaPB3
set_option linter.all false
set_option linter.all false
namespace Go.Proofs.Ythfcfmkdeheicaa
open Go.J
open Go.J.Enc (enc)
set_option maxRecDepth 100000
set_option maxHeartbeats 4000000
section
variable {ρ : Nat → Value} (hρ : J.Good ρ) {E : Env} (hE : E.P = Try.prog) (hcon : ConsOk ρ E)
include hρ hE hcon
theorem ref16_bound_run {s : Store} {t : Ty} (hs : HS) : CallOk ρ Try.prog 76 [enc s, enc t] hs (enc (s.bound t)) hs := by
  refine fn hρ hE hcon Try.func76 BS_ref16_bound rfl (by simp) ?_ hs
  by_cases hk : t.kind = 1
  · cases h : s.slot? t.id with
    | none =>
      have e : s.bound t = false := by unfold Store.bound; rw [h]; split <;> simp_all
      have := Store.slot?_none h
      simp [S_ref16_bound_r0, S_ref16_bound_r1, S_ref16_bound, hE, hk, e]
      repeat' (refine brT_mk (fun h => ?_) (fun h => ?_) <;> simp [h, hE, e])
      all_goals omega
    | some x =>
      obtain ⟨i, hl, hi, hx⟩ := Store.slot?_at h
      rw [Store.bound_eq hk h]
      simp [S_ref16_bound_r0, S_ref16_bound_r1, S_ref16_bound, hE, hk, hi, hl, hx]
  · have e : s.bound t = false := by unfold Store.bound; simp [hk]
    simp [S_ref16_bound_r0, S_ref16_bound_r1, S_ref16_bound, hE, hk, e]
theorem store_bound_run (hc : E.con 66 = fnS (spec2 fun (s : Store) (i : Int) => some (s.slot? i).isSome)) {s : Store} {t : Ty} (hs : HS) : CallOk ρ Try.prog 75 [enc s, enc t] hs (enc (s.bound t)) hs := by
  refine fn hρ hE hcon Try.func75 BS_store_bound rfl (by simp) ?_ hs
  by_cases hk : t.kind = 1
  · cases h : s.slot? t.id with
    | none =>
      have e : s.bound t = false := by unfold Store.bound; rw [h]; split <;> simp_all
      simp [S_store_bound_r0, S_store_bound_r1, S_store_bound, hE, hk, e, hc, h]
    | some x =>
      have h0 := h
      obtain ⟨i, hl, hi, hx⟩ := Store.slot?_at h
      rw [hi] at h0
      rw [Store.bound_eq hk h]
      simp [S_store_bound_r0, S_store_bound_r1, S_store_bound, hE, hk, hi, hl, hx, hc, h0]
  · have e : s.bound t = false := by unfold Store.bound; simp [hk]
    simp [S_store_bound_r0, S_store_bound_r1, S_store_bound, hE, hk, e]
theorem ref16_Walk_loop (hc : E.con 76 = fnS (spec2 fun (s : Store) (t : Ty) => some (s.bound t))) {s : Store} (h : s.slots.length ≤ 1000000) {r : Ty} {Q : Ex → PT V → HS → Prop}
    (hQ : Q (.exit 0) (mkP [(3, .ptr 1 0 0), (4, .ptr 2 0 0)]) { H := mkP [(1, box (encTy r)), (2, .arr 5 0 [[.int .i64 0, .str [], .int .i64 0, .int .i64 0, .snil]] true false false)], n := 3, log := [] }) :
    ∀ (m i : Nat) (t : Ty), i + m = s.slots.length + 1 → s.walkN m t = r → LsN ρ E 0 26 S_ref16_Walk_l0 (LessQ 0 Q) (m + 1) (mkP [(2, .ptr 0 0 0), (3, .ptr 1 0 0), (4, .ptr 2 0 0), (5, .int .i64 (i : Int))])
      { H := mkP [(0, box (encStore s)), (1, box (encTy t)), (2, .arr 5 0 [[.int .i64 0, .str [], .int .i64 0, .int .i64 0, .snil]] true false false)], n := 3, log := [] } := by
  intro m
  induction m with
  | zero =>
    intro i t hi ht
    have hil : ¬ (i : Int) ≤ s.slots.length := by omega
    refine lp hρ hE hcon fun K hK => ?_
    simp [S_ref16_Walk_l0, S_ref16_Walk_r0, S_ref16_Walk_r1, S_ref16_Walk_r2, S_ref16_Walk_r3, S_ref16_Walk_b0, S_ref16_Walk_r4, S_ref16_Walk_b1, S_ref16_Walk_r5, S_ref16_Walk, hE, hil]
    cases ht
    refine LessQ.mk (Less.keep 3 ?_ ?_ rfl rfl) hQ <;> simp [Store.walkN]
  | succ m ih =>
    intro i t hi ht
    have hil : (i : Int) ≤ s.slots.length := by omega
    have hw : IntKind.i64.wrap ((i : Int) + 1) = ((i + 1 : Nat) : Int) := wrap_succ (by omega)
    refine lp hρ hE hcon fun K hK => ?_
    unfold Store.walkN at ht
    by_cases hb : s.bound t = true
    · rw [if_pos hb] at ht
      obtain ⟨hk, x, hx, hxb⟩ := Store.bound_true hb
      obtain ⟨j, hjl, hj, hxj⟩ := Store.slot?_at hx
      have ht2 : s.to t = x.type := by unfold Store.to; rw [hx]
      obtain ⟨k, n, id, hm, l⟩ := t
      simp only [Ty.id_mk] at hj
      subst hj
      simp [S_ref16_Walk_l0, S_ref16_Walk_r0, S_ref16_Walk_r1, S_ref16_Walk_r2, S_ref16_Walk_r3, S_ref16_Walk_b0, S_ref16_Walk_r4, S_ref16_Walk_b1, S_ref16_Walk_r5, S_ref16_Walk, hE, hil, hc, hb, hw, hjl, hxj, -Int.natCast_add]
      rw [ht2] at ht
      exact hK _ _ (LsN_less (Less.keep 3 (by simp [-Int.natCast_add]) (by simp) rfl rfl) (ih (i + 1) _ (by omega) ht))
    · rw [if_neg hb] at ht
      subst ht
      simp [S_ref16_Walk_l0, S_ref16_Walk_r0, S_ref16_Walk_r1, S_ref16_Walk_r2, S_ref16_Walk_r3, S_ref16_Walk_b0, S_ref16_Walk_r4, S_ref16_Walk_b1, S_ref16_Walk_r5, S_ref16_Walk, hE, hil, hc, hb]
      refine LessQ.mk (Less.keep 3 ?_ ?_ rfl rfl) hQ <;> simp
theorem ref16_Walk_run (hc : E.con 76 = fnS (spec2 fun (s : Store) (t : Ty) => some (s.bound t))) {s : Store} (h : s.slots.length ≤ 1000000) {t : Ty} (hs : HS) : CallOk ρ Try.prog 37 [enc s, enc t] hs (enc (s.walkN (s.slots.length + 1) t)) hs := by
  refine fn hρ hE hcon Try.func37 BS_ref16_Walk rfl (by simp) ?_ hs
  simp [S_ref16_Walk_r0, S_ref16_Walk_r1, S_ref16_Walk_r2, S_ref16_Walk_r3, S_ref16_Walk_b0, S_ref16_Walk_r4, S_ref16_Walk_b1, S_ref16_Walk_r5, S_ref16_Walk, hE]
  refine Ls_lessQ (Ls_loop (LsN_less (Less.keep (TL := [(2, .ptr 0 0 0), (3, .ptr 1 0 0), (4, .ptr 2 0 0), (5, .int .i64 ((0 : Nat) : Int))]) 3 ?_ ?_ rfl rfl) (ref16_Walk_loop hρ hE hcon hc h (r := s.walkN (s.slots.length + 1) t) ?_ (s.slots.length + 1) 0 t (by omega) rfl)))
  · simp
  · simp
  · simp [S_ref16_Walk_r0, S_ref16_Walk_r1, S_ref16_Walk_r2, S_ref16_Walk_r3, S_ref16_Walk_b0, S_ref16_Walk_r4, S_ref16_Walk_b1, S_ref16_Walk_r5, S_ref16_Walk, hE]
theorem store_Walk_loop (hc : E.con 75 = fnS (spec2 fun (s : Store) (t : Ty) => some (s.bound t))) {s : Store} (h : s.slots.length ≤ 1000000) {r : Ty} {Q : Ex → PT V → HS → Prop}
    (hQ : Q (.exit 0) (mkP [(3, .ptr 1 0 0), (4, .ptr 2 0 0)]) { H := mkP [(1, box (encTy r)), (2, .arr 5 0 [[.int .i64 0, .str [], .int .i64 0, .int .i64 0, .snil]] true false false)], n := 3, log := [] }) :
    ∀ (m i : Nat) (t : Ty), i + m = s.slots.length → s.walkN m t = r → LsN ρ E 0 23 S_store_Walk_l0 (LessQ 0 Q) (m + 1) (mkP [(2, .ptr 0 0 0), (3, .ptr 1 0 0), (4, .ptr 2 0 0), (7, .int .i64 (s.slots.length : Int)), (8, .int .i64 (i : Int))])
      { H := mkP [(0, box (encStore s)), (1, box (encTy t)), (2, .arr 5 0 [[.int .i64 0, .str [], .int .i64 0, .int .i64 0, .snil]] true false false)], n := 3, log := [] } := by
  intro m
  induction m with
  | zero =>
    intro i t hi ht
    have hil : ¬ (i : Int) < s.slots.length := by omega
    refine lp hρ hE hcon fun K hK => ?_
    simp [S_store_Walk_l0, S_store_Walk_r0, S_store_Walk_r1, S_store_Walk_r2, S_store_Walk_r3, S_store_Walk_r4, S_store_Walk_b0, S_store_Walk_r5, S_store_Walk_b1, S_store_Walk_r6, S_store_Walk, hE, hil]
    cases ht
    refine LessQ.mk (Less.keep 3 ?_ ?_ rfl rfl) hQ <;> simp [Store.walkN]
  | succ m ih =>
    intro i t hi ht
    have hil : (i : Int) < s.slots.length := by omega
    have hw : IntKind.i64.wrap ((i : Int) + 1) = ((i + 1 : Nat) : Int) := wrap_succ (by omega)
    refine lp hρ hE hcon fun K hK => ?_
    unfold Store.walkN at ht
    by_cases hb : s.bound t = true
    · rw [if_pos hb] at ht
      obtain ⟨hk, x, hx, hxb⟩ := Store.bound_true hb
      obtain ⟨j, hjl, hj, hxj⟩ := Store.slot?_at hx
      have ht2 : s.to t = x.type := by unfold Store.to; rw [hx]
      obtain ⟨k, n, id, hm, l⟩ := t
      simp only [Ty.id_mk] at hj
      subst hj
      simp [S_store_Walk_l0, S_store_Walk_r0, S_store_Walk_r1, S_store_Walk_r2, S_store_Walk_r3, S_store_Walk_r4, S_store_Walk_b0, S_store_Walk_r5, S_store_Walk_b1, S_store_Walk_r6, S_store_Walk, hE, hil, hc, hb, hw, hjl, hxj, -Int.natCast_add]
      rw [ht2] at ht
      exact hK _ _ (LsN_less (Less.keep 3 (by simp [-Int.natCast_add]) (by simp) rfl rfl) (ih (i + 1) _ (by omega) ht))
    · rw [if_neg hb] at ht
      subst ht
      simp [S_store_Walk_l0, S_store_Walk_r0, S_store_Walk_r1, S_store_Walk_r2, S_store_Walk_r3, S_store_Walk_r4, S_store_Walk_b0, S_store_Walk_r5, S_store_Walk_b1, S_store_Walk_r6, S_store_Walk, hE, hil, hc, hb]
      refine LessQ.mk (Less.keep 3 ?_ ?_ rfl rfl) hQ <;> simp
theorem store_Walk_run (hc : E.con 75 = fnS (spec2 fun (s : Store) (t : Ty) => some (s.bound t))) {s : Store} (h : s.slots.length ≤ 1000000) {t : Ty} (hs : HS) : CallOk ρ Try.prog 36 [enc s, enc t] hs (enc (s.walkN s.slots.length t)) hs := by
  refine fn hρ hE hcon Try.func36 BS_store_Walk rfl (by simp) ?_ hs
  simp [S_store_Walk_r0, S_store_Walk_r1, S_store_Walk_r2, S_store_Walk_r3, S_store_Walk_r4, S_store_Walk_b0, S_store_Walk_r5, S_store_Walk_b1, S_store_Walk_r6, S_store_Walk, hE]
  refine Ls_lessQ (Ls_loop (LsN_less (Less.keep (TL := [(2, .ptr 0 0 0), (3, .ptr 1 0 0), (4, .ptr 2 0 0), (7, .int .i64 (s.slots.length : Int)), (8, .int .i64 ((0 : Nat) : Int))]) 3 ?_ ?_ rfl rfl) (store_Walk_loop hρ hE hcon hc h (r := s.walkN s.slots.length t) ?_ s.slots.length 0 t (by omega) rfl)))
  · simp
  · simp
  · simp [S_store_Walk_r0, S_store_Walk_r1, S_store_Walk_r2, S_store_Walk_r3, S_store_Walk_r4, S_store_Walk_b0, S_store_Walk_r5, S_store_Walk_b1, S_store_Walk_r6, S_store_Walk, hE]
end
end Go.Proofs.Ythfcfmkdeheicaa
