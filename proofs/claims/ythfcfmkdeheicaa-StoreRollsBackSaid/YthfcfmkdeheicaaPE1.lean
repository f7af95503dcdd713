import Derived.Test.YthfcfmkdeheicaaPB8
import Derived.Test.YthfcfmkdeheicaaJL
import Derived.Test.YthfcfmkdeheicaaJK
set_option linter.all false
/- Ranges from the end, rolling back. -/
set_option linter.all false
namespace Go.Proofs.Ythfcfmkdeheicaa
open Go.J
open Go.J.Enc (enc)
set_option maxRecDepth 100000
set_option maxHeartbeats 1000000
/-- one change is undone -/
def rbStep (s : Store) (c : Change) (l : List Slot) : List Slot :=
  if (s.slot? c.id).isSome = false ∨ (l.length : Int) ≤ c.id then l else if c.new = true then l.take c.id.toNat else l.set c.id.toNat c.old
def rbSlots (s : Store) (l : List Change) : List Slot := l.foldr (rbStep s) s.slots
def rollM (s : Store) (m : Int) : Store × Bool := if m < 0 ∨ (s.trail.length : Int) < m then (s, false) else (⟨rbSlots s (s.trail.drop m.toNat), s.trail.take m.toNat⟩, true)
section
variable {ρ : Nat → Value} (hρ : J.Good ρ) {E : Env} (hE : E.P = Try.prog) (hcon : ConsOk ρ E)
include hρ hE hcon
theorem slices_ClipSlot_run {l : List Slot} (hs : HS) : CallOk ρ Try.prog 69 [enc l] hs (enc l) hs := by
  refine fn hρ hE hcon Try.func69 BS_slices_Clip__api_Slotapi_Slot rfl (by simp) ?_ hs
  simp [S_slices_Clip__api_Slotapi_Slot_r0, S_slices_Clip__api_Slotapi_Slot_r1, S_slices_Clip__api_Slotapi_Slot, hE, sliceJ, sliceSl, bounds, optJ, isSomeO, orc_some']
theorem slices_ClipChange_run {l : List Change} (hs : HS) : CallOk ρ Try.prog 70 [enc l] hs (enc l) hs := by
  refine fn hρ hE hcon Try.func70 BS_slices_Clip__api_Changeapi_Change rfl (by simp) ?_ hs
  simp [S_slices_Clip__api_Changeapi_Change_r0, S_slices_Clip__api_Changeapi_Change_r1, S_slices_Clip__api_Changeapi_Change, hE, sliceJ, sliceSl, bounds, optJ, isSomeO, orc_some']
theorem slices_BackChange_run {es : List (List V)} {tg : Bool} {vs : List V} {hs : HS} (hfit : (backD 95 es tg).Fits vs hs) :
    CallOk ρ Try.prog 68 vs hs ((backD 95 es tg).val hs) ((backD 95 es tg).heap hs) := by
  refine em hρ hE hcon Try.func68 BS_slices_Backward__api_Changeapi_Change rfl backD_good ?_ hfit
  show Wp ρ E 0 _ _ _ { H := mkP [], n := 0, log := [] } (J.Leaves E.P _ (GivesL 0 (.func 95 [.ptr 0 0 0]) [(0, capB (.sl es tg))]))
  simp [S_slices_Backward__api_Changeapi_Change_r0, S_slices_Backward__api_Changeapi_Change_r1, S_slices_Backward__api_Changeapi_Change, hE]
  exact GivesL.keep rfl rfl rfl rfl (by simp)
omit hρ hE hcon in
theorem rb_len (s : Store) (l : List Change) : (rbSlots s l).length ≤ s.slots.length := by
  induction l with
  | nil => exact Nat.le_refl _
  | cons c l ih =>
    show (rbStep s c (rbSlots s l)).length ≤ _
    unfold rbStep
    split
    · exact ih
    · split
      · rw [List.length_take]; omega
      · rw [List.length_set]; exact ih
/-- what holds while 'j' changes are left -/
def RbI (s : Store) (k j : Nat) (H : PT J.Obj) : Prop :=
  H.get 0 = some (box (encStore s)) ∧ H.get 1 = some (box [.snil, .snil]) ∧ H.get 4 = some (capB (.sl ((s.trail.drop k).map encChange) false)) ∧
  ∃ (R : List Slot) (l : List Slot), H.get 2 = some (.arr 8 0 (R.map encSlot) true false true) ∧ H.get 3 = some (capB (.own 2 0 0 l.length (some s.slots.length))) ∧
    R.length = s.slots.length ∧ l.length ≤ R.length ∧ R.take l.length = l ∧ l = rbSlots s ((s.trail.drop k).drop j)
def RbM (s : Store) (k j : Nat) (e : List V) (T : PT V) (H : PT J.Obj) (n : Nat) : Prop :=
  RbI s k (j + 1) H ∧ T.get 2 = some (.ptr 0 0 0) ∧ T.get 6 = some (.ptr 3 0 0) ∧ ∃ id, T.get 8 = some (.ptr id 0 0) ∧ 5 < id ∧ id < n ∧ H.get id = some (box e)
omit hρ hE hcon in
theorem RbI_set {s : Store} {k j : Nat} {H : PT J.Obj} {id : Nat} {o : J.Obj} (hid : 5 ≤ id) (h : RbI s k j H) : RbI s k j (H.set id o) := by
  obtain ⟨h1, h2, h3, R, l, h4, h5, h6⟩ := h
  have hg : ∀ i, i < 5 → (H.set id o).get i = H.get i := fun i hi => by rw [PT.set_get, if_neg (by omega)]
  exact ⟨by rw [hg 0 (by omega)]; exact h1, by rw [hg 1 (by omega)]; exact h2, by rw [hg 4 (by omega)]; exact h3, R, l, by rw [hg 2 (by omega)]; exact h4, by rw [hg 3 (by omega)]; exact h5, h6⟩
theorem store_Rollback_run (hC1 : E.con 69 = fnS (spec1 fun l : List Slot => some l)) (hC2 : E.con 70 = fnS (spec1 fun l : List Change => some l))
    (hB : E.con 68 = embS (backM 95)) (hH : E.con 66 = fnC (spec2 fun (s : Store) (i : Int) => some (s.slot? i).isSome)) {s : Store} (hsm : s.small) {m : Int} (hs : HS) :
    CallOk ρ Try.prog 27 [enc s, enc m] hs (enc (rollM s m)) hs := by
  refine fn hρ hE hcon Try.func27 BS_store_Rollback rfl (by simp) ?_ hs
  unfold rollM
  by_cases h1 : m < 0
  · rw [if_pos (.inl h1)]
    simp [S_store_Rollback_r0, S_store_Rollback_r1, S_store_Rollback_r2, S_store_Rollback_r3, S_store_Rollback_r4, S_store_Rollback_r5, S_store_Rollback_r6, S_store_Rollback_r7, S_store_Rollback_r8, S_store_Rollback_r9, S_store_Rollback_r10, S_store_Rollback_b0, S_store_Rollback_b1, S_store_Rollback_b2, S_store_Rollback_r11, S_store_Rollback, hE, h1]
  · by_cases h2 : (s.trail.length : Int) < m
    · rw [if_pos (.inr h2)]
      simp [S_store_Rollback_r0, S_store_Rollback_r1, S_store_Rollback_r2, S_store_Rollback_r3, S_store_Rollback_r4, S_store_Rollback_r5, S_store_Rollback_r6, S_store_Rollback_r7, S_store_Rollback_r8, S_store_Rollback_r9, S_store_Rollback_r10, S_store_Rollback_b0, S_store_Rollback_b1, S_store_Rollback_b2, S_store_Rollback_r11, S_store_Rollback, hE, h1, h2]
    · rw [if_neg (fun h => h.elim h1 h2)]
      have hr1 : s.slots.length * 88 ≤ 1048576 := by have := hsm.1; omega
      have hr2 : s.slots.length * 8 ≤ 1048576 := by have := hsm.1; omega
      obtain ⟨k, rfl⟩ := Int.eq_ofNat_of_zero_le (Int.not_lt.1 h1)
      have h3 : k ≤ s.trail.length := by omega
      simp [S_store_Rollback_r0, S_store_Rollback_r1, S_store_Rollback_r2, S_store_Rollback_r3, S_store_Rollback_r4, S_store_Rollback_r5, S_store_Rollback_r6, S_store_Rollback_r7, S_store_Rollback_r8, S_store_Rollback_r9, S_store_Rollback_r10, S_store_Rollback_b0, S_store_Rollback_b1, S_store_Rollback_b2, S_store_Rollback_r11, S_store_Rollback, hE, h1, h2, h3, hr1, hr2, hC1, hC2, hB, sliceJ, sliceSl, bounds, optJ, isSomeO, orc_some', vacant_eq]
      refine Ls_lessQ (Ls_less (Less.auto (TL := [(1, .int .i64 (k : Int)), (2, .ptr 0 0 0), (4, .ptr 1 0 0), (6, .ptr 3 0 0), (31, .func 95 [.ptr 4 0 0])])
        (HL := [(0, box (encStore s)), (1, box [.snil, .snil]), (2, .arr 8 0 (s.slots.map encSlot) true false true), (3, capB (.own 2 0 0 s.slots.length (some s.slots.length))), (4, capB (.sl ((s.trail.drop k).map encChange) false))]) (n := 5) (by simp) (by simp [List.take_of_length_le]) (by simp) (by simp)) ?_)
      refine Ls_js hρ hcon (by rw [hE]; exact follows) (by rw [hE]; exact named) ?_
      refine Js_back (f := 95) (fn := Try.f95) (tS := 36) (tE := 102) (tI := 3) (tB := 4) (IS := I36) (IE := I102) (val := fun e => .agg e) (bx := 4) (by rw [hE]; exact Try.func95) BS_slices_Backward__api_Changeapi_Change_1 (by kernel_rfl) (by kernel_rfl) (by rw [hE]; simp) (by simp) (by rw [hE]; simp) (es := (s.trail.drop k).map encChange) (tg := false) (by rw [si102]; exact sz_Change _) ?_ ?_ (by simp) (by simp) (by omega) ?_ ?_
        (RbI s k) (RbM s k) (fun j H o h => RbI_set (by omega) h) ?_ ?_ ?_ ?_ ?_
      · intro e he
        obtain ⟨c, _, rfl⟩ := List.mem_map.1 he
        simp
      · have := hsm.2; simp; omega
      · intro i hi
        obtain ⟨j, rfl⟩ : ∃ j, i = j + 5 := ⟨i - 5, by omega⟩
        simp
      · intro v1 v2
        exact ⟨_, rfl⟩
      · rintro j e T H n o ⟨h1, h2, h3, id, h4, h5, h6, h7⟩
        exact ⟨RbI_set (by omega) h1, h2, h3, id, h4, h5, h6, by rw [PT.set_get, if_neg (by omega)]; exact h7⟩
      · refine ⟨by simp, by simp, by simp, s.slots, s.slots, by simp, by simp, rfl, Nat.le_refl _, by simp, ?_⟩
        have e : (s.trail.drop k).drop ((s.trail.drop k).map encChange).length = [] := List.drop_of_length_le (by simp)
        rw [e]; rfl
      · intro i e he H n log T1 hn hv hI hz
        cases hz
        have hv' : ∀ j, H.get (n + j) = none := fun j => hv _ (by omega)
        have h5 : ¬ 5 = n := by omega
        have h4 : ¬ 4 = n := by omega
        obtain ⟨c, rfl⟩ : ∃ c, e = encChange c := by
          have hm := List.mem_of_getElem? he
          obtain ⟨c, _, rfl⟩ := List.mem_map.1 hm
          exact ⟨c, rfl⟩
        refine Wp_js (ρ := ρ) (k := 0) rfl ?_
        have hv0 := hv n (Nat.le_refl _)
        simp [S_store_Rollback_g0a, S_store_Rollback_r0, S_store_Rollback_r1, S_store_Rollback_r2, S_store_Rollback_r3, S_store_Rollback_r4, S_store_Rollback_r5, S_store_Rollback_r6, S_store_Rollback_r7, S_store_Rollback_r8, S_store_Rollback_r9, S_store_Rollback_r10, S_store_Rollback_b0, S_store_Rollback_b1, S_store_Rollback_b2, S_store_Rollback_r11, S_store_Rollback, hE, hv', hv0, h5, h4]
        refine ⟨fun j hj => ?_, RbI_set (by omega) (RbI_set (by omega) hI), by simp, by simp, n, by simp, by omega, by omega, by simp⟩
        rw [if_neg (by omega), if_neg (by omega)]; exact hv j (by omega)
      · rintro i e he H n log T2 hn hv ⟨⟨g0, g1, g4, R, l, g2, g3, g5, g6, g7, g8⟩, t2, t6, id, t8, i5, iN, gid⟩
        have hv' : ∀ j, H.get (n + j) = none := fun j => hv _ (by omega)
        have h5 : ∀ j, ¬ 5 = n + j := fun j => by omega
        have h4 : ∀ j, ¬ 4 = n + j := fun j => by omega
        have h3 : ∀ j, ¬ n + j = 3 := fun j => by omega
        have h2 : ∀ j, ¬ n + j = 2 := fun j => by omega
        obtain ⟨c, hc⟩ : ∃ c, (s.trail.drop k)[i]? = some c := by
          rw [List.getElem?_map, Option.map_eq_some_iff] at he
          obtain ⟨c, hc, _⟩ := he
          exact ⟨c, hc⟩
        have he' : e = encChange c := by
          rw [List.getElem?_map, hc] at he
          exact (Option.some.inj he).symm
        subst he'
        have hil := (List.getElem?_eq_some_iff.1 hc).1
        have hci := (List.getElem?_eq_some_iff.1 hc).2
        have hnext : rbSlots s ((s.trail.drop k).drop i) = rbStep s c l := by
          rw [List.drop_eq_getElem_cons hil, hci]
          show rbStep s c (rbSlots s ((s.trail.drop k).drop (i + 1))) = _
          rw [g8]
        refine Wp_js (ρ := ρ) (k := 0) rfl ?_
        by_cases c1 : (s.slot? c.id).isSome = false
        · simp [S_store_Rollback_g0b, S_store_Rollback_r0, S_store_Rollback_r1, S_store_Rollback_r2, S_store_Rollback_r3, S_store_Rollback_r4, S_store_Rollback_r5, S_store_Rollback_r6, S_store_Rollback_r7, S_store_Rollback_r8, S_store_Rollback_r9, S_store_Rollback_r10, S_store_Rollback_b0, S_store_Rollback_b1, S_store_Rollback_b2, S_store_Rollback_r11, S_store_Rollback, hE, hv', h5, h4, h3, h2, g0, g3, g2, t2, t6, t8, gid, hH, c1, Nat.add_assoc]
          exact ⟨fun j hj => hv j (by omega), g0, g1, g4, R, l, g2, g3, g5, g6, g7, by rw [hnext]; unfold rbStep; rw [if_pos (.inl c1)]⟩
        · have c1' : (s.slot? c.id).isSome = true := by cases hh : (s.slot? c.id).isSome with | true => rfl | false => exact absurd hh c1
          by_cases c2 : (l.length : Int) ≤ c.id
          · simp [S_store_Rollback_g0b, S_store_Rollback_r0, S_store_Rollback_r1, S_store_Rollback_r2, S_store_Rollback_r3, S_store_Rollback_r4, S_store_Rollback_r5, S_store_Rollback_r6, S_store_Rollback_r7, S_store_Rollback_r8, S_store_Rollback_r9, S_store_Rollback_r10, S_store_Rollback_b0, S_store_Rollback_b1, S_store_Rollback_b2, S_store_Rollback_r11, S_store_Rollback, hE, hv', h5, h4, h3, h2, g0, g3, g2, t2, t6, t8, gid, hH, c1', c2, Nat.add_assoc]
            exact ⟨fun j hj => hv j (by omega), g0, g1, g4, R, l, g2, g3, g5, g6, g7, by rw [hnext]; unfold rbStep; rw [if_pos (.inr c2)]⟩
          · obtain ⟨x, hx⟩ := Option.isSome_iff_exists.1 c1'
            obtain ⟨q, hq, hql, hqx⟩ := Store.slot?_some hx
            have hlq : q < l.length := by omega
            rw [hq] at hx
            have hrl : l.length ≤ s.slots.length := by omega
            by_cases c3 : c.new = true
            · have hbo : ¬ ((l.length : Int) ≤ (q : Int)) := by omega
              have hb2 : q ≤ l.length := by omega
              simp [S_store_Rollback_g0b, S_store_Rollback_r0, S_store_Rollback_r1, S_store_Rollback_r2, S_store_Rollback_r3, S_store_Rollback_r4, S_store_Rollback_r5, S_store_Rollback_r6, S_store_Rollback_r7, S_store_Rollback_r8, S_store_Rollback_r9, S_store_Rollback_r10, S_store_Rollback_b0, S_store_Rollback_b1, S_store_Rollback_b2, S_store_Rollback_r11, S_store_Rollback, hE, hv', h5, h4, h3, h2, g0, g3, g2, t2, t6, t8, gid, hH, hx, c3, hq, hbo, hlq, hb2, sliceJ, sliceOwn, bounds, optJ, isSomeO, orc_some', subCap, Nat.add_assoc]
              refine ⟨by omega, fun j hj => ?_, ?_⟩
              · rw [if_neg (by omega)]; exact hv j (by omega)
              · have hg : ∀ i, i ≠ 3 → (H.set 3 (J.Obj.arr 1 0 [[V.own 2 0 0 q (some s.slots.length)]] true false false)).get i = H.get i := fun i hi => by rw [PT.set_get, if_neg hi]
                have hlen : (l.take q).length = q := by rw [List.length_take]; omega
                refine ⟨by rw [hg 0 (by omega)]; exact g0, by rw [hg 1 (by omega)]; exact g1, by rw [hg 4 (by omega)]; exact g4, R, l.take q, by rw [hg 2 (by omega)]; exact g2, by rw [PT.set_get, if_pos rfl, hlen], g5, by omega, ?_, ?_⟩
                · rw [hlen]; rw [← g7, List.take_take]; congr 1; omega
                · rw [hnext]; unfold rbStep; rw [if_neg (by rw [hq, hx]; simp; omega), if_pos c3, hq]; rfl
            · have hqR : q < R.length := by omega
              have hbo : ¬ ((l.length : Int) ≤ (q : Int)) := by omega
              have hd1 : q * 8 / 8 = q := by omega
              have hd2 : q * 8 % 8 = 0 := by omega
              simp [S_store_Rollback_g0b, S_store_Rollback_r0, S_store_Rollback_r1, S_store_Rollback_r2, S_store_Rollback_r3, S_store_Rollback_r4, S_store_Rollback_r5, S_store_Rollback_r6, S_store_Rollback_r7, S_store_Rollback_r8, S_store_Rollback_r9, S_store_Rollback_r10, S_store_Rollback_b0, S_store_Rollback_b1, S_store_Rollback_b2, S_store_Rollback_r11, S_store_Rollback, hE, hv', h5, h4, h3, h2, g0, g3, g2, t2, t6, t8, gid, hH, hx, c3, hq, hbo, hlq, hqR, hd1, hd2, Nat.add_assoc]
              refine ⟨fun j hj => ?_, ?_⟩
              · rw [if_neg (by omega)]; exact hv j (by omega)
              · have e8 : (R.map encSlot).set q [V.bool c.old.bound, V.int IntKind.i64 c.old.type.kind, V.str c.old.type.name, V.int IntKind.i64 c.old.type.id, V.int IntKind.i64 c.old.type.home, V.sl (List.map encTy c.old.type.args) false, V.int IntKind.i64 c.old.home, V.bool c.old.base] = (R.set q c.old).map encSlot := by
                  rw [List.map_set]; rfl
                rw [e8]
                have hg : ∀ o i, i ≠ 2 → (H.set 2 o).get i = H.get i := fun o i hi => by rw [PT.set_get, if_neg hi]
                refine ⟨by rw [hg _ 0 (by omega)]; exact g0, by rw [hg _ 1 (by omega)]; exact g1, by rw [hg _ 4 (by omega)]; exact g4, R.set q c.old, l.set q c.old, by rw [PT.set_get, if_pos rfl], by rw [hg _ 3 (by omega), List.length_set]; exact g3, by rw [List.length_set]; exact g5, by rw [List.length_set, List.length_set]; exact g6, ?_, ?_⟩
                · rw [List.length_set, List.take_set, g7]
                · rw [hnext]; unfold rbStep; rw [if_neg (by rw [hq, hx]; simp; omega), if_neg c3, hq]; rfl
      · rintro H n log hn hv ⟨g0, g1, g4, R, l, g2, g3, g5, g6, g7, g8⟩
        have hl : l = rbSlots s (s.trail.drop k) := g8
        rw [← hl]
        have hls : l.length ≤ s.slots.length := by omega
        refine LessQ.mk (Less.keep (TL := [(1, .int .i64 (k : Int)), (2, .ptr 0 0 0), (4, .ptr 1 0 0), (6, .ptr 3 0 0)]) (HL := [(0, box (encStore s)), (1, box [.snil, .snil]), (2, .arr 8 0 (R.map encSlot) true false true), (3, capB (.own 2 0 0 l.length (some s.slots.length)))]) 5 (by simp) (by simp [g0, g1, g2, g3]) rfl rfl) ?_
        simp [S_store_Rollback_r0, S_store_Rollback_r1, S_store_Rollback_r2, S_store_Rollback_r3, S_store_Rollback_r4, S_store_Rollback_r5, S_store_Rollback_r6, S_store_Rollback_r7, S_store_Rollback_r8, S_store_Rollback_r9, S_store_Rollback_r10, S_store_Rollback_b0, S_store_Rollback_b1, S_store_Rollback_b2, S_store_Rollback_r11, S_store_Rollback, hE, hC1, hC2, sliceJ, sliceSl, bounds, optJ, isSomeO, orc_some', h3, g5, g7, hls, ← List.map_take]
end
end Go.Proofs.Ythfcfmkdeheicaa
