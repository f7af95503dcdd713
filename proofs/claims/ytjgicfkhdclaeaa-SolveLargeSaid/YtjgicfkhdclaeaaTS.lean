import Derived.Test.YtjgicfkhdclaeaaTW
import Derived.Test.YtjgicfkhdclaeaaYV
set_option linter.all false
/- What the triangle's Walk and Size compute: contracts that read the heap. -/
namespace Go.Proofs.Ytjgicfkhdclaeaa
open Go.J
noncomputable def triWalk (d : Nat) (vs : List V) (H : PT J.Obj) : Option V :=
  match vs with
  | [v, .agg t] => match triM H v with
    | some es => bi (okT t) (orc none (fun r => some (V.agg r)) (wkT es d t)) none
    | none => none
  | _ => none
noncomputable def szT (es : List (V × V)) (d : Nat) : Nat → List V → Nat → Option Nat
  | 0, _, _ => none
  | n + 1, t, most => match wkT es d t with
    | some [_, _, _, _, av] => match elemsV av with
      | some l => if wfT l then szL (fun x m => szT es d n x m) most l 1 else none
      | none => none
    | _ => none
noncomputable def triSize (d n : Nat) (vs : List V) (H : PT J.Obj) : Option V :=
  match vs with
  | [v, .agg t, .int .i64 (.ofNat m)] => match triM H v with
    | some es => bi (et (okT t) (Nat.ble m 1099511627776)) (orc none (fun r => some (V.int .i64 (Int.ofNat r))) (szT es d n t m)) none
    | none => none
  | _ => none
theorem triWalk_inv {d : Nat} {vs : List V} {H : PT J.Obj} {v : V} (h : triWalk d vs H = some v) : ∃ u t es r, vs = [u, .agg t] ∧ triM H u = some es ∧ okT t = true ∧ wkT es d t = some r ∧ v = .agg r := by
  unfold triWalk at h
  split at h
  · rename_i u t
    split at h
    · rename_i es he
      rw [bi_eq] at h
      split at h
      · rename_i ht
        cases hr : wkT es d t with
        | none => rw [hr] at h; cases h
        | some r => rw [hr] at h; cases h; exact ⟨u, t, es, r, rfl, he, ht, hr, rfl⟩
      · cases h
    · cases h
  · cases h
theorem triSize_inv {d n : Nat} {vs : List V} {H : PT J.Obj} {v : V} (h : triSize d n vs H = some v) : ∃ u t m es r, vs = [u, .agg t, .int .i64 (Int.ofNat m)] ∧ triM H u = some es ∧ okT t = true ∧ m ≤ 1099511627776 ∧ szT es d n t m = some r ∧ v = .int .i64 (Int.ofNat r) := by
  unfold triSize at h
  split at h
  · rename_i u t m
    split at h
    · rename_i es he
      rw [bi_eq] at h
      split at h
      · rename_i ht
        simp only [et_eq, Bool.and_eq_true, Nat.ble_eq] at ht
        cases hr : szT es d n t m with
        | none => rw [hr] at h; cases h
        | some r => rw [hr] at h; cases h; exact ⟨u, t, m, es, r, rfl, he, ht.1, ht.2, hr, rfl⟩
      · cases h
    · cases h
  · cases h
theorem triWalk_run {E : Env} (hE : E.P = Try.prog) {H : PT J.Obj} {n : Nat} (gv : ∀ k, n ≤ k → H.get k = none) {d : Nat} {vs : List V} {v : V} (h : triWalk d vs H = some v) :
    ∃ N v' hs1, (evJ E N).call 69 vs { H := H, n := n, log := [] } = some (v', hs1) ∧ v' = v ∧ ∀ k, k < n → hs1.H.get k = H.get k := by
  obtain ⟨u, t, es, r, rfl, he, ht, hr, rfl⟩ := triWalk_inv h
  obtain ⟨i, mi, dn, rfl, gi, gm⟩ := triM_inv he
  have hi : i < n := Nat.lt_of_not_le fun hle => by rw [gv i hle] at gi; cases gi
  have hmi : mi < n := Nat.lt_of_not_le fun hle => by rw [gv mi hle] at gm; cases gm
  obtain ⟨h5, hp⟩ := okT_inv ht
  obtain ⟨h5r, hpr⟩ := okT_inv (wkT_ok hr ht)
  obtain ⟨t0, t1, t2, t3, t4, rfl⟩ := five h5
  obtain ⟨r0, r1, r2, r3, r4, rfl⟩ := five h5r
  have hall : allP [r0, r1, r2, r3, r4] = true := allP_eq.2 hpr
  simp at hall
  refine run_strip (K := fun v' hs1 => v' = V.agg [r0, r1, r2, r3, r4] ∧ ∀ k, k < n → hs1.H.get k = H.get k) (by rw [hE]; exact Try.func69) BS_triangle_Set_Walk rfl ?_
  have gv' : ∀ j, H.get (n + j) = none := fun j => gv _ (by omega)
  have gvn := gv n (Nat.le_refl _)
  refine Js_seq (Js_reg ?_)
  simp [hE, gv', gvn]
  refine Js_seq (Js_block ?_)
  refine tri_walk_loop (n0 := n) (H0 := H) hE hi hmi gi gm ?_ d _ _ _ (n + 2) _ hr ht (by simp) (by simp) (by simp) (by simp) (by simp) ?_ (by omega) ?_
  · intro T' H' n' log' h3 h4 g3 g4 hv' hn' hk'
    have hv2 : ∀ j, H'.get (n' + j) = none := fun j => hv' _ (by omega)
    have hvn := hv' n' (Nat.le_refl _)
    simp
    refine Js_seq (Js_reg ?_)
    simp [hE, h3, h4, g3, g4, hv2, hvn, hall, pure2_cell]
    refine Js_ret ?_
    simp [hE, h4]
    intro k hk
    rw [if_neg (by omega)]; exact hk' k hk
  · intro k hk
    simp [show ¬ k = n + 1 by omega, show ¬ k = n by omega]; exact gv k (by omega)
  · intro k hk
    simp [show ¬ k = n + 1 by omega, show ¬ k = n by omega]
theorem szT_le {es : List (V × V)} {d n : Nat} {t : List V} {most r : Nat} (h : szT es d n t most = some r) : r ≤ most + 1 := by
  cases n with
  | zero => cases h
  | succ n =>
    unfold szT at h
    split at h
    · split at h
      · split at h
        · exact szL_le h
        · cases h
      · cases h
    · cases h
theorem triM_of {H : PT J.Obj} {i mi : Nat} {d : V} {es : List (V × V)} (h1 : H.get i = some (J.Obj.arr 2 0 [[.map mi, d]] true false false)) (h2 : H.get mi = some (J.Obj.mp es)) : triM H (.ptr i 0 0) = some es := by
  simp only [triM, h1, h2]
theorem triSize_of {d n : Nat} {v : V} {t : List V} {m r : Nat} {H : PT J.Obj} {es : List (V × V)} (h1 : triM H v = some es) (h2 : okT t = true) (h3 : m ≤ 1099511627776) (h4 : szT es d n t m = some r) : triSize d n [v, .agg t, .int .i64 ((m : Nat) : Int)] H = some (.int .i64 ((r : Nat) : Int)) := by
  show (match triM H v with
    | some es => bi (et (okT t) (Nat.ble m 1099511627776)) (orc none (fun r => some (V.int .i64 (Int.ofNat r))) (szT es d n t m)) none
    | none => none) = _
  rw [h1]
  have hb : Nat.ble m 1099511627776 = true := Nat.ble_eq ▸ h3
  simp only [bi_eq, et_eq, h2, hb, Bool.and_self, if_true, h4]
  rfl
theorem triWalk_of {d : Nat} {v : V} {t r : List V} {H : PT J.Obj} {es : List (V × V)} (h1 : triM H v = some es) (h2 : okT t = true) (h4 : wkT es d t = some r) : triWalk d [v, .agg t] H = some (.agg r) := by
  simp only [triWalk, h1, bi_eq, h2, if_true, h4]
  rfl
theorem ok_of {α : Type} {x : Option α} {a : α} {K : α → Prop} (h : x = some a) (hk : K a) : ok x K := ⟨a, h, hk⟩
theorem triSize_loop {E : Env} (hE : E.P = Try.prog) {d m : Nat} (hc : E.con 47 = quietS (triSize d m)) {H0 : PT J.Obj} {n0 i0 mi : Nat} {dn av : V} {es : List (V × V)} {l : List (List V)}
    (hi0 : i0 < n0) (hmi : mi < n0) (gi0 : H0.get i0 = some (J.Obj.arr 2 0 [[.map mi, dn]] true false false)) (gm0 : H0.get mi = some (J.Obj.mp es)) (ha : Sl av l) (hl : wfT l = true)
    {most r : Nat} (hm : most ≤ 1099511627776) {Q : Ex → PT V → HS → Prop}
    (hQ : ∀ T H n log acc, T.get 2 = some (.int .i64 (Int.ofNat most)) → T.get 7 = some (.int .i64 (Int.ofNat acc)) → acc ≤ 2 * most + 2 → (∀ k, k < n0 → H.get k = H0.get k) → (∀ k, n ≤ k → H.get k = none) → n0 ≤ n → r = (if most < acc then most + 1 else acc) → Q (.exit 0) T { H := H, n := n, log := log }) :
    ∀ (rest : List (List V)) (i acc : Nat) (T : PT V) (H : PT J.Obj) (n : Nat) (log : List Nat), l.drop i = rest → i ≤ l.length → acc ≤ most + 1 → szL (fun x k => szT es d m x k) most rest acc = some r →
    T.get 0 = some (.ptr i0 0 0) → T.get 2 = some (.int .i64 (Int.ofNat most)) → T.get 7 = some (.int .i64 (Int.ofNat acc)) → T.get 14 = some av → T.get 15 = some (.int .i64 (Int.ofNat l.length)) → T.get 16 = some (.int .i64 (Int.ofNat i)) →
    (∀ k, k < n0 → H.get k = H0.get k) → n0 ≤ n → (∀ k, n ≤ k → H.get k = none) →
    Js E false 36 (.loop S_triangle_Set_Size_l0) T { H := H, n := n, log := log } Q := by
  intro rest
  induction rest with
  | nil =>
    intro i acc T H n log hd hi hacc hr h0 h2 h7 h15 h16 h17 g0 hn gv
    have hil : i = l.length := by
      have := List.drop_eq_nil_iff.1 hd; omega
    refine Js_loop (Js_seq (Js_reg ?_))
    simp [hE, h16, h17, hil]
    refine Js_seq (Js_cond (t := false) (by simp) (fun h => by cases h) fun _ => Js_exit ?_)
    simp
    refine hQ _ _ _ _ acc (by simp [h2]) (by simp [h7]) (by omega) g0 (fun k hk => gv k (by omega)) (by omega) ?_
    simp [szL] at hr; exact hr.symm
  | cons x rest ih =>
    intro i acc T H n log hd hi hacc hr h0 h2 h7 h15 h16 h17 g0 hn gv
    have hlb := wfT_le hl
    have hx : l[i]? = some x := by
      have : (l.drop i)[0]? = some x := by rw [hd]; rfl
      simpa using this
    have hil : i < l.length := (List.getElem?_eq_some_iff.1 hx).1
    have hxm := List.mem_of_getElem? hx
    obtain ⟨hx5, hxc⟩ := wfT_all hl x hxm
    obtain ⟨x0, x1, x2, x3, x4, rfl⟩ := five hx5
    have hix := ha.ix (e := I31) (by rw [si31]; intro y hy; exact (wfT_all hl y hy).1) i
    refine Js_loop (Js_seq (Js_reg ?_))
    simp [hE, h16, h17, hil]
    refine Js_seq (Js_cond (t := true) (by simp) (fun _ => Js_skip ?_) fun h => by cases h)
    simp
    refine Js_seq (Js_block (Js_seq (Js_reg ?_)))
    have hxp := hxc
    have hok : okT [x0, x1, x2, x3, x4] = true := by
      unfold okT
      rw [et_eq, Bool.and_eq_true]
      exact ⟨rfl, allP_eq.2 hxp⟩
    have hxc := fun x hx => pure2_cell (hxp x hx)
    simp at hxc hxp
    have gv' : ∀ j, H.get (n + j) = none := fun j => gv _ (by omega)
    have hn0 : ∀ j, (0 = n + j) = False := fun j => by simp; omega
    simp [hE, h15, h17, hix, hx, gv', Nat.add_assoc, hxc]
    refine Js_seq (Js_seq (Js_reg ?_))
    simp [hE, h2, h7]
    by_cases hlt : most < acc
    · refine Js_cond (t := true) (by simp [hlt]) (fun _ => Js_exit ?_) (fun h => by cases h)
      simp
      refine hQ _ _ (n + 8) _ acc (by simp [h2]) (by simp [h7]) (by omega) (fun k hk => ?_) (fun k hk => ?_) (by omega) ?_
      · simp [show ¬ k = n + 3 by omega]; exact g0 k hk
      · simp [show ¬ k = n + 3 by omega]; exact gv k (by omega)
      · simp [szL, hlt] at hr; rw [if_pos hlt]; exact hr.symm
    · refine Js_cond (t := false) (by simp; omega) (fun h => by cases h) (fun _ => Js_skip ?_)
      simp [szL, hlt] at hr
      split at hr
      · rename_i q hq
        have hqle := szT_le hq
        simp
        refine Js_reg ?_
        have hsub : IntKind.i64.wrap ((most : Int) - (acc : Int)) = Int.ofNat (most - acc) := by
          rw [wrap_in (by omega) (by omega)]; simp; omega
        have hadd : IntKind.i64.wrap ((acc : Int) + (q : Int)) = ((acc + q : Nat) : Int) := by
          rw [wrap_in (by omega) (by omega)]; omega
        have hmm : most - acc ≤ 1099511627776 := by omega
        have gi : H.get i0 = some (J.Obj.arr 2 0 [[.map mi, dn]] true false false) := by rw [g0 i0 hi0]; exact gi0
        have gmi : H.get mi = some (J.Obj.mp es) := by rw [g0 mi hmi]; exact gm0
        simp [hE, h0, h2, h7, gv', Nat.add_assoc, hc, quietS, hsub, hadd, -Int.natCast_add]
        refine ok_of (triSize_of (triM_of (mi := mi) (d := dn) ?_ ?_) hok hmm hq) ⟨rfl, ?_⟩
        · simp [show ¬ i0 = n + 3 by omega, gi]
        · simp [show ¬ mi = n + 3 by omega, gmi]
        simp [hadd, -Int.natCast_add]
        refine Js_reg ?_
        have hwr : IntKind.i64.wrap ((i : Int) + 1) = ((i + 1 : Nat) : Int) := by rw [wrap_in (by omega) (by omega)]; omega
        simp [hE, h17, hwr, -Int.natCast_add]
        refine ih (i + 1) (acc + q) _ _ (n + 19) _ ?_ (by omega) (by omega) hr (by simp [h0]) (by simp [h2]) (by simp) (by simp [h15]) (by simp [h16]) (by simp) ?_ (by omega) ?_
        · rw [← List.drop_drop, hd]; rfl
        · intro k hk
          simp [show ¬ k = n + 3 by omega]; exact g0 k hk
        · intro k hk
          simp [show ¬ k = n + 3 by omega]; exact gv k (by omega)
      · cases hr
theorem triSize_run {E : Env} (hE : E.P = Try.prog) {d m : Nat} (hc : E.con 47 = quietS (triSize d m)) (hc69 : E.con 69 = quietS (triWalk d)) {H : PT J.Obj} {n : Nat} (gv : ∀ k, n ≤ k → H.get k = none) {vs : List V} {v : V} (h : triSize d (m + 1) vs H = some v) :
    ∃ N v' hs1, (evJ E N).call 47 vs { H := H, n := n, log := [] } = some (v', hs1) ∧ v' = v ∧ ∀ k, k < n → hs1.H.get k = H.get k := by
  obtain ⟨u, t, most, es, r, rfl, he, ht, hmost, hr, rfl⟩ := triSize_inv h
  obtain ⟨i, mi, dn, rfl, gi, gm⟩ := triM_inv he
  have hi : i < n := Nat.lt_of_not_le fun hle => by rw [gv i hle] at gi; cases gi
  have hmi : mi < n := Nat.lt_of_not_le fun hle => by rw [gv mi hle] at gm; cases gm
  obtain ⟨h5, hp⟩ := okT_inv ht
  unfold szT at hr
  split at hr
  · rename_i a0 a1 a2 a3 av hwk
    split at hr
    · rename_i l hav
      split at hr
      · rename_i hl
        obtain ⟨h5r, hpr⟩ := okT_inv (wkT_ok hwk ht)
        obtain ⟨t0, t1, t2, t3, t4, rfl⟩ := five h5
        have hall : allP [t0, t1, t2, t3, t4] = true := allP_eq.2 hp
        have hallr : allP [a0, a1, a2, a3, av] = true := allP_eq.2 hpr
        simp at hall hallr
        refine run_strip (K := fun v' hs1 => v' = V.int .i64 (Int.ofNat r) ∧ ∀ k, k < n → hs1.H.get k = H.get k) (by rw [hE]; exact Try.func47) BS_triangle_Set_Size rfl ?_
        have gv' : ∀ j, H.get (n + j) = none := fun j => gv _ (by omega)
        have gvn := gv n (Nat.le_refl _)
        have hlen := Sl.len (v := av) hav
        refine Js_seq (Js_reg ?_)
        simp [hE, gv', gvn, hall, pure2_cell]
        refine Js_seq (Js_reg ?_)
        simp [hE, gv', gvn, hc69, quietS, Nat.add_assoc]
        refine ok_of (triWalk_of (triM_of (mi := mi) (d := dn) ?_ ?_) ht hwk) ⟨?_, ?_⟩
        · simp [show ¬ i = n by omega, gi]
        · simp [show ¬ mi = n by omega, gm]
        · simp [hallr]
        simp [hallr, pure2_cell]
        refine Js_seq (Js_reg ?_)
        simp [hE]
        refine Js_seq (Js_seq (Js_reg ?_))
        simp [hE, hlen]
        refine Js_block ?_
        refine triSize_loop (n0 := n) (H0 := H) hE hc hi hmi gi gm (l := l) hav hl (r := r) hmost ?_ l 0 1 _ _ (n + 11) _ rfl (Nat.zero_le _) (by omega) hr (by simp) (by simp) (by simp) (by simp) (by simp) (by simp) ?_ (by omega) ?_
        · intro T' H' n' log' acc h2 h7 hacc hk' hv' hn' hra
          simp
          refine Js_seq (Js_reg ?_)
          have hwr : IntKind.i64.wrap ((most : Int) + 1) = ((most + 1 : Nat) : Int) := by rw [wrap_in (by omega) (by omega)]; omega
          simp [hE, h2, h7, hwr, -Int.natCast_add]
          refine Js_ret ?_
          have hmin : (if most + 1 < acc then ((most + 1 : Nat) : Int) else (acc : Int)) = (r : Int) := by
            rw [hra]; split <;> split <;> omega
          refine ⟨fun i h => (by cases h), ?_⟩
          simp only [PT.set_get, if_true, ok_some]
          refine ⟨?_, ?_⟩
          · rw [hmin]
          exact hk'
        · intro k hk
          simp [show ¬ k = n by omega]
        · intro k hk
          simp [show ¬ k = n by omega]; exact gv k (by omega)
      · cases hr
    · cases hr
  · cases hr
section
variable {ρ : Nat → Value} (hρ : J.Good ρ)
include hρ
theorem quiet_of {f : Nat} {s : List V → PT J.Obj → Option V} (hf : FnOk Try.prog f)
    (h : ∀ vs H n v, (∀ k, n ≤ k → H.get k = none) → s vs H = some v → ∃ E, ConsOk ρ E ∧ E.P = Try.prog ∧ ∃ N v' hs1, (evJ E N).call f vs { H := H, n := n, log := [] } = some (v', hs1) ∧ v' = v ∧ ∀ k, k < n → hs1.H.get k = H.get k) : Valid ρ Try.prog f (quietS s) := by
  refine Valid.quiet hρ follows named hf fun vs H n v gv hv _ => ?_
  obtain ⟨E, hc, hE, N, v', hs1, h1, rfl, h2⟩ := h vs H n v gv hv
  refine ⟨E, N, hs1, hc, hE, h1, fun id o ho => ?_, fun id hid hn => by rw [h2 id hid]; exact hn⟩
  have hid : id < n := Nat.lt_of_not_le fun hle => by rw [gv id hle] at ho; cases ho
  rw [h2 id hid]; exact ho
theorem triWalk_valid (d : Nat) : Valid ρ Try.prog 69 (quietS (triWalk d)) :=
  quiet_of hρ (fnOk Try.func69 (by kernel_rfl)) fun vs H n v gv hv => ⟨envL Try.prog pol [], consOk_list valid_nil, rfl, triWalk_run rfl gv hv⟩
theorem triSize_valid (d : Nat) : ∀ m, Valid ρ Try.prog 47 (quietS (triSize d m)) := by
  intro m
  induction m with
  | zero =>
    refine quiet_of hρ (fnOk Try.func47 (by kernel_rfl)) fun vs H n v gv hv => ?_
    obtain ⟨u, t, most, es, r, rfl, he, ht, hmost, hr, rfl⟩ := triSize_inv hv
    cases hr
  | succ m ih =>
    exact quiet_of hρ (fnOk Try.func47 (by kernel_rfl)) fun vs H n v gv hv => ⟨envL Try.prog pol [(47, quietS (triSize d m)), (69, quietS (triWalk d))], consOk_list (valid_cons ih (valid_cons (triWalk_valid hρ d) valid_nil)), rfl, triSize_run rfl rfl rfl gv hv⟩
end
end Go.Proofs.Ytjgicfkhdclaeaa
