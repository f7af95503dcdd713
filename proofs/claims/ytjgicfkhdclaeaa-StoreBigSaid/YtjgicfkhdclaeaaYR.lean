import Derived.Test.YtjgicfkhdclaeaaYH
set_option linter.all false
namespace Go.Proofs.Ytjgicfkhdclaeaa
open Go.J

theorem wk_pure {es : List (List V)} (hw : wfS es = true) : ∀ {m : Nat} {t r : List V}, wk es m t = some r → t.length = 5 → (∀ x ∈ t, x.pure2 = true) → r.length = 5 ∧ ∀ x ∈ r, x.pure2 = true := by
  intro m
  induction m with
  | zero => intro t r h h5 hp; cases h; exact ⟨h5, hp⟩
  | succ m ih =>
    intro t r h h5 hp
    unfold wk at h
    split at h
    · rename_i hb
      split at h
      · rename_i t' hn
        obtain ⟨nm, j, hm, av, c, rfl, hc⟩ := bd_true hb
        simp [nextV, hc] at hn
        subst hn
        have hmem := List.mem_of_getElem? hc
        obtain ⟨c0, c1, c2, c3, c4, c5, c6, c7, rfl⟩ := eight (wfS_len hw _ hmem)
        have hcp := wfS_pure hw _ hmem
        simp at hcp
        exact ih h rfl (by simp [hcp])
      · cases h
    · cases h; exact ⟨h5, hp⟩
    · cases h
def rsL (f : List V → Option (List V)) : List (List V) → Option (List (List V))
  | [] => some []
  | x :: l => match f x with
    | some y => match rsL f l with
      | some r => some (y :: r)
      | none => none
    | none => none
def rsV (es : List (List V)) : Nat → List V → Option (List V)
  | 0, _ => none
  | n + 1, t => match wk es es.length t with
    | some [k, nm, id, hm, av] => match elemsV av with
      | some l => if wfT l && decide (l.length ≤ 10000) then (if l.length = 0 then some [k, nm, id, hm, av] else match rsL (fun x => rsV es n x) l with
        | some r => some [k, nm, id, hm, .sl r false]
        | none => none) else none
      | none => none
    | _ => none
theorem rsL_spec {f : List V → Option (List V)} : ∀ {l r : List (List V)}, rsL f l = some r → r.length = l.length ∧ ∀ (i : Nat) (x : List V), l[i]? = some x → ∃ y, r[i]? = some y ∧ f x = some y := by
  intro l
  induction l with
  | nil => intro r h; cases h; exact ⟨rfl, fun i x hi => by simp at hi⟩
  | cons a l ih =>
    intro r h
    simp only [rsL] at h
    split at h
    · rename_i y hy
      split at h
      · rename_i q hq
        cases h
        obtain ⟨h1, h2⟩ := ih hq
        refine ⟨by simp [h1], fun i x hi => ?_⟩
        cases i with
        | zero => cases hi; exact ⟨y, rfl, hy⟩
        | succ i => obtain ⟨z, hz⟩ := h2 i x (by simpa using hi); exact ⟨z, by simpa using hz.1, hz.2⟩
      · cases h
    · cases h
theorem rsV_pure {es : List (List V)} (hw : wfS es = true) {n : Nat} {t r : List V} (h : rsV es n t = some r) (h5 : t.length = 5) (hp : ∀ x ∈ t, x.pure2 = true) : r.length = 5 ∧ ∀ x ∈ r, x.pure2 = true := by
  cases n with
  | zero => cases h
  | succ n =>
    unfold rsV at h
    split at h
    · rename_i k nm id hm av hk
      obtain ⟨_, hp'⟩ := wk_pure hw hk h5 hp
      simp at hp'
      split at h
      · split at h
        · split at h
          · cases h; exact ⟨rfl, by simp [hp']⟩
          · split at h
            · cases h; exact ⟨rfl, by simp [hp']⟩
            · cases h
        · cases h
      · cases h
    · cases h
def resV (n : Nat) (vs : List V) : Option V :=
  match vs with
  | [.agg [sl, _], .agg t] => match elemsV sl with
    | some es => if wfS es && decide (t.length = 5) && decide (es.length ≤ 1099511627776) then (rsV es n t).map fun r => .agg r else none
    | none => none
  | _ => none
def zeroT : List V := [.int .i64 0, .str [], .int .i64 0, .int .i64 0, .snil]

theorem res_loop {E : Env} (hE : E.P = Try.prog) {d : Nat} (hc : E.con 33 = pureS (resV d)) {sl tr av k nm id hm : V} (htr : tr.pure2 = true) {es l : List (List V)} (hs : Sl sl es) (hw : wfS es = true) (hbig : es.length ≤ 1099511627776) (ha : Sl av l) (hl : wfT l = true) (hlb : l.length ≤ 10000)
    {rs : List (List V)} (hrs : rsL (fun x => rsV es d x) l = some rs) {Q : Ex → PT V → HS → Prop}
    (hQ : ∀ T H n log, T.get 3 = some (.ptr 1 0 0) → T.get 4 = some (.ptr 2 0 0) → T.get 5 = some (.own 14 0 0 l.length (some l.length)) → H.get 1 = some (J.Obj.arr 5 0 [[k, nm, id, hm, av]] true false false) → H.get 2 = some (J.Obj.arr 5 0 [zeroT] true false false) →
      H.get 14 = some (J.Obj.arr 5 0 rs true false true) → 15 ≤ n → (∀ j, n ≤ j → H.get j = none) → Q (.exit 0) T { H := H, n := n, log := log }) :
    ∀ (m i : Nat) (dn : List (List V)) (T : PT V) (H : PT J.Obj) (n : Nat) (log : List Nat), i + m = l.length → dn = rs.take i →
    T.get 2 = some (.ptr 0 0 0) → T.get 3 = some (.ptr 1 0 0) → T.get 4 = some (.ptr 2 0 0) → T.get 5 = some (.own 14 0 0 l.length (some l.length)) → T.get 20 = some av → T.get 21 = some (.int .i64 (Int.ofNat l.length)) → T.get 22 = some (.int .i64 (Int.ofNat i)) →
    H.get 0 = some (J.Obj.arr 2 0 [[sl, tr]] true false false) → H.get 1 = some (J.Obj.arr 5 0 [[k, nm, id, hm, av]] true false false) → H.get 2 = some (J.Obj.arr 5 0 [zeroT] true false false) → H.get 14 = some (J.Obj.arr 5 0 (dn ++ List.replicate m zeroT) true false true) →
    15 ≤ n → (∀ j, n ≤ j → H.get j = none) → Js E false 37 (.loop S_store_resolve_l0) T { H := H, n := n, log := log } Q := by
  intro m
  obtain ⟨hrl, hrx⟩ := rsL_spec hrs
  induction m with
  | zero =>
    intro i dn T H n log hi hd h2 h3 h4 h5 h20 h21 h22 g0 g1 g2 g14 hn gv
    have hil : i = l.length := by omega
    have hdn : dn = rs := by rw [hd, hil, ← hrl, List.take_length]
    refine Js_loop (Js_seq (Js_reg ?_))
    simp [hE, h21, h22, hil]
    refine Js_seq (Js_cond (t := false) (by simp) (fun h => by cases h) fun _ => Js_exit ?_)
    simp
    exact hQ _ _ _ _ (by simp [h3]) (by simp [h4]) (by simp [h5]) g1 g2 (by simpa [hdn] using g14) (by omega) (fun j hj => gv j (by omega))
  | succ m ih =>
    intro i dn T H n log hi hd h2 h3 h4 h5 h20 h21 h22 g0 g1 g2 g14 hn gv
    have hil : i < l.length := by omega
    obtain ⟨x, hx⟩ : ∃ x, l[i]? = some x := ⟨l[i], List.getElem?_eq_getElem hil⟩
    obtain ⟨y, hy, hfy⟩ := hrx i x hx
    obtain ⟨hx5, hxp⟩ := wfT_all hl x (List.mem_of_getElem? hx)
    obtain ⟨hy5, hyp⟩ := rsV_pure hw hfy hx5 hxp
    obtain ⟨x0, x1, x2, x3, x4, rfl⟩ := five hx5
    obtain ⟨y0, y1, y2, y3, y4, rfl⟩ := five hy5
    have hix := ha.ix (e := I31) (by rw [si31]; intro y hy; exact (wfT_all hl y hy).1) i
    have hsl : elemsV sl = some es := hs
    have hps := hs.pure2
    have hx2 : l[i] = [x0, x1, x2, x3, x4] := by rw [List.getElem?_eq_getElem hil] at hx; exact Option.some.inj hx
    have hdl : dn.length = i := by rw [hd, List.length_take]; omega
    simp at hxp hyp
    have gv' : ∀ j, H.get (n + j) = none := fun j => gv _ (by omega)
    refine Js_loop (Js_seq (Js_reg ?_))
    simp [hE, h21, h22, hil]
    refine Js_seq (Js_cond (t := true) (by simp) (fun _ => Js_skip ?_) fun h => by cases h)
    simp
    refine Js_seq (Js_block (Js_seq (Js_reg ?_)))
    simp [hE, h20, h22, hix, hil, hx2, gv', Nat.add_assoc, hxp, pure2_cell]
    refine Js_reg ?_
    have hn14 : ∀ j, (14 = n + j) = False := fun j => by simp; omega
    have hn0 : ∀ j, (0 = n + j) = False := fun j => by simp; omega
    have hdiv : i * 5 / 5 = i := by omega
    have hmod : i * 5 % 5 = 0 := by omega
    have hget : (dn ++ List.replicate (m + 1) zeroT)[i]? = some zeroT := by
      rw [List.getElem?_append_right (by omega)]; simp [hdl]
    have hset : ∀ v, (dn ++ List.replicate (m + 1) zeroT).set i v = (dn ++ [v]) ++ List.replicate m zeroT := fun v => by
      rw [List.set_append_right _ _ (by omega), hdl, Nat.sub_self]; simp [List.replicate_succ]
    simp [hE, h2, h5, g0, g14, gv', Nat.add_assoc, hc, resV, hsl, hw, hbig, hfy, hps, htr, hxp, hil, hn14, hn0, hdiv, hmod, hget, hset, hyp, still1_pure, freeze1_pure, pure2_cell]
    have hover : overL zeroT 0 [y0, y1, y2, y3, y4] = [y0, y1, y2, y3, y4] := rfl
    refine Js_reg ?_
    have hwr : IntKind.i64.wrap ((i : Int) + 1) = ((i + 1 : Nat) : Int) := by rw [wrap_in (by omega) (by omega)]; omega
    simp [hE, h22, hwr, hover, -Int.natCast_add]
    refine ih (i + 1) (dn ++ [[y0, y1, y2, y3, y4]]) _ _ _ _ (by omega) ?_ (by simp [h2]) (by simp [h3]) (by simp [h4]) (by simp [h5]) (by simp [h20]) (by simp [h21]) (by simp) ?_ ?_ ?_ (by simp) (by omega) ?_
    · rw [hd, List.take_add_one, hy]; rfl
    · simp [g0, show ¬ 0 = n + 4 by omega]
    · simp [g1, show ¬ 1 = n + 4 by omega]
    · simp [g2, show ¬ 2 = n + 4 by omega]
    · intro j hj
      simp [show ¬ j = n + 4 by omega, show ¬ j = 14 by omega]; exact gv j (by omega)
theorem res_run {E : Env} (hE : E.P = Try.prog) {d : Nat} (hc : E.con 33 = pureS (resV d)) (hc34 : E.con 34 = pureS walkV) {sl tr : V} (htr : tr.pure2 = true) {es : List (List V)} (hs : Sl sl es) (hw : wfS es = true) (hbig : es.length ≤ 1099511627776) {t r : List V} (ht : t.length = 5) (htc : ∀ x ∈ t, x.pure2 = true)
    (hr : rsV es (d + 1) t = some r) : ∃ n, runJ E n 33 [.agg [sl, tr], .agg t] = some (.agg r) := by
  have hsl : elemsV sl = some es := hs
  have hps := hs.pure2
  obtain ⟨t0, t1, t2, t3, t4, rfl⟩ := five ht
  have hall : allP [t0, t1, t2, t3, t4] = true := allP_eq.2 htc
  simp at hall
  unfold rsV at hr
  split at hr
  · rename_i k nm id hm av hwk
    obtain ⟨_, hkp⟩ := wk_pure hw hwk ht htc
    simp at hkp
    split at hr
    · rename_i l hav
      split at hr
      · rename_i hl
        simp at hl
        have hlen := Sl.len (v := av) hav
        refine run_gives (by rw [hE]; exact Try.func33) BS_store_resolve rfl ?_
        refine Js_seq (Js_reg ?_)
        simp [hE]
        refine Js_seq (Js_reg ?_)
        simp [hE, hc34, walkV, hsl, hw, hall, hbig, hwk, hps, htr, hkp, pure2_cell, still1_pure, freeze1_pure]
        refine Js_seq (Js_seq (Js_reg ?_))
        simp [hE, hlen]
        split at hr
        · rename_i h0
          cases hr
          refine Js_cond (t := false) (by simp [h0]) (fun h => by cases h) (fun _ => Js_skip ?_)
          simp
          refine Js_seq (Js_reg ?_)
          simp [hE, hkp, pure2_cell]
          refine Js_ret ?_
          simp [hE, hkp, still1_pure]
        · rename_i h0
          split at hr
          · rename_i rs hrs
            cases hr
            have hlpos : 0 < l.length := by omega
            have hr64 : l.length * 64 ≤ 1048576 := by omega
            have hr5 : l.length * 5 ≤ 1048576 := by omega
            refine Js_cond (t := true) (by simp; omega) (fun _ => Js_seq (Js_reg ?_)) (fun h => by cases h)
            simp [hE, hlen, hr64, hr5]
            refine Js_seq (Js_seq (Js_reg ?_))
            simp [hE, hlen]
            refine Js_block ?_
            refine res_loop (k := k) (nm := nm) (id := id) (hm := hm) hE hc htr hs hw hbig hav hl.1 hl.2 hrs ?_ l.length 0 [] _ _ _ _ (by omega) (by simp) (by simp) (by simp) (by simp) (by simp) (by simp) (by simp) (by simp) (by simp) (by simp) (by simp [zeroT]) (by simp [zeroT]) (by omega) ?_
            · intro T H n log h3 h4 h5 g1 g2 g14 hn gv
              obtain ⟨hrl, _⟩ := rsL_spec hrs
              have gv' : ∀ j, H.get (n + j) = none := fun j => gv _ (by omega)
              have gvn : H.get n = none := gv _ (Nat.le_refl _)
              simp
              refine Js_reg ?_
              simp [hE, h3, h5, g1, gv', Nat.add_assoc]
              refine Js_seq (Js_reg ?_)
              simp [hE, h3, h4, g2, g14, gv', Nat.add_assoc, hkp, pure2_cell, zeroT, show ∀ j, ¬ 1 = n + j from fun j => by omega]
              refine Js_ret ?_
              simp [hE, h4, hkp, still1_pure, g14, show ¬ 14 = 2 by omega, ← hrl]
            · intro j hj
              simp [show ¬ j = 14 by omega, show ¬ j = 0 by omega, show ¬ j = 1 by omega, show ¬ j = 2 by omega]
          · cases hr
      · cases hr
    · cases hr
  · cases hr
end Go.Proofs.Ytjgicfkhdclaeaa
