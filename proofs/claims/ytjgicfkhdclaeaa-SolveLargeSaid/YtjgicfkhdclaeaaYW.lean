import Derived.Test.YtjgicfkhdclaeaaYS
set_option linter.all false
namespace Go.Proofs.Ytjgicfkhdclaeaa
open Go.J

/-- all slots have eight cells -/
def wfS (es : List (List V)) : Bool := es.all fun c => decide (c.length = 8) && c.all V.pure2
theorem wfS_len {es : List (List V)} (h : wfS es = true) : ∀ x ∈ es, x.length = 8 := by
  intro x hx
  have := List.all_eq_true.1 h x hx
  simp at this; exact this.1
theorem wfS_pure {es : List (List V)} (h : wfS es = true) : ∀ x ∈ es, ∀ y ∈ x, y.pure2 = true := by
  intro x hx y hy
  have := List.all_eq_true.1 h x hx
  simp at this; exact this.2 y hy
theorem wfS_cell {es : List (List V)} (h : wfS es = true) : ∀ x ∈ es, ∀ y ∈ x, y.isCell = true := fun x hx y hy => pure2_cell (wfS_pure h x hx y hy)
def nextV (es : List (List V)) (t : List V) : Option (List V) :=
  match t with
  | [_, _, .int .i64 id, _, _] => match es[id.toNat]? with
    | some c => some ((c.drop 1).take 5)
    | none => none
  | _ => none
def wk (es : List (List V)) : Nat → List V → Option (List V)
  | 0, t => some t
  | m + 1, t => match bdV es t with
    | some true => match nextV es t with
      | some t' => wk es m t'
      | none => none
    | some false => some t
    | none => none
def boundV (vs : List V) : Option V :=
  match vs with
  | [.agg [sl, _], .agg t] => match elemsV sl with
    | some es => if wfS es then (bdV es t).map fun b => .bool b else none
    | none => none
  | _ => none

theorem bd_true {es : List (List V)} {t : List V} (h : bdV es t = some true) : ∃ nm j hm av c, t = [.int .i64 1, .str nm, .int .i64 (j : Nat), .int .i64 hm, av] ∧ es[j]? = some c := by
  unfold bdV at h
  split at h
  · rename_i k nm id hm av
    split at h
    · rename_i hk
      obtain ⟨rfl, h1, h2⟩ := hk
      obtain ⟨j, rfl⟩ := Int.eq_ofNat_of_zero_le h1
      have hj : j < es.length := by omega
      exact ⟨nm, j, hm, av, es[j], rfl, List.getElem?_eq_getElem hj⟩
    · cases h
  · cases h
theorem bd_len {es : List (List V)} {t : List V} {b : Bool} (h : bdV es t = some b) : t.length = 5 := by
  unfold bdV at h
  split at h
  · rfl
  · cases h
theorem eight {c : List V} (h : c.length = 8) : ∃ a0 a1 a2 a3 a4 a5 a6 a7, c = [a0, a1, a2, a3, a4, a5, a6, a7] := by
  match c, h with
  | [a0, a1, a2, a3, a4, a5, a6, a7], _ => exact ⟨_, _, _, _, _, _, _, _, rfl⟩
theorem five {c : List V} (h : c.length = 5) : ∃ a0 a1 a2 a3 a4, c = [a0, a1, a2, a3, a4] := by
  match c, h with
  | [a0, a1, a2, a3, a4], _ => exact ⟨_, _, _, _, _, rfl⟩

theorem wrap_in {n : Int} (h1 : -9223372036854775808 ≤ n) (h2 : n ≤ 9223372036854775807) : IntKind.i64.wrap n = n := IntWalk.i64_in n ⟨h1, h2⟩
theorem walk_loop {E : Env} (hE : E.P = Try.prog) (hc : E.con 57 = pureS boundV) {sl tr : V} (htr : tr.pure2 = true) {es : List (List V)} (hs : Sl sl es) (hw : wfS es = true) (hbig : es.length ≤ 1099511627776) {r : List V} {z : List V} {Q : Ex → PT V → HS → Prop}
    (hQ : ∀ T H n log, T.get 3 = some (.ptr 1 0 0) → T.get 4 = some (.ptr 2 0 0) → H.get 1 = some (J.Obj.arr 5 0 [r] true false false) → H.get 2 = some (J.Obj.arr 5 0 [z] true false false) → (∀ k, 3 ≤ k → H.get k = none) → 3 ≤ n →
      r.length = 5 → (∀ x ∈ r, x.pure2 = true) → Q (.exit 0) T { H := H, n := n, log := log }) : ∀ (m i : Nat) (t : List V) (T : PT V) (H : PT J.Obj) (n : Nat) (log : List Nat), i + m = es.length → wk es m t = some r → t.length = 5 → (∀ x ∈ t, x.pure2 = true) →
    T.get 2 = some (.ptr 0 0 0) → T.get 3 = some (.ptr 1 0 0) → T.get 4 = some (.ptr 2 0 0) → T.get 7 = some (.int .i64 es.length) → T.get 8 = some (.int .i64 i) →
    H.get 0 = some (J.Obj.arr 2 0 [[sl, tr]] true false false) → H.get 1 = some (J.Obj.arr 5 0 [t] true false false) → H.get 2 = some (J.Obj.arr 5 0 [z] true false false) → (∀ k, 3 ≤ k → H.get k = none) → 3 ≤ n →
    Js E false 23 (.loop S_store_Walk_l0) T { H := H, n := n, log := log } Q := by
  intro m
  induction m with
  | zero =>
    intro i t T H n log hi hr ht5 htc h2 h3 h4 h7 h8 g0 g1 g2 gv hn
    cases hr
    refine Js_loop (Js_seq (Js_reg ?_))
    have hlt : ¬ (i : Int) < es.length := by omega
    simp [hE, h7, h8, hlt]
    refine Js_seq (Js_cond (t := false) (by simp) (fun h => by cases h) fun _ => Js_exit ?_)
    simp
    exact hQ _ _ _ _ (by simp [h3]) (by simp [h4]) g1 g2 gv (by omega) ht5 htc
  | succ m ih =>
    intro i t T H n log hi hr ht5 htc h2 h3 h4 h7 h8 g0 g1 g2 gv hn
    refine Js_loop (Js_seq (Js_reg ?_))
    have hlt : (i : Int) < es.length := by omega
    simp [hE, h7, h8, hlt]
    refine Js_seq (Js_cond (t := true) (by simp) (fun _ => Js_skip ?_) fun h => by cases h)
    have hsl : elemsV sl = some es := hs
    have hall : allP t = true := allP_eq.2 htc
    have hps := hs.pure2
    obtain ⟨a0, a1, a2, a3, a4, rfl⟩ := five ht5
    simp
    refine Js_seq (Js_block (Js_seq (Js_seq (Js_reg ?_))))
    unfold wk at hr
    split at hr
    · rename_i hb
      split at hr
      · rename_i t' hn'
        obtain ⟨nm, j, hm, av, c, he, hcj⟩ := bd_true hb
        have hmem := List.mem_of_getElem? hcj
        have hjl : j < es.length := (List.getElem?_eq_some_iff.1 hcj).1
        have hc8 := wfS_len hw c hmem
        have hcc := wfS_cell hw c hmem
        have hix := hs.ix (e := I39) (by rw [si39]; exact wfS_len hw) j
        obtain ⟨c0, c1, c2, c3, c4, c5, c6, c7, rfl⟩ := eight hc8
        cases he
        simp [nextV, hcj] at hn'
        subst hn'
        have hcp := wfS_pure hw _ hmem
        simp at hcc hcp
        simp at hall
        simp [hE, h2, h3, g0, g1, hc, boundV, hsl, hw, hall, hb, gv, hps, htr]
        refine Js_cond (t := false) (by simp) (fun h => by cases h) fun _ => Js_skip ?_
        simp
        refine Js_reg ?_
        simp [hE, h2, h3, g0, g1, hix, hcj, gv, hcc]
        refine Js_reg ?_
        have hwr : IntKind.i64.wrap ((i : Int) + 1) = ((i + 1 : Nat) : Int) := by rw [wrap_in (by omega) (by omega)]; omega
        simp only [↓Rs_cons, ↓Rs_nil]
        simp [h8, hE, hwr, -Int.natCast_add]
        refine ih (i + 1) _ _ _ _ _ (by omega) hr rfl (by simpa using ⟨hcp.2.1, hcp.2.2.1, hcp.2.2.2.1, hcp.2.2.2.2.1, hcp.2.2.2.2.2.1⟩) (by simp [h2]) (by simp [h3]) (by simp [h4]) (by simp [h7]) (by simp) (by simp [g0]) (by simp) (by simp [g2]) ?_ (by omega)
        intro k hk
        rw [PT.set_get, if_neg (by omega)]; exact gv k hk
      · cases hr
    · rename_i hb
      cases hr
      simp at hall
      simp [hE, h2, h3, g0, g1, hc, boundV, hsl, hw, hall, hb, gv, hps, htr]
      refine Js_cond (t := true) (by simp) (fun _ => Js_exit ?_) fun h => by cases h
      simp
      exact hQ _ _ _ _ (by simp [h3]) (by simp [h4]) g1 g2 gv (by omega) ht5 htc
    · cases hr

def walkV (vs : List V) : Option V :=
  match vs with
  | [.agg [sl, _], .agg t] => match elemsV sl with
    | some es => if wfS es && decide (t.length = 5) && decide (es.length ≤ 1099511627776) then (wk es es.length t).map fun r => .agg r else none
    | none => none
  | _ => none
theorem walk_run {E : Env} (hE : E.P = Try.prog) (hc : E.con 57 = pureS boundV) {sl tr : V} (htr : tr.pure2 = true) {es : List (List V)} (hs : Sl sl es) (hw : wfS es = true) (hbig : es.length ≤ 1099511627776) {t r : List V} (ht : t.length = 5) (htc : ∀ x ∈ t, x.pure2 = true)
    (hr : wk es es.length t = some r) : ∃ n, runJ E n 34 [.agg [sl, tr], .agg t] = some (.agg r) := by
  refine run_gives (by rw [hE]; exact Try.func34) BS_store_Walk rfl ?_
  refine Js_seq (Js_reg ?_)
  have hl := hs.len
  simp [hE, ht]
  refine Js_seq (Js_seq (Js_reg ?_))
  simp [hE, hl]
  refine Js_block ?_
  refine walk_loop hE hc htr (z := [.int .i64 0, .str [], .int .i64 0, .int .i64 0, .snil]) hs hw hbig (r := r) ?_ es.length 0 t _ _ _ _ (by omega) hr ht htc (by simp) (by simp) (by simp) (by simp) (by simp) (by simp) (by simp) (by simp) ?_ (by omega)
  · intro T H n log h3 h4 g1 g2 gv hn hr5 hrc
    obtain ⟨a0, a1, a2, a3, a4, rfl⟩ := five hr5
    have hst := fun hs => still_agg (hs := hs) hrc
    have hrc2 := fun x hx => pure2_cell (hrc x hx)
    simp at hrc2
    simp
    refine Js_seq (Js_reg ?_)
    simp [hE, h3, h4, g1, g2, hrc2]
    refine ⟨gv _ (by omega), Js_ret ?_⟩
    simp [h4, hE]
    exact hst _
  · intro k hk
    rw [PT.set_get, if_neg (by omega), PT.set_get, if_neg (by omega), PT.set_get, if_neg (by omega)]; rfl
end Go.Proofs.Ytjgicfkhdclaeaa
