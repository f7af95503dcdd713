import Derived.Test.YtjgicfkhdclaeaaYW
set_option linter.all false
namespace Go.Proofs.Ytjgicfkhdclaeaa
open Go.J

def wfT (l : List (List V)) : Bool := decide (l.length ≤ 1099511627776) && l.all fun c => decide (c.length = 5) && c.all V.pure2
theorem wfT_all {l : List (List V)} (h : wfT l = true) : ∀ c ∈ l, c.length = 5 ∧ ∀ x ∈ c, x.pure2 = true := by
  unfold wfT at h
  rw [Bool.and_eq_true] at h
  intro c hc
  have := List.all_eq_true.1 h.2 c hc
  simp at this; exact this
theorem wfT_le {l : List (List V)} (h : wfT l = true) : l.length ≤ 1099511627776 := by
  unfold wfT at h
  rw [Bool.and_eq_true] at h
  simpa using h.1
def szL (f : List V → Nat → Option Nat) (most : Nat) : List (List V) → Nat → Option Nat
  | [], acc => some (if most < acc then most + 1 else acc)
  | x :: l, acc => if most < acc then some (most + 1) else match f x (most - acc) with
    | some r => szL f most l (acc + r)
    | none => none
def szV (es : List (List V)) : Nat → List V → Nat → Option Nat
  | 0, _, _ => none
  | n + 1, t, most => match wk es es.length t with
    | some [_, _, _, _, av] => match elemsV av with
      | some l => if wfT l then szL (fun x m => szV es n x m) most l 1 else none
      | none => none
    | _ => none
theorem szL_le {f : List V → Nat → Option Nat} {most : Nat} : ∀ {l : List (List V)} {acc r : Nat}, szL f most l acc = some r → r ≤ most + 1 := by
  intro l
  induction l with
  | nil => intro acc r h; simp [szL] at h; subst h; split <;> omega
  | cons x l ih =>
    intro acc r h
    simp only [szL] at h
    split at h
    · cases h; omega
    · split at h
      · exact ih h
      · cases h
theorem szV_le {es : List (List V)} {n : Nat} {t : List V} {most r : Nat} (h : szV es n t most = some r) : r ≤ most + 1 := by
  cases n with
  | zero => cases h
  | succ n =>
    unfold szV at h
    split at h
    · split at h
      · split at h
        · exact szL_le h
        · cases h
      · cases h
    · cases h
def sizeV (n : Nat) (vs : List V) : Option V :=
  match vs with
  | [.agg [sl, _], .agg t, .int .i64 (.ofNat m)] => match elemsV sl with
    | some es => if wfS es && decide (t.length = 5) && decide (es.length ≤ 1099511627776) && decide (m ≤ 1099511627776) then (szV es n t m).map fun r => .int .i64 (Int.ofNat r) else none
    | none => none
  | _ => none

theorem size_loop {E : Env} (hE : E.P = Try.prog) {d : Nat} (hc : E.con 15 = pureS (sizeV d)) {sl tr av : V} (htr : tr.pure2 = true) {es l : List (List V)} (hs : Sl sl es) (hw : wfS es = true) (hbig : es.length ≤ 1099511627776) (ha : Sl av l) (hl : wfT l = true)
    {most r : Nat} (hm : most ≤ 1099511627776) {Q : Ex → PT V → HS → Prop}
    (hQ : ∀ T H n log acc, T.get 2 = some (.int .i64 (Int.ofNat most)) → T.get 7 = some (.int .i64 (Int.ofNat acc)) → (∀ k, n ≤ k → H.get k = none) → r = (if most < acc then most + 1 else acc) → Q (.exit 0) T { H := H, n := n, log := log }) :
    ∀ (rest : List (List V)) (i acc : Nat) (T : PT V) (H : PT J.Obj) (n : Nat) (log : List Nat), l.drop i = rest → i ≤ l.length → acc ≤ most + 1 → szL (fun x m => szV es d x m) most rest acc = some r →
    T.get 2 = some (.int .i64 (Int.ofNat most)) → T.get 3 = some (.ptr 0 0 0) → T.get 7 = some (.int .i64 (Int.ofNat acc)) → T.get 15 = some av → T.get 16 = some (.int .i64 (Int.ofNat l.length)) → T.get 17 = some (.int .i64 (Int.ofNat i)) →
    H.get 0 = some (J.Obj.arr 2 0 [[sl, tr]] true false false) → 1 ≤ n → (∀ k, n ≤ k → H.get k = none) →
    Js E false 39 (.loop S_store_Size_l0) T { H := H, n := n, log := log } Q := by
  intro rest
  induction rest with
  | nil =>
    intro i acc T H n log hd hi hacc hr h2 h3 h7 h15 h16 h17 g0 hn gv
    have hil : i = l.length := by
      have := List.drop_eq_nil_iff.1 hd; omega
    refine Js_loop (Js_seq (Js_reg ?_))
    simp [hE, h16, h17, hil]
    refine Js_seq (Js_cond (t := false) (by simp) (fun h => by cases h) fun _ => Js_exit ?_)
    simp
    refine hQ _ _ _ _ acc (by simp [h2]) (by simp [h7]) (fun k hk => gv k (by omega)) ?_
    simp [szL] at hr; exact hr.symm
  | cons x rest ih =>
    intro i acc T H n log hd hi hacc hr h2 h3 h7 h15 h16 h17 g0 hn gv
    have hlb := wfT_le hl
    have hx : l[i]? = some x := by
      have : (l.drop i)[0]? = some x := by rw [hd]; rfl
      simpa using this
    have hil : i < l.length := (List.getElem?_eq_some_iff.1 hx).1
    have hxm := List.mem_of_getElem? hx
    obtain ⟨hx5, hxc⟩ := wfT_all hl x hxm
    obtain ⟨x0, x1, x2, x3, x4, rfl⟩ := five hx5
    have hix := ha.ix (e := I31) (by rw [si31]; intro y hy; exact (wfT_all hl y hy).1) i
    have hsl : elemsV sl = some es := hs
    refine Js_loop (Js_seq (Js_reg ?_))
    simp [hE, h16, h17, hil]
    refine Js_seq (Js_cond (t := true) (by simp) (fun _ => Js_skip ?_) fun h => by cases h)
    simp
    refine Js_seq (Js_block (Js_seq (Js_reg ?_)))
    have hxp := hxc
    have hxc := fun x hx => pure2_cell (hxp x hx)
    simp at hxc hxp
    have hps := hs.pure2
    have gv' : ∀ j, H.get (n + j) = none := fun j => gv _ (by omega)
    have hn0 : ∀ j, (0 = n + j) = False := fun j => by simp; omega
    simp [hE, h15, h17, hix, hx, gv', Nat.add_assoc, hxc]
    refine Js_seq (Js_seq (Js_reg ?_))
    simp [hE, h2, h7]
    by_cases hlt : most < acc
    · refine Js_cond (t := true) (by simp [hlt]) (fun _ => Js_exit ?_) (fun h => by cases h)
      simp
      refine hQ _ _ _ _ acc (by simp [h2]) (by simp [h7]) (fun k hk => ?_) ?_
      · simp [show ¬ k = n + 3 by omega]; exact gv k (by omega)
      · simp [szL, hlt] at hr; rw [if_pos hlt]; exact hr.symm
    · refine Js_cond (t := false) (by simp; omega) (fun h => by cases h) (fun _ => Js_skip ?_)
      simp [szL, hlt] at hr
      split at hr
      · rename_i q hq
        have hqle := szV_le hq
        simp
        refine Js_reg ?_
        have hsub : IntKind.i64.wrap ((most : Int) - (acc : Int)) = Int.ofNat (most - acc) := by
          rw [wrap_in (by omega) (by omega)]; simp; omega
        have hadd : IntKind.i64.wrap ((acc : Int) + (q : Int)) = ((acc + q : Nat) : Int) := by
          rw [wrap_in (by omega) (by omega)]; omega
        have hmm : most - acc ≤ 1099511627776 := by omega
        simp [hE, h2, h3, h7, g0, gv', Nat.add_assoc, hc, sizeV, hsl, hw, hbig, hsub, hmm, hq, hadd, hps, htr, hxp, -Int.natCast_add]
        refine Js_reg ?_
        have hwr : IntKind.i64.wrap ((i : Int) + 1) = ((i + 1 : Nat) : Int) := by rw [wrap_in (by omega) (by omega)]; omega
        simp [hE, h17, hwr, -Int.natCast_add]
        refine ih (i + 1) (acc + q) _ _ _ _ ?_ (by omega) (by omega) hr (by simp [h2]) (by simp [h3]) (by simp) (by simp [h15]) (by simp [h16]) (by simp) ?_ (by omega) ?_
        · rw [← List.drop_drop, hd]; rfl
        · simp [g0, show ¬ 0 = n + 3 by omega]
        · intro k hk
          simp [show ¬ k = n + 3 by omega]; exact gv k (by omega)
      · cases hr
theorem size_run {E : Env} (hE : E.P = Try.prog) {d : Nat} (hc : E.con 15 = pureS (sizeV d)) (hc34 : E.con 34 = pureS walkV) {sl tr : V} (htr : tr.pure2 = true) {es : List (List V)} (hs : Sl sl es) (hw : wfS es = true) (hbig : es.length ≤ 1099511627776) {t : List V} (ht : t.length = 5) (htc : ∀ x ∈ t, x.pure2 = true)
    {most r : Nat} (hm : most ≤ 1099511627776) (hr : szV es (d + 1) t most = some r) : ∃ n, runJ E n 15 [.agg [sl, tr], .agg t, .int .i64 (Int.ofNat most)] = some (.int .i64 (Int.ofNat r)) := by
  have hsl : elemsV sl = some es := hs
  obtain ⟨t0, t1, t2, t3, t4, rfl⟩ := five ht
  unfold szV at hr
  split at hr
  · rename_i a0 a1 a2 a3 av hwk
    split at hr
    · rename_i l hav
      split at hr
      · rename_i hl
        refine run_gives (by rw [hE]; exact Try.func15) BS_store_Size rfl ?_
        refine Js_seq (Js_reg ?_)
        simp [hE]
        refine Js_seq (Js_reg ?_)
        simp [hE]
        refine Js_seq (Js_reg ?_)
        simp [hE]
        refine Js_seq (Js_seq (Js_reg ?_))
        have hall : allP [t0, t1, t2, t3, t4] = true := allP_eq.2 htc
        simp at hall
        have hps := hs.pure2
        have hmax : ¬ (most : Int) < 0 := by omega
        have hlen := Sl.len (v := av) hav
        simp [hE, hc34, walkV, hsl, hw, hall, hbig, hwk, hmax, hlen, hps, htr]
        refine Js_block ?_
        refine size_loop hE hc htr hs hw hbig (l := l) hav hl (r := r) hm ?_ l 0 1 _ _ _ _ rfl (Nat.zero_le _) (by omega) hr (by simp) (by simp) (by simp) (by simp) (by simp) (by simp) (by simp) (by omega) ?_
        · intro T H n log acc h2 h7 gv hra
          simp
          refine Js_seq (Js_seq (Js_reg ?_))
          simp [hE, h2, h7]
          by_cases hlt : most < acc
          · rw [if_pos hlt] at hra
            have hwr : IntKind.i64.wrap ((most : Int) + 1) = ((most + 1 : Nat) : Int) := by rw [wrap_in (by omega) (by omega)]; omega
            refine Js_cond (t := true) (by simp [hlt]) (fun _ => Js_seq (Js_reg ?_)) (fun h => by cases h)
            simp [hE, h2, hwr, -Int.natCast_add]
            refine Js_ret ?_
            simp [hra]
          · rw [if_neg hlt] at hra
            refine Js_cond (t := false) (by simp; omega) (fun h => by cases h) (fun _ => Js_skip ?_)
            simp
            refine Js_seq (Js_reg ?_)
            simp [hE, h7]
            refine Js_ret ?_
            simp [hra]
        · intro k hk
          simp [show ¬ k = 1 by omega, show ¬ k = 0 by omega]
      · cases hr
    · cases hr
  · cases hr
end Go.Proofs.Ytjgicfkhdclaeaa
