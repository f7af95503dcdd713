import Derived.Test.YtjgicfkhdclaeaaYR
import Derived.Test.YtjgicfkhdclaeaaYV
set_option linter.all false
/- The contracts of the function that resolves types, and of the one that asks its size first. -/
namespace Go.Proofs.Ytjgicfkhdclaeaa
open Go.J
def resolveV (d : Nat) (vs : List V) : Option V :=
  match vs with
  | [.agg [sl, _], .agg t] => match elemsV sl with
    | some es => if wfS es && decide (t.length = 5) && decide (es.length ≤ 1099511627776) then
        (match szV es d t 4000 with
        | some n => if 4000 < n then some (.tuple [.agg zeroT, .bool false]) else match rsV es d t with
          | some r => some (.tuple [.agg r, .bool true])
          | none => none
        | none => none) else none
    | none => none
  | _ => none
theorem resolve_run {E : Env} (hE : E.P = Try.prog) {d : Nat} (hc : E.con 15 = pureS (sizeV d)) (hc33 : E.con 33 = pureS (resV d)) {sl tr : V} (htr : tr.pure2 = true) {es : List (List V)} (hs : Sl sl es) (hw : wfS es = true) (hbig : es.length ≤ 1099511627776) {t : List V} (ht : t.length = 5) (htc : ∀ x ∈ t, x.pure2 = true)
    {v : V} (hr : resolveV d [.agg [sl, tr], .agg t] = some v) : ∃ n, runJ E n 14 [.agg [sl, tr], .agg t] = some v := by
  have hsl : elemsV sl = some es := hs
  have hps := hs.pure2
  obtain ⟨t0, t1, t2, t3, t4, rfl⟩ := five ht
  have hall : allP [t0, t1, t2, t3, t4] = true := allP_eq.2 htc
  simp at hall
  simp only [resolveV, hsl, hw, hbig, List.length_cons, List.length_nil, Nat.reduceAdd, decide_true, Bool.and_self, if_true] at hr
  refine run_gives (by rw [hE]; exact Try.func14) BS_store_Resolve rfl ?_
  refine Js_seq (Js_reg ?_)
  simp [hE]
  split at hr
  · rename_i m hm
    refine Js_seq (Js_seq (Js_reg ?_))
    simp [hE, hc, sizeV, hsl, hw, hall, hbig, hm, hps, htr, pure2_cell, still1_pure, freeze1_pure]
    split at hr
    · rename_i h4
      cases hr
      refine Js_cond (t := true) (by simp; omega) (fun _ => Js_seq (Js_reg ?_)) (fun h => by cases h)
      simp [hE]
      refine Js_ret ?_
      simp [hE, zeroT]
    · rename_i h4
      split at hr
      · rename_i r hrs
        cases hr
        obtain ⟨h5, hrp⟩ := rsV_pure hw hrs rfl htc
        obtain ⟨r0, r1, r2, r3, r4, rfl⟩ := five h5
        have hrall : allP [r0, r1, r2, r3, r4] = true := allP_eq.2 hrp
        simp at hrall
        refine Js_cond (t := false) (by simp; omega) (fun h => by cases h) (fun _ => Js_skip ?_)
        simp
        refine Js_seq (Js_reg ?_)
        simp [hE, hc33, resV, hsl, hw, hall, hbig, hrs, hps, htr, pure2_cell, still1_pure, freeze1_pure, hrall]
        refine Js_ret ?_
        simp [hE, hrall, still1_pure]
      · cases hr
  · cases hr
section
variable {ρ : Nat → Value} (hρ : J.Good ρ)
include hρ
theorem res_runs : ∀ d vs v, allPure vs = true → resV d vs = some v → ∃ E n, ConsOk ρ E ∧ E.P = Try.prog ∧ runJ E n 33 vs = some v := by
  intro d
  induction d with
  | zero =>
    intro vs v hp hv
    unfold resV at hv
    split at hv
    · split at hv
      · split at hv
        · simp [rsV] at hv
        · cases hv
      · cases hv
    · cases hv
  | succ d ih =>
    intro vs v hp hv
    unfold resV at hv
    split at hv
    · rename_i sl tr t
      split at hv
      · rename_i es hs
        split at hv
        · rename_i hw
          simp at hw hp
          cases hb : rsV es (d + 1) t with
          | none => rw [hb] at hv; cases hv
          | some b =>
            rw [hb] at hv; cases hv
            obtain ⟨n, hn⟩ := res_run (E := envL Try.prog pol [(33, pureS (resV d)), (34, pureS walkV)]) rfl rfl rfl hp.1.2 hs hw.1.1 hw.2 hw.1.2 (allP_eq.1 hp.2) hb
            exact ⟨_, n, consOk_list (valid_cons (Valid.pure hρ follows named (fnOk Try.func33 (by kernel_rfl)) ih) (valid_cons (walk_valid hρ) valid_nil)), rfl, hn⟩
        · cases hv
      · cases hv
    · cases hv
theorem res_valid (d : Nat) : Valid ρ Try.prog 33 (pureS (resV d)) := Valid.pure hρ follows named (fnOk Try.func33 (by kernel_rfl)) (res_runs hρ d)
theorem resolve_runs (d : Nat) (vs : List V) (v : V) (hp : allPure vs = true) (hv : resolveV d vs = some v) : ∃ E n, ConsOk ρ E ∧ E.P = Try.prog ∧ runJ E n 14 vs = some v := by
  have hv0 := hv
  unfold resolveV at hv
  split at hv
  · rename_i sl tr t
    split at hv
    · rename_i es hs
      split at hv
      · rename_i hw
        simp at hw hp
        obtain ⟨n, hn⟩ := resolve_run (E := envL Try.prog pol [(15, pureS (sizeV d)), (33, pureS (resV d))]) rfl rfl rfl hp.1.2 hs hw.1.1 hw.2 hw.1.2 (allP_eq.1 hp.2) hv0
        exact ⟨_, n, consOk_list (valid_cons (Valid.pure hρ follows named (fnOk Try.func15 (by kernel_rfl)) (size_runs hρ d)) (valid_cons (res_valid hρ d) valid_nil)), rfl, hn⟩
      · cases hv
    · cases hv
  · cases hv
theorem resolve_valid (d : Nat) : Valid ρ Try.prog 14 (pureS (resolveV d)) := Valid.pure hρ follows named (fnOk Try.func14 (by kernel_rfl)) (resolve_runs hρ d)
end
end Go.Proofs.Ytjgicfkhdclaeaa
