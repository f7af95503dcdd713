import Derived.Test.YtjgicfkhdclaeaaYF
set_option linter.all false
namespace Go.Proofs.Ytjgicfkhdclaeaa
open Go.J

/-! Leaves. -/
def varC (n : Int) : List V := [.int .i64 1, .str [], .int .i64 n, .int .i64 0, .snil]
def varV (vs : List V) : Option V :=
  match vs with
  | [.int .i64 n] => some (.agg (varC n))
  | _ => none
theorem var30_run {E : Env} (hE : E.P = Try.prog) (n : Int) : ∃ k, runJ E k 30 [.int .i64 n] = some (.agg (varC n)) := by
  refine run_gives (by rw [hE]; exact Try.func30) BS_types_Var rfl ?_
  refine Js_seq (Js_reg ?_)
  simp [hE]
  refine Js_seq (Js_reg ?_)
  simp [hE]
  refine Js_ret ?_
  simp [hE, varC]
theorem var13_run {E : Env} (hE : E.P = Try.prog) (n : Int) : ∃ k, runJ E k 13 [.int .i64 n] = some (.agg (varC n)) := by
  refine run_gives (by rw [hE]; exact Try.func13) BS_ref3_Var rfl ?_
  refine Js_seq (Js_reg ?_)
  simp [hE]
  refine Js_seq (Js_reg ?_)
  simp [hE]
  refine Js_ret ?_
  simp [hE, varC]
def newV (vs : List V) : Option V :=
  match vs with
  | [] => some (.agg [.snil, .snil])
  | _ => none
theorem new_run {E : Env} (hE : E.P = Try.prog) : ∃ k, runJ E k 9 [] = some (.agg [.snil, .snil]) := by
  refine run_gives (by rw [hE]; exact Try.func9) BS_store_New rfl ?_
  refine Js_seq (Js_reg ?_)
  simp [hE]
  refine Js_seq (Js_reg ?_)
  simp [hE]
  refine Js_ret ?_
  simp [hE]
/-! Constructors. -/
def conC (nm : List Nat) (es : List (List V)) : List V := [.int .i64 4, .str nm, .int .i64 0, .int .i64 0, if es = [] then .snil else .sl es false]
def conV (vs : List V) : Option V :=
  match vs with
  | [.str nm, l] => match elemsV l with
    | some es => if wfE 5 es && decide (es.length ≤ 1000) then some (.agg (conC nm es)) else none
    | none => none
  | _ => none
theorem con_run {E : Env} (hE : E.P = Try.prog) (nm : List Nat) {lv : V} {es : List (List V)} (hl : Sl lv es) (hw : wfE 5 es = true) (hb : es.length ≤ 1000) : ∃ k, runJ E k 32 [.str nm, lv] = some (.agg (conC nm es)) := by
  refine run_gives (by rw [hE]; exact Try.func32) BS_ref3_Con rfl ?_
  refine Js_seq (Js_reg ?_)
  simp [hE]
  refine Js_seq (Js_reg ?_)
  have hel := hl.elems
  have hsz := wfE_sizes hw
  have hcl := wfE_cells hw
  have hr : es.length * 64 ≤ 1048576 := by omega
  by_cases h0 : es = []
  · subst h0
    simp [hE, hel]
    refine Js_ret ?_
    simp [hE, conC]
  · have h1 : ¬ es.length = 0 := by simpa using h0
    simp [hE, hel, hsz, hcl, hr, h1, h0]
    refine Js_ret ?_
    simp [hE, conC, h0]
def arrC (a b : List V) : List V := [.int .i64 4, .str [45, 62], .int .i64 0, .int .i64 0, .sl [a, b] false]
def arrowV (vs : List V) : Option V :=
  match vs with
  | [.agg a, .agg b] => if decide (a.length = 5) && decide (b.length = 5) then some (.agg (arrC a b)) else none
  | _ => none
theorem arrow_run {E : Env} (hE : E.P = Try.prog) (hc : E.con 32 = frzS conV) {a b : List V} (ha : a.length = 5) (hb : b.length = 5) (hap : allP a = true) (hbp : allP b = true) : ∃ k, runJ E k 12 [.agg a, .agg b] = some (.agg (arrC a b)) := by
  obtain ⟨a0, a1, a2, a3, a4, rfl⟩ := five ha
  obtain ⟨b0, b1, b2, b3, b4, rfl⟩ := five hb
  refine run_gives (by rw [hE]; exact Try.func12) BS_ref3_Arrow rfl ?_
  refine Js_seq (Js_reg ?_)
  simp [hE]
  refine Js_seq (Js_reg ?_)
  have hw : wfE 5 [[a0, a1, a2, a3, a4], [b0, b1, b2, b3, b4]] = true := by
    simp at hap hbp
    simp [wfE, hap, hbp]
  have hs : bytesOf ⟨#[45, 62]⟩ = [45, 62] := by rfl
  simp at hap hbp
  simp [hE, still1_pure, freeze1_pure, hc, hs, conV, elemsV, hw, conC, hap, hbp, pure2_cell]
  refine Js_ret ?_
  simp [hE, arrC, still1_pure, hap, hbp]
end Go.Proofs.Ytjgicfkhdclaeaa
