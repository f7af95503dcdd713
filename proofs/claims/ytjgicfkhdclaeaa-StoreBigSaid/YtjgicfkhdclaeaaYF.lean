import Derived.Test.YtjgicfkhdclaeaaYV
set_option linter.all false
namespace Go.Proofs.Ytjgicfkhdclaeaa
open Go.J

/-- elements of a slice, each of so many cells, that hold no numbers -/
def wfE (n : Nat) (l : List (List V)) : Bool := l.all fun c => decide (c.length = n) && c.all V.pure2
theorem wfE_len {n : Nat} {l : List (List V)} (h : wfE n l = true) : ∀ c ∈ l, c.length = n := fun c hc => by
  have := List.all_eq_true.1 h c hc; simp at this; exact this.1
theorem wfE_pure {n : Nat} {l : List (List V)} (h : wfE n l = true) : ∀ c ∈ l, ∀ x ∈ c, x.pure2 = true := fun c hc => by
  have := List.all_eq_true.1 h c hc; simp at this; exact this.2
theorem wfE_sizes {n : Nat} {l : List (List V)} (h : wfE n l = true) : sizes n l = true := sizes_eq.2 (wfE_len h)
theorem wfE_cells {n : Nat} {l : List (List V)} (h : wfE n l = true) : allCells l = true := allCells_eq.2 fun c hc x hx => pure2_cell (wfE_pure h c hc x hx)
theorem Sl.elems {v : V} {es : List (List V)} (h : Sl v es) (hs : HS) (n : Nat) : elemsJ hs n v = some es := by
  rcases h.or with ⟨rfl, rfl⟩ | ⟨b, rfl⟩ <;> rfl

theorem overL_rep {α : Type} {l : List α} (z : α) : overL (List.replicate (l.length + 1) z) 0 l = l ++ [z] := by
  rw [overL_eq _ _ _ (by simp) (by simp)]
  simp
theorem overL_last {α : Type} {l : List α} (z c : α) : overL (l ++ [z]) l.length [c] = l ++ [c] := by
  rw [overL_eq _ _ _ (by simp) (by simp)]
  simp
def logV (vs : List V) : Option V :=
  match vs with
  | [lv, .agg c] => match elemsV lv with
    | some ts => if wfE 10 ts && decide (c.length = 10) && decide (ts.length ≤ 5000) then some (.sl (ts ++ [c]) false) else none
    | none => none
  | _ => none
theorem log_run {E : Env} (hE : E.P = Try.prog) {lv : V} {ts : List (List V)} (hl : Sl lv ts) (hw : wfE 10 ts = true) (hb : ts.length ≤ 5000) {c : List V} (hc : c.length = 10) (hcp : allP c = true) :
    ∃ n, runJ E n 29 [lv, .agg c] = some (.sl (ts ++ [c]) false) := by
  refine run_gives (by rw [hE]; exact Try.func29) BS_store_log rfl ?_
  refine Js_seq (Js_reg ?_)
  simp [hE, hc]
  refine Js_seq (Js_reg ?_)
  have hlen := hl.len
  have hwr : IntKind.i64.wrap ((ts.length : Int) + 1) = ((ts.length + 1 : Nat) : Int) := by rw [wrap_in (by omega) (by omega)]; omega
  have hr : (ts.length + 1) * 104 ≤ 1048576 := by omega
  have hr2 : (ts.length + 1) * 10 ≤ 1048576 := by omega
  simp [hE, hlen, hwr, hr, hr2, -Int.natCast_add]
  refine Js_seq (Js_reg ?_)
  have hel := hl.elems
  have hsz := wfE_sizes hw
  have hcl := wfE_cells hw
  have hov : ∀ z, overL (List.replicate (ts.length + 1) z) 0 ts = ts ++ [z] := fun z => overL_rep z
  simp [hE, hel, hsz, hcl, hov]
  refine Js_seq (Js_reg ?_)
  have hov2 : ∀ z, overL (ts ++ [z]) ts.length [c] = ts ++ [c] := fun z => overL_last z c
  have hfr : ∀ hs, freezeL hs c = hs := fun hs => freezeL_pure (allP_eq.1 hcp)
  have hst : ∀ hs, stillL hs c = some c := fun hs => still_pure (allP_eq.1 hcp)
  have hca : allC c = true := allC_eq.2 fun x hx => pure2_cell (allP_eq.1 hcp x hx)
  have htk : List.take 10 c = c := List.take_of_length_le (by omega)
  simp [hE, hst, hfr, hov2, hc, hca, htk, hr]
  refine Js_ret ?_
  simp [List.take_of_length_le]
end Go.Proofs.Ytjgicfkhdclaeaa
