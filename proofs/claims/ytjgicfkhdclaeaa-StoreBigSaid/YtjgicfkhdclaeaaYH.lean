import Derived.Test.YtjgicfkhdclaeaaYG
set_option linter.all false
namespace Go.Proofs.Ytjgicfkhdclaeaa
open Go.J

def slotC (home : Int) (base : Bool) : List V := [.bool false, .int .i64 0, .str [], .int .i64 0, .int .i64 0, .snil, .int .i64 home, .bool base]
def chgC (id : Int) (old : List V) (new : Bool) : List V := .int .i64 id :: (old ++ [.bool new])
def zeroSlot : List V := [.bool false, .int .i64 0, .str [], .int .i64 0, .int .i64 0, .snil, .int .i64 0, .bool false]
def freshV (vs : List V) : Option V :=
  match vs with
  | [.agg [sl, tr], .int .i64 home, .bool base] => match elemsV sl, elemsV tr with
    | some es, some ts => if wfE 8 es && wfE 10 ts && decide (es.length ≤ 5000) && decide (ts.length ≤ 5000) then
        some (.tuple [.agg [.sl (es ++ [slotC home base]) false, .sl (ts ++ [chgC es.length zeroSlot true]) false], .agg (varC es.length)]) else none
    | _, _ => none
  | _ => none
theorem fresh_run {E : Env} (hE : E.P = Try.prog) (hc29 : E.con 29 = pureS logV) (hc30 : E.con 30 = pureS varV) {sl tr : V} {es ts : List (List V)} (hs : Sl sl es) (ht : Sl tr ts) (hw : wfE 8 es = true) (hwt : wfE 10 ts = true) (hb : es.length ≤ 5000) (hbt : ts.length ≤ 5000)
    (home : Int) (base : Bool) : ∃ k, runJ E k 10 [.agg [sl, tr], .int .i64 home, .bool base] =
      some (.tuple [.agg [.sl (es ++ [slotC home base]) false, .sl (ts ++ [chgC es.length zeroSlot true]) false], .agg (varC es.length)]) := by
  have hsl : elemsV sl = some es := hs
  have htr : elemsV tr = some ts := ht
  have hlen := hs.len
  have hel := hs.elems
  have hps := hs.pure2
  have hpt := ht.pure2
  have hpv := ht.pureV
  have hsz := wfE_sizes hw
  have hcl := wfE_cells hw
  have hwr : IntKind.i64.wrap ((es.length : Int) + 1) = ((es.length + 1 : Nat) : Int) := by rw [wrap_in (by omega) (by omega)]; omega
  have hr : (es.length + 1) * 88 ≤ 1048576 := by omega
  have hr2 : (es.length + 1) * 8 ≤ 1048576 := by omega
  have hov : ∀ z, overL (List.replicate (es.length + 1) z) 0 es = es ++ [z] := fun z => overL_rep z
  have hov2 : ∀ z c, overL (es ++ [z]) es.length [c] = es ++ [c] := fun z c => overL_last z c
  have htk : ∀ c : List V, List.take (es.length + 1) (es ++ [c]) = es ++ [c] := fun c => List.take_of_length_le (by simp)
  refine run_gives (by rw [hE]; exact Try.func10) BS_store_Fresh rfl ?_
  refine Js_seq (Js_reg ?_)
  simp [hE]
  refine Js_seq (Js_reg ?_)
  simp [hE, hlen]
  refine Js_seq (Js_reg ?_)
  simp [hE, hwr, hr, hr2, -Int.natCast_add]
  refine Js_seq (Js_reg ?_)
  simp [hE, hel, hsz, hcl, hov]
  refine Js_seq (Js_reg ?_)
  simp [hE, hr, hov2]
  refine Js_seq (Js_reg ?_)
  simp [hE, hc29, hc30, logV, htr, hwt, hbt, hpt, hpv, varV, varC, htk]
  refine Js_ret ?_
  simp [hE, htk, slotC, chgC, zeroSlot, varC]

def setV (vs : List V) : Option V :=
  match vs with
  | [.agg [sl, tr], .int .i64 id, .agg c] => match elemsV sl, elemsV tr with
    | some es, some ts => if wfE 8 es && wfE 10 ts && decide (es.length ≤ 5000) && decide (ts.length ≤ 5000) && decide (c.length = 8) then
        if 0 ≤ id ∧ id < es.length then match es[id.toNat]? with
          | some old => some (.tuple [.agg [.sl (es.set id.toNat c) false, .sl (ts ++ [chgC id old false]) false], .bool true])
          | none => none
        else some (.tuple [.agg [sl, tr], .bool false])
      else none
    | _, _ => none
  | _ => none
theorem overL_all {α : Type} {l : List α} (z : α) : overL (List.replicate l.length z) 0 l = l := by
  rw [overL_eq _ _ _ (by simp) (by simp)]
  simp
theorem set_no {E : Env} (hE : E.P = Try.prog) (hc31 : E.con 31 = pureS hasV) {sl tr : V} {es ts : List (List V)} (hs : Sl sl es) (ht : Sl tr ts) {id : Int} (hid : ¬ (0 ≤ id ∧ id < es.length)) {c : List V} (hc8 : c.length = 8) (hcp : allP c = true) :
    ∃ k, runJ E k 11 [.agg [sl, tr], .int .i64 id, .agg c] = some (.tuple [.agg [sl, tr], .bool false]) := by
  obtain ⟨c0, c1, c2, c3, c4, c5, c6, c7, rfl⟩ := eight hc8
  have hsl : elemsV sl = some es := hs
  have hps := hs.pure2
  have hpt := ht.pure2
  have hf : (decide (0 ≤ id) && decide (id < es.length)) = false := by
    rw [Bool.and_eq_false_iff]; simp only [decide_eq_false_iff_not]; omega
  refine run_gives (by rw [hE]; exact Try.func11) BS_store_Set rfl ?_
  refine Js_seq (Js_reg ?_)
  simp [hE]
  refine Js_seq (Js_seq (Js_reg ?_))
  simp [hE, hc31, hasV, hsl, hps, hpt, hf]
  refine Js_cond (t := true) (by simp) (fun _ => Js_seq (Js_reg ?_)) (fun h => by cases h)
  simp [hE, hps, hpt, pure2_cell]
  refine Js_ret ?_
  simp [hE, still1_pure, hps, hpt]
theorem set_yes {E : Env} (hE : E.P = Try.prog) (hc31 : E.con 31 = pureS hasV) (hc29 : E.con 29 = pureS logV) {sl tr : V} {es ts : List (List V)} (hs : Sl sl es) (ht : Sl tr ts) (hw : wfE 8 es = true) (hwt : wfE 10 ts = true) (hb : es.length ≤ 5000) (hbt : ts.length ≤ 5000)
    {j : Nat} {old : List V} (hj : es[j]? = some old) {c : List V} (hc8 : c.length = 8) (hcp : allP c = true) :
    ∃ k, runJ E k 11 [.agg [sl, tr], .int .i64 (j : Int), .agg c] = some (.tuple [.agg [.sl (es.set j c) false, .sl (ts ++ [chgC j old false]) false], .bool true]) := by
  have hjl : j < es.length := (List.getElem?_eq_some_iff.1 hj).1
  have hold8 := wfE_len hw old (List.mem_of_getElem? hj)
  have holdp := wfE_pure hw old (List.mem_of_getElem? hj)
  obtain ⟨c0, c1, c2, c3, c4, c5, c6, c7, rfl⟩ := eight hc8
  obtain ⟨o0, o1, o2, o3, o4, o5, o6, o7, rfl⟩ := eight hold8
  have hsl : elemsV sl = some es := hs
  have htr : elemsV tr = some ts := ht
  have hlen := hs.len
  have hel := hs.elems
  have hps := hs.pure2
  have hpt := ht.pure2
  have hpv := ht.pureV
  have hsz := wfE_sizes hw
  have hcl := wfE_cells hw
  have hr : es.length * 88 ≤ 1048576 := by omega
  have hr2 : es.length * 8 ≤ 1048576 := by omega
  have hov : ∀ z, overL (List.replicate es.length z) 0 es = es := fun z => overL_all z
  have hj2 : es[j] = [o0, o1, o2, o3, o4, o5, o6, o7] := by rw [List.getElem?_eq_getElem hjl] at hj; exact Option.some.inj hj
  have hdiv : j * 8 / 8 = j := by omega
  have hmod : j * 8 % 8 = 0 := by omega
  simp at hcp holdp
  refine run_gives (by rw [hE]; exact Try.func11) BS_store_Set rfl ?_
  refine Js_seq (Js_reg ?_)
  simp [hE]
  refine Js_seq (Js_seq (Js_reg ?_))
  simp [hE, hc31, hasV, hsl, hps, hpt, hjl]
  refine Js_cond (t := false) (by simp) (fun h => by cases h) (fun _ => Js_skip ?_)
  simp
  refine Js_seq (Js_reg ?_)
  simp [hE, hlen, hr, hr2]
  refine Js_seq (Js_reg ?_)
  simp [hE, hel, hsz, hcl, hov]
  refine Js_seq (Js_reg ?_)
  simp [hE, hjl, hdiv, hmod, hj2, holdp, pure2_cell]
  refine Js_seq (Js_reg ?_)
  simp [hE, hjl, hdiv, hmod, hj2, hcp, pure2_cell, still1_pure, freeze1_pure]
  refine Js_seq (Js_reg ?_)
  simp [hE, hc29, logV, htr, hwt, hbt, hpt, hpv, holdp, still1_pure, freeze1_pure, List.take_of_length_le]
  refine Js_ret ?_
  simp [hE, chgC, List.take_of_length_le]
end Go.Proofs.Ytjgicfkhdclaeaa
