import Derived.Test.YtjgicfkhdclaeaaYT
import Derived.Test.YtjgicfkhdclaeaaYC
set_option linter.all false
namespace Go.Proofs.Ytjgicfkhdclaeaa
open Go.J

/-- a slice that nothing writes any more -/
def elemsV : V → Option (List (List V))
  | .snil => some []
  | .sl es _ => some es
  | _ => none
def Sl (v : V) (es : List (List V)) : Prop := elemsV v = some es
theorem Sl.or {v : V} {es : List (List V)} (h : Sl v es) : (v = .snil ∧ es = []) ∨ ∃ b, v = .sl es b := by
  cases v <;> first | (cases h; done) | skip
  · cases h; exact .inl ⟨rfl, rfl⟩
  · cases h; exact .inr ⟨_, rfl⟩
theorem Sl.len {v : V} {es : List (List V)} (h : Sl v es) (hs : HS) (e : TypeId) : lenJ hs (.slice e) v = some es.length := by
  rcases h.or with ⟨rfl, rfl⟩ | ⟨b, rfl⟩
  · rfl
  · show some (lenL es) = _; rw [lenL_eq]
theorem Sl.cell {v : V} {es : List (List V)} (h : Sl v es) : v.isCell = true := by
  rcases h.or with ⟨rfl, rfl⟩ | ⟨b, rfl⟩ <;> rfl
theorem Sl.pure {v : V} {es : List (List V)} (h : Sl v es) : v.pure1 = true := by
  rcases h.or with ⟨rfl, rfl⟩ | ⟨b, rfl⟩ <;> rfl
theorem Sl.pure2 {v : V} {es : List (List V)} (h : Sl v es) : v.pure2 = true := by
  rcases h.or with ⟨rfl, rfl⟩ | ⟨b, rfl⟩ <;> rfl
theorem Sl.pureV {v : V} {es : List (List V)} (h : Sl v es) : V.pure v = true := by
  rcases h.or with ⟨rfl, rfl⟩ | ⟨b, rfl⟩ <;> rfl
theorem Sl.ix {v : V} {es : List (List V)} (h : Sl v es) {e : TI} (hz : ∀ x ∈ es, x.length = e.size) (n : Nat) : indexAddrV e n v = ob (es[n]?) fun c => some (V.ref c) := by
  rcases h.or with ⟨rfl, rfl⟩ | ⟨b, rfl⟩
  · rfl
  · show gd (sizes e.size es) (ob (nthL es n) fun c => some (V.ref c)) = _
    rw [sizes_eq.2 hz, gd_true, nthL_eq]

/-! store.has -/
def hasV (vs : List V) : Option V :=
  match vs with
  | [.agg [sl, _], .int .i64 i] => (elemsV sl).map fun es => .bool (decide (0 ≤ i) && decide (i < es.length))
  | _ => none
theorem has_run {E : Env} (hE : E.P = Try.prog) {sl tr : V} {es : List (List V)} (hs : Sl sl es) (i : Int) :
    ∃ n, runJ E n 31 [.agg [sl, tr], .int .i64 i] = some (.bool (decide (0 ≤ i) && decide (i < es.length))) := by
  have hl := hs.len
  refine run_gives (by rw [hE]; exact Try.func31) BS_store_has rfl ?_
  refine Js_seq (Js_reg ?_)
  simp [hE]
  refine Js_seq (Js_reg ?_)
  by_cases h : 0 ≤ i
  · simp [hE, h, hl]
    exact Js_ret (by simp)
  · simp [hE, h]
    exact Js_ret (by simp)

/-! store.bound -/
/-- a type's cells: is it a variable that has a slot? -/
def bdV (es : List (List V)) (t : List V) : Option Bool :=
  match t with
  | [.int .i64 k, .str _, .int .i64 id, .int .i64 _, _] => if k = 1 ∧ 0 ≤ id ∧ id < es.length then match es[id.toNat]? with
    | some (.bool b :: _) => some b
    | _ => none
    else some false
  | _ => none
theorem bound_run {E : Env} (hE : E.P = Try.prog) (hc : E.con 31 = pureS hasV) {sl tr : V} (htr : tr.pure2 = true) {es : List (List V)} (hs : Sl sl es) (hz : ∀ x ∈ es, x.length = 8) {t : List V} {b : Bool} (hb : bdV es t = some b) (ht : ∀ x ∈ t, x.isCell = true) :
    ∃ n, runJ E n 57 [.agg [sl, tr], .agg t] = some (.bool b) := by
  unfold bdV at hb
  split at hb
  · rename_i k nm id hm av
    have hsl : elemsV sl = some es := hs
    have hps := hs.pure2
    refine run_gives (by rw [hE]; exact Try.func57) BS_store_bound rfl ?_
    refine Js_seq (Js_reg ?_)
    simp [hE]
    refine Js_seq (Js_reg ?_)
    by_cases hk : k = 1
    · by_cases h : 0 ≤ id ∧ id < es.length
      · rw [if_pos ⟨hk, h⟩] at hb
        obtain ⟨j, rfl⟩ := Int.eq_ofNat_of_zero_le h.1
        have hj : j < es.length := by omega
        have hi := hs.ix (e := I39) (by rw [si39]; exact hz)
        simp [hj] at hb
        split at hb
        · rename_i c b' r hc2
          cases hb
          simp [hE, hk, hc, hasV, hsl, hj, hi, hc2, hps, htr]
          exact Js_ret (by simp)
        · cases hb
      · rw [if_neg (fun hh => h hh.2)] at hb
        cases hb
        have hf : (decide (0 ≤ id) && decide (id < es.length)) = false := by
          rw [Bool.and_eq_false_iff]; simp only [decide_eq_false_iff_not]; omega
        simp [hE, hk, hc, hasV, hsl, hps, htr, -decide_eq_true_eq, hf]
        exact Js_ret (by simp)
    · rw [if_neg (fun hh => hk hh.1)] at hb
      cases hb
      simp [hE, hk]
      exact Js_ret (by simp)
  · cases hb
end Go.Proofs.Ytjgicfkhdclaeaa
