import Derived.Test.YtjgicfkhdclaeaaTRT
import Derived.Test.YtjgicfkhdclaeaaTRC
import Derived.Test.YtjgicfkhdclaeaaYW
set_option linter.all false
/- What the triangle's Walk computes. -/
namespace Go.Proofs.Ytjgicfkhdclaeaa
open Go.J
/-- the entries of a set of types -/
noncomputable def triM (H : PT J.Obj) (v : V) : Option (List (V × V)) :=
  match v with
  | .ptr i 0 0 => match H.get i with
    | some (.arr 2 0 [[.map mi, _]] true false false) => match H.get mi with
      | some (.mp es) => some es
      | _ => none
    | _ => none
  | _ => none
theorem triM_inv {H : PT J.Obj} {v : V} {es : List (V × V)} (h : triM H v = some es) : ∃ i mi d, v = .ptr i 0 0 ∧ H.get i = some (J.Obj.arr 2 0 [[.map mi, d]] true false false) ∧ H.get mi = some (J.Obj.mp es) := by
  unfold triM at h
  split at h
  · rename_i i
    split at h
    · rename_i mi d hi
      split at h
      · rename_i es' hm
        cases h
        exact ⟨i, mi, d, rfl, hi, hm⟩
      · cases h
    · cases h
  · cases h
noncomputable def okT (c : List V) : Bool := et (Nat.beq (lenL c) 5) (allP c)
theorem okT_inv {c : List V} (h : okT c = true) : c.length = 5 ∧ ∀ x ∈ c, x.pure2 = true := by
  unfold okT at h
  rw [et_eq] at h
  simp [J.beq_true] at h
  exact ⟨h.1, allP_eq.1 h.2⟩
noncomputable def wkT (es : List (V × V)) : Nat → List V → Option (List V)
  | 0, _ => none
  | m + 1, t => match t with
    | [.int .i64 k, _, .int .i64 id, _, _] => if k = 1 then (match findJ (.int .i64 id) es with
        | some (some (.agg c)) => bi (okT c) (wkT es m c) none
        | some none => some t
        | _ => none) else some t
    | _ => none
theorem wkT_ok {es : List (V × V)} : ∀ {m : Nat} {t r : List V}, wkT es m t = some r → okT t = true → okT r = true := by
  intro m
  induction m with
  | zero => intro t r h; cases h
  | succ m ih =>
    intro t r h ht
    unfold wkT at h
    split at h
    · split at h
      · split at h
        · rw [bi_eq] at h
          split at h
          · rename_i hc
            exact ih h hc
          · cases h
        · cases h; exact ht
        · cases h
      · cases h; exact ht
    · cases h
theorem tri_walk_loop {E : Env} (hE : E.P = Try.prog) {H0 : PT J.Obj} {n0 i mi : Nat} {d : V} {es : List (V × V)} {r : List V} {Q : Ex → PT V → HS → Prop}
    (hi : i < n0) (hmi : mi < n0) (g0 : H0.get i = some (J.Obj.arr 2 0 [[.map mi, d]] true false false)) (gm : H0.get mi = some (J.Obj.mp es))
    (hQ : ∀ T H n log, T.get 3 = some (.ptr n0 0 0) → T.get 4 = some (.ptr (n0 + 1) 0 0) → H.get n0 = some (J.Obj.arr 5 0 [r] true false false) → H.get (n0 + 1) = some (J.Obj.arr 5 0 [[.int .i64 0, .str [], .int .i64 0, .int .i64 0, .snil]] true false false) → (∀ k, n ≤ k → H.get k = none) → n0 + 2 ≤ n →
      (∀ k, k < n0 → H.get k = H0.get k) → Q (.exit 0) T { H := H, n := n, log := log }) : ∀ (m : Nat) (t : List V) (T : PT V) (H : PT J.Obj) (n : Nat) (log : List Nat), wkT es m t = some r → okT t = true →
    T.get 0 = some (.ptr i 0 0) → T.get 3 = some (.ptr n0 0 0) → T.get 4 = some (.ptr (n0 + 1) 0 0) →
    H.get n0 = some (J.Obj.arr 5 0 [t] true false false) → H.get (n0 + 1) = some (J.Obj.arr 5 0 [[.int .i64 0, .str [], .int .i64 0, .int .i64 0, .snil]] true false false) → (∀ k, n ≤ k → H.get k = none) → n0 + 2 ≤ n → (∀ k, k < n0 → H.get k = H0.get k) →
    Js E false 24 (.loop S_triangle_Set_Walk_l0) T { H := H, n := n, log := log } Q := by
  intro m
  induction m with
  | zero => intro t T H n log hr; cases hr
  | succ m ih =>
    intro t T H n log hr hok h0 h3 h4 g3 g4 gv hn hk
    obtain ⟨ht5, htp⟩ := okT_inv hok
    have gi : H.get i = some (J.Obj.arr 2 0 [[.map mi, d]] true false false) := by rw [hk i hi]; exact g0
    have gmi : H.get mi = some (J.Obj.mp es) := by rw [hk mi hmi]; exact gm
    obtain ⟨t0, t1, t2, t3, t4, rfl⟩ := five ht5
    have hall : allP [t0, t1, t2, t3, t4] = true := allP_eq.2 htp
    simp at hall
    unfold wkT at hr
    split at hr
    · rename_i k nm id hm av heq
      cases heq
      refine Js_loop (Js_seq (Js_seq (Js_reg ?_)))
      simp [hE, h3, g3]
      split at hr
      · rename_i hk1
        refine Js_cond (t := true) (by simp [hk1]) (fun _ => Js_skip ?_) (fun h => by cases h)
        simp
        refine Js_block (Js_seq (Js_draw ?_))
        have gv' : ∀ j, H.get (n + j) = none := fun j => gv _ (by omega)
        have hin : ∀ j, ¬ i = n + j := fun j => by omega
        have hmin : ∀ j, ¬ mi = n + j := fun j => by omega
        have hn0 : ∀ j, ¬ n0 = n + j := fun j => by omega
        split at hr
        · rename_i c hf
          rw [bi_eq] at hr
          split at hr
          · rename_i hc
            have hc2 := okT_inv hc
            obtain ⟨c0, c1, c2, c3, c4, rfl⟩ := five hc2.1
            have hcall : allP [c0, c1, c2, c3, c4] = true := allP_eq.2 hc2.2
            simp at hcall
            simp [hE, h0, h3, g3, gi, gmi, gv', hin, hmin, hn0, Nat.add_assoc, hf, lookupJ, mapOf, entriesJ, keyOk, J.Obj.mp?, kindEq, hcall, pure2_cell]
            refine Js_seq (Js_seq (Js_reg ?_))
            simp [hE, isSomeO]
            refine Js_cond (t := false) (by simp) (fun h => by cases h) (fun _ => Js_skip ?_)
            simp
            refine Js_reg ?_
            simp [hE, h3, g3, gv', hn0, Nat.add_assoc, hcall, pure2_cell]
            refine ih _ _ _ (n + 20) _ hr hc (by simp [h0]) (by simp [h3]) (by simp [h4]) (by simp) ?_ ?_ (by omega) ?_
            · simp [g4, show ¬ n0 = n + 12 by omega]
            · intro k hk'
              simp [show ¬ k = n0 by omega, show ¬ k = n + 13 by omega]; exact gv k (by omega)
            · intro k hk'
              simp [show ¬ k = n0 by omega, show ¬ k = n + 13 by omega]; exact hk k hk'
          · cases hr
        · rename_i hf
          cases hr
          simp [hE, h0, h3, g3, gi, gmi, gv', hin, hmin, hn0, Nat.add_assoc, hf, lookupJ, mapOf, entriesJ, keyOk, J.Obj.mp?, kindEq, zeroJ]
          refine Js_seq (Js_seq (Js_reg ?_))
          simp [hE, isSomeO]
          refine Js_cond (t := true) (by simp) (fun _ => Js_exit ?_) (fun h => by cases h)
          simp
          refine hQ _ _ (n + 18) _ (by simp [h3]) (by simp [h4]) (by simp [g3, hn0]) ?_ ?_ (by omega) ?_
          · simp [g4, show ¬ n0 = n + 12 by omega]
          · intro k hk'
            simp [show ¬ k = n + 13 by omega]; exact gv k (by omega)
          · intro k hk'
            simp [show ¬ k = n + 13 by omega]; exact hk k hk'
        · cases hr
      · rename_i hk1
        cases hr
        refine Js_cond (t := false) (by simp [hk1]) (fun h => by cases h) (fun _ => Js_exit ?_)
        simp
        exact hQ _ _ _ _ (by simp [h3]) (by simp [h4]) g3 g4 (fun k hk => gv k (by omega)) (by omega) hk
    · cases hr
end Go.Proofs.Ytjgicfkhdclaeaa
