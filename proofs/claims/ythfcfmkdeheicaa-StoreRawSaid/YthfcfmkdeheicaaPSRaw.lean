/- Rolling back any valid store: the result has the trail's length that was asked for, and out of range the store itself: true at every store and every mark; the arguments read afterwards as they read before. No condition. -/
import Derived.Test.YthfcfmkdeheicaaPRD
import Derived.Test.YthfcfmkdeheicaaPF1
import Derived.Below
set_option linter.all false
set_option linter.all false
namespace Go.Proofs.Ythfcfmkdeheicaa
open Go.J
open Go.J.Enc (enc)
theorem good0 : J.Good fun _ => Value.int .i64 0 := fun _ => rfl
theorem vFirst16 {ρ : Nat → Value} (hρ : J.Good ρ) : Valid ρ Try.prog 10 trueS := v0 (fnOk Try.func10 (by kernel_rfl)) fun hs =>
  pure_callOk hρ (E := EL []) (consOk_list valid_nil) follows named first16 rfl
theorem laidOut1 : laidOutB Try.prog = true := by kernel_rfl
end Go.Proofs.Ythfcfmkdeheicaa
namespace Go.Proofs.Ythfcfmkdeheicaa.storeRaw
open Go.J Go.ChangeShapes Go.WideShapes Go.ChangeAt Go.RowKit
open Go.J.Enc (enc)
theorem walk {s : Store} (hsh : ∀ x ∈ s.slots, x.type.short = true) (a1 : Int) (v0 : Value) (w : World) (h0 : Val (fun _ => Value.int .i64 0) w (Enc.enc s) v0) :
    Calls Try.prog 5 #[v0, .int .i64 a1] w fun e w' => e = .returned (.bool true) ∧ Below w.heap.size w w' := by
  refine call_true (ρ := fun _ => Value.int .i64 0) (StoreRaw_run good0 (E := EL [(10, trueS), (29, fnS (spec1 fun s : Store => some (decide s.few))), (30, valid16S), (22, modS), (27, rollS), (18, same16S)]) rfl
    (consOk_list (valid_cons (vFirst16 good0) (valid_cons (vFew16 good0) (valid_cons (vValid16 good0) (valid_cons (vMod good0) (valid_cons (vRollback good0) (valid_cons (vSame16 good0) valid_nil))))))) rfl rfl rfl rfl rfl rfl hsh (m := a1) emptyHS) rfl ?_
  exact args2 h0 (.int .i64 a1)
set_option maxRecDepth 100000 in
theorem lifted (os : Os) (started : os.Started) (H : Type) (enc : TypeId × Value → H) :
    ReturnsInHanded {} Try.checked os 5 .any (Rows.storeRawSpec.pre6 enc Try.prog Try.f5 Rows.storeRawRow.domain false) (Rows.storeRawSpec.post enc Try.prog Try.f5 false true false false) := by
  refine returnsInHanded_of_change (C := Try.checked) ownKnob_none started (by kernel_rfl) Try.func5
    (ChangeSpec.witness6 (enc := enc) (C := Try.checked) false ⟨#[], #[.agg #[.slice none 0 0, .slice none 0 0], .int .i64 0], []⟩ 8 (by kernel_rfl) (by kernel_rfl) (by kernel_rfl) (by kernel_rfl)) ?_
  intro W base args ds gs before hval0 hW hcnd _
  have hval : ∀ (j : Nat) t v, Try.f5.params[j]? = some t → args[j]? = some v → Value.okWide Try.prog W .any base t v := hval0
  have hW' := hW
  have hlt : ∀ p ∈ before, p.block < W.heap.size := fun p hp => hW.lt p hp
  obtain ⟨p, q, hA0, hV, rfl, hfz, hnd⟩ := hW
  have hA : DataW.TrodAll enc Try.prog W 0 (fun _ => true) true Try.f5.params.toList args.toList ds p := hA0
  have hA1 := hA
  rw [Try.params5] at hA hval
  obtain ⟨v0, vs0, d0, ds0, p0, q0, hargs, rfl, rfl, h0, r0⟩ := trodAll_cons hA
  obtain ⟨v1, vs1, d1, ds1, p1, q1, rfl, rfl, rfl, h1, r1⟩ := trodAll_cons r0
  obtain ⟨rfl, rfl, rfl⟩ := trodAll_nil r1
  obtain rfl : args = #[v0, v1] := by cases args; simp_all
  obtain ⟨rfl, rfl⟩ := trodVars_none hV
  obtain ⟨a1, rfl, rfl, rfl, w1⟩ := open_int Try.underlying3 (hval 1 3 v1 rfl rfl) h1
  obtain ⟨s, hsh, hv⟩ := read_store (ρ := fun _ => Value.int .i64 0) h0
  refine (walk hsh a1 v0 W hv).mono fun e W' ⟨he, hg⟩ => ?_
  subst he
  simp only [List.append_nil] at hlt
  exact ⟨_, rfl, post_below (pa := p0) (pv := []) hW' (fun _ _ _ => (trodAll_cons_mk (shut_bool Try.underlying4 _) trodAll_mk0))
    (fun sp hsp => by
      have := args_after laidOut1 hg (sp := sp) (ts := Try.f5.params.toList) (by rw [Try.params5]; decide) hA1 (by simpa using hlt) (by simpa using hsp)
      simp only [List.append_nil] at this
      exact this) (fun _ _ => rfl) (by simp)
    hg (ok_one (by kernel_rfl) rfl (okWide_bool_mk Try.underlying4 _))⟩

theorem over : Rows.storeRawRow.holds Try.pinned (OpenSpec.ofChange Rows.storeRawSpec) :=
  OpenClaim.holds_of_wide 5 Try.f5 rfl rfl rfl rfl rfl rfl rfl ⟨rfl, rfl, rfl, rfl, rfl⟩ rfl rfl rfl rfl rfl (by kernel_rfl) Try.func5 (by kernel_rfl)
    (of_decide_eq_true (by kernel_rfl)) (by unfold Func.isWrapper; first | (rw [if_pos (by decide +kernel)]; kernel_rfl) | (rw [if_neg (by decide +kernel)]; exact ⟨rfl, rfl⟩))
    (fun os started H enc _ => lifted os started H enc)

/-- ████ THE STATEMENT ████ -/
theorem proved : Rows.StoreRawSaid :=
  over
#print axioms proved
end Go.Proofs.Ythfcfmkdeheicaa.storeRaw
