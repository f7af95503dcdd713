/- 'UnifyLarge' returns true at every number and at both orders of its types; its arguments read afterwards as they read before. No condition. -/
import Derived.Test.YtjgicfkhdclaeaaSRun
import Derived.Test.YtjgicfkhdclaeaaUR0
import Derived.Test.YtjgicfkhdclaeaaUR1
import Derived.Test.YtjgicfkhdclaeaaUR2
import Derived.Test.YtjgicfkhdclaeaaUR3
import Derived.Test.YtjgicfkhdclaeaaUR4
import Derived.Test.YtjgicfkhdclaeaaUR5
import Derived.Test.YtjgicfkhdclaeaaUR6
import Derived.Test.YtjgicfkhdclaeaaUR7
import Derived.Test.YtjgicfkhdclaeaaRows
import Derived.WalkKit
import Derived.ProofKit
import Derived.OpenShut
set_option linter.all false
namespace Go.Proofs.Ytjgicfkhdclaeaa
open Go.J
theorem first17_valid {ρ : Nat → Value} (hρ : J.Good ρ) : Valid ρ Try.prog 22 (pureS firstV) := by
  refine Valid.pure hρ follows named (fnOk Try.func22 (by kernel_rfl)) fun vs v hp hv => ?_
  unfold firstV at hv
  split at hv
  · cases hv
    exact ⟨_, 2000, consOk_list (valid_cons (size_valid hρ 300) (valid_cons (bound_scal hρ) valid_nil)), rfl, first17⟩
  · cases hv
theorem runU : ∀ r, r < 40 → ∀ b, runJ (envU r) 2000 6 [.sym 0, .bool b] = some (.bool true) := by
  intro r hr b
  match r, b, hr with
  | 0, false, _ => exact runU_0_false
  | 0, true, _ => exact runU_0_true
  | 1, false, _ => exact runU_1_false
  | 1, true, _ => exact runU_1_true
  | 2, false, _ => exact runU_2_false
  | 2, true, _ => exact runU_2_true
  | 3, false, _ => exact runU_3_false
  | 3, true, _ => exact runU_3_true
  | 4, false, _ => exact runU_4_false
  | 4, true, _ => exact runU_4_true
  | 5, false, _ => exact runU_5_false
  | 5, true, _ => exact runU_5_true
  | 6, false, _ => exact runU_6_false
  | 6, true, _ => exact runU_6_true
  | 7, false, _ => exact runU_7_false
  | 7, true, _ => exact runU_7_true
  | 8, false, _ => exact runU_8_false
  | 8, true, _ => exact runU_8_true
  | 9, false, _ => exact runU_9_false
  | 9, true, _ => exact runU_9_true
  | 10, false, _ => exact runU_10_false
  | 10, true, _ => exact runU_10_true
  | 11, false, _ => exact runU_11_false
  | 11, true, _ => exact runU_11_true
  | 12, false, _ => exact runU_12_false
  | 12, true, _ => exact runU_12_true
  | 13, false, _ => exact runU_13_false
  | 13, true, _ => exact runU_13_true
  | 14, false, _ => exact runU_14_false
  | 14, true, _ => exact runU_14_true
  | 15, false, _ => exact runU_15_false
  | 15, true, _ => exact runU_15_true
  | 16, false, _ => exact runU_16_false
  | 16, true, _ => exact runU_16_true
  | 17, false, _ => exact runU_17_false
  | 17, true, _ => exact runU_17_true
  | 18, false, _ => exact runU_18_false
  | 18, true, _ => exact runU_18_true
  | 19, false, _ => exact runU_19_false
  | 19, true, _ => exact runU_19_true
  | 20, false, _ => exact runU_20_false
  | 20, true, _ => exact runU_20_true
  | 21, false, _ => exact runU_21_false
  | 21, true, _ => exact runU_21_true
  | 22, false, _ => exact runU_22_false
  | 22, true, _ => exact runU_22_true
  | 23, false, _ => exact runU_23_false
  | 23, true, _ => exact runU_23_true
  | 24, false, _ => exact runU_24_false
  | 24, true, _ => exact runU_24_true
  | 25, false, _ => exact runU_25_false
  | 25, true, _ => exact runU_25_true
  | 26, false, _ => exact runU_26_false
  | 26, true, _ => exact runU_26_true
  | 27, false, _ => exact runU_27_false
  | 27, true, _ => exact runU_27_true
  | 28, false, _ => exact runU_28_false
  | 28, true, _ => exact runU_28_true
  | 29, false, _ => exact runU_29_false
  | 29, true, _ => exact runU_29_true
  | 30, false, _ => exact runU_30_false
  | 30, true, _ => exact runU_30_true
  | 31, false, _ => exact runU_31_false
  | 31, true, _ => exact runU_31_true
  | 32, false, _ => exact runU_32_false
  | 32, true, _ => exact runU_32_true
  | 33, false, _ => exact runU_33_false
  | 33, true, _ => exact runU_33_true
  | 34, false, _ => exact runU_34_false
  | 34, true, _ => exact runU_34_true
  | 35, false, _ => exact runU_35_false
  | 35, true, _ => exact runU_35_true
  | 36, false, _ => exact runU_36_false
  | 36, true, _ => exact runU_36_true
  | 37, false, _ => exact runU_37_false
  | 37, true, _ => exact runU_37_true
  | 38, false, _ => exact runU_38_false
  | 38, true, _ => exact runU_38_true
  | 39, false, _ => exact runU_39_false
  | 39, true, _ => exact runU_39_true
  | n + 40, _, h => exact absurd h (by omega)
end Go.Proofs.Ytjgicfkhdclaeaa
namespace Go.Proofs.Ytjgicfkhdclaeaa.unifyLarge
open Go.ChangeShapes Go.WideShapes Go.ChangeAt Go.RowKit
theorem walk (a0 : Int) (a1 : Bool) (w : World) :
    Calls Try.prog 6 #[.int .i64 a0, .bool a1] w fun e w' => e = .returned (.bool true) ∧ Below w.heap.size w w' := by
  obtain ⟨r, hr, he⟩ := mod_nat a0 (m := 40) (by omega)
  have hρ := good a0
  exact run_true hρ (J.valid_cons (first17_valid hρ) (J.valid_cons (mod_valid (by omega) (by omega) he) (J.valid_cons (size_valid hρ 300) (J.valid_cons (bound_scal hρ) J.valid_nil)))) (runU r hr a1) rfl
    (args2 (.sym 0) (.bool a1))

/-! ### THE ROW's STEP: WRITTEN OUT: LEAVE IT -/
set_option maxRecDepth 100000 in
theorem lifted (os : Os) (started : os.Started) (H : Type) (enc : TypeId × Value → H) :
    ReturnsInHanded {} Try.checked os 6 .any (Rows.unifyLargeSpec.pre6 enc Try.prog Try.f6 Rows.unifyLargeRow.domain false) (Rows.unifyLargeSpec.post enc Try.prog Try.f6 false true false false) := by
  refine returnsInHanded_of_change (C := Try.checked) ownKnob_none started (by kernel_rfl) Try.func6
    (ChangeSpec.witness6 (enc := enc) (C := Try.checked) false ⟨#[], #[.int .i64 0, .bool false], []⟩ 8 (by kernel_rfl) (by kernel_rfl) (by kernel_rfl) (by kernel_rfl)) ?_
  intro W base args ds gs before hval0 hW hcnd _
  have hval : ∀ (j : Nat) t v, Try.f6.params[j]? = some t → args[j]? = some v → Value.okWide Try.prog W .any base t v := hval0
  have hW' := hW
  obtain ⟨p, q, hA0, hV, rfl, hfz, hnd⟩ := hW
  have hA : DataW.TrodAll enc Try.prog W 0 (fun _ => true) true Try.f6.params.toList args.toList ds p := hA0
  rw [Try.params6] at hA hval
  obtain ⟨v0, vs0, d0, ds0, p0, q0, hargs, rfl, rfl, h0, r0⟩ := trodAll_cons hA
  obtain ⟨v1, vs1, d1, ds1, p1, q1, rfl, rfl, rfl, h1, r1⟩ := trodAll_cons r0
  obtain ⟨rfl, rfl, rfl⟩ := trodAll_nil r1
  obtain rfl : args = #[v0, v1] := by cases args; simp_all
  obtain ⟨rfl, rfl⟩ := trodVars_none hV
  obtain ⟨a0, rfl, rfl, rfl, w0⟩ := open_int Try.underlying3 (hval 0 3 v0 rfl rfl) h0
  obtain ⟨a1, rfl, rfl, rfl⟩ := open_bool Try.underlying4 (hval 1 4 v1 rfl rfl) h1
  clear hA0 hval0
  simp only [List.append_nil] at hW'
  refine (walk a0 a1 W).mono fun e W' ⟨he, hg⟩ => ?_
  subst he
  exact ⟨_, rfl, post_below (pa := []) (pv := []) hW' (fun _ _ _ => (trodAll_cons_mk (shut_bool Try.underlying4 _) trodAll_mk0)) (fun sp _ => (trodAll_cons_mk (shut_int Try.underlying3 w0) (trodAll_cons_mk (shut_bool Try.underlying4 _) trodAll_mk0))) (fun _ _ => rfl) rfl
    hg (ok_one (by kernel_rfl) rfl (okWide_bool_mk Try.underlying4 _))⟩

theorem over : Rows.unifyLargeRow.holds Try.pinned (OpenSpec.ofChange Rows.unifyLargeSpec) :=
  OpenClaim.holds_of_wide 6 Try.f6 rfl rfl rfl rfl rfl rfl rfl ⟨rfl, rfl, rfl, rfl, rfl⟩ rfl rfl rfl rfl rfl (by kernel_rfl) Try.func6 (by kernel_rfl)
    (of_decide_eq_true (by kernel_rfl)) (by unfold Func.isWrapper; first | (rw [if_pos (by decide +kernel)]; kernel_rfl) | (rw [if_neg (by decide +kernel)]; exact ⟨rfl, rfl⟩))
    (fun os started H enc _ => lifted os started H enc)

/-- ████ THE STATEMENT ████ -/
theorem proved : Rows.UnifyLargeSaid :=
  over
#print axioms proved
end Go.Proofs.Ytjgicfkhdclaeaa.unifyLarge
