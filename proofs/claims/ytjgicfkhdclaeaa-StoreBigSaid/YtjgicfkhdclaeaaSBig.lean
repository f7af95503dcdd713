/- 'StoreBig' returns true at every number; its argument reads afterwards as it read before. No condition. -/
import Derived.Test.YtjgicfkhdclaeaaSBR0
import Derived.Test.YtjgicfkhdclaeaaSBR1
import Derived.Test.YtjgicfkhdclaeaaSBR2
import Derived.Test.YtjgicfkhdclaeaaSBR3
import Derived.Test.YtjgicfkhdclaeaaSBR4
import Derived.Test.YtjgicfkhdclaeaaSBR5
import Derived.Test.YtjgicfkhdclaeaaRows
import Derived.WalkKit
import Derived.ProofKit
import Derived.OpenShut
set_option linter.all false
namespace Go.Proofs.Ytjgicfkhdclaeaa
open Go.J
theorem runB : ∀ r, r < 60 → runJ (envB r) 2000 3 [.sym 0] = some (.bool true) := by
  intro r hr
  match r, hr with
  | 0, _ => exact runB_0
  | 1, _ => exact runB_1
  | 2, _ => exact runB_2
  | 3, _ => exact runB_3
  | 4, _ => exact runB_4
  | 5, _ => exact runB_5
  | 6, _ => exact runB_6
  | 7, _ => exact runB_7
  | 8, _ => exact runB_8
  | 9, _ => exact runB_9
  | 10, _ => exact runB_10
  | 11, _ => exact runB_11
  | 12, _ => exact runB_12
  | 13, _ => exact runB_13
  | 14, _ => exact runB_14
  | 15, _ => exact runB_15
  | 16, _ => exact runB_16
  | 17, _ => exact runB_17
  | 18, _ => exact runB_18
  | 19, _ => exact runB_19
  | 20, _ => exact runB_20
  | 21, _ => exact runB_21
  | 22, _ => exact runB_22
  | 23, _ => exact runB_23
  | 24, _ => exact runB_24
  | 25, _ => exact runB_25
  | 26, _ => exact runB_26
  | 27, _ => exact runB_27
  | 28, _ => exact runB_28
  | 29, _ => exact runB_29
  | 30, _ => exact runB_30
  | 31, _ => exact runB_31
  | 32, _ => exact runB_32
  | 33, _ => exact runB_33
  | 34, _ => exact runB_34
  | 35, _ => exact runB_35
  | 36, _ => exact runB_36
  | 37, _ => exact runB_37
  | 38, _ => exact runB_38
  | 39, _ => exact runB_39
  | 40, _ => exact runB_40
  | 41, _ => exact runB_41
  | 42, _ => exact runB_42
  | 43, _ => exact runB_43
  | 44, _ => exact runB_44
  | 45, _ => exact runB_45
  | 46, _ => exact runB_46
  | 47, _ => exact runB_47
  | 48, _ => exact runB_48
  | 49, _ => exact runB_49
  | 50, _ => exact runB_50
  | 51, _ => exact runB_51
  | 52, _ => exact runB_52
  | 53, _ => exact runB_53
  | 54, _ => exact runB_54
  | 55, _ => exact runB_55
  | 56, _ => exact runB_56
  | 57, _ => exact runB_57
  | 58, _ => exact runB_58
  | 59, _ => exact runB_59
  | n + 60, h => exact absurd h (by omega)
end Go.Proofs.Ytjgicfkhdclaeaa
namespace Go.Proofs.Ytjgicfkhdclaeaa.storeBig
open Go.ChangeShapes Go.WideShapes Go.ChangeAt Go.RowKit
theorem walk (a0 : Int) (w : World) :
    Calls Try.prog 3 #[.int .i64 a0] w fun e w' => e = .returned (.bool true) ∧ Below w.heap.size w w' := by
  obtain ⟨r, hr, he⟩ := mod_nat a0 (m := 60) (by omega)
  have hρ := good a0
  exact run_true hρ (J.valid_cons (first16_valid hρ) (J.valid_cons (mod_valid (by omega) (by omega) he) (J.valid_cons (size_valid hρ 300) (J.valid_cons (resolve_valid hρ 300).frz J.valid_nil)))) (runB r hr) rfl
    (args1 (.sym 0))

/-! ### THE ROW's STEP: WRITTEN OUT: LEAVE IT -/
set_option maxRecDepth 100000 in
theorem lifted (os : Os) (started : os.Started) (H : Type) (enc : TypeId × Value → H) :
    ReturnsInHanded {} Try.checked os 3 .any (Rows.storeBigSpec.pre6 enc Try.prog Try.f3 Rows.storeBigRow.domain false) (Rows.storeBigSpec.post enc Try.prog Try.f3 false true false false) := by
  refine returnsInHanded_of_change (C := Try.checked) ownKnob_none started (by kernel_rfl) Try.func3
    (ChangeSpec.witness6 (enc := enc) (C := Try.checked) false ⟨#[], #[.int .i64 0], []⟩ 8 (by kernel_rfl) (by kernel_rfl) (by kernel_rfl) (by kernel_rfl)) ?_
  intro W base args ds gs before hval0 hW hcnd _
  have hval : ∀ (j : Nat) t v, Try.f3.params[j]? = some t → args[j]? = some v → Value.okWide Try.prog W .any base t v := hval0
  have hW' := hW
  obtain ⟨p, q, hA0, hV, rfl, hfz, hnd⟩ := hW
  have hA : DataW.TrodAll enc Try.prog W 0 (fun _ => true) true Try.f3.params.toList args.toList ds p := hA0
  rw [Try.params3] at hA hval
  obtain ⟨v0, vs0, d0, ds0, p0, q0, hargs, rfl, rfl, h0, r0⟩ := trodAll_cons hA
  obtain ⟨rfl, rfl, rfl⟩ := trodAll_nil r0
  obtain rfl : args = #[v0] := by cases args; simp_all
  obtain ⟨rfl, rfl⟩ := trodVars_none hV
  obtain ⟨a0, rfl, rfl, rfl, w0⟩ := open_int Try.underlying3 (hval 0 3 v0 rfl rfl) h0
  clear hA0 hval0
  simp only [List.append_nil] at hW'
  refine (walk a0 W).mono fun e W' ⟨he, hg⟩ => ?_
  subst he
  exact ⟨_, rfl, post_below (pa := []) (pv := []) hW' (fun _ _ _ => (trodAll_cons_mk (shut_bool Try.underlying4 _) trodAll_mk0)) (fun sp _ => (trodAll_cons_mk (shut_int Try.underlying3 w0) trodAll_mk0)) (fun _ _ => rfl) rfl
    hg (ok_one (by kernel_rfl) rfl (okWide_bool_mk Try.underlying4 _))⟩

theorem over : Rows.storeBigRow.holds Try.pinned (OpenSpec.ofChange Rows.storeBigSpec) :=
  OpenClaim.holds_of_wide 3 Try.f3 rfl rfl rfl rfl rfl rfl rfl ⟨rfl, rfl, rfl, rfl, rfl⟩ rfl rfl rfl rfl rfl (by kernel_rfl) Try.func3 (by kernel_rfl)
    (of_decide_eq_true (by kernel_rfl)) (by unfold Func.isWrapper; first | (rw [if_pos (by decide +kernel)]; kernel_rfl) | (rw [if_neg (by decide +kernel)]; exact ⟨rfl, rfl⟩))
    (fun os started H enc _ => lifted os started H enc)

/-- ████ THE STATEMENT ████ -/
theorem proved : Rows.StoreBigSaid :=
  over
#print axioms proved
end Go.Proofs.Ytjgicfkhdclaeaa.storeBig
