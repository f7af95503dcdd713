/- 'SolveLarge' returns true at every number; its argument reads afterwards as it read before. No condition. -/
import Derived.Test.YtjgicfkhdclaeaaLR0
import Derived.Test.YtjgicfkhdclaeaaLR1
import Derived.Test.YtjgicfkhdclaeaaRows
import Derived.WalkKit
import Derived.ProofKit
import Derived.OpenShut
set_option linter.all false
namespace Go.Proofs.Ytjgicfkhdclaeaa
open Go.J
theorem runS : ∀ r, r < 12 → runJ (envS r) 2000 5 [.sym 0] = some (.bool true) := by
  intro r hr
  match r, hr with
  | 0, _ => exact runS_0
  | 1, _ => exact runS_1
  | 2, _ => exact runS_2
  | 3, _ => exact runS_3
  | 4, _ => exact runS_4
  | 5, _ => exact runS_5
  | 6, _ => exact runS_6
  | 7, _ => exact runS_7
  | 8, _ => exact runS_8
  | 9, _ => exact runS_9
  | 10, _ => exact runS_10
  | 11, _ => exact runS_11
  | n + 12, h => exact absurd h (by omega)
end Go.Proofs.Ytjgicfkhdclaeaa
namespace Go.Proofs.Ytjgicfkhdclaeaa.solveLarge
open Go.ChangeShapes Go.WideShapes Go.ChangeAt Go.RowKit
theorem walk (a0 : Int) (w : World) :
    Calls Try.prog 5 #[.int .i64 a0] w fun e w' => e = .returned (.bool true) ∧ Below w.heap.size w w' := by
  obtain ⟨r, hr, he⟩ := mod_nat a0 (m := 12) (by omega)
  have hρ := good a0
  exact run_true hρ (J.valid_cons (first18_valid hρ) (J.valid_cons (mod_valid (by omega) (by omega) he) (J.valid_cons (triSize_valid hρ 300 300) J.valid_nil))) (runS r hr) rfl
    (args1 (.sym 0))

/-! ### THE ROW's STEP: WRITTEN OUT: LEAVE IT -/
set_option maxRecDepth 100000 in
theorem lifted (os : Os) (started : os.Started) (H : Type) (enc : TypeId × Value → H) :
    ReturnsInHanded {} Try.checked os 5 .any (Rows.solveLargeSpec.pre6 enc Try.prog Try.f5 Rows.solveLargeRow.domain false) (Rows.solveLargeSpec.post enc Try.prog Try.f5 false true false false) := by
  refine returnsInHanded_of_change (C := Try.checked) ownKnob_none started (by kernel_rfl) Try.func5
    (ChangeSpec.witness6 (enc := enc) (C := Try.checked) false ⟨#[], #[.int .i64 0], []⟩ 8 (by kernel_rfl) (by kernel_rfl) (by kernel_rfl) (by kernel_rfl)) ?_
  intro W base args ds gs before hval0 hW hcnd _
  have hval : ∀ (j : Nat) t v, Try.f5.params[j]? = some t → args[j]? = some v → Value.okWide Try.prog W .any base t v := hval0
  have hW' := hW
  obtain ⟨p, q, hA0, hV, rfl, hfz, hnd⟩ := hW
  have hA : DataW.TrodAll enc Try.prog W 0 (fun _ => true) true Try.f5.params.toList args.toList ds p := hA0
  rw [Try.params5] at hA hval
  obtain ⟨v0, vs0, d0, ds0, p0, q0, hargs, rfl, rfl, h0, r0⟩ := trodAll_cons hA
  obtain ⟨rfl, rfl, rfl⟩ := trodAll_nil r0
  obtain rfl : args = #[v0] := by cases args; simp_all
  obtain ⟨rfl, rfl⟩ := trodVars_none hV
  obtain ⟨a0, rfl, rfl, rfl, w0⟩ := open_int Try.underlying3 (hval 0 3 v0 rfl rfl) h0
  clear hA0 hval0
  simp only [List.append_nil] at hW'
  refine (walk a0 W).mono fun e W' ⟨he, hg⟩ => ?_
  subst he
  exact ⟨_, rfl, post_below (pa := []) (pv := []) hW' (fun _ _ _ => (trodAll_cons_mk (shut_bool Try.underlying4 _) trodAll_mk0)) (fun sp _ => (trodAll_cons_mk (shut_int Try.underlying3 w0) trodAll_mk0)) (fun _ _ => rfl) rfl
    hg (ok_one (by kernel_rfl) rfl (okWide_bool_mk Try.underlying4 _))⟩

theorem over : Rows.solveLargeRow.holds Try.pinned (OpenSpec.ofChange Rows.solveLargeSpec) :=
  OpenClaim.holds_of_wide 5 Try.f5 rfl rfl rfl rfl rfl rfl rfl ⟨rfl, rfl, rfl, rfl, rfl⟩ rfl rfl rfl rfl rfl (by kernel_rfl) Try.func5 (by kernel_rfl)
    (of_decide_eq_true (by kernel_rfl)) (by unfold Func.isWrapper; first | (rw [if_pos (by decide +kernel)]; kernel_rfl) | (rw [if_neg (by decide +kernel)]; exact ⟨rfl, rfl⟩))
    (fun os started H enc _ => lifted os started H enc)

/-- ████ THE STATEMENT ████ -/
theorem proved : Rows.SolveLargeSaid :=
  over
#print axioms proved
end Go.Proofs.Ytjgicfkhdclaeaa.solveLarge
