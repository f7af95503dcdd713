/- A variable with a function type is normal at its goal exactly with as many functions around it as its type has arrows: true at every pair of numbers; the arguments read afterwards as they read before. No condition. -/
import Derived.Test.YtabhillmocfogaaGreatSMz
import Derived.Test.YtabhillmocfogaaGreatNLF
import Derived.Test.YtabhillmocfogaaGreatNR0
import Derived.Test.YtabhillmocfogaaGreatNR1
import Derived.Test.YtabhillmocfogaaGreatNR2
import Derived.Test.YtabhillmocfogaaGreatNR3
import Derived.Test.YtabhillmocfogaaGreatNR4
set_option linter.all false
set_option linter.all false
namespace Go.Proofs.YtabhillmocfogaaGreat
open Go.J
theorem runN : ∀ k, k < 5 → ∀ j, j < 5 → runJ (envL Tryz.prog pol [(20, pureS trueV), (25, conMod [(0, 5, k), (1, 5, j)])]) 2000 8 [.sym 0, .sym 1] = some (.bool true) := by
  intro k hk j hj
  match k, j, hk, hj with
  | 0, 0, _, _ => exact runN_0_0
  | 0, 1, _, _ => exact runN_0_1
  | 0, 2, _, _ => exact runN_0_2
  | 0, 3, _, _ => exact runN_0_3
  | 0, 4, _, _ => exact runN_0_4
  | 0, j + 5, _, h => exact absurd h (by omega)
  | 1, 0, _, _ => exact runN_1_0
  | 1, 1, _, _ => exact runN_1_1
  | 1, 2, _, _ => exact runN_1_2
  | 1, 3, _, _ => exact runN_1_3
  | 1, 4, _, _ => exact runN_1_4
  | 1, j + 5, _, h => exact absurd h (by omega)
  | 2, 0, _, _ => exact runN_2_0
  | 2, 1, _, _ => exact runN_2_1
  | 2, 2, _, _ => exact runN_2_2
  | 2, 3, _, _ => exact runN_2_3
  | 2, 4, _, _ => exact runN_2_4
  | 2, j + 5, _, h => exact absurd h (by omega)
  | 3, 0, _, _ => exact runN_3_0
  | 3, 1, _, _ => exact runN_3_1
  | 3, 2, _, _ => exact runN_3_2
  | 3, 3, _, _ => exact runN_3_3
  | 3, 4, _, _ => exact runN_3_4
  | 3, j + 5, _, h => exact absurd h (by omega)
  | 4, 0, _, _ => exact runN_4_0
  | 4, 1, _, _ => exact runN_4_1
  | 4, 2, _, _ => exact runN_4_2
  | 4, 3, _, _ => exact runN_4_3
  | 4, 4, _, _ => exact runN_4_4
  | 4, j + 5, _, h => exact absurd h (by omega)
  | k + 5, _, h, _ => exact absurd h (by omega)
theorem good2 (n : Nat → Int) : J.Good fun i => Value.int .i64 (n i) := fun _ => rfl
end Go.Proofs.YtabhillmocfogaaGreat
namespace Go.Proofs.YtabhillmocfogaaGreat.normalLong
open Go.J Go.ChangeShapes Go.WideShapes Go.ChangeAt Go.RowKit
theorem walk (a0 : Int) (a1 : Int) (w : World) :
    Calls Tryz.prog 8 #[.int .i64 a0, .int .i64 a1] w fun e w' => e = .returned (.bool true) ∧ Below w.heap.size w w' := by
  obtain ⟨k, hk, hek⟩ := mod_nat a0 (m := 5) (by omega)
  obtain ⟨j, hj, hej⟩ := mod_nat a1 (m := 5) (by omega)
  have hρ := good2 (fun i => if i = 0 then a0 else a1)
  refine run_true hρ (J.valid_cons (true_valid hρ J.valid_nil Tryz.func20 (by kernel_rfl) first28) (J.valid_cons (mod_valid (ns := fun i => if i = 0 then a0 else a1) fun p hp => ?_) J.valid_nil)) (runN k hk j hj) rfl (args2 (.sym 0) (.sym 1))
  simp only [List.mem_cons, List.not_mem_nil, or_false] at hp
  rcases hp with rfl | rfl
  · exact ⟨show 1 ≤ 5 by omega, show 5 ≤ 1000000 by omega, hek⟩
  · exact ⟨show 1 ≤ 5 by omega, show 5 ≤ 1000000 by omega, hej⟩

/-! ### THE ROW's STEP: WRITTEN OUT: LEAVE IT -/
set_option maxRecDepth 100000 in
theorem lifted (os : Os) (started : os.Started) (H : Type) (enc : TypeId × Value → H) :
    ReturnsInHanded {} Tryz.checked os 8 .any (Rows.normalLongSpec.pre6 enc Tryz.prog Tryz.f8 Rows.normalLongRow.domain false) (Rows.normalLongSpec.post enc Tryz.prog Tryz.f8 false true false false) := by
  refine returnsInHanded_of_change (C := Tryz.checked) ownKnob_none started (by kernel_rfl) Tryz.func8
    (ChangeSpec.witness6 (enc := enc) (C := Tryz.checked) false ⟨#[], #[.int .i64 0, .int .i64 0], []⟩ 8 (by kernel_rfl) (by kernel_rfl) (by kernel_rfl) (by kernel_rfl)) ?_
  intro W base args ds gs before hval0 hW hcnd _
  have hval : ∀ (j : Nat) t v, Tryz.f8.params[j]? = some t → args[j]? = some v → Value.okWide Tryz.prog W .any base t v := hval0
  have hW' := hW
  obtain ⟨p, q, hA0, hV, rfl, hfz, hnd⟩ := hW
  have hA : DataW.TrodAll enc Tryz.prog W 0 (fun _ => true) true Tryz.f8.params.toList args.toList ds p := hA0
  rw [Tryz.params8] at hA hval
  obtain ⟨v0, vs0, d0, ds0, p0, q0, hargs, rfl, rfl, h0, r0⟩ := trodAll_cons hA
  obtain ⟨v1, vs1, d1, ds1, p1, q1, rfl, rfl, rfl, h1, r1⟩ := trodAll_cons r0
  obtain ⟨rfl, rfl, rfl⟩ := trodAll_nil r1
  obtain rfl : args = #[v0, v1] := by cases args; simp_all
  obtain ⟨rfl, rfl⟩ := trodVars_none hV
  obtain ⟨a0, rfl, rfl, rfl, w0⟩ := open_int Tryz.underlying3 (hval 0 3 v0 rfl rfl) h0
  obtain ⟨a1, rfl, rfl, rfl, w1⟩ := open_int Tryz.underlying3 (hval 1 3 v1 rfl rfl) h1
  clear hA0 hval0
  simp only [List.append_nil] at hW'
  refine (walk a0 a1 W).mono fun e W' ⟨he, hg⟩ => ?_
  subst he
  exact ⟨_, rfl, post_below (pa := []) (pv := []) hW' (fun _ _ _ => (trodAll_cons_mk (shut_bool Tryz.underlying4 _) trodAll_mk0)) (fun sp _ => (trodAll_cons_mk (shut_int Tryz.underlying3 w0) (trodAll_cons_mk (shut_int Tryz.underlying3 w1) trodAll_mk0))) (fun _ _ => rfl) rfl
    hg (ok_one (by kernel_rfl) rfl (okWide_bool_mk Tryz.underlying4 _))⟩

theorem over : Rows.normalLongRow.holds Tryz.pinned (OpenSpec.ofChange Rows.normalLongSpec) :=
  OpenClaim.holds_of_wide 8 Tryz.f8 rfl rfl rfl rfl rfl rfl rfl ⟨rfl, rfl, rfl, rfl, rfl⟩ rfl rfl rfl rfl rfl (by kernel_rfl) Tryz.func8 (by kernel_rfl)
    (of_decide_eq_true (by kernel_rfl)) (by unfold Func.isWrapper; first | (rw [if_pos (by decide +kernel)]; kernel_rfl) | (rw [if_neg (by decide +kernel)]; exact ⟨rfl, rfl⟩))
    (fun os started H enc _ => lifted os started H enc)

/-- ████ THE STATEMENT ████ -/
theorem proved : Rows.NormalLongSaid :=
  over
#print axioms proved
end Go.Proofs.YtabhillmocfogaaGreat.normalLong
