/- Fresh slots and replaced slots are those of the reference, and their trails too: true at every tape, every home and every slot; the arguments read afterwards as they read before. No condition. -/
import Derived.Test.YthfcfmkdeheicaaPW5
import Derived.Below
import Derived.Test.YthfcfmkdeheicaaPRD
import Derived.Test.YthfcfmkdeheicaaPF1
set_option linter.all false
set_option linter.all false
namespace Go.Proofs.Ythfcfmkdeheicaa
open Go.J
open Go.J.Enc (enc)
theorem good0 : J.Good fun _ => Value.int .i64 0 := fun _ => rfl
theorem vFirst16 {ρ : Nat → Value} (hρ : J.Good ρ) : Valid ρ Try.prog 10 yesS := v0 (fnOk Try.func10 (by kernel_rfl)) fun hs =>
  pure_callOk hρ (E := EL []) (consOk_list valid_nil) follows named first16 rfl
theorem laidOut1 : laidOutB Try.prog = true := by kernel_rfl
theorem plain22 : plainB Try.prog [22, 3] = true := by kernel_rfl
theorem plain27 : plainB Try.prog [27, 25, 23, 3, 4, 9] = true := by kernel_rfl
/-- a slot that was read -/
theorem read_slot {ρ : Nat → Value} {H : Type} {enc : TypeId × Value → H} {w : World} {base : Nat} {sp : Nat → Bool} {held : Bool} {v : Value} {d : DataW H} {ps : List MemPlace} (h : DataW.Trod enc Try.prog w base sp held 27 v d ps) :
    ∃ x : Slot, x.type.short = true ∧ Val ρ w (Enc.enc x) v := by
  obtain ⟨fuel, hf⟩ := h
  obtain ⟨vs, h1, h2, h3⟩ := read_cells ρ plain27 fuel 27 _ _ (by simp) hf
  obtain ⟨x, e, hs⟩ := vt_slot fuel vs h1
  rw [cel27] at h3
  obtain ⟨cs, _, hval⟩ := agg_val h2 (by omega)
  refine ⟨x, hs, ?_⟩
  have := hval.norm
  rw [show normV (.agg vs) = .agg (normL vs) by simp [normV], e] at this
  exact this
theorem args6 {ρ : Nat → Value} {w : World} {u0 u1 u2 u3 u4 u5 : V} {x0 x1 x2 x3 x4 x5 : Value} (h0 : Val ρ w u0 x0) (h1 : Val ρ w u1 x1) (h2 : Val ρ w u2 x2) (h3 : Val ρ w u3 x3) (h4 : Val ρ w u4 x4) (h5 : Val ρ w u5 x5) :
    ∀ (i : Nat) (u : V), [u0, u1, u2, u3, u4, u5][i]? = some u → ∃ y, #[x0, x1, x2, x3, x4, x5][i]? = some y ∧ Val ρ w u y := by
  intro i u hi
  match i with
  | 0 => cases hi; exact ⟨_, rfl, h0⟩
  | 1 => cases hi; exact ⟨_, rfl, h1⟩
  | 2 => cases hi; exact ⟨_, rfl, h2⟩
  | 3 => cases hi; exact ⟨_, rfl, h3⟩
  | 4 => cases hi; exact ⟨_, rfl, h4⟩
  | 5 => cases hi; exact ⟨_, rfl, h5⟩
  | i + 6 => simp at hi
end Go.Proofs.Ythfcfmkdeheicaa
namespace Go.Proofs.Ythfcfmkdeheicaa.storeOperations
open Go.J Go.ChangeShapes Go.WideShapes Go.ChangeAt Go.RowKit
open Go.J.Enc (enc)
theorem walk (a0 : Int) (codes : List Int) (v1 : Value) (a2 : Int) (a3 : Bool) (a4 : Int) {x : Slot} (hx : x.type.short = true) (v5 : Value) (w : World) (h1 : Val (fun _ => Value.int .i64 0) w (Enc.enc codes) v1) (h5 : Val (fun _ => Value.int .i64 0) w (Enc.enc x) v5) :
    Calls Try.prog 3 #[.int .i64 a0, v1, .int .i64 a2, .bool a3, .int .i64 a4, v5] w fun e w' => e = .returned (.bool true) ∧ Below w.heap.size w w' := by
  refine call_true (ρ := fun _ => Value.int .i64 0) (StoreOperations_run good0 (E := EL [(10, yesS), (11, fewS), (12, smallTyS), (13, validTyS), (15, fnS (spec1 fun bits : Int => some (datasOf bits))), (14, stS (stF1 storeF)), (16, freshS), (17, freshS), (18, same16S), (19, equalS),
      (20, fnS (spec0 (⟨[], []⟩ : Store))), (21, fnS (spec0 (⟨[], []⟩ : Store))), (22, modS), (23, setS), (24, setS)]) rfl
    (consOk_list (valid_cons (vFirst16 good0) (valid_cons (vFew good0) (valid_cons (vSmallType good0) (valid_cons (vValidTy good0) (valid_cons (vDatas good0) (valid_cons (vTapeStore good0) (valid_cons (vSFresh good0) (valid_cons (vFresh16 good0) (valid_cons (vSame16 good0) (valid_cons (vEqual good0)
      (valid_cons (vSNew good0) (valid_cons (vNew16 good0) (valid_cons (vMod good0) (valid_cons (vSSet good0) (valid_cons (vSet16 good0) valid_nil)))))))))))))))) rfl rfl rfl rfl rfl rfl rfl rfl rfl rfl rfl rfl rfl rfl rfl (bits := a0) (codes := codes) (home := a2) (base := a3) (id := a4) hx emptyHS) rfl ?_
  exact args6 (.int .i64 a0) h1 (.int .i64 a2) (.bool a3) (.int .i64 a4) h5
set_option maxRecDepth 100000 in
theorem lifted (os : Os) (started : os.Started) (H : Type) (enc : TypeId × Value → H) :
    ReturnsInHanded {} Try.checked os 3 .any (Rows.storeOperationsSpec.pre6 enc Try.prog Try.f3 Rows.storeOperationsRow.domain false) (Rows.storeOperationsSpec.post enc Try.prog Try.f3 false true false false) := by
  refine returnsInHanded_of_change (C := Try.checked) ownKnob_none started (by kernel_rfl) Try.func3
    (ChangeSpec.witness6 (enc := enc) (C := Try.checked) false ⟨#[], #[.int .i64 0, .slice none 0 0, .int .i64 0, .bool false, .int .i64 0, .agg #[.bool false, .int .i64 0, .string ByteArray.empty, .int .i64 0, .int .i64 0, .slice none 0 0, .int .i64 0, .bool false]], []⟩ 8 (by kernel_rfl) (by kernel_rfl) (by kernel_rfl) (by kernel_rfl)) ?_
  intro W base args ds gs before hval0 hW hcnd _
  have hval : ∀ (j : Nat) t v, Try.f3.params[j]? = some t → args[j]? = some v → Value.okWide Try.prog W .any base t v := hval0
  have hW' := hW
  have hlt : ∀ p ∈ before, p.block < W.heap.size := fun p hp => hW.lt p hp
  obtain ⟨p, q, hA0, hV, rfl, hfz, hnd⟩ := hW
  have hA : DataW.TrodAll enc Try.prog W 0 (fun _ => true) true Try.f3.params.toList args.toList ds p := hA0
  have hA1 := hA
  rw [Try.params3] at hA hval
  obtain ⟨v0, vs0, d0, ds0, p0, q0, hargs, rfl, rfl, h0, r0⟩ := trodAll_cons hA
  obtain ⟨v1, vs1, d1, ds1, p1, q1, rfl, rfl, rfl, h1, r1⟩ := trodAll_cons r0
  obtain ⟨v2, vs2, d2, ds2, p2, q2, rfl, rfl, rfl, h2, r2⟩ := trodAll_cons r1
  obtain ⟨v3, vs3, d3, ds3, p3, q3, rfl, rfl, rfl, h3, r3⟩ := trodAll_cons r2
  obtain ⟨v4, vs4, d4, ds4, p4, q4, rfl, rfl, rfl, h4, r4⟩ := trodAll_cons r3
  obtain ⟨v5, vs5, d5, ds5, p5, q5, rfl, rfl, rfl, h5, r5⟩ := trodAll_cons r4
  obtain ⟨rfl, rfl, rfl⟩ := trodAll_nil r5
  obtain rfl : args = #[v0, v1, v2, v3, v4, v5] := by cases args; simp_all
  obtain ⟨rfl, rfl⟩ := trodVars_none hV
  obtain ⟨a0, rfl, rfl, rfl, w0⟩ := open_int Try.underlying3 (hval 0 3 v0 rfl rfl) h0
  have hcell : v1.cells.toList = [v1] := by
    obtain ⟨fuel, hf⟩ := h1
    obtain ⟨vs, g1, g2, g3⟩ := read_cells (fun _ => Value.int .i64 0) plain22 fuel 22 _ _ (by simp) hf
    have hc : Try.prog.cellsOf 22 = 1 := by kernel_rfl
    rw [hc] at g3
    have hl := g2.1
    rw [g3] at hl
    cases v1 <;> first | rfl | skip
    rename_i cs
    exfalso
    have hh := hval 1 22 _ rfl rfl
    unfold Value.okWide at hh
    rw [Try.underlying22] at hh
    exact hh
  obtain ⟨codes, _, _, hv⟩ := read_ints (ρ := fun _ => Value.int .i64 0) Try.underlying22 Try.underlying3 plain22 hcell h1
  obtain ⟨a2, rfl, rfl, rfl, w2⟩ := open_int Try.underlying3 (hval 2 3 v2 rfl rfl) h2
  obtain ⟨a3, rfl, rfl, rfl⟩ := open_bool Try.underlying4 (hval 3 4 v3 rfl rfl) h3
  obtain ⟨a4, rfl, rfl, rfl, w4⟩ := open_int Try.underlying3 (hval 4 3 v4 rfl rfl) h4
  obtain ⟨x, hsh, hx⟩ := read_slot (ρ := fun _ => Value.int .i64 0) h5
  refine (walk a0 codes v1 a2 a3 a4 hsh v5 W hv hx).mono fun e W' ⟨he, hg⟩ => ?_
  subst he
  simp only [List.append_nil] at hlt
  exact ⟨_, rfl, post_below (pa := _) (pv := []) hW' (fun _ _ _ => (trodAll_cons_mk (shut_bool Try.underlying4 _) trodAll_mk0))
    (fun sp hsp => by
      exact args_after laidOut1 hg (sp := sp) (ts := Try.f3.params.toList) (by rw [Try.params3]; decide) hA1 (by simpa using hlt) (by simpa using hsp)) (fun _ _ => rfl) (by simp)
    hg (ok_one (by kernel_rfl) rfl (okWide_bool_mk Try.underlying4 _))⟩

theorem over : Rows.storeOperationsRow.holds Try.pinned (OpenSpec.ofChange Rows.storeOperationsSpec) :=
  OpenClaim.holds_of_wide 3 Try.f3 rfl rfl rfl rfl rfl rfl rfl ⟨rfl, rfl, rfl, rfl, rfl⟩ rfl rfl rfl rfl rfl (by kernel_rfl) Try.func3 (by kernel_rfl)
    (of_decide_eq_true (by kernel_rfl)) (by unfold Func.isWrapper; first | (rw [if_pos (by decide +kernel)]; kernel_rfl) | (rw [if_neg (by decide +kernel)]; exact ⟨rfl, rfl⟩))
    (fun os started H enc _ => lifted os started H enc)

/-- ████ THE STATEMENT ████ -/
theorem proved : Rows.StoreOperationsSaid :=
  over
#print axioms proved
end Go.Proofs.Ythfcfmkdeheicaa.storeOperations
