import Derived.Test.YtpcmebclpindjaaGreatZL2
import Derived.Test.YtpcmebclpindjaaGreatJEnd
import Derived.Test.YtpcmebclpindjaaGreatZF30
set_option linter.all false
/- The law HeadsCanonical: its entrance and its end. -/
set_option linter.all false
namespace Go.Proofs.YtpcmebclpindjaaGreat
open Go.J
open Go.J.Enc (enc)
theorem good0 : J.Good fun _ => Value.int .i64 0 := fun _ => rfl
theorem vFirst30 {ρ : Nat → Value} (hρ : J.Good ρ) : Valid ρ Tryz.prog 13 trueS := v0 (fnOk Tryz.func13 (by kernel_rfl)) fun hs =>
  pure_callOk hρ (E := envL Tryz.prog pol [(72, headS)]) (consOk_list (valid_cons (head_valid hρ) valid_nil)) follows named first30 rfl
theorem laidOut1 : laidOutB Tryz.prog = true := by kernel_rfl
theorem plain22 : plainB Tryz.prog [22, 3] = true := by kernel_rfl
end Go.Proofs.YtpcmebclpindjaaGreat
namespace Go.Proofs.YtpcmebclpindjaaGreat.headsCanonical
open Go.J Go.ChangeShapes Go.WideShapes Go.ChangeAt Go.RowKit
open Go.J.Enc (enc)
theorem walk (a0 : Int) (codes : List Int) (v1 : Value) (w : World) (h1 : Val (fun _ => Value.int .i64 0) w (Enc.enc codes) v1) :
    Calls Tryz.prog 3 #[.int .i64 a0, v1] w fun e w' => e = .returned (.bool true) ∧ Below w.heap.size w w' := by
  refine call_true (ρ := fun _ => Value.int .i64 0) (HeadsCanonical_run good0 (E := EL [(13, trueS), (14, fewS), (16, fnS (spec1 fun bits : Int => some (datasOf bits))), (17, fnS (spec0 leavesTs)), (15, stS (stF3 (typeF 3))), (19, hcanonS), (20, canon30S), (18, eqAllS)]) rfl
    (consOk_list (valid_cons (vFirst30 good0) (valid_cons (vFew good0) (valid_cons (vDatas good0) (valid_cons (vMkLeaves good0) (valid_cons (vType good0 3 (by omega)) (valid_cons (vHCanon good0) (valid_cons (vCanon30 good0) (valid_cons (vEq good0 10000).2 valid_nil))))))))) rfl rfl rfl rfl rfl rfl rfl rfl (bits := a0) (codes := codes) emptyHS) rfl ?_
  exact args2 (.int .i64 a0) h1
set_option maxRecDepth 100000 in
theorem lifted (os : Os) (started : os.Started) (H : Type) (enc : TypeId × Value → H) :
    ReturnsInHanded {} Tryz.checked os 3 .any (Rows.headsCanonicalSpec.pre6 enc Tryz.prog Tryz.f3 Rows.headsCanonicalRow.domain false) (Rows.headsCanonicalSpec.post enc Tryz.prog Tryz.f3 false true false false) := by
  refine returnsInHanded_of_change (C := Tryz.checked) ownKnob_none started (by kernel_rfl) Tryz.func3
    (ChangeSpec.witness6 (enc := enc) (C := Tryz.checked) false ⟨#[], #[.int .i64 0, .slice none 0 0], []⟩ 8 (by kernel_rfl) (by kernel_rfl) (by kernel_rfl) (by kernel_rfl)) ?_
  intro W base args ds gs before hval0 hW hcnd _
  have hval : ∀ (j : Nat) t v, Tryz.f3.params[j]? = some t → args[j]? = some v → Value.okWide Tryz.prog W .any base t v := hval0
  have hW' := hW
  have hlt : ∀ p ∈ before, p.block < W.heap.size := fun p hp => hW.lt p hp
  obtain ⟨p, q, hA0, hV, rfl, hfz, hnd⟩ := hW
  have hA : DataW.TrodAll enc Tryz.prog W 0 (fun _ => true) true Tryz.f3.params.toList args.toList ds p := hA0
  have hA1 := hA
  rw [Tryz.params3] at hA hval
  obtain ⟨v0, vs0, d0, ds0, p0, q0, hargs, rfl, rfl, h0, r0⟩ := trodAll_cons hA
  obtain ⟨v1, vs1, d1, ds1, p1, q1, rfl, rfl, rfl, h1, r1⟩ := trodAll_cons r0
  obtain ⟨rfl, rfl, rfl⟩ := trodAll_nil r1
  obtain rfl : args = #[v0, v1] := by cases args; simp_all
  obtain ⟨rfl, rfl⟩ := trodVars_none hV
  obtain ⟨a0, rfl, rfl, rfl, w0⟩ := open_int Tryz.underlying3 (hval 0 3 v0 rfl rfl) h0
  have hcell : v1.cells.toList = [v1] := by
    obtain ⟨fuel, hf⟩ := h1
    obtain ⟨vs, g1, g2, g3⟩ := read_cells (fun _ => Value.int .i64 0) plain22 fuel 22 _ _ (by simp) hf
    have hc : Tryz.prog.cellsOf 22 = 1 := by kernel_rfl
    rw [hc] at g3
    have hl := g2.1
    rw [g3] at hl
    cases v1 <;> first | rfl | skip
    rename_i cs
    exfalso
    have hh := hval 1 22 _ rfl rfl
    unfold Value.okWide at hh
    rw [Tryz.underlying22] at hh
    exact hh
  obtain ⟨codes, _, _, hv⟩ := read_ints (ρ := fun _ => Value.int .i64 0) Tryz.underlying22 Tryz.underlying3 plain22 hcell h1
  refine (walk a0 codes v1 W hv).mono fun e W' ⟨he, hg⟩ => ?_
  subst he
  simp only [List.append_nil] at hlt
  exact ⟨_, rfl, post_below (pa := [] ++ (p1 ++ [])) (pv := []) hW' (fun _ _ _ => (trodAll_cons_mk (shut_bool Tryz.underlying4 _) trodAll_mk0))
    (fun sp hsp => by
      exact args_after laidOut1 hg (sp := sp) (ts := Tryz.f3.params.toList) (by rw [Tryz.params3]; decide) hA1 (by simpa using hlt) (by simpa using hsp)) (fun _ _ => rfl) (by simp)
    hg (ok_one (by kernel_rfl) rfl (okWide_bool_mk Tryz.underlying4 _))⟩

end Go.Proofs.YtpcmebclpindjaaGreat.headsCanonical
