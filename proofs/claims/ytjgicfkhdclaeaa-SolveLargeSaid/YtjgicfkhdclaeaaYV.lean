import Derived.Test.YtjgicfkhdclaeaaYZ
import Derived.Test.YtjgicfkhdclaeaaSL
set_option linter.all false
namespace Go.Proofs.Ytjgicfkhdclaeaa
open Go.J

theorem fnOk {f : Nat} {fn : Func} (hf : Try.prog.funcs[f]? = some fn) (hb : fn.body.isSome = true) : FnOk Try.prog f := ⟨fn, hf, hb, named f fn hf hb⟩
section
variable {ρ : Nat → Value} (hρ : J.Good ρ)
include hρ
theorem has_valid : Valid ρ Try.prog 31 (pureS hasV) := by
  refine Valid.pure hρ follows named (fnOk Try.func31 (by kernel_rfl)) fun vs v hp hv => ?_
  unfold hasV at hv
  split at hv
  · rename_i sl tr i
    cases hs : elemsV sl with
    | none => rw [hs] at hv; cases hv
    | some es =>
      rw [hs] at hv; cases hv
      obtain ⟨n, hn⟩ := has_run (E := envL Try.prog pol []) rfl (sl := sl) (tr := tr) hs i
      exact ⟨_, n, consOk_list valid_nil, rfl, hn⟩
  · cases hv
theorem bound_valid : Valid ρ Try.prog 57 (pureS boundV) := by
  refine Valid.pure hρ follows named (fnOk Try.func57 (by kernel_rfl)) fun vs v hp hv => ?_
  unfold boundV at hv
  split at hv
  · rename_i sl tr t
    split at hv
    · rename_i es hs
      split at hv
      · rename_i hw
        cases hb : bdV es t with
        | none => rw [hb] at hv; cases hv
        | some b =>
          rw [hb] at hv; cases hv
          simp at hp
          obtain ⟨n, hn⟩ := bound_run (E := envL Try.prog pol [(31, pureS hasV)]) rfl rfl hp.1.2 hs (wfS_len hw) hb (fun x hx => pure2_cell (allP_eq.1 hp.2 x hx))
          exact ⟨_, n, consOk_list (valid_cons (has_valid hρ) valid_nil), rfl, hn⟩
      · cases hv
    · cases hv
  · cases hv
theorem walk_valid : Valid ρ Try.prog 34 (pureS walkV) := by
  refine Valid.pure hρ follows named (fnOk Try.func34 (by kernel_rfl)) fun vs v hp hv => ?_
  unfold walkV at hv
  split at hv
  · rename_i sl tr t
    split at hv
    · rename_i es hs
      split at hv
      · rename_i hw
        simp at hw hp
        cases hb : wk es es.length t with
        | none => rw [hb] at hv; cases hv
        | some b =>
          rw [hb] at hv; cases hv
          obtain ⟨n, hn⟩ := walk_run (E := envL Try.prog pol [(57, pureS boundV)]) rfl rfl hp.1.2 hs hw.1.1 hw.2 hw.1.2 (allP_eq.1 hp.2) hb
          exact ⟨_, n, consOk_list (valid_cons (bound_valid hρ) valid_nil), rfl, hn⟩
      · cases hv
    · cases hv
  · cases hv
theorem size_runs : ∀ d vs v, allPure vs = true → sizeV d vs = some v → ∃ E n, ConsOk ρ E ∧ E.P = Try.prog ∧ runJ E n 15 vs = some v := by
  intro d
  induction d with
  | zero =>
    intro vs v hp hv
    unfold sizeV at hv
    split at hv
    · split at hv
      · split at hv
        · simp [szV] at hv
        · cases hv
      · cases hv
    · cases hv
  | succ d ih =>
    intro vs v hp hv
    unfold sizeV at hv
    split at hv
    · rename_i sl tr t m
      split at hv
      · rename_i es hs
        split at hv
        · rename_i hw
          simp at hw hp
          cases hb : szV es (d + 1) t m with
          | none => rw [hb] at hv; cases hv
          | some b =>
            rw [hb] at hv; cases hv
            obtain ⟨n, hn⟩ := size_run (E := envL Try.prog pol [(15, pureS (sizeV d)), (34, pureS walkV)]) rfl rfl rfl hp.1.2 hs hw.1.1.1 hw.1.2 hw.1.1.2 (allP_eq.1 hp.2) hw.2 hb
            exact ⟨_, n, consOk_list (valid_cons (Valid.pure hρ follows named (fnOk Try.func15 (by kernel_rfl)) ih) (valid_cons (walk_valid hρ) valid_nil)), rfl, hn⟩
        · cases hv
      · cases hv
    · cases hv
theorem size_valid (d : Nat) : Valid ρ Try.prog 15 (scalS (sizeV d)) := Valid.scal hρ follows named (fnOk Try.func15 (by kernel_rfl)) (size_runs hρ d)
end
end Go.Proofs.Ytjgicfkhdclaeaa
