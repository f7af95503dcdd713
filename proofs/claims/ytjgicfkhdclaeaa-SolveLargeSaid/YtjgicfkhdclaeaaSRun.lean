import Derived.Test.YtjgicfkhdclaeaaYV
import Derived.Test.YtjgicfkhdclaeaaSJoin
set_option linter.all false
/- Runs of the evaluator as calls of the program. -/
namespace Go.Proofs.Ytjgicfkhdclaeaa
open Go.J
theorem mod_valid {n : Int} {m r : Nat} (hm : 1 ≤ m) (hm2 : m ≤ 1000000) (hr : n % m = r) : Valid (fun _ => Value.int .i64 n) Try.prog 8 (conMod m r) where
  fn := fnOk Try.func8 (by kernel_rfl)
  ok := by
    intro vs hs v hs' h
    exact (consOk hm hm2 hr).ok (f := 8) (show con m r 8 vs hs = _ by unfold con; rw [show Nat.beq 8 8 = true from rfl]; exact h)
  kept := by
    intro vs hs q h
    exact (consOk hm hm2 hr).kept (f := 8) (show con m r 8 vs hs = _ by unfold con; rw [show Nat.beq 8 8 = true from rfl]; exact h)
theorem run_true {ρ : Nat → Value} (hρ : J.Good ρ) {L : List (Nat × J.Spec)} (hL : ∀ p ∈ L, Valid ρ Try.prog p.1 p.2) {n f : Nat} {vs : List V} (h : runJ (envL Try.prog pol L) n f vs = some (.bool true)) {w : World} {xs : Array Value}
    (hlen : xs.size = vs.length) (hA : ∀ (i : Nat) (v : V), vs[i]? = some v → ∃ x, xs[i]? = some x ∧ Val ρ w v x) :
    Calls Try.prog f xs w fun e w' => e = .returned (.bool true) ∧ RowKit.Below w.heap.size w w' := by
  refine (run_calls hρ (E := envL Try.prog pol L) (consOk_list hL) follows named h hlen hA).mono fun e w' ⟨x, h1, h2, h3⟩ => ⟨?_, h3⟩
  cases h2
  exact h1
theorem bound_runs {ρ : Nat → Value} (hρ : J.Good ρ) (vs : List V) (v : V) (hp : allPure vs = true) (hv : boundV vs = some v) : ∃ E n, ConsOk ρ E ∧ E.P = Try.prog ∧ runJ E n 57 vs = some v := by
  unfold boundV at hv
  split at hv
  · rename_i sl tr t
    split at hv
    · rename_i es hs
      split at hv
      · rename_i hw
        cases hb : bdV es t with
        | none => rw [hb] at hv; cases hv
        | some b =>
          rw [hb] at hv; cases hv
          simp at hp
          obtain ⟨n, hn⟩ := bound_run (E := envL Try.prog pol [(31, pureS hasV)]) rfl rfl hp.1.2 hs (wfS_len hw) hb (fun x hx => pure2_cell (allP_eq.1 hp.2 x hx))
          exact ⟨_, n, consOk_list (valid_cons (has_valid hρ) valid_nil), rfl, hn⟩
      · cases hv
    · cases hv
  · cases hv
theorem bound_scal {ρ : Nat → Value} (hρ : J.Good ρ) : Valid ρ Try.prog 57 (scalS boundV) := by
  refine Valid.scal hρ follows named (fnOk Try.func57 (by kernel_rfl)) fun vs v hp hv => ?_
  obtain ⟨E, n, h⟩ := bound_runs hρ vs v hp hv
  exact ⟨E, n, h⟩
theorem args1 {ρ : Nat → Value} {w : World} {v : V} {x : Value} (h : Val ρ w v x) : ∀ (i : Nat) (u : V), [v][i]? = some u → ∃ y, #[x][i]? = some y ∧ Val ρ w u y := by
  intro i u hu
  match i, hu with
  | 0, hu => cases hu; exact ⟨_, rfl, h⟩
theorem args2 {ρ : Nat → Value} {w : World} {v v2 : V} {x x2 : Value} (h : Val ρ w v x) (h2 : Val ρ w v2 x2) : ∀ (i : Nat) (u : V), [v, v2][i]? = some u → ∃ y, #[x, x2][i]? = some y ∧ Val ρ w u y := by
  intro i u hu
  match i, hu with
  | 0, hu => cases hu; exact ⟨_, rfl, h⟩
  | 1, hu => cases hu; exact ⟨_, rfl, h2⟩
theorem mod_nat (n : Int) {m : Nat} (hm : 0 < m) : ∃ r, r < m ∧ n % (m : Int) = (r : Nat) := by
  have h1 := Int.emod_nonneg n (show (m : Int) ≠ 0 by omega)
  have h2 := Int.emod_lt_of_pos n (show (0 : Int) < m by omega)
  exact ⟨(n % (m : Int)).toNat, by omega, by omega⟩
end Go.Proofs.Ytjgicfkhdclaeaa
