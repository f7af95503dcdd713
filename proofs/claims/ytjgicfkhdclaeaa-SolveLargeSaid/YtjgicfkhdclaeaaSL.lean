import Derived.Test.YtjgicfkhdclaeaaSLmod
set_option linter.all false
namespace Go.Proofs.Ytjgicfkhdclaeaa
open Go.J Go.RowKit

noncomputable def pol (f : FuncId) : Nat := bi (tb 618988918350047084057460736 f) 1 (bi (tb 60259115069841015086713883475637404152 f) 2 0)
noncomputable def conMod (m r : Nat) (vs : List V) (hs : HS) : Option (V × HS) :=
  match vs with
  | [.sym 0, .int .i64 (.ofNat k)] => bi (Nat.beq m k) (some (.int .i64 (.ofNat r), hs)) none
  | _ => none
noncomputable def con (m r : Nat) (f : FuncId) (vs : List V) (hs : HS) : Option (V × HS) := bi (Nat.beq f 8) (conMod m r vs hs) none
noncomputable def envM (m r : Nat) : Env := { P := Try.prog, pol := pol, con := con m r }

theorem follows : Try.prog.follows .mixedOrders = true := by kernel_rfl
noncomputable def namedB (P : Program) : Bool := P.funcs.toList.all fun fn => fn.name != "runtime.NumGoroutine"
theorem namedB_ok : namedB Try.prog = true := by kernel_rfl
theorem named : Named Try.prog := by
  intro f fn hf _ he
  have h := List.all_eq_true.1 namedB_ok fn (List.mem_of_getElem? (by simpa using hf))
  simp [he] at h
theorem good (n : Int) : J.Good fun _ => Value.int .i64 n := fun _ => rfl

theorem con_eq {m r : Nat} {f : FuncId} {vs : List V} {hs : HS} {q : V × HS} (h : con m r f vs hs = some q) : f = 8 ∧ vs = [.sym 0, .int .i64 m] ∧ q = (.int .i64 r, hs) := by
  unfold con at h
  rw [bi_eq] at h
  split at h
  · rename_i e
    rw [J.beq_true] at e
    unfold conMod at h
    split at h
    · rw [bi_eq] at h
      split at h
      · rename_i e2
        rw [J.beq_true] at e2
        cases h
        subst e2
        exact ⟨e, rfl, rfl⟩
      · cases h
    · cases h
  · cases h
theorem consOk {n : Int} {m r : Nat} (hm : 1 ≤ m) (hm2 : m ≤ 1000000) (hr : n % m = r) : ConsOk (fun _ => Value.int .i64 n) (envM m r) where
  ok := by
    intro f vs hs v hs' h
    obtain ⟨rfl, rfl, e⟩ := con_eq h
    cases e
    refine scal_callOk rfl fun w F μ xs hA => ?_
    obtain ⟨x, hx, hxr⟩ := hA.2 0 _ rfl
    obtain ⟨y, hy, hyr⟩ := hA.2 1 _ rfl
    have ex : x = .int .i64 n := by
      cases hxr with | pure h => cases h; rfl
    have ey := hyr.int_inv
    have e : xs = #[.int .i64 n, .int .i64 m] := by
      apply Array.ext_getElem?
      intro i
      match i with
      | 0 => rw [hx, ex]; rfl
      | 1 => rw [hy, ey]; rfl
      | i + 2 => rw [Array.getElem?_eq_none (by rw [hA.1]; simp)]; simp
    rw [e]
    refine (mod_any n m w (by omega) (by omega)).mono fun e w' ⟨h1, h2⟩ => ⟨_, h1, ?_, h2.symm⟩
    rw [hr]; exact .int _ _
  kept := by
    intro f vs hs q h
    obtain ⟨_, _, rfl⟩ := con_eq h
    exact Kept.refl _
  body := by
    intro f vs hs q h
    obtain ⟨rfl, _, _⟩ := con_eq h
    exact ⟨Try.f8, Try.func8, by kernel_rfl, named 8 _ Try.func8 (by kernel_rfl)⟩

theorem run0 : runJ (envM 12 0) 2000 5 [.sym 0] = some (.bool true) := by kernel_rfl
end Go.Proofs.Ytjgicfkhdclaeaa
