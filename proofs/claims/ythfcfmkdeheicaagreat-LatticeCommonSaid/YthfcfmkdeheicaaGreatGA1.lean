import Derived.Test.YthfcfmkdeheicaaGreatGAG
set_option linter.all false
namespace Go.Proofs.YthfcfmkdeheicaaGreat
open Go.J
open Go.J.Enc (enc)
set_option maxRecDepth 100000
set_option maxHeartbeats 4000000
section
variable {ρ : Nat → Value} (hρ : J.Good ρ) {E : Env} (hE : E.P = Tryz.prog) (hcon : ConsOk ρ E)
include hρ hE hcon
noncomputable def eqF (d : Nat) (a b : Ty) : Option Bool := if a.ok = true ∧ a.size ≤ d then some (decide (a = b)) else none
noncomputable def eqAllF (d : Nat) (l m : List Ty) : Option Bool := if l.length ≤ 10000 ∧ Ty.oks l = true ∧ Ty.sizes l ≤ d then some (decide (l = m)) else none
theorem ref3_Equal_run {d : Nat} (hc : E.con 77 = fnS (spec2 (eqAllF d))) {a b : Ty} (ha : a.ok = true) (hd : a.size ≤ d + 1) (hs : HS) : CallOk ρ E.P 23 [enc a, enc b] hs (enc (decide (a = b))) hs := by
  refine fn_run hρ hcon (by rw [hE]; exact follows) (by rw [hE]; exact named) (by rw [hE]; exact Tryz.func23) fB23 rfl (by simp) ?_ hs
  have h1 := Ty.ok_len ha
  have h2 : Ty.oks a.args = true := Ty.oks_iff.2 (Ty.ok_iff.1 ha).2
  have h3 : Ty.sizes a.args ≤ d := by have := Ty.size_eq a; omega
  simp [fS23, fS23r0, fS23r1, fS23r2, fS23r3, hE]
  repeat' (refine brT_mk (fun h => ?_) (fun h => ?_) <;> simp [h, hE, hc, eqAllF, fS23r2, fS23r3, h1, h2, h3])
  all_goals (rw [Ty.eq_iff]; simp_all)
theorem ref3_EqualAll_loop {d : Nat} (hc : E.con 23 = fnS (spec2 (eqF d))) {l m : List Ty} (hl : l.length = m.length) (h1 : l.length ≤ 10000) (h2 : ∀ t ∈ l, t.ok = true ∧ t.size ≤ d) {Q : Ex → PT V → HS → Prop}
    (hf : l ≠ m → ∀ T hs, T.get 4 = some (.bool false) → Q .ret T hs) (ht : l = m → ∀ T hs, Q (.exit 0) T hs) :
    ∀ (n i : Nat), i + n = l.length → l.take i = m.take i → LsN ρ E 0 27 fS77l0 Q (n + 1) (mkP [(0, .sl (l.map encTy) false), (1, .sl (m.map encTy) false), (5, .int .i64 (i : Int))]) { H := mkP [], n := 0, log := [] } := by
  intro n
  induction n with
  | zero =>
    intro i hi he
    have hil : ¬ (i : Int) < l.length := by omega
    have e : l = m := by
      have : i = l.length := by omega
      subst this
      rw [List.take_length] at he
      rw [he, hl, List.take_length]
    refine LsN_step hρ hcon (by rw [hE]; exact follows) (by rw [hE]; exact named) fun K hK => ?_
    simp [fS77l0, fS77r4, hE, hil]

    exact ht e _ _
  | succ n ih =>
    intro i hi he
    have hil : i < l.length := by omega
    have hil' : (i : Int) < l.length := by omega
    have him : i < m.length := by omega
    obtain ⟨hx1, hx2⟩ := h2 l[i] (List.getElem_mem hil)
    refine LsN_step hρ hcon (by rw [hE]; exact follows) (by rw [hE]; exact named) fun K hK => ?_
    have hw : IntKind.i64.wrap ((i : Int) + 1) = ((i + 1 : Nat) : Int) := wrap_succ (by omega)
    simp [fS77l0, fS77r4, fS77b0, fS77r5, hE, hil', hil, him, hc, eqF, hx1, hx2]
    refine brT_mk (fun h => ?_) (fun h => ?_) <;> simp [fS77r6, fS77r7, hE, hw, -Int.natCast_add]
    · refine hf (fun e => h ?_) _ _ (by simp)
      subst e; rfl
    · refine hK _ _ (LsN_less (Less.keep 0 (by simp [-Int.natCast_add]) (by simp) rfl rfl) (ih (i + 1) (by omega) ?_))
      rw [List.take_add_one, List.take_add_one, he, List.getElem?_eq_getElem hil, List.getElem?_eq_getElem him, Classical.not_not.1 h]
theorem ref3_EqualAll_run {d : Nat} (hc : E.con 23 = fnS (spec2 (eqF d))) {l m : List Ty} (h1 : l.length ≤ 10000) (h2 : Ty.oks l = true) (hd : Ty.sizes l ≤ d) (hs : HS) : CallOk ρ E.P 77 [enc l, enc m] hs (enc (decide (l = m))) hs := by
  refine fn_run hρ hcon (by rw [hE]; exact follows) (by rw [hE]; exact named) (by rw [hE]; exact Tryz.func77) fB77 rfl (by simp) ?_ hs
  have h3 : ∀ t ∈ l, t.ok = true ∧ t.size ≤ d := fun t ht => ⟨Ty.oks_iff.1 h2 t ht, by have := Ty.size_mem ht; omega⟩
  simp [fS77, fS77r0, fS77r1, fS77r3, fS77b1, hE]
  refine brT_mk (fun h => ?_) (fun h => ?_) <;> simp [fS77r2, fS77r3, hE]
  · intro e; subst e; exact h rfl
  · refine Ls_loop (LsN_less (Less.keep (TL := [(0, .sl (l.map encTy) false), (1, .sl (m.map encTy) false), (5, .int .i64 ((0 : Nat) : Int))]) (HL := []) 0 (by simp) (by simp) rfl rfl) (ref3_EqualAll_loop hρ hE hcon hc ?_ h1 h3 ?_ ?_ l.length 0 (by omega) (by simp)))
    · omega
    · intro hne T hs hT
      simp [hT, hne, hE]
    · intro e T hs
      simp [fS77r8, e, hE]
end
end Go.Proofs.YthfcfmkdeheicaaGreat
