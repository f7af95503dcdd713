import Derived.Test.YthfcfmkdeheicaaPB15
set_option linter.all false
set_option linter.all false
namespace Go.Proofs.Ythfcfmkdeheicaa
open Go.J
open Go.J.Enc (enc)
set_option maxRecDepth 100000
set_option maxHeartbeats 4000000
section
variable {ρ : Nat → Value} (hρ : J.Good ρ) {E : Env} (hE : E.P = Try.prog) (hcon : ConsOk ρ E)
include hρ hE hcon
theorem ref16_Resolve_run (hS : E.con 39 = fnS (spec3 fun (s : Store) (t : Ty) (m : Int) => if s.tysOk ∧ t.ok = true ∧ m < 1000000 then some ((sz s.w16 t (max m 0).toNat : Nat) : Int) else none)) (hr : E.con 74 = fnS (spec2 (resF 4000)))
    {s : Store} (hs : s.tysOk) {t : Ty} (ht : t.ok = true) (hs0 : HS) : CallOk ρ Try.prog 35 [enc s, enc t] hs0 (enc (resolveM s.w16 t)) hs0 := by
  refine fn hρ hE hcon Try.func35 BS_ref16_Resolve rfl (by simp) ?_ hs0
  have e : (max (4000 : Int) 0).toNat = 4000 := rfl
  unfold resolveM
  by_cases h : sz s.w16 t 4000 ≤ 4000
  · have h' : ¬ (4000 : Int) < ((sz s.w16 t 4000 : Nat) : Int) := by omega
    have hF : resF 4000 s t = some (full s.w16 t) := by unfold resF; rw [if_pos ⟨hs, ht, h⟩]
    simp [S_ref16_Resolve_r0, S_ref16_Resolve_r1, S_ref16_Resolve_r2, S_ref16_Resolve_r3, S_ref16_Resolve, hE, hS, hs, ht, e, h, h', hr, hF]
  · have h' : (4000 : Int) < ((sz s.w16 t 4000 : Nat) : Int) := by omega
    simp [S_ref16_Resolve_r0, S_ref16_Resolve_r1, S_ref16_Resolve_r2, S_ref16_Resolve_r3, S_ref16_Resolve, hE, hS, hs, ht, e, h, h', ty0]
end
end Go.Proofs.Ythfcfmkdeheicaa
