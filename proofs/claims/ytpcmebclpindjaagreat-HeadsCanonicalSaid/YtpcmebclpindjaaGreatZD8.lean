import Derived.Test.YtpcmebclpindjaaGreatZD7
import Derived.Test.YtpcmebclpindjaaGreatJN
set_option linter.all false
set_option linter.all false
namespace Go.Proofs.YtpcmebclpindjaaGreat
open Go.J
open Go.J.Enc (enc)
set_option maxRecDepth 100000
set_option maxHeartbeats 1000000
section
variable {ρ : Nat → Value} (hρ : J.Good ρ) {E : Env} (hE : E.P = Tryz.prog) (hcon : ConsOk ρ E)
include hρ hE hcon
theorem types_Vars_1_run (hC : E.con 122 = hasS) {t : Ty} {out : List Int} (hl : out.length ≤ 100000) {id ro : Nat} {vs : List V} {hs : HS} (hfit : (colD none (enc t) id ro out (colLeaf out t)).Fits vs hs) :
    CallOk ρ Tryz.prog 121 vs hs ((colD none (enc t) id ro out (colLeaf out t)).val hs) ((colD none (enc t) id ro out (colLeaf out t)).heap hs) := by
  have hle : out.length ≤ (colLeaf out t).length := by unfold colLeaf; split <;> simp
  refine em hρ hE hcon Tryz.func121 BS_types_Vars_1 rfl (colD_good hle) ?_ hfit
  clear hfit
  generalize hR : colLeaf out t = R
  unfold colLeaf at hR
  have hl2 : out.length ≤ 1000000 := by omega
  rcases out with _ | ⟨a, out⟩
  · show Wp ρ E 1 _ _ _ { H := mkP (colL []), n := 1, log := [] } (J.Leaves E.P _ (GivesL 1 (.tuple []) (colL R)))
    by_cases hk : t.kind = 1
    · simp [hk] at hR
      subst hR
      simp [S_types_Vars_1_r0, S_types_Vars_1_r1, S_types_Vars_1_r2, S_types_Vars_1, hE, hk, hC, hasS, colL]
      exact GivesL.litX (fun k => if k = 1 then 16 else k) rfl rfl ⟨rfl, rfl⟩ (by simp)
    · simp [hk] at hR
      subst hR
      simp [S_types_Vars_1_r0, S_types_Vars_1_r1, S_types_Vars_1_r2, S_types_Vars_1, hE, hk, colL]
      exact GivesL.keepX rfl rfl rfl (by simp)
  · show Wp ρ E 2 _ _ _ { H := mkP (colL (a :: out)), n := 2, log := [] } (J.Leaves E.P _ (GivesL 2 (.tuple []) (colL R)))
    have hl3 : out.length + 1 ≤ 1000000 := by simpa using hl2
    by_cases hk : t.kind = 1
    · by_cases hm : t.id ∈ a :: out
      · rw [if_neg (by simp [hm])] at hR
        subst hR
        have hm' := List.mem_cons.1 hm
        simp [S_types_Vars_1_r0, S_types_Vars_1_r1, S_types_Vars_1_r2, S_types_Vars_1, hE, hk, hC, hasS, hl3, hm', colL]
        exact GivesL.keepX rfl rfl rfl (by simp)
      · rw [if_pos ⟨hk, hm⟩] at hR
        subst hR
        have hm1 : ¬ t.id = a := fun e => hm (e ▸ List.mem_cons_self ..)
        have hm2 : ¬ t.id ∈ out := fun e => hm (List.mem_cons_of_mem _ e)
        have h8 : (out.length + 1 + 1) * 8 ≤ 1048576 := by simp at hl; omega
        simp [S_types_Vars_1_r0, S_types_Vars_1_r1, S_types_Vars_1_r2, S_types_Vars_1, hE, hk, hC, hasS, hl3, hm1, hm2, h8, Nat.not_succ_le_self, colL]
        exact GivesL.keepX rfl rfl rfl (by simp)
    · rw [if_neg (by simp [hk])] at hR
      subst hR
      simp [S_types_Vars_1_r0, S_types_Vars_1_r1, S_types_Vars_1_r2, S_types_Vars_1, hE, hk, colL]
      exact GivesL.keepX rfl rfl rfl (by simp)
end
end Go.Proofs.YtpcmebclpindjaaGreat
