import Derived.Test.YtpcmebclpindjaaGreatZD1
import Derived.Test.YtpcmebclpindjaaGreatJN
set_option linter.all false
set_option linter.all false
namespace Go.Proofs.YtpcmebclpindjaaGreat
open Go.J
open Go.J.Enc (enc)
set_option maxRecDepth 100000
set_option maxHeartbeats 1000000
noncomputable def rebF (d : Nat) (s : List Assign) (t : Ty) : Option Ty := if s.length ≤ 100000 ∧ t.ok = true ∧ t.size ≤ d then some (t.reb (leafR s)) else none
section
variable {ρ : Nat → Value} (hρ : J.Good ρ) {E : Env} (hE : E.P = Tryz.prog) (hcon : ConsOk ρ E)
include hρ hE hcon
theorem types_rebuild_run {d : Nat} (hL : E.con 124 = embS (capM none leafF)) (hc : E.con 123 = embS (capM (some 124) (rebF d))) {t : Ty} {s : List Assign} (ht : t.ok = true) (hd : t.size ≤ d + 1) (hsl : s.length ≤ 100000) {id : Nat} {vs : List V} {hs : HS}
    (hfit : (capD (enc s) id [enc t, capV (some 124) 0] (enc (t.reb (leafR s)))).Fits vs hs) :
    CallOk ρ Tryz.prog 123 vs hs ((capD (enc s) id [enc t, capV (some 124) 0] (enc (t.reb (leafR s)))).val hs) ((capD (enc s) id [enc t, capV (some 124) 0] (enc (t.reb (leafR s)))).heap hs) := by
  rw [← hE]
  refine em_runF hρ hcon (by rw [hE]; exact follows) (by rw [hE]; exact named) (by rw [hE]; exact Tryz.func123) BS_types_rebuild rfl (capD_good (by simp)) ?_ hfit
  show Wp ρ E 1 _ _ _ { H := mkP [(0, capB (enc s))], n := 1, log := [] } (J.Leaves E.P _ (GivesF 1 (enc (t.reb (leafR s))) [(0, capB (enc s))]))
  have hlen := Ty.ok_len ht
  by_cases hk : t.args = []
  · rw [reb_leaf hk]
    have hF : leafF s t = some (leafR s t) := if_pos ⟨hsl, ht⟩
    generalize leafR s t = r at hF
    obtain ⟨tk, tn, ti, th, ta⟩ := t
    simp only [Ty.args_mk] at hk
    subst hk
    simp [S_types_rebuild_r0, S_types_rebuild_r1, S_types_rebuild_r2, S_types_rebuild_r3, S_types_rebuild_r4, S_types_rebuild_r5, S_types_rebuild_r6, S_types_rebuild_r7, S_types_rebuild_b0, S_types_rebuild_r8, S_types_rebuild_b1, S_types_rebuild_r9, S_types_rebuild_r10, S_types_rebuild, hE, hL, hF]
    exact GivesF.keep rfl rfl (by simp [still2]) (by simp [ownB])
  · rw [reb_node hk]
    have hk2 : ¬ t.args.length = 0 := fun e => hk (List.eq_nil_of_length_eq_zero e)
    simp [S_types_rebuild_r0, S_types_rebuild_r1, S_types_rebuild_r2, S_types_rebuild_r3, S_types_rebuild_r4, S_types_rebuild_r5, S_types_rebuild_r6, S_types_rebuild_r7, S_types_rebuild_b0, S_types_rebuild_r8, S_types_rebuild_b1, S_types_rebuild_r9, S_types_rebuild_r10, S_types_rebuild, hE, hk, hk2]
    have k1 : t.args.length * 64 ≤ 1048576 := Nat.le_trans (Nat.mul_le_mul_right 64 hlen) (by decide)
    have k2 : t.args.length * 5 ≤ 1048576 := Nat.le_trans (Nat.mul_le_mul_right 5 hlen) (by decide)
    refine ⟨⟨k1, k2⟩, ?_⟩
    have hml : (t.args.map (Ty.reb (leafR s))).length = t.args.length := List.length_map ..
    refine lpi hρ hE hcon t.args.length (nn := 4) (fun i (_ : Unit) => [(1, .func 124 [.ptr 0 0 0]), (2, .ptr 1 0 0), (4, .ptr 2 0 0), (5, .own 3 0 0 t.args.length (some t.args.length)), (20, .sl (t.args.map encTy) false), (21, .int .i64 (t.args.length : Int)), (22, .int .i64 (i : Int))])
      (fun i _ => [(0, capB (.sl (s.map encAssign) false)), (1, box (encTy t)), (2, box zTy), (3, .arr 5 0 (fillR (t.args.map (Ty.reb (leafR s))) t.args.length i) true false true)]) (fun i _ => True) ()
      (Less.auto (by simp) (by simp [fillR_zero]) (by simp) (by simp)) trivial ?_ ?_
    · intro _ _ K
      rw [fillR_full hml]
      simp [S_types_rebuild_l0, S_types_rebuild_r0, S_types_rebuild_r1, S_types_rebuild_r2, S_types_rebuild_r3, S_types_rebuild_r4, S_types_rebuild_r5, S_types_rebuild_r6, S_types_rebuild_r7, S_types_rebuild_b0, S_types_rebuild_r8, S_types_rebuild_b1, S_types_rebuild_r9, S_types_rebuild_r10, S_types_rebuild, hE]
      refine LessQ.mk (Less.auto (TL := [(2, .ptr 1 0 0), (4, .ptr 2 0 0), (5, .own 3 0 0 t.args.length (some t.args.length))]) (HL := [(0, capB (.sl (s.map encAssign) false)), (1, box (encTy t)), (2, box zTy), (3, .arr 5 0 ((t.args.map (Ty.reb (leafR s))).map encTy) true false true)]) (n := 4) (by simp) (by simp) (by simp) (by simp)) ?_
      simp [S_types_rebuild_r0, S_types_rebuild_r1, S_types_rebuild_r2, S_types_rebuild_r3, S_types_rebuild_r4, S_types_rebuild_r5, S_types_rebuild_r6, S_types_rebuild_r7, S_types_rebuild_b0, S_types_rebuild_r8, S_types_rebuild_b1, S_types_rebuild_r9, S_types_rebuild_r10, S_types_rebuild, hE]
      have hnn : normLL (t.args.map (encTy ∘ Ty.reb (leafR s))) = t.args.map (encTy ∘ Ty.reb (leafR s)) := by rw [← List.map_map]; simp [-List.map_map]
      exact GivesF.keep rfl rfl (by simp [still2, hnn]) (by simp [ownB])
    · intro i _ hi _ K hK
      have hi' : (i : Int) < t.args.length := by omega
      have hw2 : IntKind.i64.wrap ((i : Int) + 1) = ((i + 1 : Nat) : Int) := wrap_succ (by omega)
      have hm := List.getElem_mem hi
      have hF : rebF d s t.args[i] = some (t.args[i].reb (leafR s)) := if_pos ⟨hsl, Ty.ok_arg ht hm, by have := Ty.size_arg hm; omega⟩
      have hiR : i < (fillR (t.args.map (Ty.reb (leafR s))) t.args.length i).length := by rw [fillR_len hml (Nat.le_of_lt hi)]; exact hi
      have hov := fillR_over hml hi hiR
      rw [List.getElem_map] at hov
      have hnew := hK () trivial
      have hm5 : (i * 5) / 5 = i := by omega
      have hm6 : (i * 5) % 5 = 0 := by omega
      generalize hy : t.args[i].reb (leafR s) = y at hF hov
      simp [encTy_n] at hov
      simp [S_types_rebuild_l0, S_types_rebuild_r0, S_types_rebuild_r1, S_types_rebuild_r2, S_types_rebuild_r3, S_types_rebuild_r4, S_types_rebuild_r5, S_types_rebuild_r6, S_types_rebuild_r7, S_types_rebuild_b0, S_types_rebuild_r8, S_types_rebuild_b1, S_types_rebuild_r9, S_types_rebuild_r10, S_types_rebuild, hE, hi, hi', hc, hF, hw2, hiR, hm5, hm6, hov, -Int.natCast_add]
      exact hnew _ _ (Less.auto (by simp [-Int.natCast_add]) (by simp) (by simp) (by simp))
end
end Go.Proofs.YtpcmebclpindjaaGreat
