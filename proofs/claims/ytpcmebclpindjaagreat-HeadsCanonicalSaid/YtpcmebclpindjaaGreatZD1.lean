import Derived.Test.YtpcmebclpindjaaGreatZW3
import Derived.Test.YtpcmebclpindjaaGreatJK
import Derived.Test.YtpcmebclpindjaaGreatJN
set_option linter.all false
set_option linter.all false
namespace Go.Proofs.YtpcmebclpindjaaGreat
open Go.J
open Go.J.Enc (enc)
set_option maxRecDepth 100000
set_option maxHeartbeats 1000000
noncomputable def leafF (s : List Assign) (t : Ty) : Option Ty := if s.length ≤ 100000 ∧ t.ok = true then some (leafR s t) else none
section
variable {ρ : Nat → Value} (hρ : J.Good ρ) {E : Env} (hE : E.P = Tryz.prog) (hcon : ConsOk ρ E)
include hρ hE hcon
theorem types_Replace_1_run {t : Ty} {s : List Assign} (ht : t.ok = true) (hsl : s.length ≤ 100000) {id : Nat} {vs : List V} {hs : HS} (hfit : (capD (enc s) id [enc t, capV none 0] (enc (leafR s t))).Fits vs hs) :
    CallOk ρ Tryz.prog 124 vs hs ((capD (enc s) id [enc t, capV none 0] (enc (leafR s t))).val hs) ((capD (enc s) id [enc t, capV none 0] (enc (leafR s t))).heap hs) := by
  refine em hρ hE hcon Tryz.func124 BS_types_Replace_1 rfl (capD_good (by simp)) ?_ hfit
  show Wp ρ E 1 _ _ _ { H := mkP [(0, capB (enc s))], n := 1, log := [] } (J.Leaves E.P _ (GivesL 1 (enc (leafR s t)) [(0, capB (enc s))]))
  unfold leafR
  by_cases hk : t.kind = 1
  · rw [if_pos hk]
    simp [S_types_Replace_1_r0, S_types_Replace_1_r1, S_types_Replace_1_r2, S_types_Replace_1_r3, S_types_Replace_1_r4, S_types_Replace_1_r5, S_types_Replace_1_r6, S_types_Replace_1_b0, S_types_Replace_1_r7, S_types_Replace_1_b1, S_types_Replace_1_r8, S_types_Replace_1, hE, hk]
    refine lpi hρ hE hcon s.length (nn := 3) (fun i (_ : Unit) => [(1, .ptr 0 0 0), (2, .ptr 1 0 0), (3, .ptr 2 0 0), (9, .sl (s.map encAssign) false), (10, .int .i64 (s.length : Int)), (11, .int .i64 (i : Int))]) (fun i _ => [(0, capB (.sl (s.map encAssign) false)), (1, box (encTy t)), (2, box [.int .i64 0, .str [], .int .i64 0, .int .i64 0, .snil])]) (fun i _ => lookA (s.take i) t.id = none) ()
      (Less.auto (by simp) (by simp [hk]) rfl rfl) rfl ?_ ?_
    · intro _ hl K
      rw [List.take_length] at hl
      simp [S_types_Replace_1_l0, S_types_Replace_1_r0, S_types_Replace_1_r1, S_types_Replace_1_r2, S_types_Replace_1_r3, S_types_Replace_1_r4, S_types_Replace_1_r5, S_types_Replace_1_r6, S_types_Replace_1_b0, S_types_Replace_1_r7, S_types_Replace_1_b1, S_types_Replace_1_r8, S_types_Replace_1, hE]
      refine LessQ.mk (Less.auto (TL := [(2, .ptr 1 0 0), (3, .ptr 2 0 0)]) (HL := [(0, capB (.sl (s.map encAssign) false)), (1, box (encTy t)), (2, box [.int .i64 0, .str [], .int .i64 0, .int .i64 0, .snil])]) (n := 3) (by simp) (by simp [hk]) rfl rfl) ?_
      simp [S_types_Replace_1_r0, S_types_Replace_1_r1, S_types_Replace_1_r2, S_types_Replace_1_r3, S_types_Replace_1_r4, S_types_Replace_1_r5, S_types_Replace_1_r6, S_types_Replace_1_b0, S_types_Replace_1_r7, S_types_Replace_1_b1, S_types_Replace_1_r8, S_types_Replace_1, hE, hl, hk]
      exact GivesL.keep rfl rfl (by simp) (by simp) (by simp)
    · intro i _ hi hl K hK
      have hi' : (i : Int) < s.length := by omega
      have hw2 : IntKind.i64.wrap ((i : Int) + 1) = ((i + 1 : Nat) : Int) := wrap_succ (by omega)
      have hlk : ∀ j, lookA (s.take (i + 1)) j = (lookA (s.take i) j).or (lookA [s[i]] j) := fun j => by
        rw [List.take_add_one, List.getElem?_eq_getElem hi, Option.toList_some, lookA_app]
      by_cases he : s[i].id = t.id
      · have hres : lookA s t.id = some s[i].type := by
          conv => lhs; rw [← List.take_append_drop (i + 1) s]
          rw [lookA_app, hlk, hl]
          simp [lookA, he]
        simp [S_types_Replace_1_l0, S_types_Replace_1_r0, S_types_Replace_1_r1, S_types_Replace_1_r2, S_types_Replace_1_r3, S_types_Replace_1_r4, S_types_Replace_1_r5, S_types_Replace_1_r6, S_types_Replace_1_b0, S_types_Replace_1_r7, S_types_Replace_1_b1, S_types_Replace_1_r8, S_types_Replace_1, hE, hi, hi', he, hk]
        refine LessQ.mk (Less.auto (TL := [(3, .ptr 2 0 0)]) (HL := [(0, capB (.sl (s.map encAssign) false)), (2, box (encTy s[i].type))]) (n := 3) (by simp) (by simp) rfl rfl) ?_
        simp [S_types_Replace_1_r0, S_types_Replace_1_r1, S_types_Replace_1_r2, S_types_Replace_1_r3, S_types_Replace_1_r4, S_types_Replace_1_r5, S_types_Replace_1_r6, S_types_Replace_1_b0, S_types_Replace_1_r7, S_types_Replace_1_b1, S_types_Replace_1_r8, S_types_Replace_1, hE, hres]
        exact GivesL.keep rfl rfl (by simp) (by simp) (by simp)
      · have hnew := hK () (by rw [hlk, hl]; simp [lookA, he])
        simp [S_types_Replace_1_l0, S_types_Replace_1_r0, S_types_Replace_1_r1, S_types_Replace_1_r2, S_types_Replace_1_r3, S_types_Replace_1_r4, S_types_Replace_1_r5, S_types_Replace_1_r6, S_types_Replace_1_b0, S_types_Replace_1_r7, S_types_Replace_1_b1, S_types_Replace_1_r8, S_types_Replace_1, hE, hi, hi', he, hk, hw2, -Int.natCast_add]
        exact hnew _ _ (Less.auto (by simp [-Int.natCast_add]) (by simp [hk]) rfl rfl)
  · rw [if_neg hk]
    simp [S_types_Replace_1_r0, S_types_Replace_1_r1, S_types_Replace_1_r2, S_types_Replace_1_r3, S_types_Replace_1_r4, S_types_Replace_1_r5, S_types_Replace_1_r6, S_types_Replace_1_b0, S_types_Replace_1_r7, S_types_Replace_1_b1, S_types_Replace_1_r8, S_types_Replace_1, hE, hk]
    exact GivesL.keep rfl rfl (by simp) (by simp) (by simp)
end
end Go.Proofs.YtpcmebclpindjaaGreat
