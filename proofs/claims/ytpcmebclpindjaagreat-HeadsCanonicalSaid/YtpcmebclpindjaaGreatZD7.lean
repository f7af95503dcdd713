import Derived.Test.YtpcmebclpindjaaGreatZD6
set_option linter.all false
set_option linter.all false
namespace Go.Proofs.YtpcmebclpindjaaGreat
open Go.J
open Go.J.Enc (enc)
set_option maxRecDepth 100000
set_option maxHeartbeats 1000000
/-- the place of a number in a list -/
def idxM : List Int → Int → Int → Int
  | [], _, _ => -1
  | y :: l, x, i => if x = y then i else idxM l x (i + 1)
theorem idxM_ge : ∀ (l : List Int) (x i : Int), 0 ≤ i → (decide (idxM l x i ≥ 0)) = decide (x ∈ l) := by
  intro l
  induction l with
  | nil => intro x i h; simp [idxM]
  | cons y l ih =>
    intro x i h
    rw [idxM]
    split
    · rename_i e; simp [e, h]
    · rename_i e
      rw [ih x (i + 1) (by omega)]
      simp [e]
section
variable {ρ : Nat → Value} (hρ : J.Good ρ)
include hρ
section
variable {E : Env} (hE : E.P = Tryz.prog) (hcon : ConsOk ρ E)
include hE hcon
theorem slices_Index_run {l : List Int} {x : Int} (hl : l.length ≤ 1000000) (hs : HS) : CallOk ρ Tryz.prog 219 [enc l, enc x] hs (enc (idxM l x 0)) hs := by
  refine fn hρ hE hcon Tryz.func219 BS_slices_Index__intint rfl (by simp) ?_ hs
  generalize hr : idxM l x 0 = r
  simp [S_slices_Index__intint_r0, S_slices_Index__intint_r1, S_slices_Index__intint_r2, S_slices_Index__intint_r3, S_slices_Index__intint_r4, S_slices_Index__intint_r5, S_slices_Index__intint_b0, S_slices_Index__intint_r6, S_slices_Index__intint_b1, S_slices_Index__intint_r7, S_slices_Index__intint, hE]
  refine lpi hρ hE hcon l.length (nn := 0) (fun i (_ : Unit) => [(0, .sl (l.map encI) false), (1, .int .i64 x), (7, .int .i64 (l.length : Int)), (8, .int .i64 (i : Int))]) (fun i _ => []) (fun i _ => idxM (l.drop i) x i = r) ()
    (Less.auto (by simp) (by simp) (by simp) (by simp)) (by simpa using hr) ?_ ?_
  · intro _ h K
    rw [List.drop_length, idxM] at h
    simp [S_slices_Index__intint_l0, S_slices_Index__intint_r0, S_slices_Index__intint_r1, S_slices_Index__intint_r2, S_slices_Index__intint_r3, S_slices_Index__intint_r4, S_slices_Index__intint_r5, S_slices_Index__intint_b0, S_slices_Index__intint_r6, S_slices_Index__intint_b1, S_slices_Index__intint_r7, S_slices_Index__intint, hE]
    refine LessQ.mk (Less.auto (TL := []) (HL := []) (n := 0) (by simp) (by simp) (by simp) (by simp)) ?_
    simp [S_slices_Index__intint_r0, S_slices_Index__intint_r1, S_slices_Index__intint_r2, S_slices_Index__intint_r3, S_slices_Index__intint_r4, S_slices_Index__intint_r5, S_slices_Index__intint_b0, S_slices_Index__intint_r6, S_slices_Index__intint_b1, S_slices_Index__intint_r7, S_slices_Index__intint, hE, h]
  · intro i _ hi h K hK
    have hi' : (i : Int) < l.length := by omega
    have hw2 : IntKind.i64.wrap ((i : Int) + 1) = ((i + 1 : Nat) : Int) := wrap_succ (by omega)
    rw [List.drop_eq_getElem_cons hi, idxM] at h
    by_cases he : x = l[i]
    · rw [if_pos he] at h
      simp [S_slices_Index__intint_l0, S_slices_Index__intint_r0, S_slices_Index__intint_r1, S_slices_Index__intint_r2, S_slices_Index__intint_r3, S_slices_Index__intint_r4, S_slices_Index__intint_r5, S_slices_Index__intint_b0, S_slices_Index__intint_r6, S_slices_Index__intint_b1, S_slices_Index__intint_r7, S_slices_Index__intint, hE, hi, hi', ← he]
      refine LessQ.mk (Less.auto (TL := [(4, .int .i64 (i : Int))]) (HL := []) (n := 0) (by simp) (by simp) (by simp) (by simp)) ?_
      simp [S_slices_Index__intint_r0, S_slices_Index__intint_r1, S_slices_Index__intint_r2, S_slices_Index__intint_r3, S_slices_Index__intint_r4, S_slices_Index__intint_r5, S_slices_Index__intint_b0, S_slices_Index__intint_r6, S_slices_Index__intint_b1, S_slices_Index__intint_r7, S_slices_Index__intint, hE, h]
    · rw [if_neg he] at h
      have hnew := hK () (by simpa using h)
      simp [S_slices_Index__intint_l0, S_slices_Index__intint_r0, S_slices_Index__intint_r1, S_slices_Index__intint_r2, S_slices_Index__intint_r3, S_slices_Index__intint_r4, S_slices_Index__intint_r5, S_slices_Index__intint_b0, S_slices_Index__intint_r6, S_slices_Index__intint_b1, S_slices_Index__intint_r7, S_slices_Index__intint, hE, hi, hi', he, hw2, -Int.natCast_add]
      exact hnew _ _ (Less.auto (by simp [-Int.natCast_add]) (by simp) (by simp) (by simp))
theorem slices_Contains_run (hI : E.con 219 = fnC (spec2 fun (l : List Int) (x : Int) => if l.length ≤ 1000000 then some (idxM l x 0) else none)) {l : List Int} {x : Int} (hl : l.length ≤ 1000000) (hs : HS) : CallOk ρ Tryz.prog 122 [enc l, enc x] hs (enc (decide (x ∈ l))) hs := by
  refine fn hρ hE hcon Tryz.func122 BS_slices_Contains__intint rfl (by simp) ?_ hs
  rw [← idxM_ge l x 0 (by omega)]
  simp [S_slices_Contains__intint_r0, S_slices_Contains__intint_r1, S_slices_Contains__intint, hE, hI, hl]
end
noncomputable def indexS : J.Spec := fnC (spec2 fun (l : List Int) (x : Int) => if l.length ≤ 1000000 then some (idxM l x 0) else none)
theorem vIndex : Valid ρ Tryz.prog 219 indexS := c2 (fo Tryz.func219 BS_slices_Index__intint) fun a b r h hs => by
  obtain ⟨h1, rfl⟩ := ite_inv h
  exact slices_Index_run hρ (E := EL []) rfl (consOk_list valid_nil) h1 hs
theorem vContains : Valid ρ Tryz.prog 122 hasS := c2 (fo Tryz.func122 BS_slices_Contains__intint) fun a b r h hs => by
  obtain ⟨h1, rfl⟩ := ite_inv h
  exact slices_Contains_run hρ (E := EL [(219, indexS)]) rfl (consOk_list (valid_cons (vIndex hρ) valid_nil)) rfl h1 hs
end
end Go.Proofs.YtpcmebclpindjaaGreat
