import Derived.Test.YthfcfmkdeheicaaGreatGC2
import Derived.Test.YthfcfmkdeheicaaGreatJL
set_option linter.all false
set_option linter.all false
namespace Go.Proofs.YthfcfmkdeheicaaGreat
open Go.J
open Go.J.Enc (enc)
set_option maxRecDepth 100000
set_option maxHeartbeats 4000000
section
variable {ρ : Nat → Value} (hρ : J.Good ρ) {E : Env} (hE : E.P = Tryz.prog) (hcon : ConsOk ρ E)
include hρ hE hcon
theorem make_Datas_run (hc : E.con 60 = fnS (spec0 allD)) {bits : Int} (hs : HS) : CallOk ρ Tryz.prog 12 [enc bits] hs (enc (datasOf bits)) hs := by
  refine fn hρ hE hcon Tryz.func12 fB12 rfl (by simp) ?_ hs
  have hlen : allD.length = 7 := rfl
  unfold datasOf selD1
  generalize allD = A at hc hlen
  have h1 : A[1]? = some A[1] := List.getElem?_eq_getElem (by omega)
  rw [h1]
  have main : ∀ (L0 : List Decl), L0.length ≤ 1 → ∀ T hs, Less 0 T hs (mkP [(0, .int .i64 bits), (3, .sl (A.map encDecl) false), (4, oV 0 (L0.map encDecl)), (5, .int .i64 ((0 : Nat) : Int))]) { H := mkP (oH 0 4 (L0.map encDecl)), n := 1, log := [] } →
      ∀ Q, Q (.exit 0) (mkP [(4, oV 0 ((L0 ++ selD bits A 0).map encDecl))]) { H := mkP (oH 0 4 ((L0 ++ selD bits A 0).map encDecl)), n := 1, log := [] } → Ls ρ E 0 45 (.loop fS12l0) T hs Q := by
    intro L0 hL0 T hs hl Q hQ
    refine lpi hρ hE hcon 7 (fun i (L : List Decl) => [(0, .int .i64 bits), (3, .sl (A.map encDecl) false), (4, oV 0 (L.map encDecl)), (5, .int .i64 (i : Int))]) (fun i L => oH 0 4 (L.map encDecl)) (fun i L => L = L0 ++ selD bits (A.take i) 0) L0 hl (by simp [selD]) ?_ ?_
    · intro L hL K
      rw [List.take_of_length_le (by omega)] at hL
      subst hL
      generalize L0 ++ selD bits A 0 = L at hQ
      simp [fS12l0, fS12r0, fS12r1, fS12r2, fS12r3, fS12r4, fS12r5, fS12r6, fS12r7, fS12r8, fS12b0, fS12r9, fS12b1, fS12r10, fS12, hE, hlen]
      rcases L with _ | ⟨x, L⟩ <;> simp [fS12l0, fS12r0, fS12r1, fS12r2, fS12r3, fS12r4, fS12r5, fS12r6, fS12r7, fS12r8, fS12b0, fS12r9, fS12b1, fS12r10, fS12, hE, hlen] <;> exact LessQ.mk (Less.auto (by simp) (by simp) rfl rfl) hQ
    · intro i L hi hL K hK
      have hil : i < A.length := by omega
      have hi7 : (i : Int) < 7 := by omega
      have hw : IntKind.i64.wrap ((i : Int) + 1) = ((i + 1 : Nat) : Int) := wrap_succ (by omega)
      have hL8 : L.length ≤ 8 := by
        rw [hL, List.length_append]
        have := selD_len bits (A.take i) 0
        rw [List.length_take] at this
        omega
      have hnew : ∀ L', L' = (if i ≠ 1 ∧ andI .i64 (bits.fdiv (2 ^ i)) 1 = 1 then L ++ [A[i]] else L) → L' = L0 ++ selD bits (A.take (i + 1)) 0 := by
        intro L' h
        rw [h, List.take_add_one, List.getElem?_eq_getElem hil, Option.toList_some, selD_app, hL]
        have : (A.take i).length = i := by rw [List.length_take]; omega
        rw [this, Nat.zero_add]
        simp only [selD]
        split <;> simp
      clear hL
      have hgd : ∀ h, A[i]'h = A[i] := fun _ => rfl
      have hw2 : IntKind.i64.wrap 2 = 2 := wrap_i64 (by omega) (by omega)
      have hwu : IntKind.u64.wrap (i : Int) = (i : Int) := by
        have : i < 7 := hi
        match i, this with
        | 0, _ => rfl
        | 1, _ => rfl
        | 2, _ => rfl
        | 3, _ => rfl
        | 4, _ => rfl
        | 5, _ => rfl
        | 6, _ => rfl
        | n + 7, h => omega
      have hmin : min i IntKind.i64.bits = i := Nat.min_eq_left (Nat.le_trans (Nat.le_of_lt hi) (by decide))
      by_cases h1i : i = 1
      · subst h1i
        have hnew := hnew L (by simp)
        rcases L with _ | ⟨x, L⟩ <;> simp [fS12l0, fS12r0, fS12r1, fS12r2, fS12r3, fS12r4, fS12r5, fS12r6, fS12r7, fS12r8, fS12b0, fS12r9, fS12b1, fS12r10, fS12, hE, hlen, hw2, -Int.natCast_add] <;> exact hK _ hnew _ _ (Less.auto (by simp) (by simp) rfl rfl)
      · have h1i' : ¬ (i : Int) = 1 := by omega
        by_cases hb : andI .i64 (bits.fdiv (2 ^ i)) 1 = 1
        · have hnew := hnew _ (if_pos ⟨h1i, hb⟩).symm
          rcases L with _ | ⟨x, L⟩
          · simp [fS12l0, fS12r0, fS12r1, fS12r2, fS12r3, fS12r4, fS12r5, fS12r6, fS12r7, fS12r8, fS12b0, fS12r9, fS12b1, fS12r10, fS12, hE, hlen, hi7, hil, hw, hwu, hmin, hi, h1i', hb, -Int.natCast_add]
            exact hK _ hnew _ _ (Less.auto (by simp [-Int.natCast_add]) (by simp) rfl rfl)
          · have h64 : (L.length + 1 + 1) * 72 ≤ 1048576 := by simp at hL8; omega
            simp [fS12l0, fS12r0, fS12r1, fS12r2, fS12r3, fS12r4, fS12r5, fS12r6, fS12r7, fS12r8, fS12b0, fS12r9, fS12b1, fS12r10, fS12, hE, hlen, hi7, hil, hw, hwu, hmin, hi, h1i', hb, h64, Nat.not_succ_le_self, -Int.natCast_add]
            exact hK _ hnew _ _ (Less.auto (by simp [-Int.natCast_add]) (by simp) rfl rfl)
        · have hnew := hnew _ (if_neg fun h => hb h.2).symm
          rcases L with _ | ⟨x, L⟩ <;> simp [fS12l0, fS12r0, fS12r1, fS12r2, fS12r3, fS12r4, fS12r5, fS12r6, fS12r7, fS12r8, fS12b0, fS12r9, fS12b1, fS12r10, fS12, hE, hlen, hi7, hil, hw, hwu, hmin, hi, h1i', hb, -Int.natCast_add] <;> exact hK _ hnew _ _ (Less.auto (by simp [-Int.natCast_add]) (by simp) rfl rfl)
  by_cases h2 : andI .i64 bits 2 = 0
  · by_cases h64 : andI .i64 bits 64 = 0
    · rw [if_neg (by simp [h2, h64])]
      simp [fS12r0, fS12r1, fS12r2, fS12r3, fS12r4, fS12r5, fS12r6, fS12r7, fS12r8, fS12b0, fS12r9, fS12b1, fS12r10, fS12, hE, hc, hlen, h2, h64]
      refine main [] (by simp) _ _ (Less.auto (by simp) (by simp) rfl rfl) _ ?_
      rw [List.nil_append]
      generalize selD bits A 0 = R
      rcases R with _ | ⟨y, R⟩ <;> simp [fS12r0, fS12r1, fS12r2, fS12r3, fS12r4, fS12r5, fS12r6, fS12r7, fS12r8, fS12b0, fS12r9, fS12b1, fS12r10, fS12, hE]
    · rw [if_pos (.inr h64)]
      simp [fS12r0, fS12r1, fS12r2, fS12r3, fS12r4, fS12r5, fS12r6, fS12r7, fS12r8, fS12b0, fS12r9, fS12b1, fS12r10, fS12, hE, hc, hlen, h2, h64]
      refine main [A[1]] (by simp) _ _ (Less.auto (by simp) (by simp) rfl rfl) _ ?_
      simp [fS12r0, fS12r1, fS12r2, fS12r3, fS12r4, fS12r5, fS12r6, fS12r7, fS12r8, fS12b0, fS12r9, fS12b1, fS12r10, fS12, hE]
  · rw [if_pos (.inl h2)]
    simp [fS12r0, fS12r1, fS12r2, fS12r3, fS12r4, fS12r5, fS12r6, fS12r7, fS12r8, fS12b0, fS12r9, fS12b1, fS12r10, fS12, hE, hc, hlen, h2]
    refine main [A[1]] (by simp) _ _ (Less.auto (by simp) (by simp) rfl rfl) _ ?_
    simp [fS12r0, fS12r1, fS12r2, fS12r3, fS12r4, fS12r5, fS12r6, fS12r7, fS12r8, fS12b0, fS12r9, fS12b1, fS12r10, fS12, hE]
end
end Go.Proofs.YthfcfmkdeheicaaGreat
