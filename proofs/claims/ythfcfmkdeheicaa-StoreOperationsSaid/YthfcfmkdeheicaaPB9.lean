import Derived.Test.YthfcfmkdeheicaaPB8
import Derived.Test.YthfcfmkdeheicaaJL
set_option linter.all false
set_option linter.all false
namespace Go.Proofs.Ythfcfmkdeheicaa
open Go.J
open Go.J.Enc (enc)
set_option maxRecDepth 100000
set_option maxHeartbeats 4000000
section
variable {ρ : Nat → Value} (hρ : J.Good ρ) {E : Env} (hE : E.P = Try.prog) (hcon : ConsOk ρ E)
include hρ hE hcon
theorem ref2_lower_run {c : Byte} (hs : HS) : CallOk ρ Try.prog 110 [enc c] hs (enc (lowerB c.n)) hs := by
  refine fn hρ hE hcon Try.func110 BS_ref2_lower rfl (by simp) ?_ hs
  obtain ⟨c⟩ := c
  by_cases h1 : 97 ≤ c <;> by_cases h2 : c ≤ 122 <;> simp [S_ref2_lower_r0, S_ref2_lower_r1, S_ref2_lower, hE, lowerB, h1, h2, show (97 ≤ (c : Int)) ↔ 97 ≤ c by omega, show ((c : Int) ≤ 122) ↔ c ≤ 122 by omega]
theorem ref2_upper_run {c : Byte} (hs : HS) : CallOk ρ Try.prog 112 [enc c] hs (enc (upperB c.n)) hs := by
  refine fn hρ hE hcon Try.func112 BS_ref2_upper rfl (by simp) ?_ hs
  obtain ⟨c⟩ := c
  by_cases h1 : 65 ≤ c <;> by_cases h2 : c ≤ 90 <;> simp [S_ref2_upper_r0, S_ref2_upper_r1, S_ref2_upper, hE, upperB, h1, h2, show (65 ≤ (c : Int)) ↔ 65 ≤ c by omega, show ((c : Int) ≤ 90) ↔ c ≤ 90 by omega]
theorem ref2_digit_run {c : Byte} (hs : HS) : CallOk ρ Try.prog 149 [enc c] hs (enc (digitB c.n)) hs := by
  refine fn hρ hE hcon Try.func149 BS_ref2_digit rfl (by simp) ?_ hs
  obtain ⟨c⟩ := c
  by_cases h1 : 48 ≤ c <;> by_cases h2 : c ≤ 57 <;> simp [S_ref2_digit_r0, S_ref2_digit_r1, S_ref2_digit, hE, digitB, h1, h2, show (48 ≤ (c : Int)) ↔ 48 ≤ c by omega, show ((c : Int) ≤ 57) ↔ c ≤ 57 by omega]
theorem ref2_inner_run (h1 : E.con 110 = fnS (spec1 fun c : Byte => some (lowerB c.n))) (h2 : E.con 112 = fnS (spec1 fun c : Byte => some (upperB c.n))) (h3 : E.con 149 = fnS (spec1 fun c : Byte => some (digitB c.n)))
    {c : Byte} (hs : HS) : CallOk ρ Try.prog 130 [enc c] hs (enc (innerB c.n)) hs := by
  refine fn hρ hE hcon Try.func130 BS_ref2_inner rfl (by simp) ?_ hs
  obtain ⟨c⟩ := c
  by_cases e4 : c = 95
  · subst e4
    have hd : (Enc.dec (V.int .u8 95) : Option Byte) = some ⟨95⟩ := rfl
    simp [S_ref2_inner_r0, S_ref2_inner_r1, S_ref2_inner, hE, h1, h2, h3, innerB, hd, show lowerB 95 = false from rfl, show upperB 95 = false from rfl, show digitB 95 = false from rfl]
  · have h95 : ¬ (c : Int) = 95 := by omega
    cases e1 : lowerB c <;> cases e2 : upperB c <;> cases e3 : digitB c <;> simp [S_ref2_inner_r0, S_ref2_inner_r1, S_ref2_inner, hE, h1, h2, h3, innerB, e1, e2, e3, e4, h95]
theorem ref2_word_loop (hc : E.con 130 = fnS (spec1 fun c : Byte => some (innerB c.n))) {s : List Nat} (hl : s.length < 2^63) {Q : Ex → PT V → HS → Prop}
    (hf : s.all innerB = false → ∀ T hs, T.get 2 = some (.bool false) → Q .ret T hs) (ht : s.all innerB = true → Q (.exit 0) (mkP [(0, .str s)]) { H := mkP [], n := 0, log := [] }) :
    ∀ (n i : Nat), i + n = s.length → (s.take i).all innerB = true → LsN ρ E 0 17 S_ref2_word_l0 (LessQ 0 Q) (n + 1) (mkP [(0, .str s), (3, .int .i64 (i : Int))]) { H := mkP [], n := 0, log := [] } := by
  intro n
  induction n with
  | zero =>
    intro i hi he
    have hil : ¬ (i : Int) < s.length := by omega
    rw [List.take_of_length_le (by omega)] at he
    refine lp hρ hE hcon fun K hK => ?_
    simp [S_ref2_word_l0, S_ref2_word_r0, S_ref2_word_r1, S_ref2_word_r2, S_ref2_word_r3, S_ref2_word_r4, S_ref2_word_b0, S_ref2_word_r5, S_ref2_word_b1, S_ref2_word_r6, S_ref2_word, hE, hil]
    exact LessQ.mk (Less.keep 0 (by simp) (by simp) rfl rfl) (ht he)
  | succ n ih =>
    intro i hi he
    have hil : i < s.length := by omega
    have hil' : (i : Int) < s.length := by omega
    have hw : IntKind.i64.wrap ((i : Int) + 1) = ((i + 1 : Nat) : Int) := wrap_succ (by omega)
    refine lp hρ hE hcon fun K hK => ?_
    cases hb : innerB s[i] with
    | true =>
      have hnx : (s.take (i + 1)).all innerB = true := by
        rw [List.take_add_one, List.getElem?_eq_getElem hil, List.all_append, he]; simp [hb]
      simp [S_ref2_word_l0, S_ref2_word_r0, S_ref2_word_r1, S_ref2_word_r2, S_ref2_word_r3, S_ref2_word_r4, S_ref2_word_b0, S_ref2_word_r5, S_ref2_word_b1, S_ref2_word_r6, S_ref2_word, hE, hil', hil, hc, hb, hw, -Int.natCast_add]
      exact hK _ _ (LsN_less (Less.keep 0 (by simp [-Int.natCast_add]) (by simp) rfl rfl) (ih (i + 1) (by omega) hnx))
    | false =>
      simp [S_ref2_word_l0, S_ref2_word_r0, S_ref2_word_r1, S_ref2_word_r2, S_ref2_word_r3, S_ref2_word_r4, S_ref2_word_b0, S_ref2_word_r5, S_ref2_word_b1, S_ref2_word_r6, S_ref2_word, hE, hil', hil, hc, hb]
      exact LessQ.mk (Less.keep (TL := [(2, .bool false)]) (HL := []) 0 (by simp) (by simp) rfl rfl) (hf (List.all_eq_false.2 ⟨_, List.getElem_mem hil, by simp [hb]⟩) _ _ (by simp))
theorem ref2_word_run (hc : E.con 130 = fnS (spec1 fun c : Byte => some (innerB c.n))) {s : List Nat} (hl : s.length < 2^63) (hs : HS) : CallOk ρ Try.prog 109 [enc s] hs (enc (wordN s)) hs := by
  refine fn hρ hE hcon Try.func109 BS_ref2_word rfl (by simp) ?_ hs
  simp [S_ref2_word_r0, S_ref2_word_r1, S_ref2_word_r2, S_ref2_word_r3, S_ref2_word_r4, S_ref2_word_b0, S_ref2_word_r5, S_ref2_word_b1, S_ref2_word_r6, S_ref2_word, hE]
  refine Ls_lessQ (Ls_loop (LsN_less (Less.keep (TL := [(0, .str s), (3, .int .i64 ((0 : Nat) : Int))]) (HL := []) 0 (by simp) (by simp) rfl rfl) (ref2_word_loop hρ hE hcon hc hl ?_ ?_ s.length 0 (by omega) (by simp))))
  · intro h T hs hT
    simp [hT, wordN, h, hE]
  · intro h
    have e : wordN s = !s.isEmpty := by unfold wordN; rw [h]; rfl
    rw [e]
    rcases s with _ | ⟨c, s⟩ <;> simp [S_ref2_word_r0, S_ref2_word_r1, S_ref2_word_r2, S_ref2_word_r3, S_ref2_word_r4, S_ref2_word_b0, S_ref2_word_r5, S_ref2_word_b1, S_ref2_word_r6, S_ref2_word, hE]
theorem ref2_Keyword_run {s : List Nat} (hs : HS) : CallOk ρ Try.prog 111 [enc s] hs (enc (decide (s ∈ keywords))) hs := by
  refine fn hρ hE hcon Try.func111 BS_ref2_Keyword rfl (by simp) ?_ hs
  simp [S_ref2_Keyword_r0, S_ref2_Keyword_r1, S_ref2_Keyword_r2, S_ref2_Keyword_r3, S_ref2_Keyword_r4, S_ref2_Keyword_r5, S_ref2_Keyword_b0, S_ref2_Keyword_r6, S_ref2_Keyword_b1, S_ref2_Keyword_r7, S_ref2_Keyword, hE]
  refine lpi hρ hE hcon 7 (nn := 0) (fun i (_ : Unit) => [(0, .str s), (3, .sl (keywords.map encS) true), (4, .int .i64 (i : Int))]) (fun i _ => []) (fun i _ => s ∉ keywords.take i) ()
    (Less.auto (by simp [keywords]) (by simp) rfl rfl) (by simp) ?_ ?_
  · intro _ he K
    have hn : s ∉ keywords := by rwa [List.take_of_length_le (by decide)] at he
    simp [S_ref2_Keyword_l0, S_ref2_Keyword_r0, S_ref2_Keyword_r1, S_ref2_Keyword_r2, S_ref2_Keyword_r3, S_ref2_Keyword_r4, S_ref2_Keyword_r5, S_ref2_Keyword_b0, S_ref2_Keyword_r6, S_ref2_Keyword_b1, S_ref2_Keyword_r7, S_ref2_Keyword, hE, show keywords.length = 7 from rfl]
    refine LessQ.mk (Less.auto (TL := []) (HL := []) (n := 0) (by simp) (by simp) rfl rfl) ?_
    simp [S_ref2_Keyword_r0, S_ref2_Keyword_r1, S_ref2_Keyword_r2, S_ref2_Keyword_r3, S_ref2_Keyword_r4, S_ref2_Keyword_r5, S_ref2_Keyword_b0, S_ref2_Keyword_r6, S_ref2_Keyword_b1, S_ref2_Keyword_r7, S_ref2_Keyword, hE, hn]
  · intro i _ hil he K hK
    have hw : IntKind.i64.wrap ((i : Int) + 1) = ((i + 1 : Nat) : Int) := wrap_succ (by omega)
    have hil' : (i : Int) < 7 := by omega
    have hk : i < keywords.length := hil
    have hnx : keywords[i] ≠ s → s ∉ keywords.take (i + 1) := by
      intro h hm
      rw [List.take_add_one, List.getElem?_eq_getElem hk] at hm
      rcases List.mem_append.1 hm with hm | hm
      · exact he hm
      · exact h (List.mem_singleton.1 hm).symm
    have hmem : keywords[i] = s → s ∈ keywords := fun h => h ▸ List.getElem_mem hk
    by_cases h : keywords[i] = s
    · have hm := hmem h
      simp [S_ref2_Keyword_l0, S_ref2_Keyword_r0, S_ref2_Keyword_r1, S_ref2_Keyword_r2, S_ref2_Keyword_r3, S_ref2_Keyword_r4, S_ref2_Keyword_r5, S_ref2_Keyword_b0, S_ref2_Keyword_r6, S_ref2_Keyword_b1, S_ref2_Keyword_r7, S_ref2_Keyword, hE, hil, hil', hk, h, show keywords.length = 7 from rfl]
      refine LessQ.mk (Less.auto (TL := [(2, .bool true)]) (HL := []) (n := 0) (by simp) (by simp) rfl rfl) ?_
      simp [S_ref2_Keyword_r0, S_ref2_Keyword_r1, S_ref2_Keyword_r2, S_ref2_Keyword_r3, S_ref2_Keyword_r4, S_ref2_Keyword_r5, S_ref2_Keyword_b0, S_ref2_Keyword_r6, S_ref2_Keyword_b1, S_ref2_Keyword_r7, S_ref2_Keyword, hE, hm]
    · have hnew := hK () (hnx h)
      simp [S_ref2_Keyword_l0, S_ref2_Keyword_r0, S_ref2_Keyword_r1, S_ref2_Keyword_r2, S_ref2_Keyword_r3, S_ref2_Keyword_r4, S_ref2_Keyword_r5, S_ref2_Keyword_b0, S_ref2_Keyword_r6, S_ref2_Keyword_b1, S_ref2_Keyword_r7, S_ref2_Keyword, hE, hil, hil', hk, h, hw, show keywords.length = 7 from rfl, -Int.natCast_add]
      exact hnew _ _ (Less.auto (by simp [-Int.natCast_add]) (by simp) rfl rfl)
end
end Go.Proofs.Ythfcfmkdeheicaa
