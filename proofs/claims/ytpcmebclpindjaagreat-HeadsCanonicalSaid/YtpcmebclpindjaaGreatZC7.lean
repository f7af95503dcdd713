import Derived.Test.YtpcmebclpindjaaGreatZC6
set_option linter.all false
set_option linter.all false
namespace Go.Proofs.YtpcmebclpindjaaGreat
open Go.J
open Go.J.Enc (enc)
set_option maxRecDepth 100000
set_option maxHeartbeats 4000000
section
variable {ρ : Nat → Value} (hρ : J.Good ρ) {E : Env} (hE : E.P = Tryz.prog) (hcon : ConsOk ρ E)
include hρ hE hcon
theorem ref3_Has_loop {l : List Int} {x : Int} (h1 : l.length ≤ 1000000) {Q : Ex → PT V → HS → Prop}
    (hf : x ∈ l → ∀ T hs, T.get 4 = some (.bool true) → Q .ret T hs) (ht : x ∉ l → ∀ T hs, Q (.exit 0) T hs) :
    ∀ (n i : Nat), i + n = l.length → x ∉ l.take i → LsN ρ E 0 18 S_ref3_Has_l0 Q (n + 1) (mkP [(0, .sl (l.map encI) false), (1, .int .i64 x), (5, .int .i64 (i : Int))]) { H := mkP [], n := 0, log := [] } := by
  intro n
  induction n with
  | zero =>
    intro i hi he
    have hil : ¬ (i : Int) < l.length := by omega
    have e : x ∉ l := by rw [List.take_of_length_le (by omega)] at he; exact he
    refine lp hρ hE hcon fun K hK => ?_
    simp [S_ref3_Has_l0, S_ref3_Has_r0, S_ref3_Has_r1, S_ref3_Has_r2, S_ref3_Has_r3, S_ref3_Has_r4, S_ref3_Has_b0, S_ref3_Has_r5, S_ref3_Has_b1, S_ref3_Has_r6, S_ref3_Has, hE, hil]
    exact ht e _ _
  | succ n ih =>
    intro i hi he
    have hil : i < l.length := by omega
    have hil' : (i : Int) < l.length := by omega
    have hw : IntKind.i64.wrap ((i : Int) + 1) = ((i + 1 : Nat) : Int) := wrap_succ (by omega)
    have hnext : l[i] ≠ x → x ∉ l.take (i + 1) := by
      intro h hm
      rw [List.take_add_one, List.getElem?_eq_getElem hil] at hm
      rcases List.mem_append.1 hm with hm | hm
      · exact he hm
      · exact h (List.mem_singleton.1 hm).symm
    have hmem : l[i] = x → x ∈ l := fun h => h ▸ List.getElem_mem hil
    refine lp hρ hE hcon fun K hK => ?_
    simp [S_ref3_Has_l0, S_ref3_Has_r0, S_ref3_Has_r1, S_ref3_Has_r2, S_ref3_Has_r3, S_ref3_Has_r4, S_ref3_Has_b0, S_ref3_Has_r5, S_ref3_Has_b1, S_ref3_Has_r6, S_ref3_Has, hE, hil', hil]
    refine brT_mk (fun h => ?_) (fun h => ?_) <;> simp [S_ref3_Has_r0, S_ref3_Has_r1, S_ref3_Has_r2, S_ref3_Has_r3, S_ref3_Has_r4, S_ref3_Has_b0, S_ref3_Has_r5, S_ref3_Has_b1, S_ref3_Has_r6, S_ref3_Has, hE, hw, -Int.natCast_add]
    · exact hf (hmem h) _ _ (by simp)
    · exact hK _ _ (LsN_less (Less.keep 0 (by simp [-Int.natCast_add]) (by simp) rfl rfl) (ih (i + 1) (by omega) (hnext h)))
theorem ref3_Has_run {l : List Int} {x : Int} (h1 : l.length ≤ 1000000) (hs : HS) : CallOk ρ Tryz.prog 126 [enc l, enc x] hs (enc (decide (x ∈ l))) hs := by
  refine fn hρ hE hcon Tryz.func126 BS_ref3_Has rfl (by simp) ?_ hs
  simp [S_ref3_Has_r0, S_ref3_Has_r1, S_ref3_Has_r2, S_ref3_Has_r3, S_ref3_Has_r4, S_ref3_Has_b0, S_ref3_Has_r5, S_ref3_Has_b1, S_ref3_Has_r6, S_ref3_Has, hE]
  refine Ls_loop (LsN_less (Less.keep (TL := [(0, .sl (l.map encI) false), (1, .int .i64 x), (5, .int .i64 ((0 : Nat) : Int))]) (HL := []) 0 (by simp) (by simp) rfl rfl) (ref3_Has_loop hρ hE hcon h1 ?_ ?_ l.length 0 (by omega) (by simp)))
  · intro h T hs hT
    simp [hT, h, hE]
  · intro h T hs
    simp [S_ref3_Has_r0, S_ref3_Has_r1, S_ref3_Has_r2, S_ref3_Has_r3, S_ref3_Has_r4, S_ref3_Has_b0, S_ref3_Has_r5, S_ref3_Has_b1, S_ref3_Has_r6, S_ref3_Has, h, hE]
/-! The leaves of a list of types, in a row that was nil. -/
theorem ref3_Vars_loop0 {d : Nat} (hc : E.con 125 = ioS 5 (ioF2 (leavesF d)) kOne) {l : List Ty} (hl : Ty.oks l = true) (hll : l.length ≤ 10000) (hd : Ty.sizes l ≤ d) (hd2 : d ≤ 10000) {Q : Ex → PT V → HS → Prop}
    (hQ : Q (.exit 0) (mkP [(3, oV 0 ((leavesL 1 l []).map encTy))]) { H := mkP (oH 0 5 ((leavesL 1 l []).map encTy)), n := 1, log := [] }) :
    ∀ (n i : Nat) (L : List Ty), i + n = l.length → L = leavesL 1 (l.take i) [] → LsN ρ E 0 42 S_ref3_Vars_l0 (LessQ 0 Q) (n + 1) (mkP [(0, .sl (l.map encTy) false), (3, oV 0 (L.map encTy)), (4, .int .i64 (i : Int))])
      { H := mkP (oH 0 5 (L.map encTy)), n := 1, log := [] } := by
  intro n
  induction n with
  | zero =>
    intro i L hi hL
    have hil : ¬ (i : Int) < l.length := by omega
    have e : L = leavesL 1 l [] := by rw [hL, List.take_of_length_le (by omega)]
    rw [← e] at hQ
    refine lp hρ hE hcon fun K hK => ?_
    rcases L with _ | ⟨x, L⟩ <;> simp [S_ref3_Vars_l0, S_ref3_Vars_r0, S_ref3_Vars_r1, S_ref3_Vars_r2, S_ref3_Vars_r3, S_ref3_Vars_r4, S_ref3_Vars_b0, S_ref3_Vars_r5, S_ref3_Vars_b1, S_ref3_Vars_r6, S_ref3_Vars_r7, S_ref3_Vars_r8, S_ref3_Vars_r9, S_ref3_Vars_r10, S_ref3_Vars_b2, S_ref3_Vars_r11, S_ref3_Vars_b3, S_ref3_Vars_r12, S_ref3_Vars, hE, hil] <;> exact LessQ.mk (Less.keep 1 (by simp) (by simp) rfl rfl) hQ
  | succ n ih =>
    intro i L hi hL
    have hil : i < l.length := by omega
    have hil' : (i : Int) < l.length := by omega
    have hw : IntKind.i64.wrap ((i : Int) + 1) = ((i + 1 : Nat) : Int) := wrap_succ (by omega)
    have hm := List.getElem_mem hil
    have hok := Ty.oks_iff.1 hl _ hm
    have hLok : Ty.oks L = true := by rw [hL]; exact leavesL_ok (oks_take hl i) _ rfl
    have hlen := leavesL_len 1 (l.take i) []
    rw [← hL] at hlen
    have hsz : Ty.sizes (l.take i) + l[i].size ≤ Ty.sizes l := by
      have := sizes_take_le l (i + 1)
      rw [List.take_add_one, List.getElem?_eq_getElem hil, sizes_app] at this
      simpa [Ty.sizes] using this
    have hb : L.length + l[i].size ≤ 10000 := by simp at hlen; omega
    have hnew : leavesM 1 l[i] L = leavesL 1 (l.take (i + 1)) [] := by
      rw [List.take_add_one, List.getElem?_eq_getElem hil, Option.toList_some, leavesL_snoc, hL]
    have hF : leavesF d L l[i] 1 = some (leavesM 1 l[i] L) := by
      unfold leavesF; rw [if_pos ⟨by omega, hok, hLok, hb⟩]
    have hml := leavesM_len 1 l[i] L
    refine lp hρ hE hcon fun K hK => ?_
    generalize hR : leavesM 1 l[i] L = R at hF hnew hml
    rcases L with _ | ⟨x, L⟩
    · rcases R with _ | ⟨y, R⟩ <;> simp [S_ref3_Vars_l0, S_ref3_Vars_r0, S_ref3_Vars_r1, S_ref3_Vars_r2, S_ref3_Vars_r3, S_ref3_Vars_r4, S_ref3_Vars_b0, S_ref3_Vars_r5, S_ref3_Vars_b1, S_ref3_Vars_r6, S_ref3_Vars_r7, S_ref3_Vars_r8, S_ref3_Vars_r9, S_ref3_Vars_r10, S_ref3_Vars_b2, S_ref3_Vars_r11, S_ref3_Vars_b3, S_ref3_Vars_r12, S_ref3_Vars, hE, hil, hil', hc, hw, hF, kOne, -Int.natCast_add]
      · exact hK _ _ (LsN_less (Less.keep 1 (by simp [-Int.natCast_add]) (by simp) rfl rfl) (ih (i + 1) _ (by omega) hnew))
      · exact hK _ _ (LsN_less (Less.lit (fun k => if k = 0 then 12 else k) 1 (by simp [-Int.natCast_add]) (by simp) rfl rfl) (ih (i + 1) _ (by omega) hnew))
    · rcases R with _ | ⟨y, R⟩
      · simp at hml
      · have hml0 : L.length ≤ R.length := by simp at hml; omega
        simp [S_ref3_Vars_l0, S_ref3_Vars_r0, S_ref3_Vars_r1, S_ref3_Vars_r2, S_ref3_Vars_r3, S_ref3_Vars_r4, S_ref3_Vars_b0, S_ref3_Vars_r5, S_ref3_Vars_b1, S_ref3_Vars_r6, S_ref3_Vars_r7, S_ref3_Vars_r8, S_ref3_Vars_r9, S_ref3_Vars_r10, S_ref3_Vars_b2, S_ref3_Vars_r11, S_ref3_Vars_b3, S_ref3_Vars_r12, S_ref3_Vars, hE, hil, hil', hc, hw, hF, kOne, hml0, -Int.natCast_add]
        exact hK _ _ (LsN_less (Less.keep 1 (by simp [-Int.natCast_add]) (by simp) rfl rfl) (ih (i + 1) _ (by omega) hnew))
theorem ref3_Vars_loop1 (hc : E.con 126 = fnC (spec2 fun (l : List Int) (x : Int) => if l.length ≤ 1000000 then some (decide (x ∈ l)) else none)) {F : List Ty} (hl : F.length ≤ 10000) {Q : Ex → PT V → HS → Prop}
    (hQ : Q (.exit 2) (mkP [(5, oV 1 ((idsOf F).map encI))]) { H := mkP (oH 1 1 ((idsOf F).map encI)), n := 2, log := [] }) :
    ∀ (n i : Nat) (O : List Int), i + n = F.length → O = idsOf (F.take i) → LsN ρ E 0 42 S_ref3_Vars_l1 (LessQ 0 Q) (n + 1) (mkP [(3, oV 0 (F.map encTy)), (5, oV 1 (O.map encI)), (6, .int .i64 (i : Int))])
      { H := mkP (oH 0 5 (F.map encTy) ++ oH 1 1 (O.map encI)), n := 2, log := [] } := by
  intro n
  induction n with
  | zero =>
    intro i O hi hO
    have e : O = idsOf F := by rw [hO, List.take_of_length_le (by omega)]
    rw [← e] at hQ
    refine lp hρ hE hcon fun K hK => ?_
    rcases F with _ | ⟨x, F⟩
    · obtain rfl : i = 0 := by simpa using hi
      rcases O with _ | ⟨y, O⟩ <;> simp [S_ref3_Vars_l1, S_ref3_Vars_r0, S_ref3_Vars_r1, S_ref3_Vars_r2, S_ref3_Vars_r3, S_ref3_Vars_r4, S_ref3_Vars_b0, S_ref3_Vars_r5, S_ref3_Vars_b1, S_ref3_Vars_r6, S_ref3_Vars_r7, S_ref3_Vars_r8, S_ref3_Vars_r9, S_ref3_Vars_r10, S_ref3_Vars_b2, S_ref3_Vars_r11, S_ref3_Vars_b3, S_ref3_Vars_r12, S_ref3_Vars, hE] <;> exact LessQ.mk (Less.keep 2 (by simp) (by simp) rfl rfl) hQ
    · have hil : ¬ (i : Int) < (F.length : Int) + 1 := by simp at hi; omega
      rcases O with _ | ⟨y, O⟩ <;> simp [S_ref3_Vars_l1, S_ref3_Vars_r0, S_ref3_Vars_r1, S_ref3_Vars_r2, S_ref3_Vars_r3, S_ref3_Vars_r4, S_ref3_Vars_b0, S_ref3_Vars_r5, S_ref3_Vars_b1, S_ref3_Vars_r6, S_ref3_Vars_r7, S_ref3_Vars_r8, S_ref3_Vars_r9, S_ref3_Vars_r10, S_ref3_Vars_b2, S_ref3_Vars_r11, S_ref3_Vars_b3, S_ref3_Vars_r12, S_ref3_Vars, hE, hil] <;> exact LessQ.mk (Less.keep 2 (by simp) (by simp) rfl rfl) hQ
  | succ n ih =>
    intro i O hi hO
    have hil : i < F.length := by omega
    have hw : IntKind.i64.wrap ((i : Int) + 1) = ((i + 1 : Nat) : Int) := wrap_succ (by omega)
    have hOl : O.length ≤ 10000 := by rw [hO]; have := idsOf_len (F.take i); rw [List.length_take] at this; omega
    have hnew : addId O F[i] = idsOf (F.take (i + 1)) := by
      rw [List.take_add_one, List.getElem?_eq_getElem hil, Option.toList_some, idsOf_snoc, hO]
    have hgi : (F.map encTy)[i]? = some (encTy F[i]) := by rw [List.getElem?_map, List.getElem?_eq_getElem hil]; rfl
    refine lp hρ hE hcon fun K hK => ?_
    generalize F[i] = y at hnew hgi
    rcases F with _ | ⟨x, F⟩
    · simp at hil
    have hil2 : (i : Int) < (F.length : Int) + 1 := by simp at hil; omega
    have hil3 : i < F.length + 1 := by simpa using hil
    simp only [List.map_cons, encTy_n] at hgi
    have hgi3 : ∀ h, (encTy x :: F.map encTy)[i]'h = encTy y := fun h => by simp only [encTy_n]; exact (List.getElem?_eq_some_iff.1 hgi).2
    simp only [encTy_n] at hgi3
    have hd1 : (i * 5 + 2) / 5 = i := by omega
    have hd2 : (i * 5 + 2) % 5 = 2 := by omega
    by_cases hmem : y.id ∈ O
    · have hadd : addId O y = O := if_pos hmem
      rw [hadd] at hnew
      rcases O with _ | ⟨z, O⟩
      · cases hmem
      · have hOl2 : O.length + 1 ≤ 1000000 := by simp at hOl; omega
        simp [S_ref3_Vars_l1, S_ref3_Vars_r0, S_ref3_Vars_r1, S_ref3_Vars_r2, S_ref3_Vars_r3, S_ref3_Vars_r4, S_ref3_Vars_b0, S_ref3_Vars_r5, S_ref3_Vars_b1, S_ref3_Vars_r6, S_ref3_Vars_r7, S_ref3_Vars_r8, S_ref3_Vars_r9, S_ref3_Vars_r10, S_ref3_Vars_b2, S_ref3_Vars_r11, S_ref3_Vars_b3, S_ref3_Vars_r12, S_ref3_Vars, hE, hil2, hil3, hc, hd1, hd2, hgi3, hmem, hw, hOl2, -Int.natCast_add, -List.mem_cons]
        exact hK _ _ (LsN_less (Less.keep 2 (by simp [-Int.natCast_add]) (by simp) rfl rfl) (ih (i + 1) _ (by omega) hnew))
    · have hadd : addId O y = O ++ [y.id] := if_neg hmem
      rw [hadd] at hnew
      rcases O with _ | ⟨z, O⟩
      · simp [S_ref3_Vars_l1, S_ref3_Vars_r0, S_ref3_Vars_r1, S_ref3_Vars_r2, S_ref3_Vars_r3, S_ref3_Vars_r4, S_ref3_Vars_b0, S_ref3_Vars_r5, S_ref3_Vars_b1, S_ref3_Vars_r6, S_ref3_Vars_r7, S_ref3_Vars_r8, S_ref3_Vars_r9, S_ref3_Vars_r10, S_ref3_Vars_b2, S_ref3_Vars_r11, S_ref3_Vars_b3, S_ref3_Vars_r12, S_ref3_Vars, hE, hil2, hil3, hc, hd1, hd2, hgi3, hw, -Int.natCast_add]
        exact hK _ _ (LsN_less (Less.lit (fun k => if k = 1 then 21 else k) 2 (by simp [-Int.natCast_add]) (by simp) rfl rfl) (ih (i + 1) _ (by omega) hnew))
      · have hOl2 : O.length + 1 ≤ 1000000 := by simp at hOl; omega
        have h64 : (O.length + 1 + 1) * 8 ≤ 1048576 := by simp at hOl; omega
        simp [S_ref3_Vars_l1, S_ref3_Vars_r0, S_ref3_Vars_r1, S_ref3_Vars_r2, S_ref3_Vars_r3, S_ref3_Vars_r4, S_ref3_Vars_b0, S_ref3_Vars_r5, S_ref3_Vars_b1, S_ref3_Vars_r6, S_ref3_Vars_r7, S_ref3_Vars_r8, S_ref3_Vars_r9, S_ref3_Vars_r10, S_ref3_Vars_b2, S_ref3_Vars_r11, S_ref3_Vars_b3, S_ref3_Vars_r12, S_ref3_Vars, hE, hil2, hil3, hc, hd1, hd2, hgi3, hmem, hw, hOl2, h64, Nat.not_succ_le_self, -Int.natCast_add, -List.mem_cons]
        exact hK _ _ (LsN_less (Less.keep 2 (by simp [-Int.natCast_add]) (by simp) rfl rfl) (ih (i + 1) _ (by omega) hnew))
theorem ref3_Vars_run {d : Nat} (hcH : E.con 126 = fnC (spec2 fun (l : List Int) (x : Int) => if l.length ≤ 1000000 then some (decide (x ∈ l)) else none)) (hc : E.con 125 = ioS 5 (ioF2 (leavesF d)) kOne) {l : List Ty} (hl : Ty.oks l = true) (hll : l.length ≤ 10000) (hd : Ty.sizes l ≤ d) (hd2 : d ≤ 10000) (hs : HS) : CallOk ρ Tryz.prog 61 [enc l] hs (enc (varsM l)) hs := by
  refine fn hρ hE hcon Tryz.func61 BS_ref3_Vars rfl (by simp) ?_ hs
  simp [S_ref3_Vars_r0, S_ref3_Vars_r1, S_ref3_Vars_r2, S_ref3_Vars_r3, S_ref3_Vars_r4, S_ref3_Vars_b0, S_ref3_Vars_r5, S_ref3_Vars_b1, S_ref3_Vars_r6, S_ref3_Vars_r7, S_ref3_Vars_r8, S_ref3_Vars_r9, S_ref3_Vars_r10, S_ref3_Vars_b2, S_ref3_Vars_r11, S_ref3_Vars_b3, S_ref3_Vars_r12, S_ref3_Vars, hE]
  refine Ls_lessQ (Ls_loop (LsN_less (Less.keep (TL := [(0, .sl (l.map encTy) false), (3, oV 0 (([] : List Ty).map encTy)), (4, .int .i64 ((0 : Nat) : Int))]) (HL := oH 0 5 (([] : List Ty).map encTy)) 1 (by simp) (by simp) rfl rfl) (ref3_Vars_loop0 hρ hE hcon hc hl hll hd hd2 ?_ l.length 0 [] (by omega) rfl)))
  have hlen := leavesL_len 1 l []
  unfold varsM
  generalize leavesL 1 l [] = F at hlen
  have hF : F.length ≤ 10000 := by simp at hlen; omega
  rcases F with _ | ⟨y, F⟩
  · simp [S_ref3_Vars_r0, S_ref3_Vars_r1, S_ref3_Vars_r2, S_ref3_Vars_r3, S_ref3_Vars_r4, S_ref3_Vars_b0, S_ref3_Vars_r5, S_ref3_Vars_b1, S_ref3_Vars_r6, S_ref3_Vars_r7, S_ref3_Vars_r8, S_ref3_Vars_r9, S_ref3_Vars_r10, S_ref3_Vars_b2, S_ref3_Vars_r11, S_ref3_Vars_b3, S_ref3_Vars_r12, S_ref3_Vars, hE]
    refine Ls_lessQ (Ls_loop (LsN_less (Less.keep (TL := [(3, oV 0 (([] : List Ty).map encTy)), (5, oV 1 (([] : List Int).map encI)), (6, .int .i64 ((0 : Nat) : Int))]) (HL := oH 0 5 (([] : List Ty).map encTy) ++ oH 1 1 (([] : List Int).map encI)) 2 (by simp) (by simp) rfl rfl) (ref3_Vars_loop1 hρ hE hcon hcH hF ?_ 0 0 [] (by simp) rfl)))
    generalize idsOf [] = O
    rcases O with _ | ⟨z, O⟩ <;> simp [S_ref3_Vars_r0, S_ref3_Vars_r1, S_ref3_Vars_r2, S_ref3_Vars_r3, S_ref3_Vars_r4, S_ref3_Vars_b0, S_ref3_Vars_r5, S_ref3_Vars_b1, S_ref3_Vars_r6, S_ref3_Vars_r7, S_ref3_Vars_r8, S_ref3_Vars_r9, S_ref3_Vars_r10, S_ref3_Vars_b2, S_ref3_Vars_r11, S_ref3_Vars_b3, S_ref3_Vars_r12, S_ref3_Vars, hE]
  · simp [S_ref3_Vars_r0, S_ref3_Vars_r1, S_ref3_Vars_r2, S_ref3_Vars_r3, S_ref3_Vars_r4, S_ref3_Vars_b0, S_ref3_Vars_r5, S_ref3_Vars_b1, S_ref3_Vars_r6, S_ref3_Vars_r7, S_ref3_Vars_r8, S_ref3_Vars_r9, S_ref3_Vars_r10, S_ref3_Vars_b2, S_ref3_Vars_r11, S_ref3_Vars_b3, S_ref3_Vars_r12, S_ref3_Vars, hE]
    refine Ls_lessQ (Ls_loop (LsN_less (Less.keep (TL := [(3, oV 0 ((y :: F).map encTy)), (5, oV 1 (([] : List Int).map encI)), (6, .int .i64 ((0 : Nat) : Int))]) (HL := oH 0 5 ((y :: F).map encTy) ++ oH 1 1 (([] : List Int).map encI)) 2 (by simp) (by simp) rfl rfl) (ref3_Vars_loop1 hρ hE hcon hcH hF ?_ (y :: F).length 0 [] (by omega) rfl)))
    generalize idsOf (y :: F) = O
    rcases O with _ | ⟨z, O⟩ <;> simp [S_ref3_Vars_r0, S_ref3_Vars_r1, S_ref3_Vars_r2, S_ref3_Vars_r3, S_ref3_Vars_r4, S_ref3_Vars_b0, S_ref3_Vars_r5, S_ref3_Vars_b1, S_ref3_Vars_r6, S_ref3_Vars_r7, S_ref3_Vars_r8, S_ref3_Vars_r9, S_ref3_Vars_r10, S_ref3_Vars_b2, S_ref3_Vars_r11, S_ref3_Vars_b3, S_ref3_Vars_r12, S_ref3_Vars, hE]
end
end Go.Proofs.YtpcmebclpindjaaGreat
