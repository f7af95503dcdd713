import Derived.Test.YthfcfmkdeheicaaPB6
set_option linter.all false
set_option linter.all false
namespace Go.Proofs.Ythfcfmkdeheicaa
open Go.J
open Go.J.Enc (enc)
set_option maxRecDepth 100000
set_option maxHeartbeats 4000000
section
variable {ρ : Nat → Value} (hρ : J.Good ρ) {E : Env} (hE : E.P = Try.prog) (hcon : ConsOk ρ E)
include hρ hE hcon
theorem ref3_Has_loop {l : List Int} {x : Int} (h1 : l.length ≤ 1000000) {Q : Ex → PT V → HS → Prop}
    (hf : x ∈ l → ∀ T hs, T.get 4 = some (.bool true) → Q .ret T hs) (ht : x ∉ l → ∀ T hs, Q (.exit 0) T hs) :
    ∀ (n i : Nat), i + n = l.length → x ∉ l.take i → LsN ρ E 0 18 S_ref3_Has_l0 Q (n + 1) (mkP [(0, .sl (l.map encI) false), (1, .int .i64 x), (5, .int .i64 (i : Int))]) { H := mkP [], n := 0, log := [] } := by
  intro n
  induction n with
  | zero =>
    intro i hi he
    have hil : ¬ (i : Int) < l.length := by omega
    have e : x ∉ l := by rw [List.take_of_length_le (by omega)] at he; exact he
    refine lp hρ hE hcon fun K hK => ?_
    simp [S_ref3_Has_l0, S_ref3_Has_r0, S_ref3_Has_r1, S_ref3_Has_r2, S_ref3_Has_r3, S_ref3_Has_r4, S_ref3_Has_b0, S_ref3_Has_r5, S_ref3_Has_b1, S_ref3_Has_r6, S_ref3_Has, hE, hil]
    exact ht e _ _
  | succ n ih =>
    intro i hi he
    have hil : i < l.length := by omega
    have hil' : (i : Int) < l.length := by omega
    have hw : IntKind.i64.wrap ((i : Int) + 1) = ((i + 1 : Nat) : Int) := wrap_succ (by omega)
    have hnext : l[i] ≠ x → x ∉ l.take (i + 1) := by
      intro h hm
      rw [List.take_add_one, List.getElem?_eq_getElem hil] at hm
      rcases List.mem_append.1 hm with hm | hm
      · exact he hm
      · exact h (List.mem_singleton.1 hm).symm
    have hmem : l[i] = x → x ∈ l := fun h => h ▸ List.getElem_mem hil
    refine lp hρ hE hcon fun K hK => ?_
    simp [S_ref3_Has_l0, S_ref3_Has_r0, S_ref3_Has_r1, S_ref3_Has_r2, S_ref3_Has_r3, S_ref3_Has_r4, S_ref3_Has_b0, S_ref3_Has_r5, S_ref3_Has_b1, S_ref3_Has_r6, S_ref3_Has, hE, hil', hil]
    refine brT_mk (fun h => ?_) (fun h => ?_) <;> simp [S_ref3_Has_r0, S_ref3_Has_r1, S_ref3_Has_r2, S_ref3_Has_r3, S_ref3_Has_r4, S_ref3_Has_b0, S_ref3_Has_r5, S_ref3_Has_b1, S_ref3_Has_r6, S_ref3_Has, hE, hw, -Int.natCast_add]
    · exact hf (hmem h) _ _ (by simp)
    · exact hK _ _ (LsN_less (Less.keep 0 (by simp [-Int.natCast_add]) (by simp) rfl rfl) (ih (i + 1) (by omega) (hnext h)))
theorem ref3_Has_run {l : List Int} {x : Int} (h1 : l.length ≤ 1000000) (hs : HS) : CallOk ρ Try.prog 47 [enc l, enc x] hs (enc (decide (x ∈ l))) hs := by
  refine fn hρ hE hcon Try.func47 BS_ref3_Has rfl (by simp) ?_ hs
  simp [S_ref3_Has_r0, S_ref3_Has_r1, S_ref3_Has_r2, S_ref3_Has_r3, S_ref3_Has_r4, S_ref3_Has_b0, S_ref3_Has_r5, S_ref3_Has_b1, S_ref3_Has_r6, S_ref3_Has, hE]
  refine Ls_loop (LsN_less (Less.keep (TL := [(0, .sl (l.map encI) false), (1, .int .i64 x), (5, .int .i64 ((0 : Nat) : Int))]) (HL := []) 0 (by simp) (by simp) rfl rfl) (ref3_Has_loop hρ hE hcon h1 ?_ ?_ l.length 0 (by omega) (by simp)))
  · intro h T hs hT
    simp [hT, h, hE]
  · intro h T hs
    simp [S_ref3_Has_r0, S_ref3_Has_r1, S_ref3_Has_r2, S_ref3_Has_r3, S_ref3_Has_r4, S_ref3_Has_b0, S_ref3_Has_r5, S_ref3_Has_b1, S_ref3_Has_r6, S_ref3_Has, h, hE]
/-! The leaves of a list of types, in a row that was nil. -/
theorem ref3_Rigids_loop {d : Nat} (hc : E.con 85 = ioS 5 (ioF2 (leavesF d)) kOne) {l : List Ty} (hl : Ty.oks l = true) (hll : l.length ≤ 10000) (hd : Ty.sizes l ≤ d) (hd2 : d ≤ 10000) {Q : Ex → PT V → HS → Prop}
    (hQ : Q (.exit 0) (mkP [(3, oV 0 ((leavesL 3 l []).map encTy))]) { H := mkP (oH 0 5 ((leavesL 3 l []).map encTy)), n := 1, log := [] }) :
    ∀ (n i : Nat) (L : List Ty), i + n = l.length → L = leavesL 3 (l.take i) [] → LsN ρ E 0 18 S_ref3_Rigids_l0 (LessQ 0 Q) (n + 1) (mkP [(0, .sl (l.map encTy) false), (3, oV 0 (L.map encTy)), (4, .int .i64 (i : Int))])
      { H := mkP (oH 0 5 (L.map encTy)), n := 1, log := [] } := by
  intro n
  induction n with
  | zero =>
    intro i L hi hL
    have hil : ¬ (i : Int) < l.length := by omega
    have e : L = leavesL 3 l [] := by rw [hL, List.take_of_length_le (by omega)]
    rw [← e] at hQ
    refine lp hρ hE hcon fun K hK => ?_
    rcases L with _ | ⟨x, L⟩ <;> simp [S_ref3_Rigids_l0, S_ref3_Rigids_r0, S_ref3_Rigids_r1, S_ref3_Rigids_r2, S_ref3_Rigids_r3, S_ref3_Rigids_r4, S_ref3_Rigids_b0, S_ref3_Rigids_r5, S_ref3_Rigids_b1, S_ref3_Rigids_r6, S_ref3_Rigids, hE, hil] <;> exact LessQ.mk (Less.keep 1 (by simp) (by simp) rfl rfl) hQ
  | succ n ih =>
    intro i L hi hL
    have hil : i < l.length := by omega
    have hil' : (i : Int) < l.length := by omega
    have hw : IntKind.i64.wrap ((i : Int) + 1) = ((i + 1 : Nat) : Int) := wrap_succ (by omega)
    have hm := List.getElem_mem hil
    have hok := Ty.oks_iff.1 hl _ hm
    have hLok : Ty.oks L = true := by rw [hL]; exact leavesL_ok (oks_take hl i) _ rfl
    have hlen := leavesL_len 3 (l.take i) []
    rw [← hL] at hlen
    have hsz : Ty.sizes (l.take i) + l[i].size ≤ Ty.sizes l := by
      have := sizes_take_le l (i + 1)
      rw [List.take_add_one, List.getElem?_eq_getElem hil, sizes_app] at this
      simpa [Ty.sizes] using this
    have hb : L.length + l[i].size ≤ 10000 := by simp at hlen; omega
    have hnew : leavesM 3 l[i] L = leavesL 3 (l.take (i + 1)) [] := by
      rw [List.take_add_one, List.getElem?_eq_getElem hil, Option.toList_some, leavesL_snoc, hL]
    have hF : leavesF d L l[i] 3 = some (leavesM 3 l[i] L) := by
      unfold leavesF; rw [if_pos ⟨by omega, hok, hLok, hb⟩]
    have hml := leavesM_len 3 l[i] L
    refine lp hρ hE hcon fun K hK => ?_
    generalize hR : leavesM 3 l[i] L = R at hF hnew hml
    rcases L with _ | ⟨x, L⟩
    · rcases R with _ | ⟨y, R⟩ <;> simp [S_ref3_Rigids_l0, S_ref3_Rigids_r0, S_ref3_Rigids_r1, S_ref3_Rigids_r2, S_ref3_Rigids_r3, S_ref3_Rigids_r4, S_ref3_Rigids_b0, S_ref3_Rigids_r5, S_ref3_Rigids_b1, S_ref3_Rigids_r6, S_ref3_Rigids, hE, hil, hil', hc, hw, hF, kOne, -Int.natCast_add]
      · exact hK _ _ (LsN_less (Less.keep 1 (by simp [-Int.natCast_add]) (by simp) rfl rfl) (ih (i + 1) _ (by omega) hnew))
      · exact hK _ _ (LsN_less (Less.lit (fun k => if k = 0 then 12 else k) 1 (by simp [-Int.natCast_add]) (by simp) rfl rfl) (ih (i + 1) _ (by omega) hnew))
    · rcases R with _ | ⟨y, R⟩
      · simp at hml
      · have hml0 : L.length ≤ R.length := by simp at hml; omega
        simp [S_ref3_Rigids_l0, S_ref3_Rigids_r0, S_ref3_Rigids_r1, S_ref3_Rigids_r2, S_ref3_Rigids_r3, S_ref3_Rigids_r4, S_ref3_Rigids_b0, S_ref3_Rigids_r5, S_ref3_Rigids_b1, S_ref3_Rigids_r6, S_ref3_Rigids, hE, hil, hil', hc, hw, hF, kOne, hml0, -Int.natCast_add]
        exact hK _ _ (LsN_less (Less.keep 1 (by simp [-Int.natCast_add]) (by simp) rfl rfl) (ih (i + 1) _ (by omega) hnew))
theorem ref3_Rigids_run {d : Nat} (hc : E.con 85 = ioS 5 (ioF2 (leavesF d)) kOne) {l : List Ty} (hl : Ty.oks l = true) (hll : l.length ≤ 10000) (hd : Ty.sizes l ≤ d) (hd2 : d ≤ 10000) (hs : HS) : CallOk ρ Try.prog 132 [enc l] hs (enc (rigidsM l)) hs := by
  refine fn hρ hE hcon Try.func132 BS_ref3_Rigids rfl (by simp) ?_ hs
  simp [S_ref3_Rigids_r0, S_ref3_Rigids_r1, S_ref3_Rigids_r2, S_ref3_Rigids_r3, S_ref3_Rigids_r4, S_ref3_Rigids_b0, S_ref3_Rigids_r5, S_ref3_Rigids_b1, S_ref3_Rigids_r6, S_ref3_Rigids, hE]
  refine Ls_lessQ (Ls_loop (LsN_less (Less.keep (TL := [(0, .sl (l.map encTy) false), (3, oV 0 (([] : List Ty).map encTy)), (4, .int .i64 ((0 : Nat) : Int))]) (HL := oH 0 5 (([] : List Ty).map encTy)) 1 (by simp) (by simp) rfl rfl) (ref3_Rigids_loop hρ hE hcon hc hl hll hd hd2 ?_ l.length 0 [] (by omega) rfl)))
  unfold rigidsM
  generalize leavesL 3 l [] = R
  rcases R with _ | ⟨y, R⟩ <;> simp [S_ref3_Rigids_r0, S_ref3_Rigids_r1, S_ref3_Rigids_r2, S_ref3_Rigids_r3, S_ref3_Rigids_r4, S_ref3_Rigids_b0, S_ref3_Rigids_r5, S_ref3_Rigids_b1, S_ref3_Rigids_r6, S_ref3_Rigids, hE]
end
end Go.Proofs.Ythfcfmkdeheicaa
