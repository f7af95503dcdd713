import Derived.Test.YthfcfmkdeheicaaPB4
import Derived.Test.YthfcfmkdeheicaaJL
set_option linter.all false
set_option linter.all false
namespace Go.Proofs.Ythfcfmkdeheicaa
open Go.J
open Go.J.Enc (enc)
set_option maxRecDepth 100000
set_option maxHeartbeats 4000000
noncomputable def leavesF (d : Nat) (L : List Ty) (t : Ty) (kind : Int) : Option (List Ty) := if t.size ≤ d ∧ t.ok = true ∧ Ty.oks L = true ∧ L.length + t.size ≤ 10000 then some (leavesM kind t L) else none
section
variable {ρ : Nat → Value} (hρ : J.Good ρ) {E : Env} (hE : E.P = Try.prog) (hcon : ConsOk ρ E)
include hρ hE hcon
theorem ref3_leaves_loop1 {d : Nat} (hc : E.con 85 = ioS 5 (ioF2 (leavesF d)) kOne) {k : Nat} {t : Ty} {kind : Int} {L0 : List Ty} (hk : k = 0 ∨ k = 1 ∧ L0 ≠ []) (ht : t.ok = true) (hd : t.size ≤ d + 1) (h0 : Ty.oks L0 = true) (hl0 : L0.length + t.size ≤ 10000) {Q : Ex → PT V → HS → Prop}
    (hQ : Q (.exit 2) (mkP [(0, oV 0 ((leavesL kind t.args L0).map encTy))]) { H := mkP (oH 0 5 ((leavesL kind t.args L0).map encTy)), n := 1, log := [] }) :
    ∀ (n i : Nat) (L : List Ty), i + n = t.args.length → L = leavesL kind (t.args.take i) L0 → LsN ρ E k 52 S_ref3_leaves_l1 (LessQ k Q) (n + 1) (mkP [(0, oV 0 (L.map encTy)), (2, .int .i64 kind), (4, .ptr 1 0 0), (8, .int .i64 (i : Int))])
      { H := mkP ((1, box (encTy t)) :: oH 0 5 (L.map encTy)), n := 2, log := [] } := by
  intro n
  induction n with
  | zero =>
    intro i L hi hL
    have hil : ¬ (i : Int) < t.args.length := by omega
    have e : L = leavesL kind t.args L0 := by rw [hL, List.take_of_length_le (by omega)]
    rw [← e] at hQ
    have hlen := leavesL_len kind t.args L0
    rw [← e] at hlen
    refine lp hρ hE hcon fun K hK => ?_
    rcases L with _ | ⟨x, L⟩
    · have hk0 : k = 0 := by
        rcases hk with h | ⟨_, h⟩
        · exact h
        · cases L0 with
          | nil => exact absurd rfl h
          | cons a l => simp at hlen
      subst hk0
      simp [S_ref3_leaves_l1, S_ref3_leaves_r0, S_ref3_leaves_r1, S_ref3_leaves_r2, S_ref3_leaves_r3, S_ref3_leaves_r4, S_ref3_leaves_r5, S_ref3_leaves_b0, S_ref3_leaves_r6, S_ref3_leaves_b1, S_ref3_leaves_r7, S_ref3_leaves_r8, S_ref3_leaves_r9, S_ref3_leaves_r10, S_ref3_leaves_b2, S_ref3_leaves_r11, S_ref3_leaves_b3, S_ref3_leaves_r12, S_ref3_leaves, hE, hil]
      exact LessQ.mk (Less.keep 1 (by simp) (by simp) rfl rfl) hQ
    · simp [S_ref3_leaves_l1, S_ref3_leaves_r0, S_ref3_leaves_r1, S_ref3_leaves_r2, S_ref3_leaves_r3, S_ref3_leaves_r4, S_ref3_leaves_r5, S_ref3_leaves_b0, S_ref3_leaves_r6, S_ref3_leaves_b1, S_ref3_leaves_r7, S_ref3_leaves_r8, S_ref3_leaves_r9, S_ref3_leaves_r10, S_ref3_leaves_b2, S_ref3_leaves_r11, S_ref3_leaves_b3, S_ref3_leaves_r12, S_ref3_leaves, hE, hil]
      rcases hk with rfl | ⟨rfl, _⟩ <;> exact LessQ.mk (Less.keep 1 (by simp) (by simp) rfl rfl) hQ
  | succ n ih =>
    intro i L hi hL
    have hil : i < t.args.length := by omega
    have hil' : (i : Int) < t.args.length := by omega
    have hw : IntKind.i64.wrap ((i : Int) + 1) = ((i + 1 : Nat) : Int) := wrap_succ (by have := Ty.ok_len ht; omega)
    have hm := List.getElem_mem hil
    have hs1 := Ty.size_arg hm
    have hok := Ty.ok_arg ht hm
    have hLok : Ty.oks L = true := by rw [hL]; exact leavesL_ok (oks_take (Ty.oks_iff.2 (Ty.ok_iff.1 ht).2) i) _ h0
    have hlen := leavesL_len kind (t.args.take i) L0
    rw [← hL] at hlen
    have hsz : Ty.sizes (t.args.take i) + t.args[i].size ≤ Ty.sizes t.args := by
      have := sizes_take_le t.args (i + 1)
      rw [List.take_add_one, List.getElem?_eq_getElem hil, sizes_app] at this
      simpa [Ty.sizes] using this
    have hts := Ty.size_eq t
    have hb : L.length + t.args[i].size ≤ 10000 := by omega
    have hnew : leavesM kind t.args[i] L = leavesL kind (t.args.take (i + 1)) L0 := by
      rw [List.take_add_one, List.getElem?_eq_getElem hil, Option.toList_some, leavesL_snoc, hL]
    have hF : leavesF d L t.args[i] kind = some (leavesM kind t.args[i] L) := by
      unfold leavesF; rw [if_pos ⟨by omega, hok, hLok, hb⟩]
    have hml := leavesM_len kind t.args[i] L
    refine lp hρ hE hcon fun K hK => ?_
    generalize hR : leavesM kind t.args[i] L = R at hF hnew hml
    rcases L with _ | ⟨x, L⟩
    · have hk0 : k = 0 := by
        rcases hk with h | ⟨_, h⟩
        · exact h
        · cases L0 with
          | nil => exact absurd rfl h
          | cons a l => simp at hlen
      subst hk0
      rcases R with _ | ⟨y, R⟩ <;> simp [S_ref3_leaves_l1, S_ref3_leaves_r0, S_ref3_leaves_r1, S_ref3_leaves_r2, S_ref3_leaves_r3, S_ref3_leaves_r4, S_ref3_leaves_r5, S_ref3_leaves_b0, S_ref3_leaves_r6, S_ref3_leaves_b1, S_ref3_leaves_r7, S_ref3_leaves_r8, S_ref3_leaves_r9, S_ref3_leaves_r10, S_ref3_leaves_b2, S_ref3_leaves_r11, S_ref3_leaves_b3, S_ref3_leaves_r12, S_ref3_leaves, hE, hil, hil', hc, hw, hF, kOne, -Int.natCast_add]
      · exact hK _ _ (LsN_less (Less.keep 2 (by simp [-Int.natCast_add]) (by simp) rfl rfl) (ih (i + 1) _ (by omega) hnew))
      · exact hK _ _ (LsN_less (Less.lit (fun k => if k = 0 then 16 else k) 2 (by simp [-Int.natCast_add]) (by simp) rfl rfl) (ih (i + 1) _ (by omega) hnew))
    · rcases R with _ | ⟨y, R⟩
      · simp at hml
      · have hml0 : L.length ≤ R.length := by simp at hml; omega
        simp [S_ref3_leaves_l1, S_ref3_leaves_r0, S_ref3_leaves_r1, S_ref3_leaves_r2, S_ref3_leaves_r3, S_ref3_leaves_r4, S_ref3_leaves_r5, S_ref3_leaves_b0, S_ref3_leaves_r6, S_ref3_leaves_b1, S_ref3_leaves_r7, S_ref3_leaves_r8, S_ref3_leaves_r9, S_ref3_leaves_r10, S_ref3_leaves_b2, S_ref3_leaves_r11, S_ref3_leaves_b3, S_ref3_leaves_r12, S_ref3_leaves, hE, hil, hil', hc, hw, hF, kOne, hml0, -Int.natCast_add]
        rcases hk with rfl | ⟨rfl, _⟩ <;> exact hK _ _ (LsN_less (Less.keep 2 (by simp [-Int.natCast_add]) (by simp) rfl rfl) (ih (i + 1) _ (by omega) hnew))
theorem ref3_leaves_loop0 (hc : E.con 19 = fnS (spec2 fun a b : Ty => if a.ok = true then some (decide (a = b)) else none)) {k : Nat} {t : Ty} {L : List Ty} (hk : k = 0 ∨ k = 1 ∧ L ≠ []) (h0 : Ty.oks L = true) (hl0 : L.length ≤ 10000) {Q : Ex → PT V → HS → Prop}
    (hf : t ∈ L → Q .ret (mkP [(6, oV 0 (L.map encTy))]) { H := mkP (oH 0 5 (L.map encTy)), n := 1, log := [] })
    (hn : t ∉ L → Q (.exit 0) (mkP [(0, oV 0 (L.map encTy)), (4, .ptr 1 0 0)]) { H := mkP ((1, box (encTy t)) :: oH 0 5 (L.map encTy)), n := 2, log := [] }) :
    ∀ (n i : Nat), i + n = L.length → t ∉ L.take i → LsN ρ E k 52 S_ref3_leaves_l0 (LessQ k Q) (n + 1) (mkP [(0, oV 0 (L.map encTy)), (4, .ptr 1 0 0), (7, .int .i64 (i : Int))])
      { H := mkP ((1, box (encTy t)) :: oH 0 5 (L.map encTy)), n := 2, log := [] } := by
  intro n
  induction n with
  | zero =>
    intro i hi hL
    have hil : ¬ (i : Int) < L.length := by omega
    have e : t ∉ L := by rw [List.take_of_length_le (by omega)] at hL; exact hL
    have hn := hn e
    refine lp hρ hE hcon fun K hK => ?_
    rcases L with _ | ⟨x, L⟩
    · have hk0 : k = 0 := by
        rcases hk with h | ⟨_, h⟩
        · exact h
        · exact absurd rfl h
      subst hk0
      obtain rfl : i = 0 := by simpa using hi
      simp [S_ref3_leaves_l0, S_ref3_leaves_r0, S_ref3_leaves_r1, S_ref3_leaves_r2, S_ref3_leaves_r3, S_ref3_leaves_r4, S_ref3_leaves_r5, S_ref3_leaves_b0, S_ref3_leaves_r6, S_ref3_leaves_b1, S_ref3_leaves_r7, S_ref3_leaves_r8, S_ref3_leaves_r9, S_ref3_leaves_r10, S_ref3_leaves_b2, S_ref3_leaves_r11, S_ref3_leaves_b3, S_ref3_leaves_r12, S_ref3_leaves, hE]
      exact LessQ.mk (Less.keep 2 (by simp) (by simp) rfl rfl) hn
    · have hil2 : ¬ (i : Int) < (L.length : Int) + 1 := by simp at hil; omega
      simp [S_ref3_leaves_l0, S_ref3_leaves_r0, S_ref3_leaves_r1, S_ref3_leaves_r2, S_ref3_leaves_r3, S_ref3_leaves_r4, S_ref3_leaves_r5, S_ref3_leaves_b0, S_ref3_leaves_r6, S_ref3_leaves_b1, S_ref3_leaves_r7, S_ref3_leaves_r8, S_ref3_leaves_r9, S_ref3_leaves_r10, S_ref3_leaves_b2, S_ref3_leaves_r11, S_ref3_leaves_b3, S_ref3_leaves_r12, S_ref3_leaves, hE, hil2]
      rcases hk with rfl | ⟨rfl, _⟩ <;> exact LessQ.mk (Less.keep 2 (by simp) (by simp) rfl rfl) hn
  | succ n ih =>
    intro i hi hL
    have hil : i < L.length := by omega
    have hw : IntKind.i64.wrap ((i : Int) + 1) = ((i + 1 : Nat) : Int) := wrap_succ (by omega)
    have hok := Ty.oks_iff.1 h0 _ (List.getElem_mem hil)
    have hnext : L[i] ≠ t → t ∉ L.take (i + 1) := by
      intro h hm
      rw [List.take_add_one, List.getElem?_eq_getElem hil] at hm
      rcases List.mem_append.1 hm with hm | hm
      · exact hL hm
      · exact h (List.mem_singleton.1 hm).symm
    have hmem : L[i] = t → t ∈ L := fun h => h ▸ List.getElem_mem hil
    have hgi : (L.map encTy)[i]? = some (encTy L[i]) := by rw [List.getElem?_map, List.getElem?_eq_getElem hil]; rfl
    refine lp hρ hE hcon fun K hK => ?_
    generalize L[i] = y at hok hnext hmem hgi
    rcases L with _ | ⟨x, L⟩
    · simp at hil
    · have hil2 : (i : Int) < (L.length : Int) + 1 := by simp at hil; omega
      have hil3 : i < L.length + 1 := by simpa using hil
      simp only [List.map_cons, encTy_n] at hgi
      have hgi3 : ∀ h, (encTy x :: L.map encTy)[i]'h = encTy y := fun h => by simp only [encTy_n]; exact (List.getElem?_eq_some_iff.1 hgi).2
      simp only [encTy_n] at hgi3
      have hd1 : i * 5 / 5 = i := by omega
      have hd2 : i * 5 % 5 = 0 := by omega
      simp [S_ref3_leaves_l0, S_ref3_leaves_r0, S_ref3_leaves_r1, S_ref3_leaves_r2, S_ref3_leaves_r3, S_ref3_leaves_r4, S_ref3_leaves_r5, S_ref3_leaves_b0, S_ref3_leaves_r6, S_ref3_leaves_b1, S_ref3_leaves_r7, S_ref3_leaves_r8, S_ref3_leaves_r9, S_ref3_leaves_r10, S_ref3_leaves_b2, S_ref3_leaves_r11, S_ref3_leaves_b3, S_ref3_leaves_r12, S_ref3_leaves, hE, hil2, hil3, hc, hok, hd1, hd2, hgi3]
      refine brT_mk (fun h => ?_) (fun h => ?_) <;> simp [S_ref3_leaves_r0, S_ref3_leaves_r1, S_ref3_leaves_r2, S_ref3_leaves_r3, S_ref3_leaves_r4, S_ref3_leaves_r5, S_ref3_leaves_b0, S_ref3_leaves_r6, S_ref3_leaves_b1, S_ref3_leaves_r7, S_ref3_leaves_r8, S_ref3_leaves_r9, S_ref3_leaves_r10, S_ref3_leaves_b2, S_ref3_leaves_r11, S_ref3_leaves_b3, S_ref3_leaves_r12, S_ref3_leaves, hE, hw, -Int.natCast_add]
      · rcases hk with rfl | ⟨rfl, _⟩ <;> exact LessQ.mk (Less.keep 1 (by simp) (by simp) rfl rfl) (hf (hmem h))
      · rcases hk with rfl | ⟨rfl, _⟩ <;> exact hK _ _ (LsN_less (Less.keep 2 (by simp [-Int.natCast_add]) (by simp) rfl rfl) (ih (i + 1) (by omega) (hnext h)))
theorem ref3_leaves_run {d : Nat} (hcE : E.con 19 = fnS (spec2 fun a b : Ty => if a.ok = true then some (decide (a = b)) else none)) (hc : E.con 85 = ioS 5 (ioF2 (leavesF d)) kOne) {L : List Ty} {t : Ty} {kind : Int} (ht : t.ok = true) (hd : t.size ≤ d + 1) (h0 : Ty.oks L = true) (hl0 : L.length + t.size ≤ 10000)
    {hs : HS} {v : V} (hv : rowOf 5 hs v = some (L.map encTy)) (hvac : hs.H.get hs.n = none) : CallOk ρ Try.prog 85 [v, enc t, enc kind] hs (rowTo 5 v (L.map encTy) ((leavesM kind t L).map encTy) hs).1 (rowTo 5 v (L.map encTy) ((leavesM kind t L).map encTy) hs).2 := by
  have hlen := leavesM_len kind t L
  refine io hρ hE hcon (K := kOne) (rs := []) (.inl rfl) Try.func85 BS_ref3_leaves rfl (by simp) (by simp) (by simp) rfl (by simpa using hlen.1) ?_ hv hvac
  clear hv hvac
  rw [leavesM_eq]
  have hk : (if L.map encTy = [] then 0 else 1) = 0 ∨ (if L.map encTy = [] then 0 else 1) = 1 ∧ L ≠ [] := by
    cases L with
    | nil => exact .inl rfl
    | cons a l => exact .inr ⟨rfl, by simp⟩
  by_cases hleaf : t.kind = kind ∧ t.args = []
  · rw [if_pos hleaf]
    obtain ⟨hkd, har⟩ := hleaf
    rcases L with _ | ⟨x, L⟩
    · simp [S_ref3_leaves_r0, S_ref3_leaves_r1, S_ref3_leaves_r2, S_ref3_leaves_r3, S_ref3_leaves_r4, S_ref3_leaves_r5, S_ref3_leaves_b0, S_ref3_leaves_r6, S_ref3_leaves_b1, S_ref3_leaves_r7, S_ref3_leaves_r8, S_ref3_leaves_r9, S_ref3_leaves_r10, S_ref3_leaves_b2, S_ref3_leaves_r11, S_ref3_leaves_b3, S_ref3_leaves_r12, S_ref3_leaves, hE, hkd, har]
      refine Ls_lessQ (Ls_loop (LsN_less (Less.lit (TL := [(0, oV 0 (([] : List Ty).map encTy)), (4, .ptr 1 0 0), (7, .int .i64 ((0 : Nat) : Int))]) (HL := (1, box (encTy t)) :: oH 0 5 (([] : List Ty).map encTy)) (fun k => if k = 1 then 0 else k) 2 ?_ ?_ rfl rfl) (ref3_leaves_loop0 hρ hE hcon hcE (.inl rfl) h0 (by simp) ?_ ?_ 0 0 rfl (by simp))))
      · simp
      · simp [har, hkd]
      · intro h; cases h
      · intro _
        simp [S_ref3_leaves_r0, S_ref3_leaves_r1, S_ref3_leaves_r2, S_ref3_leaves_r3, S_ref3_leaves_r4, S_ref3_leaves_r5, S_ref3_leaves_b0, S_ref3_leaves_r6, S_ref3_leaves_b1, S_ref3_leaves_r7, S_ref3_leaves_r8, S_ref3_leaves_r9, S_ref3_leaves_r10, S_ref3_leaves_b2, S_ref3_leaves_r11, S_ref3_leaves_b3, S_ref3_leaves_r12, S_ref3_leaves, hE, hkd, har]
        exact GivesL.litX (fun k => if k = 0 then 5 else k) rfl rfl ⟨rfl, rfl⟩ (by simp)
    · simp [S_ref3_leaves_r0, S_ref3_leaves_r1, S_ref3_leaves_r2, S_ref3_leaves_r3, S_ref3_leaves_r4, S_ref3_leaves_r5, S_ref3_leaves_b0, S_ref3_leaves_r6, S_ref3_leaves_b1, S_ref3_leaves_r7, S_ref3_leaves_r8, S_ref3_leaves_r9, S_ref3_leaves_r10, S_ref3_leaves_b2, S_ref3_leaves_r11, S_ref3_leaves_b3, S_ref3_leaves_r12, S_ref3_leaves, hE, hkd, har]
      refine Ls_lessQ (Ls_loop (LsN_less (Less.keep (TL := [(0, oV 0 ((x :: L).map encTy)), (4, .ptr 1 0 0), (7, .int .i64 ((0 : Nat) : Int))]) (HL := (1, box (encTy t)) :: oH 0 5 ((x :: L).map encTy)) 2 ?_ ?_ rfl rfl) (ref3_leaves_loop0 hρ hE hcon hcE (.inr ⟨rfl, by simp⟩) h0 (by omega) ?_ ?_ (x :: L).length 0 (by omega) (by simp))))
      · simp
      · simp [har, hkd]
      · intro h
        simp [S_ref3_leaves_r0, S_ref3_leaves_r1, S_ref3_leaves_r2, S_ref3_leaves_r3, S_ref3_leaves_r4, S_ref3_leaves_r5, S_ref3_leaves_b0, S_ref3_leaves_r6, S_ref3_leaves_b1, S_ref3_leaves_r7, S_ref3_leaves_r8, S_ref3_leaves_r9, S_ref3_leaves_r10, S_ref3_leaves_b2, S_ref3_leaves_r11, S_ref3_leaves_b3, S_ref3_leaves_r12, S_ref3_leaves, hE, hkd, har, h]
        exact GivesL.keepX rfl rfl rfl (by simp)
      · intro hn
        have h64 : (L.length + 1 + 1) * 64 ≤ 1048576 := by simp at hl0; omega
        simp [S_ref3_leaves_r0, S_ref3_leaves_r1, S_ref3_leaves_r2, S_ref3_leaves_r3, S_ref3_leaves_r4, S_ref3_leaves_r5, S_ref3_leaves_b0, S_ref3_leaves_r6, S_ref3_leaves_b1, S_ref3_leaves_r7, S_ref3_leaves_r8, S_ref3_leaves_r9, S_ref3_leaves_r10, S_ref3_leaves_b2, S_ref3_leaves_r11, S_ref3_leaves_b3, S_ref3_leaves_r12, S_ref3_leaves, hE, hkd, har, hn, h64, Nat.not_succ_le_self]
        exact GivesL.keepX rfl rfl rfl (by simp)
  · rw [if_neg hleaf]
    have hneq : t.kind = kind → ¬ t.args = [] := fun h1 h2 => hleaf ⟨h1, h2⟩
    rcases L with _ | ⟨x, L⟩
    · have go : ∀ T hs', Less 0 T hs' (mkP [(0, oV 0 (([] : List Ty).map encTy)), (2, .int .i64 kind), (4, .ptr 1 0 0), (8, .int .i64 ((0 : Nat) : Int))]) { H := mkP ((1, box (encTy t)) :: oH 0 5 (([] : List Ty).map encTy)), n := 2, log := [] } →
          ∀ Q, Q (.exit 2) (mkP [(0, oV 0 ((leavesL kind t.args []).map encTy))]) { H := mkP (oH 0 5 ((leavesL kind t.args []).map encTy)), n := 1, log := [] } → Ls ρ E 0 52 (.loop S_ref3_leaves_l1) T hs' Q := fun T hs' hl Q hQ =>
        Ls_lessQ (Ls_loop (LsN_less hl (ref3_leaves_loop1 hρ hE hcon hc (.inl rfl) ht hd h0 hl0 hQ t.args.length 0 [] (by omega) rfl)))
      by_cases h1 : t.kind = kind
      · have h2 := hneq h1
        simp [S_ref3_leaves_r0, S_ref3_leaves_r1, S_ref3_leaves_r2, S_ref3_leaves_r3, S_ref3_leaves_r4, S_ref3_leaves_r5, S_ref3_leaves_b0, S_ref3_leaves_r6, S_ref3_leaves_b1, S_ref3_leaves_r7, S_ref3_leaves_r8, S_ref3_leaves_r9, S_ref3_leaves_r10, S_ref3_leaves_b2, S_ref3_leaves_r11, S_ref3_leaves_b3, S_ref3_leaves_r12, S_ref3_leaves, hE, h1, h2]
        refine go _ _ (Less.lit (fun k => if k = 1 then 0 else k) 2 (by simp) (by simp [h1]) rfl rfl) _ ?_
        generalize leavesL kind t.args [] = R
        rcases R with _ | ⟨y, R⟩ <;> simp [S_ref3_leaves_r0, S_ref3_leaves_r1, S_ref3_leaves_r2, S_ref3_leaves_r3, S_ref3_leaves_r4, S_ref3_leaves_r5, S_ref3_leaves_b0, S_ref3_leaves_r6, S_ref3_leaves_b1, S_ref3_leaves_r7, S_ref3_leaves_r8, S_ref3_leaves_r9, S_ref3_leaves_r10, S_ref3_leaves_b2, S_ref3_leaves_r11, S_ref3_leaves_b3, S_ref3_leaves_r12, S_ref3_leaves, hE] <;> exact GivesL.keepX rfl rfl rfl (by simp)
      · simp [S_ref3_leaves_r0, S_ref3_leaves_r1, S_ref3_leaves_r2, S_ref3_leaves_r3, S_ref3_leaves_r4, S_ref3_leaves_r5, S_ref3_leaves_b0, S_ref3_leaves_r6, S_ref3_leaves_b1, S_ref3_leaves_r7, S_ref3_leaves_r8, S_ref3_leaves_r9, S_ref3_leaves_r10, S_ref3_leaves_b2, S_ref3_leaves_r11, S_ref3_leaves_b3, S_ref3_leaves_r12, S_ref3_leaves, hE, h1]
        refine go _ _ (Less.lit (fun k => if k = 1 then 0 else k) 2 (by simp) (by simp) rfl rfl) _ ?_
        generalize leavesL kind t.args [] = R
        rcases R with _ | ⟨y, R⟩ <;> simp [S_ref3_leaves_r0, S_ref3_leaves_r1, S_ref3_leaves_r2, S_ref3_leaves_r3, S_ref3_leaves_r4, S_ref3_leaves_r5, S_ref3_leaves_b0, S_ref3_leaves_r6, S_ref3_leaves_b1, S_ref3_leaves_r7, S_ref3_leaves_r8, S_ref3_leaves_r9, S_ref3_leaves_r10, S_ref3_leaves_b2, S_ref3_leaves_r11, S_ref3_leaves_b3, S_ref3_leaves_r12, S_ref3_leaves, hE] <;> exact GivesL.keepX rfl rfl rfl (by simp)
    · have hRl := (leavesL_len kind t.args (x :: L)).1
      have go : ∀ T hs', Less 1 T hs' (mkP [(0, oV 0 ((x :: L).map encTy)), (2, .int .i64 kind), (4, .ptr 1 0 0), (8, .int .i64 ((0 : Nat) : Int))]) { H := mkP ((1, box (encTy t)) :: oH 0 5 ((x :: L).map encTy)), n := 2, log := [] } →
          ∀ Q, Q (.exit 2) (mkP [(0, oV 0 ((leavesL kind t.args (x :: L)).map encTy))]) { H := mkP (oH 0 5 ((leavesL kind t.args (x :: L)).map encTy)), n := 1, log := [] } → Ls ρ E 1 52 (.loop S_ref3_leaves_l1) T hs' Q := fun T hs' hl Q hQ =>
        Ls_lessQ (Ls_loop (LsN_less hl (ref3_leaves_loop1 hρ hE hcon hc (.inr ⟨rfl, by simp⟩) ht hd h0 hl0 hQ t.args.length 0 (x :: L) (by omega) rfl)))
      by_cases h1 : t.kind = kind
      · have h2 := hneq h1
        simp [S_ref3_leaves_r0, S_ref3_leaves_r1, S_ref3_leaves_r2, S_ref3_leaves_r3, S_ref3_leaves_r4, S_ref3_leaves_r5, S_ref3_leaves_b0, S_ref3_leaves_r6, S_ref3_leaves_b1, S_ref3_leaves_r7, S_ref3_leaves_r8, S_ref3_leaves_r9, S_ref3_leaves_r10, S_ref3_leaves_b2, S_ref3_leaves_r11, S_ref3_leaves_b3, S_ref3_leaves_r12, S_ref3_leaves, hE, h1, h2]
        refine go _ _ (Less.keep 2 (by simp) (by simp [h1]) rfl rfl) _ ?_
        generalize leavesL kind t.args (x :: L) = R at hRl
        rcases R with _ | ⟨y, R⟩
        · simp at hRl
        · simp [S_ref3_leaves_r0, S_ref3_leaves_r1, S_ref3_leaves_r2, S_ref3_leaves_r3, S_ref3_leaves_r4, S_ref3_leaves_r5, S_ref3_leaves_b0, S_ref3_leaves_r6, S_ref3_leaves_b1, S_ref3_leaves_r7, S_ref3_leaves_r8, S_ref3_leaves_r9, S_ref3_leaves_r10, S_ref3_leaves_b2, S_ref3_leaves_r11, S_ref3_leaves_b3, S_ref3_leaves_r12, S_ref3_leaves, hE]
          exact GivesL.keepX rfl rfl rfl (by simp)
      · simp [S_ref3_leaves_r0, S_ref3_leaves_r1, S_ref3_leaves_r2, S_ref3_leaves_r3, S_ref3_leaves_r4, S_ref3_leaves_r5, S_ref3_leaves_b0, S_ref3_leaves_r6, S_ref3_leaves_b1, S_ref3_leaves_r7, S_ref3_leaves_r8, S_ref3_leaves_r9, S_ref3_leaves_r10, S_ref3_leaves_b2, S_ref3_leaves_r11, S_ref3_leaves_b3, S_ref3_leaves_r12, S_ref3_leaves, hE, h1]
        refine go _ _ (Less.keep 2 (by simp) (by simp) rfl rfl) _ ?_
        generalize leavesL kind t.args (x :: L) = R at hRl
        rcases R with _ | ⟨y, R⟩
        · simp at hRl
        · simp [S_ref3_leaves_r0, S_ref3_leaves_r1, S_ref3_leaves_r2, S_ref3_leaves_r3, S_ref3_leaves_r4, S_ref3_leaves_r5, S_ref3_leaves_b0, S_ref3_leaves_r6, S_ref3_leaves_b1, S_ref3_leaves_r7, S_ref3_leaves_r8, S_ref3_leaves_r9, S_ref3_leaves_r10, S_ref3_leaves_b2, S_ref3_leaves_r11, S_ref3_leaves_b3, S_ref3_leaves_r12, S_ref3_leaves, hE]
          exact GivesL.keepX rfl rfl rfl (by simp)
end
end Go.Proofs.Ythfcfmkdeheicaa
