import Derived.Test.YthfcfmkdeheicaaPB11
import Derived.Test.YthfcfmkdeheicaaJK
import Derived.Test.YthfcfmkdeheicaaJL
set_option linter.all false
set_option linter.all false
namespace Go.Proofs.Ythfcfmkdeheicaa
open Go.J
open Go.J.Enc (enc)
set_option maxRecDepth 100000
set_option maxHeartbeats 4000000
section
variable {ρ : Nat → Value} (hρ : J.Good ρ) {E : Env} (hE : E.P = Try.prog) (hcon : ConsOk ρ E)
include hρ hE hcon
theorem ref16_cyclic_loop {d : Nat} (hc : E.con 71 = mtS 2 1 (mtF3 (cycF d))) {s : Store} (hs : s.closed) {fr : Int} {L : List Int} (hL : ∀ v ∈ L, 0 ≤ v ∧ v < s.slots.length) (hll : L.length ≤ 10000) {R : List Int × Bool} {Q : Ex → PT V → HS → Prop}
    (hf : R.2 = true → Q .ret (mkP [(8, .bool true)]) { H := mkP [(0, mkO 1 (R.1.map encI))], n := 1, log := [] })
    (ht : R.2 = false → Q (.exit 0) (mkP []) { H := mkP [(0, mkO 1 (R.1.map encI))], n := 1, log := [] }) :
    ∀ (n i : Nat) (S : List Int), i + n = L.length → S.length = s.slots.length → S.count 0 ≤ d → cycL (cycM s fr d) fr (L.drop i) S = R →
      LsN ρ E 1 60 S_ref16_cyclic_l0 (LessQ 1 Q) (n + 1) (mkP [(10, .int .i64 (i : Int)), (9, .sl (L.map encI) false), (3, .int .i64 fr), (2, mkV 0 (S.map encI)), (4, .ptr 1 0 0)])
        { H := mkP [(0, mkO 1 (S.map encI)), (1, box (encStore s))], n := 2, log := [] } := by
  intro n
  induction n with
  | zero =>
    intro i S hi hSl hS0 hR
    have hil : ¬ (i : Int) < L.length := by omega
    rw [List.drop_of_length_le (by omega)] at hR
    subst hR
    refine lp hρ hE hcon fun K hK => ?_
    simp [S_ref16_cyclic_l0, S_ref16_cyclic_r0, S_ref16_cyclic_r1, S_ref16_cyclic_r2, S_ref16_cyclic_r3, S_ref16_cyclic_r4, S_ref16_cyclic_r5, S_ref16_cyclic_r6, S_ref16_cyclic_r7, S_ref16_cyclic_r8, S_ref16_cyclic_r9, S_ref16_cyclic_r10, S_ref16_cyclic_r11, S_ref16_cyclic_b0, S_ref16_cyclic_r12, S_ref16_cyclic_b1, S_ref16_cyclic_r13, S_ref16_cyclic, hE, hil]
    exact LessQ.mk (Less.keep 1 (by simp) (by simp [mkO, cycL]) rfl rfl) (ht rfl)
  | succ n ih =>
    intro i S hi hSl hS0 hR
    have hil : i < L.length := by omega
    have hil' : (i : Int) < L.length := by omega
    have hw : IntKind.i64.wrap ((i : Int) + 1) = ((i + 1 : Nat) : Int) := wrap_succ (by omega)
    have hv := hL _ (List.getElem_mem hil)
    rw [List.drop_eq_getElem_cons hil] at hR
    refine lp hρ hE hcon fun K hK => ?_
    obtain ⟨k, hk⟩ := Int.eq_ofNat_of_zero_le hv.1
    have hkl : k < S.length := by omega
    have hkl2 : (k : Int) < s.slots.length := by omega
    generalize hx : S[k] = x
    have hSk : S[k]? = some x := by rw [List.getElem?_eq_getElem hkl, hx]
    rw [hk] at hR
    unfold cycL at hR
    rw [Int.toNat_natCast] at hR
    by_cases hfr : (k : Int) = fr
    · rw [if_pos hfr] at hR
      subst hR
      simp [S_ref16_cyclic_l0, S_ref16_cyclic_r0, S_ref16_cyclic_r1, S_ref16_cyclic_r2, S_ref16_cyclic_r3, S_ref16_cyclic_r4, S_ref16_cyclic_r5, S_ref16_cyclic_r6, S_ref16_cyclic_r7, S_ref16_cyclic_r8, S_ref16_cyclic_r9, S_ref16_cyclic_r10, S_ref16_cyclic_r11, S_ref16_cyclic_b0, S_ref16_cyclic_r12, S_ref16_cyclic_b1, S_ref16_cyclic_r13, S_ref16_cyclic, hE, hil, hil', hk, hfr]
      exact LessQ.mk (Less.keep 1 (by simp) (by simp [mkO]) rfl rfl) (hf rfl)
    rw [if_neg hfr] at hR
    by_cases h0 : x = 0
    · subst h0
      rw [if_pos hSk] at hR
      have hc1 := count_set1 hSk
      have hcF : cycF d (S.set k 1) s (k : Int) fr = some (cycM s fr d k (S.set k 1)) := by
        unfold cycF
        rw [if_pos ⟨hs, by rw [List.length_set]; exact hSl, by omega, hkl2, by omega⟩]
      have hlen := cycM_len s fr d k (S.set k 1)
      rw [List.length_set] at hlen
      generalize hr : cycM s fr d k (S.set k 1) = r at hR hcF hlen
      obtain ⟨S', b⟩ := r
      simp only at hlen
      have e1 : (S.map encI).set k [.int .i64 1] = (S.set k 1).map encI := by rw [List.map_set]
      cases b with
      | true =>
        simp at hR
        subst hR
        simp [S_ref16_cyclic_l0, S_ref16_cyclic_r0, S_ref16_cyclic_r1, S_ref16_cyclic_r2, S_ref16_cyclic_r3, S_ref16_cyclic_r4, S_ref16_cyclic_r5, S_ref16_cyclic_r6, S_ref16_cyclic_r7, S_ref16_cyclic_r8, S_ref16_cyclic_r9, S_ref16_cyclic_r10, S_ref16_cyclic_r11, S_ref16_cyclic_b0, S_ref16_cyclic_r12, S_ref16_cyclic_b1, S_ref16_cyclic_r13, S_ref16_cyclic, hE, hil, hil', hk, hfr, hSk, hkl, hx, mkV, mkO, Nat.mod_one, e1, hc, hcF, -List.map_set]
        exact ⟨hlen.1, LessQ.mk (Less.keep 1 (by simp) (by simp [mkO]) rfl rfl) (hf rfl)⟩
      | false =>
        simp at hR
        simp [S_ref16_cyclic_l0, S_ref16_cyclic_r0, S_ref16_cyclic_r1, S_ref16_cyclic_r2, S_ref16_cyclic_r3, S_ref16_cyclic_r4, S_ref16_cyclic_r5, S_ref16_cyclic_r6, S_ref16_cyclic_r7, S_ref16_cyclic_r8, S_ref16_cyclic_r9, S_ref16_cyclic_r10, S_ref16_cyclic_r11, S_ref16_cyclic_b0, S_ref16_cyclic_r12, S_ref16_cyclic_b1, S_ref16_cyclic_r13, S_ref16_cyclic, hE, hil, hil', hk, hfr, hSk, hkl, hx, mkV, mkO, Nat.mod_one, e1, hc, hcF, hw, -List.map_set, -Int.natCast_add]
        refine ⟨hlen.1, ?_⟩
        exact hK _ _ (LsN_less (Less.keep 2 (by simp [mkV, hlen.1, -Int.natCast_add]) (by simp [mkO]) rfl rfl) (ih (i + 1) S' (by omega) (by omega) (by omega) hR))
    · rw [if_neg (by rw [hSk]; simp [h0])] at hR
      simp [S_ref16_cyclic_l0, S_ref16_cyclic_r0, S_ref16_cyclic_r1, S_ref16_cyclic_r2, S_ref16_cyclic_r3, S_ref16_cyclic_r4, S_ref16_cyclic_r5, S_ref16_cyclic_r6, S_ref16_cyclic_r7, S_ref16_cyclic_r8, S_ref16_cyclic_r9, S_ref16_cyclic_r10, S_ref16_cyclic_r11, S_ref16_cyclic_b0, S_ref16_cyclic_r12, S_ref16_cyclic_b1, S_ref16_cyclic_r13, S_ref16_cyclic, hE, hil, hil', hk, hfr, hSk, hkl, hx, mkV, mkO, h0, hw, Nat.mod_one, -Int.natCast_add]
      exact hK _ _ (LsN_less (Less.keep 2 (by simp [mkV, -Int.natCast_add]) (by simp [mkO]) rfl rfl) (ih (i + 1) S (by omega) hSl hS0 hR))
theorem ref16_cyclic_run {d : Nat} (hc : E.con 71 = mtS 2 1 (mtF3 (cycF d))) (hV : E.con 46 = fnS (spec1 fun l : List Ty => if Ty.oks l = true ∧ l.length ≤ 10000 ∧ Ty.sizes l ≤ 10000 then some (varsM l) else none))
    {s : Store} {i fr : Int} {S : List Int} {R : List Int × Bool} (hR : cycF (d + 1) S s i fr = some R) {hs : HS} {id : Nat} (hid : id < hs.n) (hg : hs.H.get id = some (mkO 1 (S.map encI))) :
    CallOk ρ Try.prog 71 [enc s, enc i, mkV id (S.map encI), enc fr] hs (enc R.2) (hs.wr id (mkO 1 (R.1.map encI))) := by
  have hRl : R.1.length = S.length := by
    unfold cycF at hR
    split at hR
    · cases hR; exact (cycM_len s fr (d + 1) i S).1
    · cases hR
  refine mt hρ hE hcon (pre := [enc s, enc i]) (post := [enc fr]) Try.func71 BS_ref16_cyclic rfl (by simp) (by simp) (by simp) (by simpa using hRl) rfl ?_ hid hg
  unfold cycF at hR
  split at hR
  case isFalse => cases hR
  rename_i hp
  obtain ⟨hcl, hSl, hi0, hil, h0⟩ := hp
  cases hR
  obtain ⟨k, rfl⟩ := Int.eq_ofNat_of_zero_le hi0
  have hk : k < s.slots.length := by omega
  have hk0 : s.slots[k]? = some s.slots[k] := List.getElem?_eq_getElem hk
  have hm := hcl.2 _ (List.getElem_mem hk)
  generalize hx : s.slots[k] = x at hk0 hm
  have hM : cycM s fr (d + 1) k S = if x.bound = true then cycL (cycM s fr d) fr (varsM [x.type]) S else (S, false) := by
    rw [cycM, Int.toNat_natCast, hk0]
  have hd1 : k * 8 / 8 = k := by omega
  have hd2 : k * 8 % 8 = 0 := by omega
  cases hb : x.bound with
  | false =>
    rw [hb] at hM
    simp at hM
    rw [hM]
    simp [S_ref16_cyclic_r0, S_ref16_cyclic_r1, S_ref16_cyclic_r2, S_ref16_cyclic_r3, S_ref16_cyclic_r4, S_ref16_cyclic_r5, S_ref16_cyclic_r6, S_ref16_cyclic_r7, S_ref16_cyclic_r8, S_ref16_cyclic_r9, S_ref16_cyclic_r10, S_ref16_cyclic_r11, S_ref16_cyclic_b0, S_ref16_cyclic_r12, S_ref16_cyclic_b1, S_ref16_cyclic_r13, S_ref16_cyclic, hE, hk, hx, hb, mkV, mkO]
    exact GivesL.keep rfl rfl rfl rfl (by simp)
  | true =>
    rw [hb] at hM
    simp at hM
    rw [hM]
    obtain ⟨g1, g2, g3⟩ := hm hb
    have hoks : Ty.oks [x.type] = true := by simp [Ty.oks, g1]
    have hszs : Ty.sizes [x.type] ≤ 10000 := by simp [Ty.sizes]; exact g2
    have hlen : (varsM [x.type]).length ≤ 10000 := by
      have e1 := idsOf_len (leavesL 1 [x.type] [])
      have e2 := (leavesL_len 1 [x.type] []).2
      simp at e2
      unfold varsM; omega
    have hRl2 : (cycL (cycM s fr d) fr (varsM [x.type]) S).1.length = S.length := (cycL_len (cycM_len s fr d) _ _).1
    generalize hLL : varsM [x.type] = L at *
    simp [S_ref16_cyclic_r0, S_ref16_cyclic_r1, S_ref16_cyclic_r2, S_ref16_cyclic_r3, S_ref16_cyclic_r4, S_ref16_cyclic_r5, S_ref16_cyclic_r6, S_ref16_cyclic_r7, S_ref16_cyclic_r8, S_ref16_cyclic_r9, S_ref16_cyclic_r10, S_ref16_cyclic_r11, S_ref16_cyclic_b0, S_ref16_cyclic_r12, S_ref16_cyclic_b1, S_ref16_cyclic_r13, S_ref16_cyclic, hE, hk, hx, hb, mkV, mkO, hV, hoks, hszs, hLL]
    refine Ls_lessQ (Ls_loop (LsN_less (Less.keep (TL := [(10, .int .i64 ((0 : Nat) : Int)), (9, .sl (L.map encI) false), (3, .int .i64 fr), (2, mkV 0 (S.map encI)), (4, .ptr 1 0 0)]) (HL := [(0, mkO 1 (S.map encI)), (1, box (encStore s))]) 2 (by simp [mkV]) (by simp [mkO]) rfl rfl)
      (ref16_cyclic_loop hρ hE hcon hc hcl g3 hlen (R := cycL (cycM s fr d) fr L S) ?_ ?_ L.length 0 S (by omega) hSl (by omega) rfl)))
    · intro hb
      simp [S_ref16_cyclic_r0, S_ref16_cyclic_r1, S_ref16_cyclic_r2, S_ref16_cyclic_r3, S_ref16_cyclic_r4, S_ref16_cyclic_r5, S_ref16_cyclic_r6, S_ref16_cyclic_r7, S_ref16_cyclic_r8, S_ref16_cyclic_r9, S_ref16_cyclic_r10, S_ref16_cyclic_r11, S_ref16_cyclic_b0, S_ref16_cyclic_r12, S_ref16_cyclic_b1, S_ref16_cyclic_r13, S_ref16_cyclic, hE, hb]
      exact GivesL.keep rfl rfl rfl rfl (by simp [mkO])
    · intro hb
      simp [S_ref16_cyclic_r0, S_ref16_cyclic_r1, S_ref16_cyclic_r2, S_ref16_cyclic_r3, S_ref16_cyclic_r4, S_ref16_cyclic_r5, S_ref16_cyclic_r6, S_ref16_cyclic_r7, S_ref16_cyclic_r8, S_ref16_cyclic_r9, S_ref16_cyclic_r10, S_ref16_cyclic_r11, S_ref16_cyclic_b0, S_ref16_cyclic_r12, S_ref16_cyclic_b1, S_ref16_cyclic_r13, S_ref16_cyclic, hE, hb]
      exact GivesL.keep rfl rfl rfl rfl (by simp [mkO])
end
end Go.Proofs.Ythfcfmkdeheicaa
