import Derived.Test.YthfcfmkdeheicaaPW7
import Derived.Test.YthfcfmkdeheicaaJSv
set_option linter.all false
/- The search for type variables of the store's package. -/
set_option linter.all false
namespace Go.Proofs.Ythfcfmkdeheicaa
open Go.J
open Go.J.Enc (enc)
set_option maxRecDepth 100000
set_option maxHeartbeats 4000000
section
variable {ρ : Nat → Value} (hρ : J.Good ρ) {E : Env} (hE : E.P = Try.prog) (hcon : ConsOk ρ E)
include hρ hE hcon
theorem store_Vars_1_loop {k d : Nat} (hk : k = 5 ∨ k = 6) (hc : E.con 78 = embS (svM 78 (Store.svF d))) {s : Store} (hs0 : s.tysOk) {l : List Ty} (hlo : ∀ x ∈ l, x.ok = true) (hll : l.length ≤ 10000) {st0 R : Store.Sv} (hv : Store.svL (Store.svO s d) l st0 = some R) (hl : R.2.length ≤ 100000) (hk0 : k = 6 → st0.2 ≠ [])
    {T : PT V} {hs : HS} {Q : Ex → PT V → HS → Prop} (hT : Less k T hs (mkP [(1, .ptr 0 0 0), (2, .ptr 2 0 0), (3, .ptr 3 0 0), (4, .ptr 4 0 0), (41, .sl (l.map encTy) false), (42, .int .i64 (l.length : Int)), (43, .int .i64 ((0 : Nat) : Int))]) { H := mkP (svOL 78 s st0.1 st0.2), n := 6, log := [] })
    (hQ : Q (.exit 0) (mkP []) { H := mkP (svOL 78 s R.1 R.2), n := 6, log := [] }) : Ls ρ E k 51 (.loop S_store_Vars_1_l0) T hs Q := by
  refine lpi hρ hE hcon l.length (nn := 6) (fun i (_ : Store.Sv) => [(1, .ptr 0 0 0), (2, .ptr 2 0 0), (3, .ptr 3 0 0), (4, .ptr 4 0 0), (41, .sl (l.map encTy) false), (42, .int .i64 (l.length : Int)), (43, .int .i64 (i : Int))])
    (fun i st => svOL 78 s st.1 st.2) (fun i st => Store.svL (Store.svO s d) (l.drop i) st = some R ∧ (k = 6 → st.2 ≠ [])) st0 hT ⟨by simpa using hv, hk0⟩ ?_ ?_
  · rintro ⟨seen, out⟩ ⟨h1, h2⟩ K
    rw [List.drop_length] at h1
    cases h1
    simp only at h2 hQ
    rcases hk with rfl | rfl
    · rcases out with _ | ⟨x, out⟩ <;> simp [S_store_Vars_1_l0, S_store_Vars_1_r0, S_store_Vars_1_r1, S_store_Vars_1_r2, S_store_Vars_1_r3, S_store_Vars_1_r4, S_store_Vars_1_r5, S_store_Vars_1_r6, S_store_Vars_1_r7, S_store_Vars_1_r8, S_store_Vars_1_r9, S_store_Vars_1_r10, S_store_Vars_1_r11, S_store_Vars_1_r12, S_store_Vars_1_b0, S_store_Vars_1_r13, S_store_Vars_1_b1, S_store_Vars_1, hE, svOL, slfV] <;>
      exact LessQ.mk (Less.auto (by simp [svOL]) (by simp [svOL, slfV]) (by simp [svOL]) (by simp [svOL] <;> (intro x hx; first | omega | exact ⟨.inl hx, by omega⟩))) hQ
    · rcases out with _ | ⟨x, out⟩
      · exact absurd rfl (h2 rfl)
      · simp [S_store_Vars_1_l0, S_store_Vars_1_r0, S_store_Vars_1_r1, S_store_Vars_1_r2, S_store_Vars_1_r3, S_store_Vars_1_r4, S_store_Vars_1_r5, S_store_Vars_1_r6, S_store_Vars_1_r7, S_store_Vars_1_r8, S_store_Vars_1_r9, S_store_Vars_1_r10, S_store_Vars_1_r11, S_store_Vars_1_r12, S_store_Vars_1_b0, S_store_Vars_1_r13, S_store_Vars_1_b1, S_store_Vars_1, hE, svOL, slfV]
        exact LessQ.mk (Less.auto (by simp [svOL]) (by simp [svOL, slfV]) (by simp [svOL]) (by simp [svOL] <;> (intro x hx; first | omega | exact ⟨.inl hx, by omega⟩))) hQ
  · rintro i ⟨seen, out⟩ hil ⟨h1, h2⟩ K hK
    have hil' : (i : Int) < l.length := by omega
    have hw : IntKind.i64.wrap ((i : Int) + 1) = ((i + 1 : Nat) : Int) := wrap_succ (by omega)
    rw [List.drop_eq_getElem_cons hil, Store.svL] at h1
    have hxo := hlo _ (List.getElem_mem hil)
    obtain ⟨x, hx⟩ : ∃ x, l[i] = x := ⟨_, rfl⟩
    rw [hx] at h1 hxo
    split at h1
    case h_2 => cases h1
    rename_i st' h3
    have hm1 := Store.svO_len s _ _ _ _ h3
    have hm2 := Store.svL_len (Store.svO_len s d) _ _ _ h1
    have hF := Store.svF_mk hs0 hxo h3 (Nat.le_trans hm2 hl)
    obtain ⟨seen', out'⟩ := st'
    simp only at hm1 h2
    have hnew := hK (seen', out') ⟨h1, fun h e => h2 h (by
      simp only at e
      rw [e] at hm1
      exact List.eq_nil_of_length_eq_zero (Nat.le_zero.1 hm1))⟩
    obtain ⟨xk, xn, xi, xh, xa⟩ := x
    rcases hk with rfl | rfl
    · rcases out with _ | ⟨y, out⟩
      · rcases out' with _ | ⟨z, out'⟩
        · simp [S_store_Vars_1_l0, S_store_Vars_1_r0, S_store_Vars_1_r1, S_store_Vars_1_r2, S_store_Vars_1_r3, S_store_Vars_1_r4, S_store_Vars_1_r5, S_store_Vars_1_r6, S_store_Vars_1_r7, S_store_Vars_1_r8, S_store_Vars_1_r9, S_store_Vars_1_r10, S_store_Vars_1_r11, S_store_Vars_1_r12, S_store_Vars_1_b0, S_store_Vars_1_r13, S_store_Vars_1_b1, S_store_Vars_1, hE, hil, hil', hx, hc, hF, hw, vacant_eq, svOL, slfV, -Int.natCast_add]
          exact hnew _ _ (Less.auto (by simp [svOL, slfV, -Int.natCast_add]) (by simp [svOL, slfV]) (by simp [svOL]) (by simp [svOL] <;> (intro x hx; first | omega | exact ⟨.inl hx, by omega⟩)))
        · simp [S_store_Vars_1_l0, S_store_Vars_1_r0, S_store_Vars_1_r1, S_store_Vars_1_r2, S_store_Vars_1_r3, S_store_Vars_1_r4, S_store_Vars_1_r5, S_store_Vars_1_r6, S_store_Vars_1_r7, S_store_Vars_1_r8, S_store_Vars_1_r9, S_store_Vars_1_r10, S_store_Vars_1_r11, S_store_Vars_1_r12, S_store_Vars_1_b0, S_store_Vars_1_r13, S_store_Vars_1_b1, S_store_Vars_1, hE, hil, hil', hx, hc, hF, hw, vacant_eq, svOL, slfV, -Int.natCast_add]
          exact hnew _ _ (Less.auto (by simp [svOL, slfV, -Int.natCast_add]) (by simp [svOL, slfV]) (by simp [svOL]) (by simp [svOL] <;> (intro x hx; first | omega | exact ⟨.inl hx, by omega⟩)))
      · rcases out' with _ | ⟨z, out'⟩
        · simp at hm1
        · have hmono' : out.length ≤ out'.length := by simpa using hm1
          simp [S_store_Vars_1_l0, S_store_Vars_1_r0, S_store_Vars_1_r1, S_store_Vars_1_r2, S_store_Vars_1_r3, S_store_Vars_1_r4, S_store_Vars_1_r5, S_store_Vars_1_r6, S_store_Vars_1_r7, S_store_Vars_1_r8, S_store_Vars_1_r9, S_store_Vars_1_r10, S_store_Vars_1_r11, S_store_Vars_1_r12, S_store_Vars_1_b0, S_store_Vars_1_r13, S_store_Vars_1_b1, S_store_Vars_1, hE, hil, hil', hx, hc, hF, hw, hmono', vacant_eq, svOL, slfV, -Int.natCast_add]
          exact hnew _ _ (Less.auto (by simp [svOL, slfV, -Int.natCast_add]) (by simp [svOL, slfV]) (by simp [svOL]) (by simp [svOL] <;> (intro x hx; first | omega | exact ⟨.inl hx, by omega⟩)))
    · rcases out with _ | ⟨y, out⟩
      · exact absurd rfl (h2 rfl)
      · rcases out' with _ | ⟨z, out'⟩
        · simp at hm1
        · have hmono' : out.length ≤ out'.length := by simpa using hm1
          simp [S_store_Vars_1_l0, S_store_Vars_1_r0, S_store_Vars_1_r1, S_store_Vars_1_r2, S_store_Vars_1_r3, S_store_Vars_1_r4, S_store_Vars_1_r5, S_store_Vars_1_r6, S_store_Vars_1_r7, S_store_Vars_1_r8, S_store_Vars_1_r9, S_store_Vars_1_r10, S_store_Vars_1_r11, S_store_Vars_1_r12, S_store_Vars_1_b0, S_store_Vars_1_r13, S_store_Vars_1_b1, S_store_Vars_1, hE, hil, hil', hx, hc, hF, hw, hmono', vacant_eq, svOL, slfV, -Int.natCast_add]
          exact hnew _ _ (Less.auto (by simp [svOL, slfV, -Int.natCast_add]) (by simp [svOL, slfV]) (by simp [svOL]) (by simp [svOL] <;> (intro x hx; first | omega | exact ⟨.inl hx, by omega⟩)))
theorem store_Vars_1_run {d : Nat} (hc : E.con 78 = embS (svM 78 (Store.svF d))) (hbd : E.con 75 = fnS (spec2 fun (s : Store) (t : Ty) => some (s.bound t)))
    {s : Store} {t : Ty} {st R : Store.Sv} (hR : Store.svF (d + 1) s st t = some R) {a m c b e ro : Nat} {vs : List V} {hs : HS} (hfit : (svD 78 s (enc t) a m c b e ro st R).Fits vs hs) :
    CallOk ρ Try.prog 78 vs hs ((svD 78 s (enc t) a m c b e ro st R).val hs) ((svD 78 s (enc t) a m c b e ro st R).heap hs) := by
  obtain ⟨hs0, ht, hv, hl⟩ := Store.svF_inv hR
  have hmono := Store.svO_len s _ _ _ _ hv
  refine em hρ hE hcon Try.func78 BS_store_Vars_1 rfl (svD_good hmono) ?_ hfit
  rw [Store.svO] at hv
  obtain ⟨seen, out⟩ := st
  simp only at hv hmono
  obtain ⟨tk, tn, ti, th, ta⟩ := t
  simp only [Ty.kind_mk, Ty.id_mk, Ty.args_mk] at hv
  by_cases hk : tk = 1
  · subst hk
    rw [if_pos rfl] at hv
    by_cases hm : ti ∈ seen
    · rw [if_pos hm] at hv
      cases hv
      rcases out with _ | ⟨x, out⟩
      · simp [S_store_Vars_1_r0, S_store_Vars_1_r1, S_store_Vars_1_r2, S_store_Vars_1_r3, S_store_Vars_1_r4, S_store_Vars_1_r5, S_store_Vars_1_r6, S_store_Vars_1_r7, S_store_Vars_1_r8, S_store_Vars_1_r9, S_store_Vars_1_r10, S_store_Vars_1_r11, S_store_Vars_1_r12, S_store_Vars_1_b0, S_store_Vars_1_r13, S_store_Vars_1_b1, S_store_Vars_1, hE, hm, svD, svOL, lookupJ, entriesJ, keyOk]
        exact GivesL.keepX rfl rfl rfl (by simp [slfV])
      · simp [S_store_Vars_1_r0, S_store_Vars_1_r1, S_store_Vars_1_r2, S_store_Vars_1_r3, S_store_Vars_1_r4, S_store_Vars_1_r5, S_store_Vars_1_r6, S_store_Vars_1_r7, S_store_Vars_1_r8, S_store_Vars_1_r9, S_store_Vars_1_r10, S_store_Vars_1_r11, S_store_Vars_1_r12, S_store_Vars_1_b0, S_store_Vars_1_r13, S_store_Vars_1_b1, S_store_Vars_1, hE, hm, svD, svOL, lookupJ, entriesJ, keyOk]
        exact GivesL.keepX rfl rfl rfl (by simp [slfV])
    rw [if_neg hm] at hv
    have hz : zeroJ I4 = some (V.bool false) := by rfl
    cases hb : s.bound (Ty.mk 1 tn ti th ta) with
    | false =>
      rw [if_pos hb] at hv
      cases hv
      rcases out with _ | ⟨x, out⟩
      · simp [S_store_Vars_1_r0, S_store_Vars_1_r1, S_store_Vars_1_r2, S_store_Vars_1_r3, S_store_Vars_1_r4, S_store_Vars_1_r5, S_store_Vars_1_r6, S_store_Vars_1_r7, S_store_Vars_1_r8, S_store_Vars_1_r9, S_store_Vars_1_r10, S_store_Vars_1_r11, S_store_Vars_1_r12, S_store_Vars_1_b0, S_store_Vars_1_r13, S_store_Vars_1_b1, S_store_Vars_1, hE, hm, hbd, hb, svD, svOL, lookupJ, entriesJ, keyOk, mapUpdateJ, hz]
        exact GivesL.litX (fun k => if k = 5 then 25 else k) rfl rfl ⟨rfl, rfl⟩ (by simp [slfV])
      · have h64 : (out.length + 1 + 1) * 8 ≤ 1048576 := by simp at hl; omega
        simp [S_store_Vars_1_r0, S_store_Vars_1_r1, S_store_Vars_1_r2, S_store_Vars_1_r3, S_store_Vars_1_r4, S_store_Vars_1_r5, S_store_Vars_1_r6, S_store_Vars_1_r7, S_store_Vars_1_r8, S_store_Vars_1_r9, S_store_Vars_1_r10, S_store_Vars_1_r11, S_store_Vars_1_r12, S_store_Vars_1_b0, S_store_Vars_1_r13, S_store_Vars_1_b1, S_store_Vars_1, hE, hm, hbd, hb, h64, Nat.not_succ_le_self, svD, svOL, lookupJ, entriesJ, keyOk, mapUpdateJ, hz]
        exact GivesL.keepX rfl rfl rfl (by simp [slfV])
    | true =>
      rw [if_neg (by rw [hb]; simp)] at hv
      obtain ⟨_, i, x, hi, hil, hx, hxb, hto⟩ := Store.bound_slot hb
      simp only [Ty.id_mk] at hi
      subst hi
      rw [hto] at hv
      have hx0 : s.slots[i] = x := (List.getElem?_eq_some_iff.1 hx).2
      have hi1 : i * 8 / 8 = i := by omega
      have hi2 : i * 8 % 8 = 0 := by omega
      have hi3 : (i * 8 + 1) / 8 = i := by omega
      have hi4 : (i * 8 + 1) % 8 = 1 := by omega
      have hxo : x.type.ok = true := hs0.2 x (hx0 ▸ List.getElem_mem hil)
      clear hx hto
      obtain ⟨xb, ⟨ck, cn, ci, ch, ca⟩, xh, xg⟩ := x
      simp only [Ty.kind_mk, Ty.args_mk] at hv hxo hxb
      obtain ⟨seen', out'⟩ := R
      simp only at hmono hl
      by_cases hk2 : ck = 1
      · subst hk2
        rw [if_pos rfl] at hv
        have hF : Store.svF d s (seen ++ [(i : Int)], out) (.mk 1 cn ci ch ca) = some (seen', out') := Store.svF_mk hs0 hxo hv hl
        rcases out with _ | ⟨y, out⟩
        · rcases out' with _ | ⟨z, out'⟩
          · simp only [svD, svOL, slfV]
            simp [S_store_Vars_1_r0, S_store_Vars_1_r1, S_store_Vars_1_r2, S_store_Vars_1_r3, S_store_Vars_1_r4, S_store_Vars_1_r5, S_store_Vars_1_r6, S_store_Vars_1_r7, S_store_Vars_1_r8, S_store_Vars_1_r9, S_store_Vars_1_r10, S_store_Vars_1_r11, S_store_Vars_1_r12, S_store_Vars_1_b0, S_store_Vars_1_r13, S_store_Vars_1_b1, S_store_Vars_1, hE, hm, hbd, hb, hil, hx0, hi1, hi2, hi3, hi4, hc, hF, vacant_eq, lookupJ, entriesJ, keyOk, mapUpdateJ, hz, slfV]
            exact GivesL.keepX rfl rfl rfl (by simp [slfV])
          · simp only [svD, svOL, slfV]
            simp [S_store_Vars_1_r0, S_store_Vars_1_r1, S_store_Vars_1_r2, S_store_Vars_1_r3, S_store_Vars_1_r4, S_store_Vars_1_r5, S_store_Vars_1_r6, S_store_Vars_1_r7, S_store_Vars_1_r8, S_store_Vars_1_r9, S_store_Vars_1_r10, S_store_Vars_1_r11, S_store_Vars_1_r12, S_store_Vars_1_b0, S_store_Vars_1_r13, S_store_Vars_1_b1, S_store_Vars_1, hE, hm, hbd, hb, hil, hx0, hi1, hi2, hi3, hi4, hc, hF, vacant_eq, lookupJ, entriesJ, keyOk, mapUpdateJ, hz, slfV]
            exact GivesL.litX (fun k => if k = 5 then 35 else k) rfl rfl ⟨rfl, rfl⟩ (by simp [slfV])
        · rcases out' with _ | ⟨z, out'⟩
          · simp at hmono
          · simp only [svD, svOL, slfV]
            have hmono' : out.length ≤ out'.length := by simpa using hmono
            simp [S_store_Vars_1_r0, S_store_Vars_1_r1, S_store_Vars_1_r2, S_store_Vars_1_r3, S_store_Vars_1_r4, S_store_Vars_1_r5, S_store_Vars_1_r6, S_store_Vars_1_r7, S_store_Vars_1_r8, S_store_Vars_1_r9, S_store_Vars_1_r10, S_store_Vars_1_r11, S_store_Vars_1_r12, S_store_Vars_1_b0, S_store_Vars_1_r13, S_store_Vars_1_b1, S_store_Vars_1, hE, hm, hbd, hb, hil, hx0, hi1, hi2, hi3, hi4, hc, hF, vacant_eq, lookupJ, entriesJ, keyOk, mapUpdateJ, hz, slfV]
            exact ⟨hmono', GivesL.keepX rfl rfl rfl (by simp [slfV])⟩
      · rw [if_neg hk2] at hv
        have hv' : Store.svL (Store.svO s d) ca (seen ++ [(i : Int)], out) = some (seen', out') := hv
        have hao := (Ty.ok_iff.1 hxo).2
        have hall := Ty.ok_len hxo
        simp only [Ty.args_mk] at hao hall
        rcases out with _ | ⟨y, out⟩
        · simp only [svD, svOL, slfV]
          simp [S_store_Vars_1_r0, S_store_Vars_1_r1, S_store_Vars_1_r2, S_store_Vars_1_r3, S_store_Vars_1_r4, S_store_Vars_1_r5, S_store_Vars_1_r6, S_store_Vars_1_r7, S_store_Vars_1_r8, S_store_Vars_1_r9, S_store_Vars_1_r10, S_store_Vars_1_r11, S_store_Vars_1_r12, S_store_Vars_1_b0, S_store_Vars_1_r13, S_store_Vars_1_b1, S_store_Vars_1, hE, hm, hbd, hb, hil, hx0, hi1, hi2, hi3, hi4, hk2, vacant_eq, lookupJ, entriesJ, keyOk, mapUpdateJ, hz, slfV]
          refine store_Vars_1_loop hρ hE hcon (.inl rfl) hc hs0 hao hall hv' hl (fun h => by cases h) (Less.auto (by simp [svOL]) (by simp [svOL, slfV]) (by simp [svOL]) (by simp [svOL] <;> (intro x hx; first | omega | exact ⟨.inl hx, by omega⟩))) ?_
          rcases out' with _ | ⟨z, out'⟩
          · simp [S_store_Vars_1_r0, S_store_Vars_1_r1, S_store_Vars_1_r2, S_store_Vars_1_r3, S_store_Vars_1_r4, S_store_Vars_1_r5, S_store_Vars_1_r6, S_store_Vars_1_r7, S_store_Vars_1_r8, S_store_Vars_1_r9, S_store_Vars_1_r10, S_store_Vars_1_r11, S_store_Vars_1_r12, S_store_Vars_1_b0, S_store_Vars_1_r13, S_store_Vars_1_b1, S_store_Vars_1, hE, svOL, slfV]
            exact GivesL.keepX rfl rfl rfl (by simp [slfV])
          · simp [S_store_Vars_1_r0, S_store_Vars_1_r1, S_store_Vars_1_r2, S_store_Vars_1_r3, S_store_Vars_1_r4, S_store_Vars_1_r5, S_store_Vars_1_r6, S_store_Vars_1_r7, S_store_Vars_1_r8, S_store_Vars_1_r9, S_store_Vars_1_r10, S_store_Vars_1_r11, S_store_Vars_1_r12, S_store_Vars_1_b0, S_store_Vars_1_r13, S_store_Vars_1_b1, S_store_Vars_1, hE, svOL, slfV]
            exact GivesL.keepX rfl rfl rfl (by simp [slfV])
        · simp only [svD, svOL, slfV]
          simp [S_store_Vars_1_r0, S_store_Vars_1_r1, S_store_Vars_1_r2, S_store_Vars_1_r3, S_store_Vars_1_r4, S_store_Vars_1_r5, S_store_Vars_1_r6, S_store_Vars_1_r7, S_store_Vars_1_r8, S_store_Vars_1_r9, S_store_Vars_1_r10, S_store_Vars_1_r11, S_store_Vars_1_r12, S_store_Vars_1_b0, S_store_Vars_1_r13, S_store_Vars_1_b1, S_store_Vars_1, hE, hm, hbd, hb, hil, hx0, hi1, hi2, hi3, hi4, hk2, vacant_eq, lookupJ, entriesJ, keyOk, mapUpdateJ, hz, slfV]
          refine store_Vars_1_loop hρ hE hcon (.inr rfl) hc hs0 hao hall hv' hl (fun _ => by simp) (Less.auto (by simp [svOL]) (by simp [svOL, slfV]) (by simp [svOL]) (by simp [svOL] <;> (intro x hx; first | omega | exact ⟨.inl hx, by omega⟩))) ?_
          rcases out' with _ | ⟨z, out'⟩
          · simp at hmono
          · simp [S_store_Vars_1_r0, S_store_Vars_1_r1, S_store_Vars_1_r2, S_store_Vars_1_r3, S_store_Vars_1_r4, S_store_Vars_1_r5, S_store_Vars_1_r6, S_store_Vars_1_r7, S_store_Vars_1_r8, S_store_Vars_1_r9, S_store_Vars_1_r10, S_store_Vars_1_r11, S_store_Vars_1_r12, S_store_Vars_1_b0, S_store_Vars_1_r13, S_store_Vars_1_b1, S_store_Vars_1, hE, svOL, slfV]
            exact GivesL.keepX rfl rfl rfl (by simp [slfV])
  · rw [if_neg hk] at hv
    have hao := (Ty.ok_iff.1 ht).2
    have hall := Ty.ok_len ht
    simp only [Ty.args_mk] at hao hall
    obtain ⟨seen', out'⟩ := R
    simp only at hmono hl
    rcases out with _ | ⟨y, out⟩
    · simp only [svD, svOL, slfV]
      simp [S_store_Vars_1_r0, S_store_Vars_1_r1, S_store_Vars_1_r2, S_store_Vars_1_r3, S_store_Vars_1_r4, S_store_Vars_1_r5, S_store_Vars_1_r6, S_store_Vars_1_r7, S_store_Vars_1_r8, S_store_Vars_1_r9, S_store_Vars_1_r10, S_store_Vars_1_r11, S_store_Vars_1_r12, S_store_Vars_1_b0, S_store_Vars_1_r13, S_store_Vars_1_b1, S_store_Vars_1, hE, hk, slfV]
      refine store_Vars_1_loop hρ hE hcon (.inl rfl) hc hs0 hao hall hv hl (fun h => by cases h) (Less.auto (by simp [svOL]) (by simp [svOL, slfV]) (by simp [svOL]) (by simp [svOL] <;> (intro x hx; first | omega | exact ⟨.inl hx, by omega⟩))) ?_
      rcases out' with _ | ⟨z, out'⟩
      · simp [S_store_Vars_1_r0, S_store_Vars_1_r1, S_store_Vars_1_r2, S_store_Vars_1_r3, S_store_Vars_1_r4, S_store_Vars_1_r5, S_store_Vars_1_r6, S_store_Vars_1_r7, S_store_Vars_1_r8, S_store_Vars_1_r9, S_store_Vars_1_r10, S_store_Vars_1_r11, S_store_Vars_1_r12, S_store_Vars_1_b0, S_store_Vars_1_r13, S_store_Vars_1_b1, S_store_Vars_1, hE, svOL, slfV]
        exact GivesL.keepX rfl rfl rfl (by simp [slfV])
      · simp [S_store_Vars_1_r0, S_store_Vars_1_r1, S_store_Vars_1_r2, S_store_Vars_1_r3, S_store_Vars_1_r4, S_store_Vars_1_r5, S_store_Vars_1_r6, S_store_Vars_1_r7, S_store_Vars_1_r8, S_store_Vars_1_r9, S_store_Vars_1_r10, S_store_Vars_1_r11, S_store_Vars_1_r12, S_store_Vars_1_b0, S_store_Vars_1_r13, S_store_Vars_1_b1, S_store_Vars_1, hE, svOL, slfV]
        exact GivesL.keepX rfl rfl rfl (by simp [slfV])
    · simp only [svD, svOL, slfV]
      simp [S_store_Vars_1_r0, S_store_Vars_1_r1, S_store_Vars_1_r2, S_store_Vars_1_r3, S_store_Vars_1_r4, S_store_Vars_1_r5, S_store_Vars_1_r6, S_store_Vars_1_r7, S_store_Vars_1_r8, S_store_Vars_1_r9, S_store_Vars_1_r10, S_store_Vars_1_r11, S_store_Vars_1_r12, S_store_Vars_1_b0, S_store_Vars_1_r13, S_store_Vars_1_b1, S_store_Vars_1, hE, hk, slfV]
      refine store_Vars_1_loop hρ hE hcon (.inr rfl) hc hs0 hao hall hv hl (fun _ => by simp) (Less.auto (by simp [svOL]) (by simp [svOL, slfV]) (by simp [svOL]) (by simp [svOL] <;> (intro x hx; first | omega | exact ⟨.inl hx, by omega⟩))) ?_
      rcases out' with _ | ⟨z, out'⟩
      · simp at hmono
      · simp [S_store_Vars_1_r0, S_store_Vars_1_r1, S_store_Vars_1_r2, S_store_Vars_1_r3, S_store_Vars_1_r4, S_store_Vars_1_r5, S_store_Vars_1_r6, S_store_Vars_1_r7, S_store_Vars_1_r8, S_store_Vars_1_r9, S_store_Vars_1_r10, S_store_Vars_1_r11, S_store_Vars_1_r12, S_store_Vars_1_b0, S_store_Vars_1_r13, S_store_Vars_1_b1, S_store_Vars_1, hE, svOL, slfV]
        exact GivesL.keepX rfl rfl rfl (by simp [slfV])
end
end Go.Proofs.Ythfcfmkdeheicaa
