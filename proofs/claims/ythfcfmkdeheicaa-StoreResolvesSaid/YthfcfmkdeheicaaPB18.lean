import Derived.Test.YthfcfmkdeheicaaPB17
import Derived.Test.YthfcfmkdeheicaaJN
set_option linter.all false
set_option linter.all false
namespace Go.Proofs.Ythfcfmkdeheicaa
open Go.J
open Go.J.Enc (enc)
set_option maxRecDepth 100000
set_option maxHeartbeats 4000000
/-- the heap of a search -/
noncomputable def fndH (s : Store) (n : Nat) (st : List Int × List Bool) : List (Nat × J.Obj) := [(0, fndB s (oV 2 (st.1.map encI)) (.own 1 0 0 n (some n))), (1, mkO 1 (st.2.map encB))] ++ oH 2 1 (st.1.map encI)
section
variable {ρ : Nat → Value} (hρ : J.Good ρ) {E : Env} (hE : E.P = Try.prog) (hcon : ConsOk ρ E)
include hρ hE hcon
theorem ref16_finder_visit_loop {d k : Nat} (hk : k = 2 ∨ k = 3) (hc : E.con 79 = embS (visM (visF d))) {s : Store} (hs : s.tysOk) {t : Ty} (ht : t.ok = true) {st0 R : List Int × List Bool} (hk0 : k = 3 → st0.1 ≠ []) (hdl : st0.2.length = s.slots.length)
    (hb : st0.1.length + t.size + und s.slots st0.2 ≤ 100000) (hm : t.size + und s.slots st0.2 ≤ d + 1) {Q : Ex → PT V → HS → Prop}
    (hQ : Q (.exit 1) (mkP []) { H := mkP (fndH s st0.2.length R), n := 4, log := [] }) :
    ∀ (n i : Nat) (st : List Int × List Bool), i + n = t.args.length → VsOk s (Ty.sizes (t.args.take i)) st0 st → (t.args.drop i).foldl (fun st x => vsM s d x st) st = R →
      LsN ρ E k 78 S_ref16_finder_visit_l0 (LessQ k Q) (n + 1) (mkP [(4, .int .i64 (i : Int)), (3, .ptr 3 0 0), (0, .ptr 0 0 0)])
        { H := mkP (fndH s st0.2.length st ++ [(3, box (encTy t))]), n := 4, log := [] } := by
  intro n
  induction n with
  | zero =>
    intro i st hi hst hR
    have hil : ¬ (i : Int) < t.args.length := by omega
    rw [List.drop_of_length_le (by omega)] at hR
    simp only [List.foldl_nil] at hR
    subst hR
    refine lp hρ hE hcon fun K hK => ?_
    obtain ⟨out, done⟩ := st
    have hne : k = 3 → out ≠ [] := by
      intro h e
      have := hst.2.1
      subst e
      exact hk0 h (List.eq_nil_of_length_eq_zero (by simpa using this))
    rcases hk with rfl | rfl
    · rcases out with _ | ⟨x, out⟩ <;> simp [S_ref16_finder_visit_l0, S_ref16_finder_visit_r0, S_ref16_finder_visit_r1, S_ref16_finder_visit_r2, S_ref16_finder_visit_r3, S_ref16_finder_visit_r4, S_ref16_finder_visit_r5, S_ref16_finder_visit_r6, S_ref16_finder_visit_r7, S_ref16_finder_visit_b0, S_ref16_finder_visit_r8, S_ref16_finder_visit_r9, S_ref16_finder_visit_r10, S_ref16_finder_visit_b1, S_ref16_finder_visit_r11, S_ref16_finder_visit_b2, S_ref16_finder_visit, hE, hil, fndH, fndB, mkO] <;>
      exact LessQ.mk (Less.keep 4 (by simp) (by simp [fndH, fndB, mkO]) rfl rfl) hQ
    · rcases out with _ | ⟨x, out⟩
      · exact absurd rfl (hne rfl)
      · simp [S_ref16_finder_visit_l0, S_ref16_finder_visit_r0, S_ref16_finder_visit_r1, S_ref16_finder_visit_r2, S_ref16_finder_visit_r3, S_ref16_finder_visit_r4, S_ref16_finder_visit_r5, S_ref16_finder_visit_r6, S_ref16_finder_visit_r7, S_ref16_finder_visit_b0, S_ref16_finder_visit_r8, S_ref16_finder_visit_r9, S_ref16_finder_visit_r10, S_ref16_finder_visit_b1, S_ref16_finder_visit_r11, S_ref16_finder_visit_b2, S_ref16_finder_visit, hE, hil, fndH, fndB, mkO]
        exact LessQ.mk (Less.keep 4 (by simp) (by simp [fndH, fndB, mkO]) rfl rfl) hQ
  | succ n ih =>
    intro i st hi hst hR
    have hil : i < t.args.length := by omega
    have hil' : (i : Int) < t.args.length := by omega
    have hlen := Ty.ok_len ht
    have hw : IntKind.i64.wrap ((i : Int) + 1) = ((i + 1 : Nat) : Int) := wrap_succ (by omega)
    have hm0 := List.getElem_mem hil
    have hx := Ty.ok_arg ht hm0
    have hsz : Ty.sizes (t.args.take (i + 1)) = Ty.sizes (t.args.take i) + t.args[i].size := by
      rw [List.take_add_one, List.getElem?_eq_getElem hil, sizes_app]; simp [Ty.sizes]
    have hsz2 := sizes_take_le t.args (i + 1)
    have hsz3 := Ty.size_eq t
    rw [List.drop_eq_getElem_cons hil, List.foldl_cons] at hR
    have hstep := vsM_ok s d t.args[i] st
    have hnx := hst.trans hstep
    rw [← hsz] at hnx
    have hF : visF d s st.1 st.2 t.args[i] = some (vsM s d t.args[i] st) := by
      obtain ⟨g1, g2, g3, g4⟩ := hst
      unfold visF
      rw [if_pos ⟨hs, hx, by omega, by omega, by omega⟩]
    have hnew := ih (i + 1) (vsM s d t.args[i] st) (by omega) hnx hR
    have hd1 : st.2.length = st0.2.length := hst.1
    generalize hX : t.args[i] = x at *
    generalize vsM s d x st = st' at *
    obtain ⟨out, done⟩ := st
    obtain ⟨out', done'⟩ := st'
    obtain ⟨g1, g2, _, _⟩ := hstep
    simp only at g1 g2 hd1 hF
    have hne : k = 3 → out ≠ [] := by
      intro h e
      have := hst.2.1
      subst e
      exact hk0 h (List.eq_nil_of_length_eq_zero (by simpa using this))
    refine lp hρ hE hcon fun K hK => ?_
    rcases out with _ | ⟨a, out⟩
    · obtain rfl : k = 2 := by rcases hk with h | h; exact h; exact absurd rfl (hne h)
      rcases out' with _ | ⟨b, out'⟩
      · simp [S_ref16_finder_visit_l0, S_ref16_finder_visit_r0, S_ref16_finder_visit_r1, S_ref16_finder_visit_r2, S_ref16_finder_visit_r3, S_ref16_finder_visit_r4, S_ref16_finder_visit_r5, S_ref16_finder_visit_r6, S_ref16_finder_visit_r7, S_ref16_finder_visit_b0, S_ref16_finder_visit_r8, S_ref16_finder_visit_r9, S_ref16_finder_visit_r10, S_ref16_finder_visit_b1, S_ref16_finder_visit_r11, S_ref16_finder_visit_b2, S_ref16_finder_visit, hE, hil, hil', hX, hc, hF, fndH, fndB, mkO, hd1, g1, hw, vacant_eq, -Int.natCast_add]
        exact hK _ _ (LsN_less (Less.keep 4 (by simp [fndH, -Int.natCast_add]) (by simp [fndH, fndB, mkO]) rfl rfl) hnew)
      · simp [S_ref16_finder_visit_l0, S_ref16_finder_visit_r0, S_ref16_finder_visit_r1, S_ref16_finder_visit_r2, S_ref16_finder_visit_r3, S_ref16_finder_visit_r4, S_ref16_finder_visit_r5, S_ref16_finder_visit_r6, S_ref16_finder_visit_r7, S_ref16_finder_visit_b0, S_ref16_finder_visit_r8, S_ref16_finder_visit_r9, S_ref16_finder_visit_r10, S_ref16_finder_visit_b1, S_ref16_finder_visit_r11, S_ref16_finder_visit_b2, S_ref16_finder_visit, hE, hil, hil', hX, hc, hF, fndH, fndB, mkO, hd1, g1, hw, vacant_eq, -Int.natCast_add]
        exact hK _ _ (LsN_less (Less.lit (fun k => if k = 2 then 16 else k) 4 (by simp [fndH, -Int.natCast_add]) (by simp [fndH, fndB, mkO]) rfl rfl) hnew)
    · rcases out' with _ | ⟨b, out'⟩
      · simp at g2
      · have g2' : out.length ≤ out'.length := by simpa using g2
        rcases hk with rfl | rfl
        · simp [S_ref16_finder_visit_l0, S_ref16_finder_visit_r0, S_ref16_finder_visit_r1, S_ref16_finder_visit_r2, S_ref16_finder_visit_r3, S_ref16_finder_visit_r4, S_ref16_finder_visit_r5, S_ref16_finder_visit_r6, S_ref16_finder_visit_r7, S_ref16_finder_visit_b0, S_ref16_finder_visit_r8, S_ref16_finder_visit_r9, S_ref16_finder_visit_r10, S_ref16_finder_visit_b1, S_ref16_finder_visit_r11, S_ref16_finder_visit_b2, S_ref16_finder_visit, hE, hil, hil', hX, hc, hF, fndH, fndB, mkO, hd1, g1, g2', hw, vacant_eq, -Int.natCast_add]
          exact hK _ _ (LsN_less (Less.keep 4 (by simp [fndH, -Int.natCast_add]) (by simp [fndH, fndB, mkO, oO]) rfl rfl) hnew)
        · simp [S_ref16_finder_visit_l0, S_ref16_finder_visit_r0, S_ref16_finder_visit_r1, S_ref16_finder_visit_r2, S_ref16_finder_visit_r3, S_ref16_finder_visit_r4, S_ref16_finder_visit_r5, S_ref16_finder_visit_r6, S_ref16_finder_visit_r7, S_ref16_finder_visit_b0, S_ref16_finder_visit_r8, S_ref16_finder_visit_r9, S_ref16_finder_visit_r10, S_ref16_finder_visit_b1, S_ref16_finder_visit_r11, S_ref16_finder_visit_b2, S_ref16_finder_visit, hE, hil, hil', hX, hc, hF, fndH, fndB, mkO, hd1, g1, g2', hw, vacant_eq, -Int.natCast_add]
          exact hK _ _ (LsN_less (Less.keep 4 (by simp [fndH, -Int.natCast_add]) (by simp [fndH, fndB, mkO, oO]) rfl rfl) hnew)
theorem ref16_finder_visit_run {d : Nat} (hc : E.con 79 = embS (visM (visF d))) (hbd : E.con 76 = fnS (spec2 fun (s : Store) (t : Ty) => some (s.bound t))) (hHas : E.con 47 = fnC (spec2 fun (l : List Int) (x : Int) => if l.length ≤ 1000000 then some (decide (x ∈ l)) else none))
    {s : Store} {out : List Int} {done : List Bool} {t : Ty} {R : List Int × List Bool} (hR : visF (d + 1) s out done t = some R) {id rd ro : Nat} {vs : List V} {hs : HS} (hfit : (visD s (enc t) done.length id rd ro out R.1 done R.2).Fits vs hs) :
    CallOk ρ Try.prog 79 vs hs ((visD s (enc t) done.length id rd ro out R.1 done R.2).val hs) ((visD s (enc t) done.length id rd ro out R.1 done R.2).heap hs) := by
  unfold visF at hR
  split at hR
  case isFalse => cases hR
  rename_i hp
  obtain ⟨hs0, ht, hdl, hb, hm⟩ := hp
  cases hR
  have hok := vsM_ok s (d + 1) t (out, done)
  refine em hρ hE hcon Try.func79 BS_ref16_finder_visit rfl (visD_good hok.2.1) ?_ hfit
  generalize hR : vsM s (d + 1) t (out, done) = R at hok
  rw [vsM] at hR
  have hol : out.length ≤ 100000 := by omega
  have hol2 : out.length ≤ 1000000 := by omega
  obtain ⟨tk, tn, ti, th, ta⟩ := t
  simp only [Ty.kind_mk, Ty.id_mk, Ty.args_mk] at hR
  by_cases hk : tk = 1
  · subst hk
    rw [if_pos rfl] at hR
    cases hbt : s.bound (Ty.mk 1 tn ti th ta) with
    | false =>
      rw [hbt] at hR
      simp at hR
      by_cases hmem : ti ∈ out
      · rw [if_pos hmem] at hR
        subst hR
        rcases out with _ | ⟨a, out⟩
        · cases hmem
        · have hol3 : out.length + 1 ≤ 1000000 := by simpa using hol2
          have hmem' := List.mem_cons.1 hmem
          simp [S_ref16_finder_visit_r0, S_ref16_finder_visit_r1, S_ref16_finder_visit_r2, S_ref16_finder_visit_r3, S_ref16_finder_visit_r4, S_ref16_finder_visit_r5, S_ref16_finder_visit_r6, S_ref16_finder_visit_r7, S_ref16_finder_visit_b0, S_ref16_finder_visit_r8, S_ref16_finder_visit_r9, S_ref16_finder_visit_r10, S_ref16_finder_visit_b1, S_ref16_finder_visit_r11, S_ref16_finder_visit_b2, S_ref16_finder_visit, hE, hbd, hbt, hHas, hmem', hol3, fndB, mkO]
          exact GivesL.keepX rfl rfl rfl (by simp)
      · rw [if_neg hmem] at hR
        subst hR
        rcases out with _ | ⟨a, out⟩
        · simp [S_ref16_finder_visit_r0, S_ref16_finder_visit_r1, S_ref16_finder_visit_r2, S_ref16_finder_visit_r3, S_ref16_finder_visit_r4, S_ref16_finder_visit_r5, S_ref16_finder_visit_r6, S_ref16_finder_visit_r7, S_ref16_finder_visit_b0, S_ref16_finder_visit_r8, S_ref16_finder_visit_r9, S_ref16_finder_visit_r10, S_ref16_finder_visit_b1, S_ref16_finder_visit_r11, S_ref16_finder_visit_b2, S_ref16_finder_visit, hE, hbd, hbt, hHas, fndB, mkO]
          exact GivesL.litX (fun k => if k = 2 then 30 else k) rfl rfl ⟨rfl, rfl⟩ (by simp)
        · have hol3 : out.length + 1 ≤ 1000000 := by simpa using hol2
          have h64 : (out.length + 1 + 1) * 8 ≤ 1048576 := by simp at hol; omega
          have hmem1 : ¬ ti = a := fun e => hmem (e ▸ List.mem_cons_self ..)
          have hmem2 : ¬ ti ∈ out := fun e => hmem (List.mem_cons_of_mem _ e)
          simp [S_ref16_finder_visit_r0, S_ref16_finder_visit_r1, S_ref16_finder_visit_r2, S_ref16_finder_visit_r3, S_ref16_finder_visit_r4, S_ref16_finder_visit_r5, S_ref16_finder_visit_r6, S_ref16_finder_visit_r7, S_ref16_finder_visit_b0, S_ref16_finder_visit_r8, S_ref16_finder_visit_r9, S_ref16_finder_visit_r10, S_ref16_finder_visit_b1, S_ref16_finder_visit_r11, S_ref16_finder_visit_b2, S_ref16_finder_visit, hE, hbd, hbt, hHas, hmem1, hmem2, hol3, h64, Nat.not_succ_le_self, fndB, mkO]
          exact GivesL.keepX rfl rfl rfl (by simp)
    | true =>
      rw [hbt] at hR
      simp only [if_true] at hR
      obtain ⟨_, i, x, hi, hl, hx, hxb, hto⟩ := Store.bound_slot hbt
      simp only [Ty.id_mk] at hi
      subst hi
      rw [Int.toNat_natCast] at hR
      have hid : i < done.length := by omega
      have hd0 : done[i]? = some done[i] := List.getElem?_eq_getElem hid
      have hx0 : s.slots[i] = x := (List.getElem?_eq_some_iff.1 hx).2
      have hi1 : i * 8 / 8 = i := by omega
      have hi2 : i * 8 % 8 = 0 := by omega
      have hi3 : (i * 8 + 1) / 8 = i := by omega
      have hi4 : (i * 8 + 1) % 8 = 1 := by omega
      cases hdb : done[i] with
      | true =>
        rw [hd0, hdb] at hR
        simp at hR
        subst hR
        rcases out with _ | ⟨a, out⟩ <;> simp [S_ref16_finder_visit_r0, S_ref16_finder_visit_r1, S_ref16_finder_visit_r2, S_ref16_finder_visit_r3, S_ref16_finder_visit_r4, S_ref16_finder_visit_r5, S_ref16_finder_visit_r6, S_ref16_finder_visit_r7, S_ref16_finder_visit_b0, S_ref16_finder_visit_r8, S_ref16_finder_visit_r9, S_ref16_finder_visit_r10, S_ref16_finder_visit_b1, S_ref16_finder_visit_r11, S_ref16_finder_visit_b2, S_ref16_finder_visit, hE, hbd, hbt, hid, hdb, Nat.mod_one, fndB, mkO] <;>
        exact GivesL.keepX rfl rfl rfl (by simp)
      | false =>
        rw [hdb] at hd0
        rw [hd0, hto] at hR
        simp only [if_true] at hR
        have hxm : x ∈ s.slots := hx0 ▸ List.getElem_mem hl
        have hu := und_set hx hd0
        have hF : visF d s out (done.set i true) x.type = some R := by
          unfold visF
          rw [if_pos ⟨hs0, hs0.2 x hxm, by rw [List.length_set]; exact hdl, by omega, by have := Ty.size_pos (Ty.mk 1 tn (i : Int) th ta); omega⟩, hR]
        have hRl : R.2.length = done.length := hok.1
        have hRo : out.length ≤ R.1.length := hok.2.1
        obtain ⟨out', done'⟩ := R
        simp only at hRl hRo hF
        have e1 : (done.map encB).set i [.bool true] = (done.set i true).map encB := by rw [List.map_set]
        rcases out with _ | ⟨a, out⟩
        · rcases out' with _ | ⟨b, out'⟩
          · simp [S_ref16_finder_visit_r0, S_ref16_finder_visit_r1, S_ref16_finder_visit_r2, S_ref16_finder_visit_r3, S_ref16_finder_visit_r4, S_ref16_finder_visit_r5, S_ref16_finder_visit_r6, S_ref16_finder_visit_r7, S_ref16_finder_visit_b0, S_ref16_finder_visit_r8, S_ref16_finder_visit_r9, S_ref16_finder_visit_r10, S_ref16_finder_visit_b1, S_ref16_finder_visit_r11, S_ref16_finder_visit_b2, S_ref16_finder_visit, hE, hbd, hbt, hid, hdb, hd0, hl, hx0, Nat.mod_one, e1, hc, hF, hRl, vacant_eq, fndB, mkO, -List.map_set]
            exact GivesL.keepX rfl rfl rfl (by simp)
          · simp [S_ref16_finder_visit_r0, S_ref16_finder_visit_r1, S_ref16_finder_visit_r2, S_ref16_finder_visit_r3, S_ref16_finder_visit_r4, S_ref16_finder_visit_r5, S_ref16_finder_visit_r6, S_ref16_finder_visit_r7, S_ref16_finder_visit_b0, S_ref16_finder_visit_r8, S_ref16_finder_visit_r9, S_ref16_finder_visit_r10, S_ref16_finder_visit_b1, S_ref16_finder_visit_r11, S_ref16_finder_visit_b2, S_ref16_finder_visit, hE, hbd, hbt, hid, hdb, hd0, hl, hx0, Nat.mod_one, e1, hc, hF, hRl, vacant_eq, fndB, mkO, -List.map_set]
            exact GivesL.litX (fun k => if k = 2 then 44 else k) rfl rfl ⟨rfl, rfl⟩ (by simp)
        · rcases out' with _ | ⟨b, out'⟩
          · simp at hRo
          · have hRo' : out.length ≤ out'.length := by simpa using hRo
            simp [S_ref16_finder_visit_r0, S_ref16_finder_visit_r1, S_ref16_finder_visit_r2, S_ref16_finder_visit_r3, S_ref16_finder_visit_r4, S_ref16_finder_visit_r5, S_ref16_finder_visit_r6, S_ref16_finder_visit_r7, S_ref16_finder_visit_b0, S_ref16_finder_visit_r8, S_ref16_finder_visit_r9, S_ref16_finder_visit_r10, S_ref16_finder_visit_b1, S_ref16_finder_visit_r11, S_ref16_finder_visit_b2, S_ref16_finder_visit, hE, hbd, hbt, hid, hdb, hd0, hl, hx0, Nat.mod_one, e1, hc, hF, hRl, hRo', vacant_eq, fndB, mkO, -List.map_set]
            exact GivesL.keepX rfl rfl rfl (by simp)
  · rw [if_neg hk] at hR
    have hRo : out.length ≤ R.1.length := hok.2.1
    have hs0t : VsOk s (Ty.sizes ((Ty.mk tk tn ti th ta).args.take 0)) (out, done) (out, done) := .refl
    rcases out with _ | ⟨a, out⟩
    · simp [S_ref16_finder_visit_r0, S_ref16_finder_visit_r1, S_ref16_finder_visit_r2, S_ref16_finder_visit_r3, S_ref16_finder_visit_r4, S_ref16_finder_visit_r5, S_ref16_finder_visit_r6, S_ref16_finder_visit_r7, S_ref16_finder_visit_b0, S_ref16_finder_visit_r8, S_ref16_finder_visit_r9, S_ref16_finder_visit_r10, S_ref16_finder_visit_b1, S_ref16_finder_visit_r11, S_ref16_finder_visit_b2, S_ref16_finder_visit, hE, hk, fndB, mkO]
      refine Ls_lessQ (Ls_loop (LsN_less (Less.lit (fun k => if k = 3 then 2 else k) 4 (TL := [(4, .int .i64 ((0 : Nat) : Int)), (3, .ptr 3 0 0), (0, .ptr 0 0 0)]) (HL := fndH s done.length ([], done) ++ [(3, box (encTy (.mk tk tn ti th ta)))]) (by simp [fndH]) (by simp [fndH, fndB, mkO]) rfl rfl)
        (ref16_finder_visit_loop hρ hE hcon (.inl rfl) hc hs0 ht (st0 := ([], done)) (R := R) (by simp) hdl hb hm ?_ ta.length 0 ([], done) (by simp) hs0t (by simpa using hR))))
      obtain ⟨out', done'⟩ := R
      rcases out' with _ | ⟨b, out'⟩ <;> simp [S_ref16_finder_visit_r0, S_ref16_finder_visit_r1, S_ref16_finder_visit_r2, S_ref16_finder_visit_r3, S_ref16_finder_visit_r4, S_ref16_finder_visit_r5, S_ref16_finder_visit_r6, S_ref16_finder_visit_r7, S_ref16_finder_visit_b0, S_ref16_finder_visit_r8, S_ref16_finder_visit_r9, S_ref16_finder_visit_r10, S_ref16_finder_visit_b1, S_ref16_finder_visit_r11, S_ref16_finder_visit_b2, S_ref16_finder_visit, hE, fndH, fndB, mkO] <;> exact GivesL.keepX rfl rfl rfl (by simp)
    · simp [S_ref16_finder_visit_r0, S_ref16_finder_visit_r1, S_ref16_finder_visit_r2, S_ref16_finder_visit_r3, S_ref16_finder_visit_r4, S_ref16_finder_visit_r5, S_ref16_finder_visit_r6, S_ref16_finder_visit_r7, S_ref16_finder_visit_b0, S_ref16_finder_visit_r8, S_ref16_finder_visit_r9, S_ref16_finder_visit_r10, S_ref16_finder_visit_b1, S_ref16_finder_visit_r11, S_ref16_finder_visit_b2, S_ref16_finder_visit, hE, hk, fndB, mkO]
      refine Ls_lessQ (Ls_loop (LsN_less (Less.keep 4 (TL := [(4, .int .i64 ((0 : Nat) : Int)), (3, .ptr 3 0 0), (0, .ptr 0 0 0)]) (HL := fndH s done.length (a :: out, done) ++ [(3, box (encTy (.mk tk tn ti th ta)))]) (by simp [fndH]) (by simp [fndH, fndB, mkO]) rfl rfl)
        (ref16_finder_visit_loop hρ hE hcon (.inr rfl) hc hs0 ht (st0 := (a :: out, done)) (R := R) (by simp) hdl hb hm ?_ ta.length 0 (a :: out, done) (by simp) hs0t (by simpa using hR))))
      obtain ⟨out', done'⟩ := R
      rcases out' with _ | ⟨b, out'⟩
      · simp at hRo
      · simp [S_ref16_finder_visit_r0, S_ref16_finder_visit_r1, S_ref16_finder_visit_r2, S_ref16_finder_visit_r3, S_ref16_finder_visit_r4, S_ref16_finder_visit_r5, S_ref16_finder_visit_r6, S_ref16_finder_visit_r7, S_ref16_finder_visit_b0, S_ref16_finder_visit_r8, S_ref16_finder_visit_r9, S_ref16_finder_visit_r10, S_ref16_finder_visit_b1, S_ref16_finder_visit_r11, S_ref16_finder_visit_b2, S_ref16_finder_visit, hE, fndH, fndB, mkO]
        exact GivesL.keepX rfl rfl rfl (by simp)
end
end Go.Proofs.Ythfcfmkdeheicaa
