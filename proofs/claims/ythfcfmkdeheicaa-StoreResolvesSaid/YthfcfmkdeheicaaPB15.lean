import Derived.Test.YthfcfmkdeheicaaPB14
set_option linter.all false
set_option linter.all false
namespace Go.Proofs.Ythfcfmkdeheicaa
open Go.J
open Go.J.Enc (enc)
set_option maxRecDepth 100000
set_option maxHeartbeats 4000000
noncomputable def resF (d : Nat) (s : Store) (t : Ty) : Option Ty := if s.tysOk ∧ t.ok = true ∧ sz s.w16 t d ≤ d then some (full s.w16 t) else none
/-- a type that is being put together: its arguments lie in row r -/
def outB (r : Nat) (u : Ty) (L : List Ty) : J.Obj := .arr 5 0 [[.int .i64 u.kind, .str u.name, .int .i64 u.id, .int .i64 u.home, oV r (L.map encTy)]] true false false
def retB : J.Obj := .arr 5 0 [[.int .i64 0, .str [], .int .i64 0, .int .i64 0, .snil]] true false false
section
variable {ρ : Nat → Value} (hρ : J.Good ρ) {E : Env} (hE : E.P = Try.prog) (hcon : ConsOk ρ E)
include hρ hE hcon
theorem ref16_resolve_loop {d : Nat} (hc : E.con 74 = fnS (spec2 (resF d))) (hd : d ≤ 10000) {s : Store} (hs : s.tysOk) {u : Ty} (hu : u.ok = true) {M : List Ty} (hM : Rzs s.w16 u.args M) (hMd : Ty.sizes M ≤ d) {Q : Ex → PT V → HS → Prop}
    (hQ : Q (.exit 0) (mkP [(5, .ptr 3 0 0), (4, .ptr 2 0 0)]) { H := mkP ([(2, retB), (3, outB 4 u M)] ++ oH 4 5 (M.map encTy)), n := 5, log := [] }) :
    ∀ (n i : Nat) (L : List Ty), i + n = u.args.length → L = M.take i →
      LsN ρ E 0 32 S_ref16_resolve_l0 (LessQ 0 Q) (n + 1) (mkP [(6, .int .i64 (i : Int)), (3, .ptr 1 0 0), (5, .ptr 3 0 0), (4, .ptr 2 0 0), (2, .ptr 0 0 0)])
        { H := mkP ([(0, box (encStore s)), (1, box (encTy u)), (2, retB), (3, outB 4 u L)] ++ oH 4 5 (L.map encTy)), n := 5, log := [] } := by
  intro n
  induction n with
  | zero =>
    intro i L hi hL
    have hil : ¬ (i : Int) < u.args.length := by omega
    have e : L = M := by rw [hL, List.take_of_length_le (by rw [← hM.sizes_pos]; omega)]
    subst e
    refine lp hρ hE hcon fun K hK => ?_
    rcases L with _ | ⟨x, L⟩ <;> simp [S_ref16_resolve_l0, S_ref16_resolve_r0, S_ref16_resolve_r1, S_ref16_resolve_r2, S_ref16_resolve_r3, S_ref16_resolve_r4, S_ref16_resolve_r5, S_ref16_resolve_r6, S_ref16_resolve_b0, S_ref16_resolve_r7, S_ref16_resolve_b1, S_ref16_resolve_r8, S_ref16_resolve, hE, hil, outB, retB] <;> exact LessQ.mk (Less.keep 5 (by simp) (by simp [outB, retB]) rfl rfl) hQ
  | succ n ih =>
    intro i L hi hL
    have hil : i < u.args.length := by omega
    have hil' : (i : Int) < u.args.length := by omega
    have hlen := Ty.ok_len hu
    have hw : IntKind.i64.wrap ((i : Int) + 1) = ((i + 1 : Nat) : Int) := wrap_succ (by omega)
    have hm := List.getElem_mem hil
    have hx := Ty.ok_arg hu hm
    have hMl := hM.sizes_pos
    have hiM : i < M.length := by omega
    obtain ⟨y, hy, hys⟩ := hM.size_mem _ hm
    have hyM : M[i] = y := by
      have e := hM.map
      have : M[i] = full s.w16 u.args[i] := by simp [e]
      rw [this, full_of hy]
    have hnew : L ++ [y] = M.take (i + 1) := by rw [List.take_add_one, List.getElem?_eq_getElem hiM, hL, hyM]; rfl
    have hLl : L.length ≤ 10000 := by rw [hL, List.length_take]; omega
    have hF : resF d s u.args[i] = some y := by
      unfold resF
      rw [if_pos ⟨hs, hx, sz_fits.2 ⟨y, hy, by omega⟩⟩, full_of hy]
    generalize hX : u.args[i] = x at hF
    refine lp hρ hE hcon fun K hK => ?_
    rcases L with _ | ⟨z, L⟩
    · simp [S_ref16_resolve_l0, S_ref16_resolve_r0, S_ref16_resolve_r1, S_ref16_resolve_r2, S_ref16_resolve_r3, S_ref16_resolve_r4, S_ref16_resolve_r5, S_ref16_resolve_r6, S_ref16_resolve_b0, S_ref16_resolve_r7, S_ref16_resolve_b1, S_ref16_resolve_r8, S_ref16_resolve, hE, hil, hil', hX, hc, hF, hw, outB, retB, -Int.natCast_add]
      exact hK _ _ (LsN_less (Less.lit (fun k => if k = 4 then 20 else k) 5 (by simp [-Int.natCast_add]) (by simp [outB, retB]) rfl rfl) (ih (i + 1) _ (by omega) hnew))
    · have hLl2 : L.length + 1 ≤ 10000 := by simpa using hLl
      have h64 : (L.length + 1 + 1) * 64 ≤ 1048576 := by omega
      simp [S_ref16_resolve_l0, S_ref16_resolve_r0, S_ref16_resolve_r1, S_ref16_resolve_r2, S_ref16_resolve_r3, S_ref16_resolve_r4, S_ref16_resolve_r5, S_ref16_resolve_r6, S_ref16_resolve_b0, S_ref16_resolve_r7, S_ref16_resolve_b1, S_ref16_resolve_r8, S_ref16_resolve, hE, hil, hil', hX, hc, hF, hw, outB, retB, h64, Nat.not_succ_le_self, -Int.natCast_add]
      exact hK _ _ (LsN_less (Less.keep 5 (by simp [-Int.natCast_add]) (by simp [outB, retB]) rfl rfl) (ih (i + 1) _ (by omega) hnew))
theorem ref16_resolve_run {d : Nat} (hc : E.con 74 = fnS (spec2 (resF d))) (hd : d ≤ 10000) (hw : E.con 37 = fnS (spec2 fun (s : Store) (t : Ty) => if s.slots.length ≤ 1000000 then some (s.w16 t) else none))
    {s : Store} {t r : Ty} (hR : resF (d + 1) s t = some r) (hs0 : HS) : CallOk ρ Try.prog 74 [enc s, enc t] hs0 (enc r) hs0 := by
  refine fn hρ hE hcon Try.func74 BS_ref16_resolve rfl (by simp) ?_ hs0
  unfold resF at hR
  split at hR
  case isFalse => cases hR
  rename_i hp
  obtain ⟨hs, ht, hsz⟩ := hp
  obtain ⟨q, hq, hqs⟩ := sz_fits.1 hsz
  rw [full_of hq] at hR
  cases hR
  obtain ⟨M, hM, rfl⟩ := Rz_iff.1 hq
  have hMd : Ty.sizes M ≤ d := by simp only [Ty.size_eq, Ty.args_mk] at hqs; omega
  have h1 : s.slots.length ≤ 1000000 := by have := hs.1; omega
  have hu : (s.w16 t).ok = true := Store.walkN_ok hs _ ht
  generalize hU : s.w16 t = u at hu hM
  simp [S_ref16_resolve_r0, S_ref16_resolve_r1, S_ref16_resolve_r2, S_ref16_resolve_r3, S_ref16_resolve_r4, S_ref16_resolve_r5, S_ref16_resolve_r6, S_ref16_resolve_b0, S_ref16_resolve_r7, S_ref16_resolve_b1, S_ref16_resolve_r8, S_ref16_resolve, hE, hw, h1, hU]
  refine Ls_lessQ (Ls_loop (LsN_less (Less.lit (fun k => if k = 3 then 8 else k) 5 (TL := [(6, .int .i64 ((0 : Nat) : Int)), (3, .ptr 1 0 0), (5, .ptr 3 0 0), (4, .ptr 2 0 0), (2, .ptr 0 0 0)])
    (HL := [(0, box (encStore s)), (1, box (encTy u)), (2, retB), (3, outB 4 u [])] ++ oH 4 5 (([] : List Ty).map encTy)) (by simp) (by simp [outB, retB]) rfl rfl)
    (ref16_resolve_loop hρ hE hcon hc hd hs hu hM hMd ?_ u.args.length 0 [] (by omega) rfl)))
  rcases M with _ | ⟨x, M⟩ <;> simp [S_ref16_resolve_r0, S_ref16_resolve_r1, S_ref16_resolve_r2, S_ref16_resolve_r3, S_ref16_resolve_r4, S_ref16_resolve_r5, S_ref16_resolve_r6, S_ref16_resolve_b0, S_ref16_resolve_r7, S_ref16_resolve_b1, S_ref16_resolve_r8, S_ref16_resolve, hE, outB, retB]
end
end Go.Proofs.Ythfcfmkdeheicaa
