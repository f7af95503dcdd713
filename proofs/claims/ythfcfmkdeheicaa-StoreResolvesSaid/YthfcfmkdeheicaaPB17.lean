import Derived.Test.YthfcfmkdeheicaaPB16
set_option linter.all false
set_option linter.all false
namespace Go.Proofs.Ythfcfmkdeheicaa
open Go.J
open Go.J.Enc (enc)
set_option maxRecDepth 100000
set_option maxHeartbeats 4000000
def argR (L : List Ty) (k : Nat) : J.Obj := .arr 5 0 (L.map encTy ++ List.replicate k zc) true false true
section
variable {ρ : Nat → Value} (hρ : J.Good ρ) {E : Env} (hE : E.P = Try.prog) (hcon : ConsOk ρ E)
include hρ hE hcon
theorem store_resolve_loop {d : Nat} (hc : E.con 73 = fnS (spec2 (resG d))) (hd : d ≤ 10000) {s : Store} (hs : s.tysOk) {u : Ty} (hu : u.ok = true) {M : List Ty} (hM : Rzs s.w u.args M) (hMd : Ty.sizes M ≤ d) {Q : Ex → PT V → HS → Prop}
    (hQ : Q (.exit 0) (mkP [(3, .ptr 1 0 0), (4, .ptr 2 0 0), (5, .own 3 0 0 M.length (some M.length))]) { H := mkP [(1, box (encTy u)), (2, retB), (3, argR M 0)], n := 4, log := [] }) :
    ∀ (n i : Nat) (L : List Ty), i + n = u.args.length → L = M.take i →
      LsN ρ E 0 37 S_store_resolve_l0 (LessQ 0 Q) (n + 1) (mkP [(22, .int .i64 (i : Int)), (21, .int .i64 (u.args.length : Int)), (20, .sl (u.args.map encTy) false), (5, .own 3 0 0 M.length (some M.length)), (2, .ptr 0 0 0), (3, .ptr 1 0 0), (4, .ptr 2 0 0)])
        { H := mkP [(0, box (encStore s)), (1, box (encTy u)), (2, retB), (3, argR L n)], n := 4, log := [] } := by
  intro n
  induction n with
  | zero =>
    intro i L hi hL
    have hil : ¬ (i : Int) < u.args.length := by omega
    have e : L = M := by rw [hL, List.take_of_length_le (by rw [← hM.sizes_pos]; omega)]
    subst e
    refine lp hρ hE hcon fun K hK => ?_
    simp [S_store_resolve_l0, S_store_resolve_r0, S_store_resolve_r1, S_store_resolve_r2, S_store_resolve_r3, S_store_resolve_r4, S_store_resolve_r5, S_store_resolve_r6, S_store_resolve_r7, S_store_resolve_b0, S_store_resolve_r8, S_store_resolve_b1, S_store_resolve_r9, S_store_resolve_r10, S_store_resolve, hE, hil]
    exact LessQ.mk (Less.keep 4 (by simp) (by simp [argR, retB]) rfl rfl) hQ
  | succ n ih =>
    intro i L hi hL
    have hil : i < u.args.length := by omega
    have hil' : (i : Int) < u.args.length := by omega
    have hlen := Ty.ok_len hu
    have hw : IntKind.i64.wrap ((i : Int) + 1) = ((i + 1 : Nat) : Int) := wrap_succ (by omega)
    have hm := List.getElem_mem hil
    have hx := Ty.ok_arg hu hm
    have hMl := hM.sizes_pos
    have hiM : i < M.length := by omega
    obtain ⟨y, hy, hys⟩ := hM.size_mem _ hm
    have hyM : M[i] = y := by
      have e := hM.map
      have : M[i] = full s.w u.args[i] := by simp [e]
      rw [this, full_of hy]
    have hnew : L ++ [y] = M.take (i + 1) := by rw [List.take_add_one, List.getElem?_eq_getElem hiM, hL, hyM]; rfl
    have hLi : i = L.length := by rw [hL, List.length_take]; omega
    have hF : resG d s u.args[i] = some y := by
      unfold resG
      rw [if_pos ⟨hs, hx, sz_fits.2 ⟨y, hy, by omega⟩⟩, full_of hy]
    have t1 := take_rep (n := n) hLi
    have t2 := set_rep (n := n) (y := y) hLi
    have hd1 : i * 5 / 5 = i := by omega
    have hd2 : i * 5 % 5 = 0 := by omega
    simp only [encTy_n, zc] at t1 t2
    generalize hX : u.args[i] = x at hF
    refine lp hρ hE hcon fun K hK => ?_
    simp [S_store_resolve_l0, S_store_resolve_r0, S_store_resolve_r1, S_store_resolve_r2, S_store_resolve_r3, S_store_resolve_r4, S_store_resolve_r5, S_store_resolve_r6, S_store_resolve_r7, S_store_resolve_b0, S_store_resolve_r8, S_store_resolve_b1, S_store_resolve_r9, S_store_resolve_r10, S_store_resolve, hE, hil, hil', hX, hc, hF, hw, argR, retB, zc, hiM, hd1, hd2, t1, t2, -Int.natCast_add]
    exact hK _ _ (LsN_less (Less.keep 4 (by simp [-Int.natCast_add]) (by simp [argR, retB, zc]) rfl rfl) (ih (i + 1) _ (by omega) hnew))
theorem store_resolve_run {d : Nat} (hc : E.con 73 = fnS (spec2 (resG d))) (hd : d ≤ 10000) (hw : E.con 36 = fnS (spec2 fun (s : Store) (t : Ty) => if s.slots.length ≤ 1000000 then some (s.w t) else none))
    {s : Store} {t r : Ty} (hR : resG (d + 1) s t = some r) (hs0 : HS) : CallOk ρ Try.prog 73 [enc s, enc t] hs0 (enc r) hs0 := by
  refine fn hρ hE hcon Try.func73 BS_store_resolve rfl (by simp) ?_ hs0
  unfold resG at hR
  split at hR
  case isFalse => cases hR
  rename_i hp
  obtain ⟨hs, ht, hsz⟩ := hp
  obtain ⟨q, hq, hqs⟩ := sz_fits.1 hsz
  rw [full_of hq] at hR
  cases hR
  obtain ⟨M, hM, rfl⟩ := Rz_iff.1 hq
  have hMd : Ty.sizes M ≤ d := by simp only [Ty.size_eq, Ty.args_mk] at hqs; omega
  have h1 : s.slots.length ≤ 1000000 := by have := hs.1; omega
  have hu : (s.w t).ok = true := Store.walkN_ok hs _ ht
  have hMl := hM.sizes_pos
  have hle := hM.len_le
  generalize hU : s.w t = u at hu hM hMl hle
  by_cases h0 : 0 < u.args.length
  · have h0' : (0 : Int) < u.args.length := by omega
    have r1 : u.args.length * 64 ≤ 1048576 := by omega
    have r2 : u.args.length * 5 ≤ 1048576 := by omega
    have hne : ¬ u.args = [] := by intro e; rw [e] at h0; cases h0
    simp [S_store_resolve_r0, S_store_resolve_r1, S_store_resolve_r2, S_store_resolve_r3, S_store_resolve_r4, S_store_resolve_r5, S_store_resolve_r6, S_store_resolve_r7, S_store_resolve_b0, S_store_resolve_r8, S_store_resolve_b1, S_store_resolve_r9, S_store_resolve_r10, S_store_resolve, hE, hw, h1, hU, h0, h0', r1, r2, hne]
    refine Ls_lessQ (Ls_loop (LsN_less (Less.lit (fun k => if k = 3 then 14 else k) 4 (TL := [(22, .int .i64 ((0 : Nat) : Int)), (21, .int .i64 (u.args.length : Int)), (20, .sl (u.args.map encTy) false), (5, .own 3 0 0 M.length (some M.length)), (2, .ptr 0 0 0), (3, .ptr 1 0 0), (4, .ptr 2 0 0)])
      (HL := [(0, box (encStore s)), (1, box (encTy u)), (2, retB), (3, argR [] u.args.length)]) (by simp [hMl]) (by simp [argR, retB, zc]) rfl rfl)
      (store_resolve_loop hρ hE hcon hc hd hs hu hM hMd ?_ u.args.length 0 [] (by omega) rfl)))
    simp [S_store_resolve_r0, S_store_resolve_r1, S_store_resolve_r2, S_store_resolve_r3, S_store_resolve_r4, S_store_resolve_r5, S_store_resolve_r6, S_store_resolve_r7, S_store_resolve_b0, S_store_resolve_r8, S_store_resolve_b1, S_store_resolve_r9, S_store_resolve_r10, S_store_resolve, hE, argR, retB]
  · have e : u.args = [] := List.eq_nil_of_length_eq_zero (by omega)
    obtain rfl : M = [] := List.eq_nil_of_length_eq_zero (by rw [← hMl, e]; rfl)
    simp [S_store_resolve_r0, S_store_resolve_r1, S_store_resolve_r2, S_store_resolve_r3, S_store_resolve_r4, S_store_resolve_r5, S_store_resolve_r6, S_store_resolve_r7, S_store_resolve_b0, S_store_resolve_r8, S_store_resolve_b1, S_store_resolve_r9, S_store_resolve_r10, S_store_resolve, hE, hw, h1, hU, e]
theorem store_Resolve_run (hS : E.con 38 = fnS (spec3 (szG 1000000))) (hr : E.con 73 = fnS (spec2 (resG 4000)))
    {s : Store} (hs : s.tysOk) {t : Ty} (ht : t.ok = true) (hs0 : HS) : CallOk ρ Try.prog 34 [enc s, enc t] hs0 (enc (resolveM s.w t)) hs0 := by
  refine fn hρ hE hcon Try.func34 BS_store_Resolve rfl (by simp) ?_ hs0
  have e : szG 1000000 s t 4000 = some ((sz s.w t 4000 : Nat) : Int) := by unfold szG; rw [if_pos ⟨hs, ht, by omega, by omega⟩]; rfl
  unfold resolveM
  by_cases h : sz s.w t 4000 ≤ 4000
  · have h' : ¬ (4000 : Int) < ((sz s.w t 4000 : Nat) : Int) := by omega
    have hF : resG 4000 s t = some (full s.w t) := by unfold resG; rw [if_pos ⟨hs, ht, h⟩]
    simp [S_store_Resolve_r0, S_store_Resolve_r1, S_store_Resolve_r2, S_store_Resolve_r3, S_store_Resolve, hE, hS, e, h, h', hr, hF]
  · have h' : (4000 : Int) < ((sz s.w t 4000 : Nat) : Int) := by omega
    simp [S_store_Resolve_r0, S_store_Resolve_r1, S_store_Resolve_r2, S_store_Resolve_r3, S_store_Resolve, hE, hS, e, h, h', ty0]
end
end Go.Proofs.Ythfcfmkdeheicaa
