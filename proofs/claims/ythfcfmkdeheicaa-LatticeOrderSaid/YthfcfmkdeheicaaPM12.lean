import Derived.Test.YthfcfmkdeheicaaPM11
set_option linter.all false
/- The law LatticeOrder: what its function computes. -/
set_option linter.all false
namespace Go.Proofs.Ythfcfmkdeheicaa
open Go.J
open Go.J.Enc (enc)
set_option maxRecDepth 100000
set_option maxHeartbeats 1000000
section
variable {ρ : Nat → Value} (hρ : J.Good ρ) {E : Env} (hE : E.P = Try.prog) (hcon : ConsOk ρ E)
include hρ hE hcon
theorem LO_in (hq : E.con 54 = leqS) {a b c : Ty} {L : List Ty} (h5 : L.length = 5) (hL : ∀ t ∈ L, Nc 100 t) {i k : Nat} (hi : i < 5) (hk : k < 5) {Q : Ex → PT V → HS → Prop} {T : PT V} {hs : HS}
    (hQ : Q (.exit 4) (mkP [(5, .ptr 0 0 0), (6, .ptr 1 0 0), (10, .ptr 2 0 0), (13, .sl (L.map encTy) true), (14, .int .i64 (i : Int)), (15, .int .i64 (k : Int))]) { H := mkP [(0, box (encTy a)), (1, box (encTy b)), (2, box (encTy c))], n := 3, log := [] })
    (h0 : Less 0 T hs (mkP [(5, .ptr 0 0 0), (6, .ptr 1 0 0), (10, .ptr 2 0 0), (13, .sl (L.map encTy) true), (14, .int .i64 (i : Int)), (15, .int .i64 (k : Int)), (16, .int .i64 ((0 : Nat) : Int))]) { H := mkP [(0, box (encTy a)), (1, box (encTy b)), (2, box (encTy c))], n := 3, log := [] }) :
    Ls ρ E 0 139 (.loop S_law15_LatticeOrder_l0) T hs Q := by
  refine lpi hρ hE hcon 5 (nn := 3) (fun j (_ : Unit) => [(5, .ptr 0 0 0), (6, .ptr 1 0 0), (10, .ptr 2 0 0), (13, .sl (L.map encTy) true), (14, .int .i64 (i : Int)), (15, .int .i64 (k : Int)), (16, .int .i64 (j : Int))]) (fun _ _ => [(0, box (encTy a)), (1, box (encTy b)), (2, box (encTy c))]) (fun _ _ => True) () h0 trivial ?_ ?_
  · intro _ _ K
    simp [S_law15_LatticeOrder_l0, S_law15_LatticeOrder_r0, S_law15_LatticeOrder_r1, S_law15_LatticeOrder_r2, S_law15_LatticeOrder_r3, S_law15_LatticeOrder_r4, S_law15_LatticeOrder_r5, S_law15_LatticeOrder_r6, S_law15_LatticeOrder_r7, S_law15_LatticeOrder_r8, S_law15_LatticeOrder_r9, S_law15_LatticeOrder_r10, S_law15_LatticeOrder_r11, S_law15_LatticeOrder_r12, S_law15_LatticeOrder_r13, S_law15_LatticeOrder_r14, S_law15_LatticeOrder_r15, S_law15_LatticeOrder_r16, S_law15_LatticeOrder_r17, S_law15_LatticeOrder_r18, S_law15_LatticeOrder_r19, S_law15_LatticeOrder_r20, S_law15_LatticeOrder_b0, S_law15_LatticeOrder_r21, S_law15_LatticeOrder_b1, S_law15_LatticeOrder_b2, S_law15_LatticeOrder_r22, S_law15_LatticeOrder_b3, S_law15_LatticeOrder_b4, S_law15_LatticeOrder_r23, S_law15_LatticeOrder_b5, S_law15_LatticeOrder_r24, S_law15_LatticeOrder, hE, h5]
    exact LessQ.mk (Less.auto (n := 3) (by simp) (by simp) rfl rfl) hQ
  · intro j _ hj _ K hK
    have hnew := hK () trivial
    have hi5 : i < L.length := by omega
    have hk5 : k < L.length := by omega
    have hj5 : j < L.length := by omega
    have hi' : (i : Int) < 5 := by omega
    have hk' : (k : Int) < 5 := by omega
    have hj' : (j : Int) < 5 := by omega
    have hw2 : IntKind.i64.wrap ((j : Int) + 1) = ((j + 1 : Nat) : Int) := wrap_succ (by omega)
    have ni := hL _ (List.getElem_mem hi5)
    have nk := hL _ (List.getElem_mem hk5)
    have nj := hL _ (List.getElem_mem hj5)
    have f1 : leqF L[i] L[k] = some (leqM L[i] L[k]) := if_pos ⟨nk.pl, nk.ok, ni.ok, by have := nk.sz; omega⟩
    have f2 : leqF L[k] L[j] = some (leqM L[k] L[j]) := if_pos ⟨nj.pl, nj.ok, nk.ok, by have := nj.sz; omega⟩
    have f3 : leqF L[i] L[j] = some (leqM L[i] L[j]) := if_pos ⟨nj.pl, nj.ok, ni.ok, by have := nj.sz; omega⟩
    have htr : leqM L[i] L[k] = true → leqM L[k] L[j] = true → leqM L[i] L[j] = true := fun h1 h2 => leq_trans nk.pl nj.pl h1 h2
    have mi5 : i * 5 / 5 = i := by omega
    have mi6 : i * 5 % 5 = 0 := by omega
    have mk5 : k * 5 / 5 = k := by omega
    have mk6 : k * 5 % 5 = 0 := by omega
    have mj5 : j * 5 / 5 = j := by omega
    have mj6 : j * 5 % 5 = 0 := by omega
    generalize hti : L[i] = ti at f1 f3 htr
    generalize htk : L[k] = tk at f1 f2 htr
    generalize htj : L[j] = tj at f2 f3 htr
    cases p1 : leqM ti tk with
    | false =>
      rw [p1] at f1
      simp [S_law15_LatticeOrder_l0, S_law15_LatticeOrder_r0, S_law15_LatticeOrder_r1, S_law15_LatticeOrder_r2, S_law15_LatticeOrder_r3, S_law15_LatticeOrder_r4, S_law15_LatticeOrder_r5, S_law15_LatticeOrder_r6, S_law15_LatticeOrder_r7, S_law15_LatticeOrder_r8, S_law15_LatticeOrder_r9, S_law15_LatticeOrder_r10, S_law15_LatticeOrder_r11, S_law15_LatticeOrder_r12, S_law15_LatticeOrder_r13, S_law15_LatticeOrder_r14, S_law15_LatticeOrder_r15, S_law15_LatticeOrder_r16, S_law15_LatticeOrder_r17, S_law15_LatticeOrder_r18, S_law15_LatticeOrder_r19, S_law15_LatticeOrder_r20, S_law15_LatticeOrder_b0, S_law15_LatticeOrder_r21, S_law15_LatticeOrder_b1, S_law15_LatticeOrder_b2, S_law15_LatticeOrder_r22, S_law15_LatticeOrder_b3, S_law15_LatticeOrder_b4, S_law15_LatticeOrder_r23, S_law15_LatticeOrder_b5, S_law15_LatticeOrder_r24, S_law15_LatticeOrder, hE, h5, hi5, hk5, hj5, hi, hk, hj, hi', hk', hj', hti, htk, htj, mi5, mi6, mk5, mk6, mj5, mj6, hq, leqS, f1, hw2, -Int.natCast_add]
      exact hnew _ _ (Less.auto (by simp [-Int.natCast_add]) (by simp) rfl rfl)
    | true =>
      rw [p1] at f1
      cases p2 : leqM tk tj with
      | false =>
        rw [p2] at f2
        simp [S_law15_LatticeOrder_l0, S_law15_LatticeOrder_r0, S_law15_LatticeOrder_r1, S_law15_LatticeOrder_r2, S_law15_LatticeOrder_r3, S_law15_LatticeOrder_r4, S_law15_LatticeOrder_r5, S_law15_LatticeOrder_r6, S_law15_LatticeOrder_r7, S_law15_LatticeOrder_r8, S_law15_LatticeOrder_r9, S_law15_LatticeOrder_r10, S_law15_LatticeOrder_r11, S_law15_LatticeOrder_r12, S_law15_LatticeOrder_r13, S_law15_LatticeOrder_r14, S_law15_LatticeOrder_r15, S_law15_LatticeOrder_r16, S_law15_LatticeOrder_r17, S_law15_LatticeOrder_r18, S_law15_LatticeOrder_r19, S_law15_LatticeOrder_r20, S_law15_LatticeOrder_b0, S_law15_LatticeOrder_r21, S_law15_LatticeOrder_b1, S_law15_LatticeOrder_b2, S_law15_LatticeOrder_r22, S_law15_LatticeOrder_b3, S_law15_LatticeOrder_b4, S_law15_LatticeOrder_r23, S_law15_LatticeOrder_b5, S_law15_LatticeOrder_r24, S_law15_LatticeOrder, hE, h5, hi5, hk5, hj5, hi, hk, hj, hi', hk', hj', hti, htk, htj, mi5, mi6, mk5, mk6, mj5, mj6, hq, leqS, f1, f2, hw2, -Int.natCast_add]
        exact hnew _ _ (Less.auto (by simp [-Int.natCast_add]) (by simp) rfl rfl)
      | true =>
        rw [p2] at f2
        rw [htr p1 p2] at f3
        simp [S_law15_LatticeOrder_l0, S_law15_LatticeOrder_r0, S_law15_LatticeOrder_r1, S_law15_LatticeOrder_r2, S_law15_LatticeOrder_r3, S_law15_LatticeOrder_r4, S_law15_LatticeOrder_r5, S_law15_LatticeOrder_r6, S_law15_LatticeOrder_r7, S_law15_LatticeOrder_r8, S_law15_LatticeOrder_r9, S_law15_LatticeOrder_r10, S_law15_LatticeOrder_r11, S_law15_LatticeOrder_r12, S_law15_LatticeOrder_r13, S_law15_LatticeOrder_r14, S_law15_LatticeOrder_r15, S_law15_LatticeOrder_r16, S_law15_LatticeOrder_r17, S_law15_LatticeOrder_r18, S_law15_LatticeOrder_r19, S_law15_LatticeOrder_r20, S_law15_LatticeOrder_b0, S_law15_LatticeOrder_r21, S_law15_LatticeOrder_b1, S_law15_LatticeOrder_b2, S_law15_LatticeOrder_r22, S_law15_LatticeOrder_b3, S_law15_LatticeOrder_b4, S_law15_LatticeOrder_r23, S_law15_LatticeOrder_b5, S_law15_LatticeOrder_r24, S_law15_LatticeOrder, hE, h5, hi5, hk5, hj5, hi, hk, hj, hi', hk', hj', hti, htk, htj, mi5, mi6, mk5, mk6, mj5, mj6, hq, leqS, f1, f2, f3, hw2, -Int.natCast_add]
        exact hnew _ _ (Less.auto (by simp [-Int.natCast_add]) (by simp) rfl rfl)
theorem LO_mid (hq : E.con 54 = leqS) {a b c : Ty} {L : List Ty} (h5 : L.length = 5) (hL : ∀ t ∈ L, Nc 100 t) {i : Nat} (hi : i < 5) {Q : Ex → PT V → HS → Prop} {T : PT V} {hs : HS}
    (hQ : Q (.exit 2) (mkP [(5, .ptr 0 0 0), (6, .ptr 1 0 0), (10, .ptr 2 0 0), (13, .sl (L.map encTy) true), (14, .int .i64 (i : Int))]) { H := mkP [(0, box (encTy a)), (1, box (encTy b)), (2, box (encTy c))], n := 3, log := [] })
    (h0 : Less 0 T hs (mkP [(5, .ptr 0 0 0), (6, .ptr 1 0 0), (10, .ptr 2 0 0), (13, .sl (L.map encTy) true), (14, .int .i64 (i : Int)), (15, .int .i64 ((0 : Nat) : Int))]) { H := mkP [(0, box (encTy a)), (1, box (encTy b)), (2, box (encTy c))], n := 3, log := [] }) :
    Ls ρ E 0 139 (.loop S_law15_LatticeOrder_l1) T hs Q := by
  refine lpi hρ hE hcon 5 (nn := 3) (fun k (_ : Unit) => [(5, .ptr 0 0 0), (6, .ptr 1 0 0), (10, .ptr 2 0 0), (13, .sl (L.map encTy) true), (14, .int .i64 (i : Int)), (15, .int .i64 (k : Int))]) (fun _ _ => [(0, box (encTy a)), (1, box (encTy b)), (2, box (encTy c))]) (fun _ _ => True) () h0 trivial ?_ ?_
  · intro _ _ K
    simp [S_law15_LatticeOrder_l1, S_law15_LatticeOrder_r0, S_law15_LatticeOrder_r1, S_law15_LatticeOrder_r2, S_law15_LatticeOrder_r3, S_law15_LatticeOrder_r4, S_law15_LatticeOrder_r5, S_law15_LatticeOrder_r6, S_law15_LatticeOrder_r7, S_law15_LatticeOrder_r8, S_law15_LatticeOrder_r9, S_law15_LatticeOrder_r10, S_law15_LatticeOrder_r11, S_law15_LatticeOrder_r12, S_law15_LatticeOrder_r13, S_law15_LatticeOrder_r14, S_law15_LatticeOrder_r15, S_law15_LatticeOrder_r16, S_law15_LatticeOrder_r17, S_law15_LatticeOrder_r18, S_law15_LatticeOrder_r19, S_law15_LatticeOrder_r20, S_law15_LatticeOrder_b0, S_law15_LatticeOrder_r21, S_law15_LatticeOrder_b1, S_law15_LatticeOrder_b2, S_law15_LatticeOrder_r22, S_law15_LatticeOrder_b3, S_law15_LatticeOrder_b4, S_law15_LatticeOrder_r23, S_law15_LatticeOrder_b5, S_law15_LatticeOrder_r24, S_law15_LatticeOrder, hE, h5]
    exact LessQ.mk (Less.auto (n := 3) (by simp) (by simp) rfl rfl) hQ
  · intro k _ hk _ K hK
    have hnew := hK () trivial
    have hk' : (k : Int) < 5 := by omega
    have hw2 : IntKind.i64.wrap ((k : Int) + 1) = ((k + 1 : Nat) : Int) := wrap_succ (by omega)
    simp [S_law15_LatticeOrder_l1, S_law15_LatticeOrder_r0, S_law15_LatticeOrder_r1, S_law15_LatticeOrder_r2, S_law15_LatticeOrder_r3, S_law15_LatticeOrder_r4, S_law15_LatticeOrder_r5, S_law15_LatticeOrder_r6, S_law15_LatticeOrder_r7, S_law15_LatticeOrder_r8, S_law15_LatticeOrder_r9, S_law15_LatticeOrder_r10, S_law15_LatticeOrder_r11, S_law15_LatticeOrder_r12, S_law15_LatticeOrder_r13, S_law15_LatticeOrder_r14, S_law15_LatticeOrder_r15, S_law15_LatticeOrder_r16, S_law15_LatticeOrder_r17, S_law15_LatticeOrder_r18, S_law15_LatticeOrder_r19, S_law15_LatticeOrder_r20, S_law15_LatticeOrder_b0, S_law15_LatticeOrder_r21, S_law15_LatticeOrder_b1, S_law15_LatticeOrder_b2, S_law15_LatticeOrder_r22, S_law15_LatticeOrder_b3, S_law15_LatticeOrder_b4, S_law15_LatticeOrder_r23, S_law15_LatticeOrder_b5, S_law15_LatticeOrder_r24, S_law15_LatticeOrder, hE, h5, hk, hk', -Int.natCast_add]
    refine LO_in (a := a) (b := b) (c := c) hρ hE hcon hq h5 hL hi hk ?_ (Less.auto (by simp) (by simp) rfl rfl)
    simp [S_law15_LatticeOrder_r0, S_law15_LatticeOrder_r1, S_law15_LatticeOrder_r2, S_law15_LatticeOrder_r3, S_law15_LatticeOrder_r4, S_law15_LatticeOrder_r5, S_law15_LatticeOrder_r6, S_law15_LatticeOrder_r7, S_law15_LatticeOrder_r8, S_law15_LatticeOrder_r9, S_law15_LatticeOrder_r10, S_law15_LatticeOrder_r11, S_law15_LatticeOrder_r12, S_law15_LatticeOrder_r13, S_law15_LatticeOrder_r14, S_law15_LatticeOrder_r15, S_law15_LatticeOrder_r16, S_law15_LatticeOrder_r17, S_law15_LatticeOrder_r18, S_law15_LatticeOrder_r19, S_law15_LatticeOrder_r20, S_law15_LatticeOrder_b0, S_law15_LatticeOrder_r21, S_law15_LatticeOrder_b1, S_law15_LatticeOrder_b2, S_law15_LatticeOrder_r22, S_law15_LatticeOrder_b3, S_law15_LatticeOrder_b4, S_law15_LatticeOrder_r23, S_law15_LatticeOrder_b5, S_law15_LatticeOrder_r24, S_law15_LatticeOrder, hE, hw2, -Int.natCast_add]
    exact hnew _ _ (Less.auto (by simp [-Int.natCast_add]) (by simp) rfl rfl)
theorem LO_out (hq : E.con 54 = leqS) {a b c : Ty} {L : List Ty} (h5 : L.length = 5) (hL : ∀ t ∈ L, Nc 100 t) (ha : Nc 100 a) (hb : Nc 100 b) (hc : Nc 100 c) (hleast : ∀ t ∈ L, leqM a t = true → leqM b t = true → leqM c t = true) {Q : Ex → PT V → HS → Prop} {T : PT V} {hs : HS}
    (hQ : Q (.exit 0) (mkP [(5, .ptr 0 0 0), (6, .ptr 1 0 0), (10, .ptr 2 0 0)]) { H := mkP [(0, box (encTy a)), (1, box (encTy b)), (2, box (encTy c))], n := 3, log := [] })
    (h0 : Less 0 T hs (mkP [(5, .ptr 0 0 0), (6, .ptr 1 0 0), (10, .ptr 2 0 0), (13, .sl (L.map encTy) true), (14, .int .i64 ((0 : Nat) : Int))]) { H := mkP [(0, box (encTy a)), (1, box (encTy b)), (2, box (encTy c))], n := 3, log := [] }) :
    Ls ρ E 0 139 (.loop S_law15_LatticeOrder_l2) T hs Q := by
  refine lpi hρ hE hcon 5 (nn := 3) (fun i (_ : Unit) => [(5, .ptr 0 0 0), (6, .ptr 1 0 0), (10, .ptr 2 0 0), (13, .sl (L.map encTy) true), (14, .int .i64 (i : Int))]) (fun _ _ => [(0, box (encTy a)), (1, box (encTy b)), (2, box (encTy c))]) (fun _ _ => True) () h0 trivial ?_ ?_
  · intro _ _ K
    simp [S_law15_LatticeOrder_l2, S_law15_LatticeOrder_r0, S_law15_LatticeOrder_r1, S_law15_LatticeOrder_r2, S_law15_LatticeOrder_r3, S_law15_LatticeOrder_r4, S_law15_LatticeOrder_r5, S_law15_LatticeOrder_r6, S_law15_LatticeOrder_r7, S_law15_LatticeOrder_r8, S_law15_LatticeOrder_r9, S_law15_LatticeOrder_r10, S_law15_LatticeOrder_r11, S_law15_LatticeOrder_r12, S_law15_LatticeOrder_r13, S_law15_LatticeOrder_r14, S_law15_LatticeOrder_r15, S_law15_LatticeOrder_r16, S_law15_LatticeOrder_r17, S_law15_LatticeOrder_r18, S_law15_LatticeOrder_r19, S_law15_LatticeOrder_r20, S_law15_LatticeOrder_b0, S_law15_LatticeOrder_r21, S_law15_LatticeOrder_b1, S_law15_LatticeOrder_b2, S_law15_LatticeOrder_r22, S_law15_LatticeOrder_b3, S_law15_LatticeOrder_b4, S_law15_LatticeOrder_r23, S_law15_LatticeOrder_b5, S_law15_LatticeOrder_r24, S_law15_LatticeOrder, hE, h5]
    exact LessQ.mk (Less.auto (n := 3) (by simp) (by simp) rfl rfl) hQ
  · intro i _ hi _ K hK
    have hnew := hK () trivial
    have hi5 : i < L.length := by omega
    have hi' : (i : Int) < 5 := by omega
    have hw2 : IntKind.i64.wrap ((i : Int) + 1) = ((i + 1 : Nat) : Int) := wrap_succ (by omega)
    have hmem := List.getElem_mem hi5
    have ni := hL _ hmem
    have hls := hleast _ hmem
    have f0 : leqF L[i] L[i] = some true := by rw [← leq_refl ni.pl]; exact if_pos ⟨ni.pl, ni.ok, ni.ok, by have := ni.sz; omega⟩
    have f1 : leqF a L[i] = some (leqM a L[i]) := if_pos ⟨ni.pl, ni.ok, ha.ok, by have := ni.sz; omega⟩
    have f2 : leqF b L[i] = some (leqM b L[i]) := if_pos ⟨ni.pl, ni.ok, hb.ok, by have := ni.sz; omega⟩
    have f3 : leqF c L[i] = some (leqM c L[i]) := if_pos ⟨ni.pl, ni.ok, hc.ok, by have := ni.sz; omega⟩
    have mi5 : i * 5 / 5 = i := by omega
    have mi6 : i * 5 % 5 = 0 := by omega
    have hmid := fun (T : PT V) (hs : HS) (Q : Ex → PT V → HS → Prop) (hQ) (h0) => LO_mid (a := a) (b := b) (c := c) (T := T) (hs := hs) (Q := Q) hρ hE hcon hq h5 hL hi hQ h0
    generalize hti : L[i] = ti at f0 f1 f2 f3 hls
    obtain ⟨tk, tn, tid, th, ta⟩ := ti
    cases p1 : leqM a ⟨tk, tn, tid, th, ta⟩ with
    | false =>
      rw [p1] at f1
      simp [S_law15_LatticeOrder_l2, S_law15_LatticeOrder_r0, S_law15_LatticeOrder_r1, S_law15_LatticeOrder_r2, S_law15_LatticeOrder_r3, S_law15_LatticeOrder_r4, S_law15_LatticeOrder_r5, S_law15_LatticeOrder_r6, S_law15_LatticeOrder_r7, S_law15_LatticeOrder_r8, S_law15_LatticeOrder_r9, S_law15_LatticeOrder_r10, S_law15_LatticeOrder_r11, S_law15_LatticeOrder_r12, S_law15_LatticeOrder_r13, S_law15_LatticeOrder_r14, S_law15_LatticeOrder_r15, S_law15_LatticeOrder_r16, S_law15_LatticeOrder_r17, S_law15_LatticeOrder_r18, S_law15_LatticeOrder_r19, S_law15_LatticeOrder_r20, S_law15_LatticeOrder_b0, S_law15_LatticeOrder_r21, S_law15_LatticeOrder_b1, S_law15_LatticeOrder_b2, S_law15_LatticeOrder_r22, S_law15_LatticeOrder_b3, S_law15_LatticeOrder_b4, S_law15_LatticeOrder_r23, S_law15_LatticeOrder_b5, S_law15_LatticeOrder_r24, S_law15_LatticeOrder, hE, h5, hi5, hi, hi', hti, mi5, mi6, hq, leqS, f0, f1, -Int.natCast_add]
      refine hmid _ _ _ ?_ (Less.auto (by simp) (by simp) rfl rfl)
      simp [S_law15_LatticeOrder_r0, S_law15_LatticeOrder_r1, S_law15_LatticeOrder_r2, S_law15_LatticeOrder_r3, S_law15_LatticeOrder_r4, S_law15_LatticeOrder_r5, S_law15_LatticeOrder_r6, S_law15_LatticeOrder_r7, S_law15_LatticeOrder_r8, S_law15_LatticeOrder_r9, S_law15_LatticeOrder_r10, S_law15_LatticeOrder_r11, S_law15_LatticeOrder_r12, S_law15_LatticeOrder_r13, S_law15_LatticeOrder_r14, S_law15_LatticeOrder_r15, S_law15_LatticeOrder_r16, S_law15_LatticeOrder_r17, S_law15_LatticeOrder_r18, S_law15_LatticeOrder_r19, S_law15_LatticeOrder_r20, S_law15_LatticeOrder_b0, S_law15_LatticeOrder_r21, S_law15_LatticeOrder_b1, S_law15_LatticeOrder_b2, S_law15_LatticeOrder_r22, S_law15_LatticeOrder_b3, S_law15_LatticeOrder_b4, S_law15_LatticeOrder_r23, S_law15_LatticeOrder_b5, S_law15_LatticeOrder_r24, S_law15_LatticeOrder, hE, hw2, -Int.natCast_add]
      exact hnew _ _ (Less.auto (by simp [-Int.natCast_add]) (by simp) rfl rfl)
    | true =>
      rw [p1] at f1
      cases p2 : leqM b ⟨tk, tn, tid, th, ta⟩ with
      | false =>
        rw [p2] at f2
        simp [S_law15_LatticeOrder_l2, S_law15_LatticeOrder_r0, S_law15_LatticeOrder_r1, S_law15_LatticeOrder_r2, S_law15_LatticeOrder_r3, S_law15_LatticeOrder_r4, S_law15_LatticeOrder_r5, S_law15_LatticeOrder_r6, S_law15_LatticeOrder_r7, S_law15_LatticeOrder_r8, S_law15_LatticeOrder_r9, S_law15_LatticeOrder_r10, S_law15_LatticeOrder_r11, S_law15_LatticeOrder_r12, S_law15_LatticeOrder_r13, S_law15_LatticeOrder_r14, S_law15_LatticeOrder_r15, S_law15_LatticeOrder_r16, S_law15_LatticeOrder_r17, S_law15_LatticeOrder_r18, S_law15_LatticeOrder_r19, S_law15_LatticeOrder_r20, S_law15_LatticeOrder_b0, S_law15_LatticeOrder_r21, S_law15_LatticeOrder_b1, S_law15_LatticeOrder_b2, S_law15_LatticeOrder_r22, S_law15_LatticeOrder_b3, S_law15_LatticeOrder_b4, S_law15_LatticeOrder_r23, S_law15_LatticeOrder_b5, S_law15_LatticeOrder_r24, S_law15_LatticeOrder, hE, h5, hi5, hi, hi', hti, mi5, mi6, hq, leqS, f0, f1, f2, -Int.natCast_add]
        refine hmid _ _ _ ?_ (Less.auto (by simp) (by simp) rfl rfl)
        simp [S_law15_LatticeOrder_r0, S_law15_LatticeOrder_r1, S_law15_LatticeOrder_r2, S_law15_LatticeOrder_r3, S_law15_LatticeOrder_r4, S_law15_LatticeOrder_r5, S_law15_LatticeOrder_r6, S_law15_LatticeOrder_r7, S_law15_LatticeOrder_r8, S_law15_LatticeOrder_r9, S_law15_LatticeOrder_r10, S_law15_LatticeOrder_r11, S_law15_LatticeOrder_r12, S_law15_LatticeOrder_r13, S_law15_LatticeOrder_r14, S_law15_LatticeOrder_r15, S_law15_LatticeOrder_r16, S_law15_LatticeOrder_r17, S_law15_LatticeOrder_r18, S_law15_LatticeOrder_r19, S_law15_LatticeOrder_r20, S_law15_LatticeOrder_b0, S_law15_LatticeOrder_r21, S_law15_LatticeOrder_b1, S_law15_LatticeOrder_b2, S_law15_LatticeOrder_r22, S_law15_LatticeOrder_b3, S_law15_LatticeOrder_b4, S_law15_LatticeOrder_r23, S_law15_LatticeOrder_b5, S_law15_LatticeOrder_r24, S_law15_LatticeOrder, hE, hw2, -Int.natCast_add]
        exact hnew _ _ (Less.auto (by simp [-Int.natCast_add]) (by simp) rfl rfl)
      | true =>
        rw [p2] at f2
        rw [hls p1 p2] at f3
        simp [S_law15_LatticeOrder_l2, S_law15_LatticeOrder_r0, S_law15_LatticeOrder_r1, S_law15_LatticeOrder_r2, S_law15_LatticeOrder_r3, S_law15_LatticeOrder_r4, S_law15_LatticeOrder_r5, S_law15_LatticeOrder_r6, S_law15_LatticeOrder_r7, S_law15_LatticeOrder_r8, S_law15_LatticeOrder_r9, S_law15_LatticeOrder_r10, S_law15_LatticeOrder_r11, S_law15_LatticeOrder_r12, S_law15_LatticeOrder_r13, S_law15_LatticeOrder_r14, S_law15_LatticeOrder_r15, S_law15_LatticeOrder_r16, S_law15_LatticeOrder_r17, S_law15_LatticeOrder_r18, S_law15_LatticeOrder_r19, S_law15_LatticeOrder_r20, S_law15_LatticeOrder_b0, S_law15_LatticeOrder_r21, S_law15_LatticeOrder_b1, S_law15_LatticeOrder_b2, S_law15_LatticeOrder_r22, S_law15_LatticeOrder_b3, S_law15_LatticeOrder_b4, S_law15_LatticeOrder_r23, S_law15_LatticeOrder_b5, S_law15_LatticeOrder_r24, S_law15_LatticeOrder, hE, h5, hi5, hi, hi', hti, mi5, mi6, hq, leqS, f0, f1, f2, f3, -Int.natCast_add]
        refine hmid _ _ _ ?_ (Less.auto (by simp) (by simp) rfl rfl)
        simp [S_law15_LatticeOrder_r0, S_law15_LatticeOrder_r1, S_law15_LatticeOrder_r2, S_law15_LatticeOrder_r3, S_law15_LatticeOrder_r4, S_law15_LatticeOrder_r5, S_law15_LatticeOrder_r6, S_law15_LatticeOrder_r7, S_law15_LatticeOrder_r8, S_law15_LatticeOrder_r9, S_law15_LatticeOrder_r10, S_law15_LatticeOrder_r11, S_law15_LatticeOrder_r12, S_law15_LatticeOrder_r13, S_law15_LatticeOrder_r14, S_law15_LatticeOrder_r15, S_law15_LatticeOrder_r16, S_law15_LatticeOrder_r17, S_law15_LatticeOrder_r18, S_law15_LatticeOrder_r19, S_law15_LatticeOrder_r20, S_law15_LatticeOrder_b0, S_law15_LatticeOrder_r21, S_law15_LatticeOrder_b1, S_law15_LatticeOrder_b2, S_law15_LatticeOrder_r22, S_law15_LatticeOrder_b3, S_law15_LatticeOrder_b4, S_law15_LatticeOrder_r23, S_law15_LatticeOrder_b5, S_law15_LatticeOrder_r24, S_law15_LatticeOrder, hE, hw2, -Int.natCast_add]
        exact hnew _ _ (Less.auto (by simp [-Int.natCast_add]) (by simp) rfl rfl)
theorem LatticeOrder_run (h1 : E.con 42 = yesS) (h2 : E.con 11 = fewS) (h3 : E.con 43 = embS madeMM) (h4 : E.con 15 = fnS (spec1 fun bits : Int => some (datasOf bits))) (h5 : E.con 32 = mkVarsS) (h6 : E.con 31 = stS (stF3 (typeF 1))) (h7 : E.con 53 = comS) (h8 : E.con 54 = leqS)
    {bits : Int} {codes : List Int} (hs : HS) : CallOk ρ Try.prog 9 [enc bits, enc codes] hs (.bool true) hs := by
  refine fn hρ hE hcon Try.func9 BS_law15_LatticeOrder rfl (by simp) ?_ hs
  by_cases c1 : codes.length ≤ 60
  case neg => simp [S_law15_LatticeOrder_r0, S_law15_LatticeOrder_r1, S_law15_LatticeOrder_r2, S_law15_LatticeOrder_r3, S_law15_LatticeOrder_r4, S_law15_LatticeOrder_r5, S_law15_LatticeOrder_r6, S_law15_LatticeOrder_r7, S_law15_LatticeOrder_r8, S_law15_LatticeOrder_r9, S_law15_LatticeOrder_r10, S_law15_LatticeOrder_r11, S_law15_LatticeOrder_r12, S_law15_LatticeOrder_r13, S_law15_LatticeOrder_r14, S_law15_LatticeOrder_r15, S_law15_LatticeOrder_r16, S_law15_LatticeOrder_r17, S_law15_LatticeOrder_r18, S_law15_LatticeOrder_r19, S_law15_LatticeOrder_r20, S_law15_LatticeOrder_b0, S_law15_LatticeOrder_r21, S_law15_LatticeOrder_b1, S_law15_LatticeOrder_b2, S_law15_LatticeOrder_r22, S_law15_LatticeOrder_b3, S_law15_LatticeOrder_b4, S_law15_LatticeOrder_r23, S_law15_LatticeOrder_b5, S_law15_LatticeOrder_r24, S_law15_LatticeOrder, hE, h1, h2, yesS, fewS, c1]
  have htp : (⟨codes, 0⟩ : Tp).ok := ⟨Int.le_refl _, by show codes.length ≤ 100000; omega⟩
  have hD3 := datasOf_ok3 bits
  have hDk := datasOf_ok bits
  have hmk := madeM_ok htp hD3
  rcases hm : madeM ⟨codes, 0⟩ (datasOf bits) with ⟨a, b, x, t⟩
  rw [hm] at hmk
  obtain ⟨na, nb, nx, hto⟩ := hmk
  simp only at na nb nx hto
  have hval := fun hs => madeD_val (hs := hs) hm
  have hheap := fun hs => madeD_heap (hs := hs) hm
  generalize hDq : datasOf bits = D at hD3 hDk
  have f1 : typeF 1 t D (varTs 3) 1 = some (typeM 1 t D (varTs 3)) := if_pos ⟨hto, hDk, by simp, by decide⟩
  have ny : Nc 3 (typeM 1 t D (varTs 3)).2 := typeM_nc hD3 (varTs_nc 3) 1 _ (by decide)
  generalize typeM 1 t D (varTs 3) = Y at f1 ny
  obtain ⟨t2, y⟩ := Y
  simp only at ny
  have nc : Nc 21 (comM a b) := com_nc na nb.ok (cm_pok na.ok nb.ok (fun p hp => by cases hp)).2
  have f2 : topComF a b = some ⟨comM a b, asgL Pair.a (comL a b) 0, asgL Pair.b (comL a b) 0⟩ := if_pos ⟨na.ok, nb.ok, by have := na.sz; omega⟩
  have hla := com_left a b
  have hlb := com_right a b
  have hle := fun (x : Ty) (hx : x.vplain = true) h1 h2 => com_least (a := a) (b := b) (x := x) hx h1 h2
  generalize comM a b = c at nc f2 hla hlb hle
  generalize asgL Pair.a (comL a b) 0 = as1 at f2
  generalize asgL Pair.b (comL a b) 0 = as2 at f2
  have hLn : ∀ u ∈ [a, b, x, y, c], Nc 100 u := by
    intro u hu
    simp only [List.mem_cons, List.not_mem_nil, or_false] at hu
    rcases hu with rfl | rfl | rfl | rfl | rfl
    · exact na.mono (by decide)
    · exact nb.mono (by decide)
    · exact nx.mono (by decide)
    · exact ny.mono (by decide)
    · exact nc.mono (by decide)
  have g1 : leqF a c = some true := by rw [← hla]; exact if_pos ⟨nc.pl, nc.ok, na.ok, by have := nc.sz; omega⟩
  have g2 : leqF b c = some true := by rw [← hlb]; exact if_pos ⟨nc.pl, nc.ok, nb.ok, by have := nc.sz; omega⟩
  have hout := fun (T : PT V) (hs : HS) (Q : Ex → PT V → HS → Prop) (hQ) (h0) => LO_out (a := a) (b := b) (c := c) (L := [a, b, x, y, c]) (T := T) (hs := hs) (Q := Q) hρ hE hcon h8 rfl hLn (na.mono (by decide)) (nb.mono (by decide)) (nc.mono (by decide)) (fun u hu h1 h2 => hle u (hLn u hu).pl h1 h2) hQ h0
  have hlv := varTs_len 3
  generalize hV : varTs 3 = W at f1 hlv
  rcases W with _ | ⟨v, W⟩
  · simp at hlv
  simp [S_law15_LatticeOrder_r0, S_law15_LatticeOrder_r1, S_law15_LatticeOrder_r2, S_law15_LatticeOrder_r3, S_law15_LatticeOrder_r4, S_law15_LatticeOrder_r5, S_law15_LatticeOrder_r6, S_law15_LatticeOrder_r7, S_law15_LatticeOrder_r8, S_law15_LatticeOrder_r9, S_law15_LatticeOrder_r10, S_law15_LatticeOrder_r11, S_law15_LatticeOrder_r12, S_law15_LatticeOrder_r13, S_law15_LatticeOrder_r14, S_law15_LatticeOrder_r15, S_law15_LatticeOrder_r16, S_law15_LatticeOrder_r17, S_law15_LatticeOrder_r18, S_law15_LatticeOrder_r19, S_law15_LatticeOrder_r20, S_law15_LatticeOrder_b0, S_law15_LatticeOrder_r21, S_law15_LatticeOrder_b1, S_law15_LatticeOrder_b2, S_law15_LatticeOrder_r22, S_law15_LatticeOrder_b3, S_law15_LatticeOrder_b4, S_law15_LatticeOrder_r23, S_law15_LatticeOrder_b5, S_law15_LatticeOrder_r24, S_law15_LatticeOrder, hE, h1, h2, h3, h4, h5, h6, h7, yesS, fewS, c1, hval, hheap, hDq, mkVarsS, hV, f1, comS, f2, vacant_eq]
  refine hout _ _ _ ?_ (Less.auto (by simp) (by simp) rfl rfl)
  simp [S_law15_LatticeOrder_r0, S_law15_LatticeOrder_r1, S_law15_LatticeOrder_r2, S_law15_LatticeOrder_r3, S_law15_LatticeOrder_r4, S_law15_LatticeOrder_r5, S_law15_LatticeOrder_r6, S_law15_LatticeOrder_r7, S_law15_LatticeOrder_r8, S_law15_LatticeOrder_r9, S_law15_LatticeOrder_r10, S_law15_LatticeOrder_r11, S_law15_LatticeOrder_r12, S_law15_LatticeOrder_r13, S_law15_LatticeOrder_r14, S_law15_LatticeOrder_r15, S_law15_LatticeOrder_r16, S_law15_LatticeOrder_r17, S_law15_LatticeOrder_r18, S_law15_LatticeOrder_r19, S_law15_LatticeOrder_r20, S_law15_LatticeOrder_b0, S_law15_LatticeOrder_r21, S_law15_LatticeOrder_b1, S_law15_LatticeOrder_b2, S_law15_LatticeOrder_r22, S_law15_LatticeOrder_b3, S_law15_LatticeOrder_b4, S_law15_LatticeOrder_r23, S_law15_LatticeOrder_b5, S_law15_LatticeOrder_r24, S_law15_LatticeOrder, hE, h8, leqS, g1, g2]
end
end Go.Proofs.Ythfcfmkdeheicaa
