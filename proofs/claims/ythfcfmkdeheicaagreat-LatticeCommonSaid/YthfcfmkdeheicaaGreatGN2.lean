import Derived.Test.YthfcfmkdeheicaaGreatGN1
import Derived.Test.YthfcfmkdeheicaaGreatJS
set_option linter.all false
set_option linter.all false
namespace Go.Proofs.YthfcfmkdeheicaaGreat
open Go.J
open Go.J.Enc (enc)
set_option maxRecDepth 100000
set_option maxHeartbeats 1000000
noncomputable def pcF (d : Nat) (X Y : List Ty) (a b : Ty) : Option (T3 (List Ty) (List Ty) Ty) := open Classical in if X.length = Y.length ∧ a.ok = true ∧ b.ok = true ∧ pok (zipP X Y) ∧ X.length + a.size ≤ 8000 ∧ a.size ≤ d then some ⟨(cmM a b (zipP X Y)).2.map Pair.a, (cmM a b (zipP X Y)).2.map Pair.b, (cmM a b (zipP X Y)).1⟩ else none
theorem idx2_ix {a b : Ty} : ∀ {X Y : List Ty} {i : Nat}, X.length = Y.length → idx2 a b X Y i = (ixP (zipP X Y) a b).map (· + i) := by
  intro X
  induction X with
  | nil => intro Y i h; cases Y with
    | nil => rfl
    | cons y Y => simp at h
  | cons x X ih =>
    intro Y i h
    cases Y with
    | nil => simp at h
    | cons y Y =>
      rw [idx2, ih (by simpa using h)]
      unfold zipP ixP
      rw [List.zipWith_cons_cons, List.findIdx?_cons]
      by_cases hc : x = a ∧ y = b
      · rw [if_pos hc, if_pos (by simp [hc])]; simp
      · rw [if_neg hc, if_neg (by simpa using hc)]
        cases List.findIdx? (fun p => decide (p.a = a) && decide (p.b = b)) (List.zipWith Pair.mk X Y) with
        | none => rfl
        | some j => simp; omega
section
variable {ρ : Nat → Value} (hρ : J.Good ρ) {E : Env} (hE : E.P = Tryz.prog) (hcon : ConsOk ρ E)
include hρ hE hcon
theorem pairs_loop0 {d : Nat} (hc : E.con 76 = embS (pcM (pcF d))) {k : Nat} {a b : Ty} {X0 Y0 : List Ty} (hk : k = 1 ∨ k = 3 ∧ X0 ≠ []) (hao : a.ok = true) (hbo : b.ok = true) (hl : a.args.length = b.args.length) (h0l : X0.length = Y0.length) (hL : pok (zipP X0 Y0)) (hlen : X0.length + a.size ≤ 8000) (hd : a.size ≤ d + 1) {gl : List Ty} {Lf : List Pair} (hg : cmL a.args b.args (zipP X0 Y0) = (gl, Lf)) {T : PT V} {hs : HS} {Q : Ex → PT V → HS → Prop}
    (hQ : Q (.exit 0) (mkP [(0, .ptr 0 0 0), (6, .ptr 3 0 0), (8, .ptr 4 0 0)]) { H := mkP ((0, pcB (oV 1 ((Lf.map Pair.a).map encTy)) (oV 2 ((Lf.map Pair.b).map encTy))) :: (oH 1 5 ((Lf.map Pair.a).map encTy) ++ oH 2 5 ((Lf.map Pair.b).map encTy) ++ [(3, box zTy), (4, box [.int .i64 a.kind, .str a.name, .int .i64 a.id, .int .i64 a.home, oV 5 (gl.map encTy)])] ++ oH 5 5 (gl.map encTy))), n := 6, log := [] })
    (h0 : Less k T hs (mkP [(0, .ptr 0 0 0), (4, .ptr 3 0 0), (5, .ptr 4 0 0), (6, .ptr 5 0 0), (8, .ptr 6 0 0), (9, .int .i64 ((0 : Nat) : Int))])
      { H := mkP ((0, pcB (oV 1 (X0.map encTy)) (oV 2 (Y0.map encTy))) :: (oH 1 5 (X0.map encTy) ++ oH 2 5 (Y0.map encTy) ++ [(3, box (encTy a)), (4, box (encTy b)), (5, box zTy), (6, box [.int .i64 a.kind, .str a.name, .int .i64 a.id, .int .i64 a.home, .snil])])), n := 8, log := [] }) :
    Ls ρ E k 137 (.loop fS76l0) T hs Q := by
  have hsza := Ty.size_eq a
  have hal := Ty.ok_len hao
  have hgl : gl.length = a.args.length := by have := cmL_len (L := zipP X0 Y0) hl; rw [hg] at this; exact this
  refine lpi hρ hE hcon a.args.length (nn := 8) (fun i (_ : T3 (List Ty) (List Ty) (List Ty)) => [(0, .ptr 0 0 0), (4, .ptr 3 0 0), (5, .ptr 4 0 0), (6, .ptr 5 0 0), (8, .ptr 6 0 0), (9, .int .i64 (i : Int))])
    (fun i Z => (0, pcB (oV 1 (Z.a.map encTy)) (oV 2 (Z.b.map encTy))) :: (oH 1 5 (Z.a.map encTy) ++ oH 2 5 (Z.b.map encTy) ++ [(3, box (encTy a)), (4, box (encTy b)), (5, box zTy), (6, box [.int .i64 a.kind, .str a.name, .int .i64 a.id, .int .i64 a.home, oV 7 (Z.c.map encTy)])] ++ oH 7 5 (Z.c.map encTy)))
    (fun i Z => Z.a.length = Z.b.length ∧ cmL (a.args.drop i) (b.args.drop i) (zipP Z.a Z.b) = (gl.drop i, Lf) ∧ pok (zipP Z.a Z.b) ∧ X0.length ≤ Z.a.length ∧ Z.a.length + Ty.sizes (a.args.drop i) ≤ X0.length + Ty.sizes a.args ∧ Z.c = gl.take i) ⟨X0, Y0, []⟩
    (by simpa using h0) ⟨h0l, by simpa using hg, hL, Nat.le_refl _, by simp, rfl⟩ ?_ ?_
  · rintro ⟨X, Y, G⟩ ⟨e0, h1, h2, h3, h4, h5⟩ K
    simp only at e0 h1 h2 h3 h4 h5
    rw [List.drop_length, cmL_nil] at h1
    have h6 : zipP X Y = Lf := congrArg Prod.snd h1
    have hX : Lf.map Pair.a = X := by rw [← h6, zipP_fst e0]
    have hY : Lf.map Pair.b = Y := by rw [← h6, zipP_snd e0]
    have hG : G = gl := by rw [h5, ← hgl, List.take_length]
    subst hG
    rw [hX, hY] at hQ
    rcases X with _ | ⟨x, X⟩
    · have hY0 : Y = [] := List.length_eq_zero_iff.1 e0.symm
      subst hY0
      have hk0 : k = 1 := by
        rcases hk with h | ⟨_, h⟩
        · exact h
        · cases X0 with
          | nil => exact absurd rfl h
          | cons a l => simp at h3
      subst hk0
      rcases G with _ | ⟨g, G⟩ <;> simp [fS76l0, fS76r0, fS76r1, fS76r2, fS76r3, fS76r4, fS76r5, fS76r6, fS76r7, fS76b0, fS76r8, fS76b1, fS76r9, fS76r10, fS76r11, fS76r12, fS76r13, fS76b2, fS76r14, fS76b3, fS76r15, fS76r16, fS76, hE] <;> exact LessQ.mk (Less.auto (n := 6) (by simp) (by simp) (by first | rfl | simp) (by first | rfl | simp | (simp; omega))) hQ
    · rcases Y with _ | ⟨y, Y⟩
      · simp at e0
      · rcases G with _ | ⟨g, G⟩ <;> simp [fS76l0, fS76r0, fS76r1, fS76r2, fS76r3, fS76r4, fS76r5, fS76r6, fS76r7, fS76b0, fS76r8, fS76b1, fS76r9, fS76r10, fS76r11, fS76r12, fS76r13, fS76b2, fS76r14, fS76b3, fS76r15, fS76r16, fS76, hE] <;> rcases hk with rfl | ⟨rfl, _⟩ <;> exact LessQ.mk (Less.auto (n := 6) (by simp) (by simp) (by first | rfl | simp) (by first | rfl | simp | (simp; omega))) hQ
  · rintro i ⟨X, Y, G⟩ hi ⟨e0, h1, h2, h3, h4, h5⟩ K hK
    simp only at e0 h1 h2 h3 h4 h5
    have hib : i < b.args.length := by omega
    have hi' : (i : Int) < a.args.length := by omega
    have hib' : (i : Int) < b.args.length := by omega
    have hw0 : IntKind.i64.wrap 1 = 1 := rfl
    have hw2 : IntKind.i64.wrap ((i : Int) + 1) = ((i + 1 : Nat) : Int) := wrap_succ (by omega)
    have hm5 : (i * 5) / 5 = i := by omega
    have hm6 : (i * 5) % 5 = 0 := by omega
    have hig : i < gl.length := by omega
    rw [List.drop_eq_getElem_cons hi, List.drop_eq_getElem_cons hib, List.drop_eq_getElem_cons hig, cmL_cons] at h1
    rw [List.drop_eq_getElem_cons hi, Ty.sizes] at h4
    have hma := List.getElem_mem hi
    have hmb := List.getElem_mem hib
    have hsp := Ty.size_mem hma
    have hzl := zipP_len e0
    have hF : pcF d X Y a.args[i] b.args[i] = some ⟨(cmM a.args[i] b.args[i] (zipP X Y)).2.map Pair.a, (cmM a.args[i] b.args[i] (zipP X Y)).2.map Pair.b, (cmM a.args[i] b.args[i] (zipP X Y)).1⟩ := if_pos ⟨e0, Ty.ok_arg hao hma, Ty.ok_arg hbo hmb, h2, by omega, by omega⟩
    obtain ⟨⟨M, hM⟩, _, _, hml⟩ := cm_gn (a := a.args[i]) (b := b.args[i]) (L := zipP X Y)
    obtain ⟨hpk, _⟩ := cm_pok (a := a.args[i]) (b := b.args[i]) (L := zipP X Y) (Ty.ok_arg hao hma) (Ty.ok_arg hbo hmb) h2
    rcases hq : cmM a.args[i] b.args[i] (zipP X Y) with ⟨g1, R2⟩
    rw [hq] at hF h1 hM hml hpk
    simp only at h1 hM hml hpk hF
    have h6 := congrArg Prod.snd h1
    obtain ⟨hg1, h7⟩ := List.cons.inj (congrArg Prod.fst h1)
    simp only at h6
    have hlr : X.length ≤ R2.length := by rw [← hzl, hM]; simp
    have hR2 := zipP_map R2
    have hl2 : (R2.map Pair.a).length = (R2.map Pair.b).length := by simp
    have hl3 : (R2.map Pair.a).length = R2.length := by simp
    generalize R2.map Pair.a = X2 at hF hR2 hl2 hl3
    generalize R2.map Pair.b = Y2 at hF hR2 hl2
    have hxl : X.length ≤ X2.length := by omega
    have hGl : G.length = i := by rw [h5, List.length_take]; omega
    have hnew := hK ⟨X2, Y2, G ++ [g1]⟩ ⟨hl2, by show cmL _ _ (zipP X2 Y2) = _; rw [hR2]; exact Prod.ext h7 h6, by show pok (zipP X2 Y2); rw [hR2]; exact hpk, by show X0.length ≤ X2.length; omega, by show X2.length + _ ≤ _; omega, by
      show G ++ [g1] = gl.take (i + 1)
      rw [List.take_add_one, List.getElem?_eq_getElem hig, Option.toList_some, ← hg1, h5]⟩
    generalize hpx : a.args[i] = px at hF
    generalize htx : b.args[i] = tx at hF
    have h64 : (i + 1) * 64 ≤ 1048576 := Nat.le_trans (Nat.mul_le_mul_right 64 (show i + 1 ≤ 10001 by omega)) (by decide)
    have hk1 : X = [] → k = 1 := by
      intro e
      rcases hk with h | ⟨_, h⟩
      · exact h
      · cases X0 with
        | nil => exact absurd rfl h
        | cons a l => rw [e] at h3; simp at h3
    rcases X with _ | ⟨x, X⟩
    · have hY0 : Y = [] := List.length_eq_zero_iff.1 e0.symm
      subst hY0
      obtain rfl := hk1 rfl
      rcases X2 with _ | ⟨x2, X2⟩
      · have hY0 : Y2 = [] := List.length_eq_zero_iff.1 hl2.symm
        subst hY0
        rcases G with _ | ⟨g, G⟩
        · obtain rfl : i = 0 := hGl.symm
          simp [fS76l0, fS76r0, fS76r1, fS76r2, fS76r3, fS76r4, fS76r5, fS76r6, fS76r7, fS76b0, fS76r8, fS76b1, fS76r9, fS76r10, fS76r11, fS76r12, fS76r13, fS76b2, fS76r14, fS76b3, fS76r15, fS76r16, fS76, hE, hi, hi', hib, hib', hm5, hm6, hpx, htx, hc, hF, hw2, vacant_eq, -Int.natCast_add]
          exact hnew _ _ (Less.auto (by simp [hw0, -Int.natCast_add]) (by simp) (by first | rfl | simp) (by first | rfl | simp | (simp; omega)))
        · have h65 : (G.length + 1 + 1) * 64 ≤ 1048576 := Nat.le_trans (Nat.mul_le_mul_right 64 (show G.length + 1 + 1 ≤ 10001 by simp only [List.length_cons] at hGl; omega)) (by decide)
          simp [fS76l0, fS76r0, fS76r1, fS76r2, fS76r3, fS76r4, fS76r5, fS76r6, fS76r7, fS76b0, fS76r8, fS76b1, fS76r9, fS76r10, fS76r11, fS76r12, fS76r13, fS76b2, fS76r14, fS76b3, fS76r15, fS76r16, fS76, hE, hi, hi', hib, hib', hm5, hm6, hpx, htx, hc, hF, hw2, vacant_eq, h65, Nat.not_succ_le_self, -Int.natCast_add]
          exact hnew _ _ (Less.auto (by simp [hw0, -Int.natCast_add]) (by simp) (by first | rfl | simp) (by first | rfl | simp | (simp; omega)))
      · rcases Y2 with _ | ⟨y2, Y2⟩
        · simp at hl2
        have hl4 : X2.length = Y2.length := by simpa using hl2
        rcases G with _ | ⟨g, G⟩
        · obtain rfl : i = 0 := hGl.symm
          simp [fS76l0, fS76r0, fS76r1, fS76r2, fS76r3, fS76r4, fS76r5, fS76r6, fS76r7, fS76b0, fS76r8, fS76b1, fS76r9, fS76r10, fS76r11, fS76r12, fS76r13, fS76b2, fS76r14, fS76b3, fS76r15, fS76r16, fS76, hE, hi, hi', hib, hib', hm5, hm6, hpx, htx, hc, hF, hw2, vacant_eq, hl4, -Int.natCast_add]
          exact hnew _ _ (Less.auto (by simp [hw0, hl4, -Int.natCast_add]) (by simp [hl4]) (by first | rfl | simp) (by first | rfl | simp | (simp; omega)))
        · have h65 : (G.length + 1 + 1) * 64 ≤ 1048576 := Nat.le_trans (Nat.mul_le_mul_right 64 (show G.length + 1 + 1 ≤ 10001 by simp only [List.length_cons] at hGl; omega)) (by decide)
          simp [fS76l0, fS76r0, fS76r1, fS76r2, fS76r3, fS76r4, fS76r5, fS76r6, fS76r7, fS76b0, fS76r8, fS76b1, fS76r9, fS76r10, fS76r11, fS76r12, fS76r13, fS76b2, fS76r14, fS76b3, fS76r15, fS76r16, fS76, hE, hi, hi', hib, hib', hm5, hm6, hpx, htx, hc, hF, hw2, vacant_eq, hl4, h65, Nat.not_succ_le_self, -Int.natCast_add]
          exact hnew _ _ (Less.auto (by simp [hw0, hl4, -Int.natCast_add]) (by simp [hl4]) (by first | rfl | simp) (by first | rfl | simp | (simp; omega)))
    · rcases Y with _ | ⟨y, Y⟩
      · simp at e0
      rcases X2 with _ | ⟨x2, X2⟩
      · simp at hxl
      rcases Y2 with _ | ⟨y2, Y2⟩
      · simp at hl2
      have hl4 : X2.length = Y2.length := by simpa using hl2
      have hl5 : X.length = Y.length := by simpa using e0
      have hl6 : X.length ≤ X2.length := by simpa using hxl
      have hl7 : Y.length ≤ Y2.length := by omega
      rcases G with _ | ⟨g, G⟩
      · obtain rfl : i = 0 := hGl.symm
        simp [fS76l0, fS76r0, fS76r1, fS76r2, fS76r3, fS76r4, fS76r5, fS76r6, fS76r7, fS76b0, fS76r8, fS76b1, fS76r9, fS76r10, fS76r11, fS76r12, fS76r13, fS76b2, fS76r14, fS76b3, fS76r15, fS76r16, fS76, hE, hi, hi', hib, hib', hm5, hm6, hpx, htx, hc, hF, hw2, vacant_eq, hl4, hl5, hl6, hl7, -Int.natCast_add]
        rcases hk with rfl | ⟨rfl, _⟩ <;> exact hnew _ _ (Less.auto (by simp [hw0, hl4, -Int.natCast_add]) (by simp [hl4]) (by first | rfl | simp) (by first | rfl | simp | (simp; omega)))
      · have h65 : (G.length + 1 + 1) * 64 ≤ 1048576 := Nat.le_trans (Nat.mul_le_mul_right 64 (show G.length + 1 + 1 ≤ 10001 by simp only [List.length_cons] at hGl; omega)) (by decide)
        simp [fS76l0, fS76r0, fS76r1, fS76r2, fS76r3, fS76r4, fS76r5, fS76r6, fS76r7, fS76b0, fS76r8, fS76b1, fS76r9, fS76r10, fS76r11, fS76r12, fS76r13, fS76b2, fS76r14, fS76b3, fS76r15, fS76r16, fS76, hE, hi, hi', hib, hib', hm5, hm6, hpx, htx, hc, hF, hw2, vacant_eq, hl4, hl5, hl6, hl7, h65, Nat.not_succ_le_self, -Int.natCast_add]
        rcases hk with rfl | ⟨rfl, _⟩ <;> exact hnew _ _ (Less.auto (by simp [hw0, hl4, -Int.natCast_add]) (by simp [hl4]) (by first | rfl | simp) (by first | rfl | simp | (simp; omega)))
end
end Go.Proofs.YthfcfmkdeheicaaGreat
