import Derived.Test.YthfcfmkdeheicaaGreatGN2
set_option linter.all false
set_option linter.all false
namespace Go.Proofs.YthfcfmkdeheicaaGreat
open Go.J
open Go.J.Enc (enc)
set_option maxRecDepth 100000
set_option maxHeartbeats 1000000
section
variable {ρ : Nat → Value} (hρ : J.Good ρ) {E : Env} (hE : E.P = Tryz.prog) (hcon : ConsOk ρ E)
include hρ hE hcon
theorem pairs_loop1 (heq : E.con 23 = equalS) (htv : E.con 52 = fnS (spec1 fun i : Int => some (tVar i))) {k : Nat} {a b : Ty} {X Y : List Ty} (hk : k = 1 ∨ k = 3 ∧ X ≠ []) (hao : a.ok = true) (hbo : b.ok = true) (h0l : X.length = Y.length) (hXo : ∀ x ∈ X, x.ok = true) (hYo : ∀ x ∈ Y, x.ok = true) (hlen : X.length ≤ 8000) {T : PT V} {hs : HS} {Q : Ex → PT V → HS → Prop}
    (hQ1 : ∀ j : Nat, idx2 a b X Y 0 = some j → Q .ret (mkP [(6, .ptr 3 0 0)]) { H := mkP ((0, pcB (oV 1 (X.map encTy)) (oV 2 (Y.map encTy))) :: (oH 1 5 (X.map encTy) ++ oH 2 5 (Y.map encTy) ++ [(3, box (encTy (tVar (j : Int))))])), n := 4, log := [] })
    (hQ2 : idx2 a b X Y 0 = none → Q (.exit 2) (mkP [(0, .ptr 0 0 0), (4, .ptr 3 0 0), (5, .ptr 4 0 0), (6, .ptr 5 0 0)]) { H := mkP ((0, pcB (oV 1 (X.map encTy)) (oV 2 (Y.map encTy))) :: (oH 1 5 (X.map encTy) ++ oH 2 5 (Y.map encTy) ++ [(3, box (encTy a)), (4, box (encTy b)), (5, box zTy)])), n := 6, log := [] })
    (h0 : Less k T hs (mkP [(0, .ptr 0 0 0), (4, .ptr 3 0 0), (5, .ptr 4 0 0), (6, .ptr 5 0 0), (10, .int .i64 ((0 : Nat) : Int))])
      { H := mkP ((0, pcB (oV 1 (X.map encTy)) (oV 2 (Y.map encTy))) :: (oH 1 5 (X.map encTy) ++ oH 2 5 (Y.map encTy) ++ [(3, box (encTy a)), (4, box (encTy b)), (5, box zTy)])), n := 6, log := [] }) :
    Ls ρ E k 137 (.loop fS76l1) T hs Q := by
  by_cases hX0 : X = []
  · subst hX0
    have hY0 : Y = [] := List.length_eq_zero_iff.1 h0l.symm
    subst hY0
    have hk1 : k = 1 := by
      rcases hk with h | ⟨_, h⟩
      · exact h
      · exact absurd rfl h
    subst hk1
    refine lpi hρ hE hcon 0 (nn := 6) (fun i (_ : Unit) => [(0, .ptr 0 0 0), (4, .ptr 3 0 0), (5, .ptr 4 0 0), (6, .ptr 5 0 0), (10, .int .i64 ((0 : Nat) : Int))])
      (fun i _ => (0, pcB (oV 1 (([] : List Ty).map encTy)) (oV 2 (([] : List Ty).map encTy))) :: (oH 1 5 (([] : List Ty).map encTy) ++ oH 2 5 (([] : List Ty).map encTy) ++ [(3, box (encTy a)), (4, box (encTy b)), (5, box zTy)])) (fun i _ => True) () h0 trivial ?_ ?_
    · intro _ _ K
      simp [fS76l1, fS76r0, fS76r1, fS76r2, fS76r3, fS76r4, fS76r5, fS76r6, fS76r7, fS76b0, fS76r8, fS76b1, fS76r9, fS76r10, fS76r11, fS76r12, fS76r13, fS76b2, fS76r14, fS76b3, fS76r15, fS76r16, fS76, hE]
      exact LessQ.mk (Less.auto (n := 6) (by simp) (by simp) (by first | rfl | simp) (by first | rfl | simp | (simp; omega))) (hQ2 rfl)
    · intro i _ hi
      omega
  have hneX : X.map encTy ≠ [] := fun e => hX0 (List.map_eq_nil_iff.1 e)
  have hY0 : Y ≠ [] := fun e => hX0 (List.length_eq_zero_iff.1 (by rw [h0l, e]; rfl))
  have hneY : Y.map encTy ≠ [] := fun e => hY0 (List.map_eq_nil_iff.1 e)
  have hVX : ∀ r, oV r (X.map encTy) = .own r (X.length - 1) 0 X.length none := fun r => by rw [oV_cons' hneX]; simp
  have hVY : ∀ r, oV r (Y.map encTy) = .own r (X.length - 1) 0 X.length none := fun r => by rw [oV_cons' hneY, h0l]; simp
  have hHX : ∀ r, oH r 5 (X.map encTy) = [(r, .arr 5 (X.length - 1) (X.map encTy) false false true)] := fun r => by rw [oH_cons' hneX]; simp [oO]
  have hHY : ∀ r, oH r 5 (Y.map encTy) = [(r, .arr 5 (X.length - 1) (Y.map encTy) false false true)] := fun r => by rw [oH_cons' hneY, h0l]; simp [oO]
  have hpos : 0 < X.length := List.length_pos_iff.2 hX0
  rw [hVX, hVY, hHX, hHY] at hQ1 hQ2 h0
  refine lpi hρ hE hcon X.length (nn := 6) (fun i (_ : Unit) => [(0, .ptr 0 0 0), (4, .ptr 3 0 0), (5, .ptr 4 0 0), (6, .ptr 5 0 0), (10, .int .i64 (i : Int))])
    (fun i _ => (0, pcB (.own 1 (X.length - 1) 0 X.length none) (.own 2 (X.length - 1) 0 X.length none)) :: ([(1, .arr 5 (X.length - 1) (X.map encTy) false false true)] ++ [(2, .arr 5 (X.length - 1) (Y.map encTy) false false true)] ++ [(3, box (encTy a)), (4, box (encTy b)), (5, box zTy)])) (fun i _ => idx2 a b X Y 0 = idx2 a b (X.drop i) (Y.drop i) i) () h0 (by simp) ?_ ?_
  · intro _ h K
    rw [List.drop_length, show idx2 a b [] (Y.drop X.length) X.length = none by rw [idx2]; simp] at h
    have hQ2 := hQ2 h
    simp [fS76l1, fS76r0, fS76r1, fS76r2, fS76r3, fS76r4, fS76r5, fS76r6, fS76r7, fS76b0, fS76r8, fS76b1, fS76r9, fS76r10, fS76r11, fS76r12, fS76r13, fS76b2, fS76r14, fS76b3, fS76r15, fS76r16, fS76, hE]
    rcases hk with rfl | ⟨rfl, _⟩ <;> exact LessQ.mk (Less.auto (n := 6) (by simp) (by simp) (by first | rfl | simp) (by first | rfl | simp | (simp; omega))) hQ2
  · intro i _ hi h K hK
    have hib : i < Y.length := by omega
    have hi' : (i : Int) < X.length := by omega
    have hib' : (i : Int) < Y.length := by omega
    have hw2 : IntKind.i64.wrap ((i : Int) + 1) = ((i + 1 : Nat) : Int) := wrap_succ (by omega)
    have hm5 : (i * 5) / 5 = i := by omega
    have hm6 : (i * 5) % 5 = 0 := by omega
    rw [List.drop_eq_getElem_cons hi, List.drop_eq_getElem_cons hib, idx2] at h
    have hxo := hXo _ (List.getElem_mem hi)
    have hyo := hYo _ (List.getElem_mem hib)
    obtain ⟨x, hx⟩ : ∃ x, X[i] = x := ⟨_, rfl⟩
    obtain ⟨y, hy⟩ : ∃ y, Y[i] = y := ⟨_, rfl⟩
    rw [hx, hy] at h
    rw [hx] at hxo
    rw [hy] at hyo
    obtain ⟨xk, xn, xi, xh, xa⟩ := x
    obtain ⟨yk, yn, yi, yh, ya⟩ := y
    by_cases e1 : Ty.mk xk xn xi xh xa = a
    · by_cases e2 : Ty.mk yk yn yi yh ya = b
      · rw [if_pos ⟨e1, e2⟩] at h
        have hQ3 := hQ1 i h
        subst e1 e2
        simp [fS76l1, fS76r0, fS76r1, fS76r2, fS76r3, fS76r4, fS76r5, fS76r6, fS76r7, fS76b0, fS76r8, fS76b1, fS76r9, fS76r10, fS76r11, fS76r12, fS76r13, fS76b2, fS76r14, fS76b3, fS76r15, fS76r16, fS76, hE, hi, hi', hib, hib', hm5, hm6, hx, hy, heq, equalS, hxo, hyo, htv]
        rcases hk with rfl | ⟨rfl, _⟩ <;> exact LessQ.mk (Less.auto (n := 4) (by simp) (by simp [tVar]) (by first | rfl | simp) (by first | rfl | simp | (simp; omega))) hQ3
      · rw [if_neg (fun c => e2 c.2)] at h
        have hnew := hK () h
        subst e1
        obtain ⟨bk, bn, bi, bh, ba⟩ := b
        simp only [Ty.mk.injEq] at e2
        simp [fS76l1, fS76r0, fS76r1, fS76r2, fS76r3, fS76r4, fS76r5, fS76r6, fS76r7, fS76b0, fS76r8, fS76b1, fS76r9, fS76r10, fS76r11, fS76r12, fS76r13, fS76b2, fS76r14, fS76b3, fS76r15, fS76r16, fS76, hE, hi, hi', hib, hib', hm5, hm6, hx, hy, heq, equalS, hxo, hyo, e2, hw2, -Int.natCast_add]
        rcases hk with rfl | ⟨rfl, _⟩ <;> exact hnew _ _ (Less.auto (by simp [-Int.natCast_add]) (by simp) (by first | rfl | simp) (by first | rfl | simp | (simp; omega)))
    · rw [if_neg (fun c => e1 c.1)] at h
      have hnew := hK () h
      obtain ⟨ak, an, ai, ah, aa⟩ := a
      simp only [Ty.mk.injEq] at e1
      simp [fS76l1, fS76r0, fS76r1, fS76r2, fS76r3, fS76r4, fS76r5, fS76r6, fS76r7, fS76b0, fS76r8, fS76b1, fS76r9, fS76r10, fS76r11, fS76r12, fS76r13, fS76b2, fS76r14, fS76b3, fS76r15, fS76r16, fS76, hE, hi, hi', hib, hib', hm5, hm6, hx, hy, heq, equalS, hxo, e1, hw2, -Int.natCast_add]
      rcases hk with rfl | ⟨rfl, _⟩ <;> exact hnew _ _ (Less.auto (by simp [-Int.natCast_add]) (by simp) (by first | rfl | simp) (by first | rfl | simp | (simp; omega)))
theorem pairs_common_run {d : Nat} (hc : E.con 76 = embS (pcM (pcF d))) (heq : E.con 23 = equalS) (htv : E.con 52 = fnS (spec1 fun i : Int => some (tVar i))) {a b g : Ty} {X Y : List Ty} {R : List Pair} (h0l : X.length = Y.length) (hao : a.ok = true) (hbo : b.ok = true) (hL : pok (zipP X Y)) (hlen : X.length + a.size ≤ 8000) (hd : a.size ≤ d + 1) (hres : cmM a b (zipP X Y) = (g, R))
    {id ra rb : Nat} {vs : List V} {hs : HS} (hg : (pcD id ra rb a b X Y (R.map Pair.a) (R.map Pair.b) g).Good) (hfit : (pcD id ra rb a b X Y (R.map Pair.a) (R.map Pair.b) g).Fits vs hs) :
    CallOk ρ Tryz.prog 76 vs hs ((pcD id ra rb a b X Y (R.map Pair.a) (R.map Pair.b) g).v0.ren (news hs.n (pcD id ra rb a b X Y (R.map Pair.a) (R.map Pair.b) g).k (pcD id ra rb a b X Y (R.map Pair.a) (R.map Pair.b) g).π)) (embH hs (pcD id ra rb a b X Y (R.map Pair.a) (R.map Pair.b) g).k (pcD id ra rb a b X Y (R.map Pair.a) (R.map Pair.b) g).k' (pcD id ra rb a b X Y (R.map Pair.a) (R.map Pair.b) g).π (pcD id ra rb a b X Y (R.map Pair.a) (R.map Pair.b) g).OL') := by
  rw [← hE]
  refine em_runK (D := pcD id ra rb a b X Y (R.map Pair.a) (R.map Pair.b) g) (KK := fun v hs => GivesL (pcK X) (enc g) (pcL (R.map Pair.a) (R.map Pair.b)) v hs ∨ GivesF (pcK X) (enc g) (pcL (R.map Pair.a) (R.map Pair.b)) v hs) hρ hcon (by rw [hE]; exact follows) (by rw [hE]; exact named) (by rw [hE]; exact Tryz.func76) fB76 rfl hg ?_ (fun _ _ h => h) hfit
  clear hg hfit
  show Wp ρ E (pcK X) _ _ _ { H := mkP (pcL X Y), n := pcK X, log := [] } _
  rw [cmM_eq] at hres
  have hal := Ty.ok_len hao
  have hsz := Ty.size_pos a
  have hkk : pcK X = 1 ∨ pcK X = 3 ∧ X ≠ [] := by
    cases X with
    | nil => exact .inl rfl
    | cons x X => exact .inr ⟨rfl, by simp⟩
  have hzl := zipP_len h0l
  by_cases hcond : a.same b = true ∧ a.kind ≠ 1
  · rw [if_pos hcond] at hres
    obtain ⟨hs1, hs2⟩ := hcond
    obtain ⟨e1, e2, e3, e4, e5⟩ := same_iff.1 hs1
    have e5' : (a.args.length : Int) = b.args.length := by omega
    rcases hgg : cmL a.args b.args (zipP X Y) with ⟨gl, Lf⟩
    rw [hgg] at hres
    simp only [Prod.mk.injEq] at hres
    obtain ⟨rfl, rfl⟩ := hres
    have hend := fun (T : PT V) (hs : HS) (Q : Ex → PT V → HS → Prop) (hQ) (h0) => pairs_loop0 (T := T) (hs := hs) (Q := Q) hρ hE hcon hc hkk hao hbo e5 h0l hL hlen hd hgg hQ h0
    have hpl : X.length ≤ Lf.length := by
      obtain ⟨⟨M, hM⟩, _⟩ := cm_gn (a := a) (b := b) (L := zipP X Y)
      rw [cmM_eq, if_pos ⟨hs1, hs2⟩, hgg] at hM
      rw [← hzl, show Lf = zipP X Y ++ M from hM]; simp
    have hk2 : ¬ b.kind = 1 := by rw [← e1]; exact hs2
    have hnn : ∀ l : List Ty, normLL (l.map encTy) = l.map encTy := fun l => by simp
    have hX2l : (Lf.map Pair.a).length = (Lf.map Pair.b).length := by simp
    have hX3l : (Lf.map Pair.a).length = Lf.length := by simp
    generalize Lf.map Pair.a = X2 at hend hX2l hX3l
    generalize Lf.map Pair.b = Y2 at hend hX2l
    rcases X with _ | ⟨x, X⟩
    · have hY0 : Y = [] := List.length_eq_zero_iff.1 h0l.symm
      subst hY0
      simp [fS76r0, fS76r1, fS76r2, fS76r3, fS76r4, fS76r5, fS76r6, fS76r7, fS76b0, fS76r8, fS76b1, fS76r9, fS76r10, fS76r11, fS76r12, fS76r13, fS76b2, fS76r14, fS76b3, fS76r15, fS76r16, fS76, hE, e1, e2, e3, e4, e5, e5', hk2, pcL, pcK]
      refine hend _ _ _ ?_ (Less.auto (by simp) (by simp [e1, e2, e3, e4]) (by first | rfl | simp) (by first | rfl | simp [pcK] | (simp [pcK]; omega)))
      rcases X2 with _ | ⟨x2, X2⟩
      · have hY0 : Y2 = [] := List.length_eq_zero_iff.1 hX2l.symm
        subst hY0
        rcases gl with _ | ⟨gg, gl⟩
        · simp [fS76r0, fS76r1, fS76r2, fS76r3, fS76r4, fS76r5, fS76r6, fS76r7, fS76b0, fS76r8, fS76b1, fS76r9, fS76r10, fS76r11, fS76r12, fS76r13, fS76b2, fS76r14, fS76b3, fS76r15, fS76r16, fS76, hE]
          exact .inr (GivesF.keep (by first | rfl | simp) (by first | rfl | simp) (by simp [still2, e1, e2, e3, e4]) (by simp [ownB]))
        · simp [fS76r0, fS76r1, fS76r2, fS76r3, fS76r4, fS76r5, fS76r6, fS76r7, fS76b0, fS76r8, fS76b1, fS76r9, fS76r10, fS76r11, fS76r12, fS76r13, fS76b2, fS76r14, fS76b3, fS76r15, fS76r16, fS76, hE]
          exact .inr (GivesF.keep (by first | rfl | simp) (by first | rfl | simp) (by simp [still2, e1, e2, e3, e4]) (by simp [ownB]))
      · rcases Y2 with _ | ⟨y2, Y2⟩
        · simp at hX2l
        rcases gl with _ | ⟨gg, gl⟩
        · simp [fS76r0, fS76r1, fS76r2, fS76r3, fS76r4, fS76r5, fS76r6, fS76r7, fS76b0, fS76r8, fS76b1, fS76r9, fS76r10, fS76r11, fS76r12, fS76r13, fS76b2, fS76r14, fS76b3, fS76r15, fS76r16, fS76, hE]
          exact .inr (GivesF.keep (by first | rfl | simp) (by first | rfl | simp) (by simp [still2, e1, e2, e3, e4]) (by simp [ownB]))
        · simp [fS76r0, fS76r1, fS76r2, fS76r3, fS76r4, fS76r5, fS76r6, fS76r7, fS76b0, fS76r8, fS76b1, fS76r9, fS76r10, fS76r11, fS76r12, fS76r13, fS76b2, fS76r14, fS76b3, fS76r15, fS76r16, fS76, hE]
          exact .inr (GivesF.keep (by first | rfl | simp) (by first | rfl | simp) (by simp [still2, e1, e2, e3, e4]) (by simp [ownB]))
    · rcases Y with _ | ⟨y, Y⟩
      · simp at h0l
      have h0l2 : X.length = Y.length := by simpa using h0l
      simp [fS76r0, fS76r1, fS76r2, fS76r3, fS76r4, fS76r5, fS76r6, fS76r7, fS76b0, fS76r8, fS76b1, fS76r9, fS76r10, fS76r11, fS76r12, fS76r13, fS76b2, fS76r14, fS76b3, fS76r15, fS76r16, fS76, hE, e1, e2, e3, e4, e5, e5', hk2, pcL, pcK]
      refine hend _ _ _ ?_ (Less.auto (by simp) (by simp [e1, e2, e3, e4]) (by first | rfl | simp) (by first | rfl | simp [pcK] | (simp [pcK]; omega)))
      rcases X2 with _ | ⟨x2, X2⟩
      · simp at hX3l; rw [← hX3l] at hpl; simp at hpl
      rcases Y2 with _ | ⟨y2, Y2⟩
      · simp at hX2l
      rcases gl with _ | ⟨gg, gl⟩
      · simp [fS76r0, fS76r1, fS76r2, fS76r3, fS76r4, fS76r5, fS76r6, fS76r7, fS76b0, fS76r8, fS76b1, fS76r9, fS76r10, fS76r11, fS76r12, fS76r13, fS76b2, fS76r14, fS76b3, fS76r15, fS76r16, fS76, hE]
        exact .inr (GivesF.keep (by first | rfl | simp) (by first | rfl | simp) (by simp [still2, e1, e2, e3, e4]) (by simp [ownB]))
      · simp [fS76r0, fS76r1, fS76r2, fS76r3, fS76r4, fS76r5, fS76r6, fS76r7, fS76b0, fS76r8, fS76b1, fS76r9, fS76r10, fS76r11, fS76r12, fS76r13, fS76b2, fS76r14, fS76b3, fS76r15, fS76r16, fS76, hE]
        exact .inr (GivesF.keep (by first | rfl | simp) (by first | rfl | simp) (by simp [still2, e1, e2, e3, e4]) (by simp [ownB]))
  · rw [if_neg hcond] at hres
    have hns : ¬ (a.kind = b.kind ∧ a.name = b.name ∧ a.id = b.id ∧ a.home = b.home ∧ a.args.length = b.args.length ∧ a.kind ≠ 1) := fun h => hcond ⟨same_iff.2 ⟨h.1, h.2.1, h.2.2.1, h.2.2.2.1, h.2.2.2.2.1⟩, h.2.2.2.2.2⟩
    have hXo : ∀ x ∈ X, x.ok = true := fun x hx => by
      rw [← zipP_fst h0l] at hx
      obtain ⟨p, hp, rfl⟩ := List.mem_map.1 hx
      exact (hL p hp).1
    have hYo : ∀ x ∈ Y, x.ok = true := fun x hx => by
      rw [← zipP_snd h0l] at hx
      obtain ⟨p, hp, rfl⟩ := List.mem_map.1 hx
      exact (hL p hp).2
    have hend1 := fun (T : PT V) (hs : HS) (Q : Ex → PT V → HS → Prop) (hQ1) (hQ2) (h0) => pairs_loop1 (a := a) (b := b) (T := T) (hs := hs) (Q := Q) hρ hE hcon heq htv hkk hao hbo h0l hXo hYo (by omega) hQ1 hQ2 h0
    have hid0 := idx2_ix (a := a) (b := b) (i := 0) h0l
    cases hj : ixP (zipP X Y) a b with
    | some j =>
      rw [hj] at hres hid0
      simp only [Prod.mk.injEq] at hres
      obtain ⟨rfl, rfl⟩ := hres
      rw [zipP_fst h0l, zipP_snd h0l]
      have hid : idx2 a b X Y 0 = some j := hid0
      rcases X with _ | ⟨x, X⟩
      · have hY0 : Y = [] := List.length_eq_zero_iff.1 h0l.symm
        subst hY0
        cases hid
      · rcases Y with _ | ⟨y, Y⟩
        · simp at h0l
        by_cases q1 : a.kind = b.kind
        case neg =>
          simp [fS76r0, fS76r1, fS76r2, fS76r3, fS76r4, fS76r5, fS76r6, fS76r7, fS76b0, fS76r8, fS76b1, fS76r9, fS76r10, fS76r11, fS76r12, fS76r13, fS76b2, fS76r14, fS76b3, fS76r15, fS76r16, fS76, hE, q1, pcL, pcK]
          refine hend1 _ _ _ (fun j' hj' => ?_) (fun hn => ?_) (Less.auto (by simp) (by simp [q1]) (by first | rfl | simp) (by first | rfl | simp | (simp; omega)))
          · rw [hid] at hj'
            cases hj'
            simp [fS76r0, fS76r1, fS76r2, fS76r3, fS76r4, fS76r5, fS76r6, fS76r7, fS76b0, fS76r8, fS76b1, fS76r9, fS76r10, fS76r11, fS76r12, fS76r13, fS76b2, fS76r14, fS76b3, fS76r15, fS76r16, fS76, hE, tVar]
            exact .inl (GivesL.keepX (by first | rfl | simp) (by first | rfl | simp) (by first | rfl | simp) (by simp))
          · rw [hid] at hn
            cases hn
        by_cases q2 : a.name = b.name
        case neg =>
          simp [fS76r0, fS76r1, fS76r2, fS76r3, fS76r4, fS76r5, fS76r6, fS76r7, fS76b0, fS76r8, fS76b1, fS76r9, fS76r10, fS76r11, fS76r12, fS76r13, fS76b2, fS76r14, fS76b3, fS76r15, fS76r16, fS76, hE, q1, q2, pcL, pcK]
          refine hend1 _ _ _ (fun j' hj' => ?_) (fun hn => ?_) (Less.auto (by simp) (by simp [q1, q2]) (by first | rfl | simp) (by first | rfl | simp | (simp; omega)))
          · rw [hid] at hj'
            cases hj'
            simp [fS76r0, fS76r1, fS76r2, fS76r3, fS76r4, fS76r5, fS76r6, fS76r7, fS76b0, fS76r8, fS76b1, fS76r9, fS76r10, fS76r11, fS76r12, fS76r13, fS76b2, fS76r14, fS76b3, fS76r15, fS76r16, fS76, hE, tVar]
            exact .inl (GivesL.keepX (by first | rfl | simp) (by first | rfl | simp) (by first | rfl | simp) (by simp))
          · rw [hid] at hn
            cases hn
        by_cases q3 : a.id = b.id
        case neg =>
          simp [fS76r0, fS76r1, fS76r2, fS76r3, fS76r4, fS76r5, fS76r6, fS76r7, fS76b0, fS76r8, fS76b1, fS76r9, fS76r10, fS76r11, fS76r12, fS76r13, fS76b2, fS76r14, fS76b3, fS76r15, fS76r16, fS76, hE, q1, q2, q3, pcL, pcK]
          refine hend1 _ _ _ (fun j' hj' => ?_) (fun hn => ?_) (Less.auto (by simp) (by simp [q1, q2, q3]) (by first | rfl | simp) (by first | rfl | simp | (simp; omega)))
          · rw [hid] at hj'
            cases hj'
            simp [fS76r0, fS76r1, fS76r2, fS76r3, fS76r4, fS76r5, fS76r6, fS76r7, fS76b0, fS76r8, fS76b1, fS76r9, fS76r10, fS76r11, fS76r12, fS76r13, fS76b2, fS76r14, fS76b3, fS76r15, fS76r16, fS76, hE, tVar]
            exact .inl (GivesL.keepX (by first | rfl | simp) (by first | rfl | simp) (by first | rfl | simp) (by simp))
          · rw [hid] at hn
            cases hn
        by_cases q4 : a.home = b.home
        case neg =>
          simp [fS76r0, fS76r1, fS76r2, fS76r3, fS76r4, fS76r5, fS76r6, fS76r7, fS76b0, fS76r8, fS76b1, fS76r9, fS76r10, fS76r11, fS76r12, fS76r13, fS76b2, fS76r14, fS76b3, fS76r15, fS76r16, fS76, hE, q1, q2, q3, q4, pcL, pcK]
          refine hend1 _ _ _ (fun j' hj' => ?_) (fun hn => ?_) (Less.auto (by simp) (by simp [q1, q2, q3, q4]) (by first | rfl | simp) (by first | rfl | simp | (simp; omega)))
          · rw [hid] at hj'
            cases hj'
            simp [fS76r0, fS76r1, fS76r2, fS76r3, fS76r4, fS76r5, fS76r6, fS76r7, fS76b0, fS76r8, fS76b1, fS76r9, fS76r10, fS76r11, fS76r12, fS76r13, fS76b2, fS76r14, fS76b3, fS76r15, fS76r16, fS76, hE, tVar]
            exact .inl (GivesL.keepX (by first | rfl | simp) (by first | rfl | simp) (by first | rfl | simp) (by simp))
          · rw [hid] at hn
            cases hn
        by_cases q5 : (a.args.length : Int) = b.args.length
        case neg =>
          simp [fS76r0, fS76r1, fS76r2, fS76r3, fS76r4, fS76r5, fS76r6, fS76r7, fS76b0, fS76r8, fS76b1, fS76r9, fS76r10, fS76r11, fS76r12, fS76r13, fS76b2, fS76r14, fS76b3, fS76r15, fS76r16, fS76, hE, q1, q2, q3, q4, q5, pcL, pcK]
          refine hend1 _ _ _ (fun j' hj' => ?_) (fun hn => ?_) (Less.auto (by simp) (by simp [q1, q2, q3, q4, q5]) (by first | rfl | simp) (by first | rfl | simp | (simp; omega)))
          · rw [hid] at hj'
            cases hj'
            simp [fS76r0, fS76r1, fS76r2, fS76r3, fS76r4, fS76r5, fS76r6, fS76r7, fS76b0, fS76r8, fS76b1, fS76r9, fS76r10, fS76r11, fS76r12, fS76r13, fS76b2, fS76r14, fS76b3, fS76r15, fS76r16, fS76, hE, tVar]
            exact .inl (GivesL.keepX (by first | rfl | simp) (by first | rfl | simp) (by first | rfl | simp) (by simp))
          · rw [hid] at hn
            cases hn
        have q6 : b.kind = 1 := Classical.byContradiction fun h => hns ⟨q1, q2, q3, q4, by omega, by rw [q1]; exact h⟩
        simp [fS76r0, fS76r1, fS76r2, fS76r3, fS76r4, fS76r5, fS76r6, fS76r7, fS76b0, fS76r8, fS76b1, fS76r9, fS76r10, fS76r11, fS76r12, fS76r13, fS76b2, fS76r14, fS76b3, fS76r15, fS76r16, fS76, hE, q1, q2, q3, q4, q5, q6, pcL, pcK]
        refine hend1 _ _ _ (fun j' hj' => ?_) (fun hn => ?_) (Less.auto (by simp) (by simp [q1, q2, q3, q4, q5, q6]) (by first | rfl | simp) (by first | rfl | simp | (simp; omega)))
        · rw [hid] at hj'
          cases hj'
          simp [fS76r0, fS76r1, fS76r2, fS76r3, fS76r4, fS76r5, fS76r6, fS76r7, fS76b0, fS76r8, fS76b1, fS76r9, fS76r10, fS76r11, fS76r12, fS76r13, fS76b2, fS76r14, fS76b3, fS76r15, fS76r16, fS76, hE, tVar]
          exact .inl (GivesL.keepX (by first | rfl | simp) (by first | rfl | simp) (by first | rfl | simp) (by simp))
        · rw [hid] at hn
          cases hn
    | none =>
      rw [hj] at hres hid0
      simp only [Prod.mk.injEq] at hres
      obtain ⟨rfl, rfl⟩ := hres
      rw [List.map_append, List.map_append, zipP_fst h0l, zipP_snd h0l, hzl]
      have hid : idx2 a b X Y 0 = none := hid0
      rcases X with _ | ⟨x, X⟩
      · have hY0 : Y = [] := List.length_eq_zero_iff.1 h0l.symm
        subst hY0
        by_cases q1 : a.kind = b.kind
        case neg =>
          simp [fS76r0, fS76r1, fS76r2, fS76r3, fS76r4, fS76r5, fS76r6, fS76r7, fS76b0, fS76r8, fS76b1, fS76r9, fS76r10, fS76r11, fS76r12, fS76r13, fS76b2, fS76r14, fS76b3, fS76r15, fS76r16, fS76, hE, q1, pcL, pcK]
          refine hend1 _ _ _ (fun j' hj' => ?_) (fun hn => ?_) (Less.auto (by simp) (by simp [q1]) (by first | rfl | simp) (by first | rfl | simp | (simp; omega)))
          · rw [hid] at hj'
            cases hj'
          · simp [fS76r0, fS76r1, fS76r2, fS76r3, fS76r4, fS76r5, fS76r6, fS76r7, fS76b0, fS76r8, fS76b1, fS76r9, fS76r10, fS76r11, fS76r12, fS76r13, fS76b2, fS76r14, fS76b3, fS76r15, fS76r16, fS76, hE, htv, tVar, show IntKind.i64.wrap 0 = 0 from rfl]
            exact .inl (GivesL.litX (fun k => if k = 1 then 14 else if k = 2 then 21 else k) (by first | rfl | simp) (by first | rfl | simp) ⟨by first | rfl | simp, by first | rfl | simp⟩ (by simp))
        by_cases q2 : a.name = b.name
        case neg =>
          simp [fS76r0, fS76r1, fS76r2, fS76r3, fS76r4, fS76r5, fS76r6, fS76r7, fS76b0, fS76r8, fS76b1, fS76r9, fS76r10, fS76r11, fS76r12, fS76r13, fS76b2, fS76r14, fS76b3, fS76r15, fS76r16, fS76, hE, q1, q2, pcL, pcK]
          refine hend1 _ _ _ (fun j' hj' => ?_) (fun hn => ?_) (Less.auto (by simp) (by simp [q1, q2]) (by first | rfl | simp) (by first | rfl | simp | (simp; omega)))
          · rw [hid] at hj'
            cases hj'
          · simp [fS76r0, fS76r1, fS76r2, fS76r3, fS76r4, fS76r5, fS76r6, fS76r7, fS76b0, fS76r8, fS76b1, fS76r9, fS76r10, fS76r11, fS76r12, fS76r13, fS76b2, fS76r14, fS76b3, fS76r15, fS76r16, fS76, hE, htv, tVar, show IntKind.i64.wrap 0 = 0 from rfl]
            exact .inl (GivesL.litX (fun k => if k = 1 then 14 else if k = 2 then 21 else k) (by first | rfl | simp) (by first | rfl | simp) ⟨by first | rfl | simp, by first | rfl | simp⟩ (by simp))
        by_cases q3 : a.id = b.id
        case neg =>
          simp [fS76r0, fS76r1, fS76r2, fS76r3, fS76r4, fS76r5, fS76r6, fS76r7, fS76b0, fS76r8, fS76b1, fS76r9, fS76r10, fS76r11, fS76r12, fS76r13, fS76b2, fS76r14, fS76b3, fS76r15, fS76r16, fS76, hE, q1, q2, q3, pcL, pcK]
          refine hend1 _ _ _ (fun j' hj' => ?_) (fun hn => ?_) (Less.auto (by simp) (by simp [q1, q2, q3]) (by first | rfl | simp) (by first | rfl | simp | (simp; omega)))
          · rw [hid] at hj'
            cases hj'
          · simp [fS76r0, fS76r1, fS76r2, fS76r3, fS76r4, fS76r5, fS76r6, fS76r7, fS76b0, fS76r8, fS76b1, fS76r9, fS76r10, fS76r11, fS76r12, fS76r13, fS76b2, fS76r14, fS76b3, fS76r15, fS76r16, fS76, hE, htv, tVar, show IntKind.i64.wrap 0 = 0 from rfl]
            exact .inl (GivesL.litX (fun k => if k = 1 then 14 else if k = 2 then 21 else k) (by first | rfl | simp) (by first | rfl | simp) ⟨by first | rfl | simp, by first | rfl | simp⟩ (by simp))
        by_cases q4 : a.home = b.home
        case neg =>
          simp [fS76r0, fS76r1, fS76r2, fS76r3, fS76r4, fS76r5, fS76r6, fS76r7, fS76b0, fS76r8, fS76b1, fS76r9, fS76r10, fS76r11, fS76r12, fS76r13, fS76b2, fS76r14, fS76b3, fS76r15, fS76r16, fS76, hE, q1, q2, q3, q4, pcL, pcK]
          refine hend1 _ _ _ (fun j' hj' => ?_) (fun hn => ?_) (Less.auto (by simp) (by simp [q1, q2, q3, q4]) (by first | rfl | simp) (by first | rfl | simp | (simp; omega)))
          · rw [hid] at hj'
            cases hj'
          · simp [fS76r0, fS76r1, fS76r2, fS76r3, fS76r4, fS76r5, fS76r6, fS76r7, fS76b0, fS76r8, fS76b1, fS76r9, fS76r10, fS76r11, fS76r12, fS76r13, fS76b2, fS76r14, fS76b3, fS76r15, fS76r16, fS76, hE, htv, tVar, show IntKind.i64.wrap 0 = 0 from rfl]
            exact .inl (GivesL.litX (fun k => if k = 1 then 14 else if k = 2 then 21 else k) (by first | rfl | simp) (by first | rfl | simp) ⟨by first | rfl | simp, by first | rfl | simp⟩ (by simp))
        by_cases q5 : (a.args.length : Int) = b.args.length
        case neg =>
          simp [fS76r0, fS76r1, fS76r2, fS76r3, fS76r4, fS76r5, fS76r6, fS76r7, fS76b0, fS76r8, fS76b1, fS76r9, fS76r10, fS76r11, fS76r12, fS76r13, fS76b2, fS76r14, fS76b3, fS76r15, fS76r16, fS76, hE, q1, q2, q3, q4, q5, pcL, pcK]
          refine hend1 _ _ _ (fun j' hj' => ?_) (fun hn => ?_) (Less.auto (by simp) (by simp [q1, q2, q3, q4, q5]) (by first | rfl | simp) (by first | rfl | simp | (simp; omega)))
          · rw [hid] at hj'
            cases hj'
          · simp [fS76r0, fS76r1, fS76r2, fS76r3, fS76r4, fS76r5, fS76r6, fS76r7, fS76b0, fS76r8, fS76b1, fS76r9, fS76r10, fS76r11, fS76r12, fS76r13, fS76b2, fS76r14, fS76b3, fS76r15, fS76r16, fS76, hE, htv, tVar, show IntKind.i64.wrap 0 = 0 from rfl]
            exact .inl (GivesL.litX (fun k => if k = 1 then 14 else if k = 2 then 21 else k) (by first | rfl | simp) (by first | rfl | simp) ⟨by first | rfl | simp, by first | rfl | simp⟩ (by simp))
        have q6 : b.kind = 1 := Classical.byContradiction fun h => hns ⟨q1, q2, q3, q4, by omega, by rw [q1]; exact h⟩
        simp [fS76r0, fS76r1, fS76r2, fS76r3, fS76r4, fS76r5, fS76r6, fS76r7, fS76b0, fS76r8, fS76b1, fS76r9, fS76r10, fS76r11, fS76r12, fS76r13, fS76b2, fS76r14, fS76b3, fS76r15, fS76r16, fS76, hE, q1, q2, q3, q4, q5, q6, pcL, pcK]
        refine hend1 _ _ _ (fun j' hj' => ?_) (fun hn => ?_) (Less.auto (by simp) (by simp [q1, q2, q3, q4, q5, q6]) (by first | rfl | simp) (by first | rfl | simp | (simp; omega)))
        · rw [hid] at hj'
          cases hj'
        · simp [fS76r0, fS76r1, fS76r2, fS76r3, fS76r4, fS76r5, fS76r6, fS76r7, fS76b0, fS76r8, fS76b1, fS76r9, fS76r10, fS76r11, fS76r12, fS76r13, fS76b2, fS76r14, fS76b3, fS76r15, fS76r16, fS76, hE, htv, tVar, show IntKind.i64.wrap 0 = 0 from rfl]
          exact .inl (GivesL.litX (fun k => if k = 1 then 14 else if k = 2 then 21 else k) (by first | rfl | simp) (by first | rfl | simp) ⟨by first | rfl | simp, by first | rfl | simp⟩ (by simp))
      · rcases Y with _ | ⟨y, Y⟩
        · simp at h0l
        have h64 : (X.length + 1 + 1) * 64 ≤ 1048576 := Nat.le_trans (Nat.mul_le_mul_right 64 (show X.length + 1 + 1 ≤ 8001 by simp only [List.length_cons] at hlen; omega)) (by decide)
        have h65 : (Y.length + 1 + 1) * 64 ≤ 1048576 := by rw [show Y.length = X.length by simpa using h0l.symm]; exact h64
        have hw : IntKind.i64.wrap ((X.length : Int) + 1) = (X.length : Int) + 1 := wrap_i64 (by omega) (by simp only [List.length_cons] at hlen; omega)
        by_cases q1 : a.kind = b.kind
        case neg =>
          simp [fS76r0, fS76r1, fS76r2, fS76r3, fS76r4, fS76r5, fS76r6, fS76r7, fS76b0, fS76r8, fS76b1, fS76r9, fS76r10, fS76r11, fS76r12, fS76r13, fS76b2, fS76r14, fS76b3, fS76r15, fS76r16, fS76, hE, q1, pcL, pcK]
          refine hend1 _ _ _ (fun j' hj' => ?_) (fun hn => ?_) (Less.auto (by simp) (by simp [q1]) (by first | rfl | simp) (by first | rfl | simp | (simp; omega)))
          · rw [hid] at hj'
            cases hj'
          · simp [fS76r0, fS76r1, fS76r2, fS76r3, fS76r4, fS76r5, fS76r6, fS76r7, fS76b0, fS76r8, fS76b1, fS76r9, fS76r10, fS76r11, fS76r12, fS76r13, fS76b2, fS76r14, fS76b3, fS76r15, fS76r16, fS76, hE, htv, h64, h65, hw, tVar, Nat.not_succ_le_self]
            exact .inl (GivesL.keepX (by first | rfl | simp) (by first | rfl | simp) (by first | rfl | simp) (by simp))
        by_cases q2 : a.name = b.name
        case neg =>
          simp [fS76r0, fS76r1, fS76r2, fS76r3, fS76r4, fS76r5, fS76r6, fS76r7, fS76b0, fS76r8, fS76b1, fS76r9, fS76r10, fS76r11, fS76r12, fS76r13, fS76b2, fS76r14, fS76b3, fS76r15, fS76r16, fS76, hE, q1, q2, pcL, pcK]
          refine hend1 _ _ _ (fun j' hj' => ?_) (fun hn => ?_) (Less.auto (by simp) (by simp [q1, q2]) (by first | rfl | simp) (by first | rfl | simp | (simp; omega)))
          · rw [hid] at hj'
            cases hj'
          · simp [fS76r0, fS76r1, fS76r2, fS76r3, fS76r4, fS76r5, fS76r6, fS76r7, fS76b0, fS76r8, fS76b1, fS76r9, fS76r10, fS76r11, fS76r12, fS76r13, fS76b2, fS76r14, fS76b3, fS76r15, fS76r16, fS76, hE, htv, h64, h65, hw, tVar, Nat.not_succ_le_self]
            exact .inl (GivesL.keepX (by first | rfl | simp) (by first | rfl | simp) (by first | rfl | simp) (by simp))
        by_cases q3 : a.id = b.id
        case neg =>
          simp [fS76r0, fS76r1, fS76r2, fS76r3, fS76r4, fS76r5, fS76r6, fS76r7, fS76b0, fS76r8, fS76b1, fS76r9, fS76r10, fS76r11, fS76r12, fS76r13, fS76b2, fS76r14, fS76b3, fS76r15, fS76r16, fS76, hE, q1, q2, q3, pcL, pcK]
          refine hend1 _ _ _ (fun j' hj' => ?_) (fun hn => ?_) (Less.auto (by simp) (by simp [q1, q2, q3]) (by first | rfl | simp) (by first | rfl | simp | (simp; omega)))
          · rw [hid] at hj'
            cases hj'
          · simp [fS76r0, fS76r1, fS76r2, fS76r3, fS76r4, fS76r5, fS76r6, fS76r7, fS76b0, fS76r8, fS76b1, fS76r9, fS76r10, fS76r11, fS76r12, fS76r13, fS76b2, fS76r14, fS76b3, fS76r15, fS76r16, fS76, hE, htv, h64, h65, hw, tVar, Nat.not_succ_le_self]
            exact .inl (GivesL.keepX (by first | rfl | simp) (by first | rfl | simp) (by first | rfl | simp) (by simp))
        by_cases q4 : a.home = b.home
        case neg =>
          simp [fS76r0, fS76r1, fS76r2, fS76r3, fS76r4, fS76r5, fS76r6, fS76r7, fS76b0, fS76r8, fS76b1, fS76r9, fS76r10, fS76r11, fS76r12, fS76r13, fS76b2, fS76r14, fS76b3, fS76r15, fS76r16, fS76, hE, q1, q2, q3, q4, pcL, pcK]
          refine hend1 _ _ _ (fun j' hj' => ?_) (fun hn => ?_) (Less.auto (by simp) (by simp [q1, q2, q3, q4]) (by first | rfl | simp) (by first | rfl | simp | (simp; omega)))
          · rw [hid] at hj'
            cases hj'
          · simp [fS76r0, fS76r1, fS76r2, fS76r3, fS76r4, fS76r5, fS76r6, fS76r7, fS76b0, fS76r8, fS76b1, fS76r9, fS76r10, fS76r11, fS76r12, fS76r13, fS76b2, fS76r14, fS76b3, fS76r15, fS76r16, fS76, hE, htv, h64, h65, hw, tVar, Nat.not_succ_le_self]
            exact .inl (GivesL.keepX (by first | rfl | simp) (by first | rfl | simp) (by first | rfl | simp) (by simp))
        by_cases q5 : (a.args.length : Int) = b.args.length
        case neg =>
          simp [fS76r0, fS76r1, fS76r2, fS76r3, fS76r4, fS76r5, fS76r6, fS76r7, fS76b0, fS76r8, fS76b1, fS76r9, fS76r10, fS76r11, fS76r12, fS76r13, fS76b2, fS76r14, fS76b3, fS76r15, fS76r16, fS76, hE, q1, q2, q3, q4, q5, pcL, pcK]
          refine hend1 _ _ _ (fun j' hj' => ?_) (fun hn => ?_) (Less.auto (by simp) (by simp [q1, q2, q3, q4, q5]) (by first | rfl | simp) (by first | rfl | simp | (simp; omega)))
          · rw [hid] at hj'
            cases hj'
          · simp [fS76r0, fS76r1, fS76r2, fS76r3, fS76r4, fS76r5, fS76r6, fS76r7, fS76b0, fS76r8, fS76b1, fS76r9, fS76r10, fS76r11, fS76r12, fS76r13, fS76b2, fS76r14, fS76b3, fS76r15, fS76r16, fS76, hE, htv, h64, h65, hw, tVar, Nat.not_succ_le_self]
            exact .inl (GivesL.keepX (by first | rfl | simp) (by first | rfl | simp) (by first | rfl | simp) (by simp))
        have q6 : b.kind = 1 := Classical.byContradiction fun h => hns ⟨q1, q2, q3, q4, by omega, by rw [q1]; exact h⟩
        simp [fS76r0, fS76r1, fS76r2, fS76r3, fS76r4, fS76r5, fS76r6, fS76r7, fS76b0, fS76r8, fS76b1, fS76r9, fS76r10, fS76r11, fS76r12, fS76r13, fS76b2, fS76r14, fS76b3, fS76r15, fS76r16, fS76, hE, q1, q2, q3, q4, q5, q6, pcL, pcK]
        refine hend1 _ _ _ (fun j' hj' => ?_) (fun hn => ?_) (Less.auto (by simp) (by simp [q1, q2, q3, q4, q5, q6]) (by first | rfl | simp) (by first | rfl | simp | (simp; omega)))
        · rw [hid] at hj'
          cases hj'
        · simp [fS76r0, fS76r1, fS76r2, fS76r3, fS76r4, fS76r5, fS76r6, fS76r7, fS76b0, fS76r8, fS76b1, fS76r9, fS76r10, fS76r11, fS76r12, fS76r13, fS76b2, fS76r14, fS76b3, fS76r15, fS76r16, fS76, hE, htv, h64, h65, hw, tVar, Nat.not_succ_le_self]
          exact .inl (GivesL.keepX (by first | rfl | simp) (by first | rfl | simp) (by first | rfl | simp) (by simp))
end
section
variable {ρ : Nat → Value} (hρ : J.Good ρ)
include hρ
theorem vPairs (d : Nat) : Valid ρ Tryz.prog 76 (embS (pcM (pcF d))) := by
  induction d with
  | zero =>
    refine Valid.emb (fo Tryz.func76 fB76) fun vs hs D h => ?_
    obtain ⟨id, ra, rb, a, b, X, Y, r, hF, rfl, _⟩ := pcM_inv h
    obtain ⟨⟨h1, h2, h3, h4, h5, h6⟩, rfl⟩ := ite_inv hF
    have := Ty.size_pos a
    omega
  | succ d ih =>
    refine Valid.emb (fo Tryz.func76 fB76) fun vs hs D h => ?_
    obtain ⟨id, ra, rb, a, b, X, Y, r, hF, rfl, _, _, _, hg, hfit⟩ := pcM_inv h
    obtain ⟨⟨h1, h2, h3, h4, h5, h6⟩, rfl⟩ := ite_inv hF
    exact pairs_common_run hρ (E := EL [(76, embS (pcM (pcF d))), (23, equalS), (52, fnS (spec1 fun i : Int => some (tVar i)))]) rfl
      (consOk_list (valid_cons ih (valid_cons (vEqual hρ) (valid_cons (vVar hρ) valid_nil)))) rfl rfl rfl h1 h2 h3 h4 h5 h6 rfl hg hfit
end
end Go.Proofs.YthfcfmkdeheicaaGreat
