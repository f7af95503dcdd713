import Derived.Test.YthfcfmkdeheicaaGreatGN3
set_option linter.all false
set_option linter.all false
namespace Go.Proofs.YthfcfmkdeheicaaGreat
open Go.J
open Go.J.Enc (enc)
set_option maxRecDepth 100000
set_option maxHeartbeats 1000000
section
variable {ρ : Nat → Value} (hρ : J.Good ρ)
include hρ
section
variable {E : Env} (hE : E.P = Tryz.prog) (hcon : ConsOk ρ E)
include hE hcon
theorem ref15_Common_run (hc : E.con 76 = embS (pcM (pcF 8000))) {a b : Ty} (hao : a.ok = true) (hbo : b.ok = true) (hd : a.size ≤ 8000) (hs : HS) : CallOk ρ Tryz.prog 22 [enc a, enc b] hs (enc (⟨comM a b, asgL Pair.a (comL a b) 0, asgL Pair.b (comL a b) 0⟩ : T3 Ty (List Assign) (List Assign))) hs := by
  refine fn hρ hE hcon Tryz.func22 fB22 rfl (by simp) ?_ hs
  have hF : pcF 8000 [] [] a b = some ⟨(comL a b).map Pair.a, (comL a b).map Pair.b, comM a b⟩ := if_pos ⟨rfl, hao, hbo, fun p hp => (by cases hp), by simpa using hd, hd⟩
  have hl : (comL a b).length ≤ 8000 := by
    have := (cm_gn (a := a) (b := b) (L := [])).2.2.2
    show (cmM a b []).2.length ≤ 8000
    simp at this; omega
  generalize comM a b = g at hF
  generalize comL a b = L at hF hl
  by_cases hL0 : L = []
  · subst hL0
    simp [fS22r0, fS22r1, fS22r2, fS22r3, fS22r4, fS22r5, fS22r6, fS22b0, fS22r7, fS22b1, fS22r8, fS22, hE, hc, hF, vacant_eq]
    refine lpi hρ hE hcon 0 (nn := 3) (fun i (_ : Unit) => [(4, .ptr 1 0 0), (7, .ptr 2 0 0), (8, .ptr 0 0 0), (9, .snil), (10, .snil), (11, .int .i64 0)]) (fun i _ => [(0, box (encTy g)), (1, box zTy), (2, .arr 2 0 [[.snil, .snil]] true false false)]) (fun i _ => True) ()
      (Less.auto (by simp) (by simp) rfl rfl) trivial ?_ ?_
    · intro _ h K
      simp [fS22l0, fS22r0, fS22r1, fS22r2, fS22r3, fS22r4, fS22r5, fS22r6, fS22b0, fS22r7, fS22b1, fS22r8, fS22, hE]
      refine LessQ.mk (Less.auto (TL := [(4, .ptr 1 0 0), (8, .ptr 0 0 0), (9, .snil), (10, .snil)]) (HL := [(0, box (encTy g)), (1, box zTy)]) (n := 2) (by simp) (by simp) rfl rfl) ?_
      simp [fS22r0, fS22r1, fS22r2, fS22r3, fS22r4, fS22r5, fS22r6, fS22b0, fS22r7, fS22b1, fS22r8, fS22, hE, asgL]
    · intro i _ hi
      omega
  · have hlA : (L.map Pair.a).length = L.length := by simp
    have hlB : (L.map Pair.b).length = L.length := by simp
    have hgA : ∀ i (hi : i < L.length) (h : i < (L.map Pair.a).length), (L.map Pair.a)[i] = L[i].a := fun i hi h => by simp
    have hgB : ∀ i (hi : i < L.length) (h : i < (L.map Pair.b).length), (L.map Pair.b)[i] = L[i].b := fun i hi h => by simp
    generalize L.map Pair.a = P at hF hlA hgA
    generalize L.map Pair.b = R at hF hlB hgB
    have hpos : 0 < L.length := List.length_pos_iff.2 hL0
    rcases P with _ | ⟨p0, P0⟩
    · simp at hlA; omega
    rcases R with _ | ⟨r0, R0⟩
    · simp at hlB; omega
    have hPR : P0.length = R0.length := by simp only [List.length_cons] at hlA hlB; omega
    simp [fS22r0, fS22r1, fS22r2, fS22r3, fS22r4, fS22r5, fS22r6, fS22b0, fS22r7, fS22b1, fS22r8, fS22, hE, hc, hF, vacant_eq, hPR]
    have hmain : ∀ (T : PT V) (hs : HS) (Q : Ex → PT V → HS → Prop),
        Less 0 T hs (mkP [(4, .ptr 1 0 0), (7, .ptr 2 0 0), (8, .ptr 0 0 0), (9, .snil), (10, .snil), (11, .int .i64 ((0 : Nat) : Int))]) { H := mkP ([(0, box (encTy g)), (1, box zTy), (2, .arr 2 0 [[oV 3 ((p0 :: P0).map encTy), oV 4 ((r0 :: R0).map encTy)]] true false false)] ++ oH 3 5 ((p0 :: P0).map encTy) ++ oH 4 5 ((r0 :: R0).map encTy)), n := 7, log := [] } →
        Q (.exit 0) (mkP [(4, .ptr 1 0 0), (8, .ptr 0 0 0), (9, oV 2 ((asgL Pair.a L 0).map encAssign)), (10, oV 3 ((asgL Pair.b L 0).map encAssign))]) { H := mkP ([(0, box (encTy g)), (1, box zTy)] ++ oH 2 6 ((asgL Pair.a L 0).map encAssign) ++ oH 3 6 ((asgL Pair.b L 0).map encAssign)), n := 4, log := [] } →
        Ls ρ E 0 54 (.loop fS22l0) T hs Q := by
      intro T hs Q h0 hQ
      clear hF
      generalize hP : p0 :: P0 = P at *
      generalize hR : r0 :: R0 = R at *
      have hneP : P.map encTy ≠ [] := by rw [← hP]; simp
      have hneR : R.map encTy ≠ [] := by rw [← hR]; simp
      have hVP : ∀ r, oV r (P.map encTy) = .own r (L.length - 1) 0 L.length none := fun r => by rw [oV_cons' hneP]; simp [hlA]
      have hVR : ∀ r, oV r (R.map encTy) = .own r (L.length - 1) 0 L.length none := fun r => by rw [oV_cons' hneR]; simp [hlB]
      have hHP : ∀ r, oH r 5 (P.map encTy) = [(r, .arr 5 (L.length - 1) (P.map encTy) false false true)] := fun r => by rw [oH_cons' hneP]; simp [oO, hlA]
      have hHR : ∀ r, oH r 5 (R.map encTy) = [(r, .arr 5 (L.length - 1) (R.map encTy) false false true)] := fun r => by rw [oH_cons' hneR]; simp [oO, hlB]
      rw [hVP, hVR, hHP, hHR] at h0
      refine lpi hρ hE hcon L.length (nn := 7) (fun i (X : List Assign × List Assign) => [(4, .ptr 1 0 0), (7, .ptr 2 0 0), (8, .ptr 0 0 0), (9, oV 5 (X.1.map encAssign)), (10, oV 6 (X.2.map encAssign)), (11, .int .i64 (i : Int))])
        (fun i X => [(0, box (encTy g)), (1, box zTy), (2, .arr 2 0 [[.own 3 (L.length - 1) 0 L.length none, .own 4 (L.length - 1) 0 L.length none]] true false false), (3, .arr 5 (L.length - 1) (P.map encTy) false false true), (4, .arr 5 (L.length - 1) (R.map encTy) false false true)] ++ oH 5 6 (X.1.map encAssign) ++ oH 6 6 (X.2.map encAssign)) (fun i X => X.1 = asgL Pair.a (L.take i) 0 ∧ X.2 = asgL Pair.b (L.take i) 0) ([], [])
        (by simpa using h0) ⟨rfl, rfl⟩ ?_ ?_
      · rintro ⟨X, Y⟩ ⟨h1, h2⟩ K
        simp only [List.take_length] at h1 h2
        rw [← h1, ← h2] at hQ
        have hx := asgL_len Pair.a L 0
        have hy := asgL_len Pair.b L 0
        rw [← h1] at hx
        rw [← h2] at hy
        clear h0
        rcases X with _ | ⟨x, X⟩
        · simp at hx; omega
        · rcases Y with _ | ⟨y, Y⟩
          · simp at hy; omega
          · simp [fS22l0, fS22r0, fS22r1, fS22r2, fS22r3, fS22r4, fS22r5, fS22r6, fS22b0, fS22r7, fS22b1, fS22r8, fS22, hE]
            exact LessQ.mk (Less.auto (n := 4) (by simp) (by simp) (by first | rfl | simp) (by first | rfl | simp)) hQ
      · rintro i ⟨X, Y⟩ hi ⟨h1, h2⟩ K hK
        simp only at h1 h2
        clear h0
        have hi' : (i : Int) < L.length := by omega
        have hiP : i < P.length := by omega
        have hiR : i < R.length := by omega
        have hw0 : IntKind.i64.wrap 1 = 1 := rfl
        have hw2 : IntKind.i64.wrap ((i : Int) + 1) = ((i + 1 : Nat) : Int) := wrap_succ (by omega)
        have hm5 : (i * 5) / 5 = i := by omega
        have hm6 : (i * 5) % 5 = 0 := by omega
        have hx := asgL_len Pair.a (L.take i) 0
        have hy := asgL_len Pair.b (L.take i) 0
        rw [← h1, List.length_take] at hx
        rw [← h2, List.length_take] at hy
        have hpa := hgA i hi hiP
        have hrb := hgB i hi hiR
        have hnew := hK (X ++ [⟨(i : Int), L[i].a⟩], Y ++ [⟨(i : Int), L[i].b⟩]) ⟨by rw [asgL_take Pair.a L hi, h1], by rw [asgL_take Pair.b L hi, h2]⟩
        generalize L[i].a = la at hpa hnew
        generalize L[i].b = lb at hrb hnew
        rcases X with _ | ⟨x, X⟩
        · have hi0 : i = 0 := by simp at hx; omega
          subst hi0
          rcases Y with _ | ⟨y, Y⟩
          · simp [fS22l0, fS22r0, fS22r1, fS22r2, fS22r3, fS22r4, fS22r5, fS22r6, fS22b0, fS22r7, fS22b1, fS22r8, fS22, hE, hi, hi', hiP, hiR, hpa, hrb, hw2, -Int.natCast_add]
            exact hnew _ _ (Less.auto (by simp [hw0, -Int.natCast_add]) (by simp) (by first | rfl | simp) (by first | rfl | simp))
          · simp at hy
        · rcases Y with _ | ⟨y, Y⟩
          · simp at hx hy; omega
          · have hx1 : X.length + 1 + 1 ≤ 8002 := by simp only [List.length_cons] at hx; omega
            have hy1 : Y.length + 1 + 1 ≤ 8002 := by simp only [List.length_cons] at hy; omega
            have hx64 : (X.length + 1 + 1) * 72 ≤ 1048576 := Nat.le_trans (Nat.mul_le_mul_right 72 hx1) (by decide)
            have hy64 : (Y.length + 1 + 1) * 72 ≤ 1048576 := Nat.le_trans (Nat.mul_le_mul_right 72 hy1) (by decide)
            simp [fS22l0, fS22r0, fS22r1, fS22r2, fS22r3, fS22r4, fS22r5, fS22r6, fS22b0, fS22r7, fS22b1, fS22r8, fS22, hE, hi, hi', hiP, hiR, hpa, hrb, hm5, hm6, hx64, hy64, hw2, Nat.not_succ_le_self, -Int.natCast_add]
            exact hnew _ _ (Less.auto (by simp [hw0, -Int.natCast_add]) (by simp) (by first | rfl | simp) (by first | rfl | simp))
    refine hmain _ _ _ (Less.auto (by simp) (by simp [hPR]) (by first | rfl | simp) (by first | rfl | simp)) ?_
    have hx := asgL_len Pair.a L 0
    have hy := asgL_len Pair.b L 0
    generalize asgL Pair.a L 0 = X at hx
    generalize asgL Pair.b L 0 = Y at hy
    rcases X with _ | ⟨x, X⟩
    · simp at hx; omega
    rcases Y with _ | ⟨y, Y⟩
    · simp at hy; omega
    simp [fS22r0, fS22r1, fS22r2, fS22r3, fS22r4, fS22r5, fS22r6, fS22b0, fS22r7, fS22b1, fS22r8, fS22, hE]
end
theorem vCommon15 : Valid ρ Tryz.prog 22 comS := v2 (fo Tryz.func22 fB22) fun a b r h hs => by
  obtain ⟨⟨h1, h2, h3⟩, rfl⟩ := ite_inv h
  exact ref15_Common_run hρ (E := EL [(76, embS (pcM (pcF 8000)))]) rfl (consOk_list (valid_cons (vPairs hρ 8000) valid_nil)) rfl h1 h2 h3 hs
end
end Go.Proofs.YthfcfmkdeheicaaGreat
