import Derived.Test.YthfcfmkdeheicaaPSV2
set_option linter.all false
/- The law StoreResolves: what its function computes. -/
set_option linter.all false
namespace Go.Proofs.Ythfcfmkdeheicaa
open Go.J
open Go.J.Enc (enc)
set_option maxRecDepth 100000
set_option maxHeartbeats 4000000
theorem leaf_bound {n : Nat} {i : Int} : Store.Leaf n (tBound i) := .inr ⟨by show (2 : Int) ≠ 1; decide, rfl, by simp [tBound, Ty.vplain, Ty.vplains]⟩
def tyV (i : Nat) : V := match i with
  | 0 => .sl [] true
  | i + 1 => .own 2 i 0 (i + 1) none
def tyH (i : Nat) (L : List Ty) : List (Nat × J.Obj) := match i with
  | 0 => []
  | i + 1 => [(2, .arr 5 i (L.map encTy) false false true)]
section
variable {ρ : Nat → Value} (hρ : J.Good ρ) {E : Env} (hE : E.P = Try.prog) (hcon : ConsOk ρ E)
include hρ hE hcon
theorem StoreResolves_run (h1 : E.con 10 = yesS) (h2 : E.con 11 = fewS) (h3 : E.con 15 = fnS (spec1 fun bits : Int => some (datasOf bits))) (h4 : E.con 14 = stS (stF1 storeF))
    (h5 : E.con 32 = mkVarsS) (h6 : E.con 33 = fnS (spec1 fun i : Int => some (tBound i))) (h7 : E.con 31 = stS (stF3 (typeF 2))) (h8 : E.con 34 = resolveS) (h9 : E.con 35 = resolve16S) (h10 : E.con 19 = equalS)
    (h11 : E.con 36 = walkS) (h12 : E.con 37 = walk16S) (h13 : E.con 22 = modS) (h14 : E.con 38 = sizeS) (h15 : E.con 39 = size16S) (h16 : E.con 40 = vars16S) (h17 : E.con 41 = vars16S)
    {bits : Int} {codes : List Int} {most : Int} (hs : HS) : CallOk ρ Try.prog 6 [enc bits, enc codes, enc most] hs (.bool true) hs := by
  refine fn hρ hE hcon Try.func6 BS_law16_StoreResolves rfl (by simp) ?_ hs
  by_cases c1 : codes.length ≤ 60
  case neg => simp [S_law16_StoreResolves_r0, S_law16_StoreResolves_r1, S_law16_StoreResolves_r2, S_law16_StoreResolves_r3, S_law16_StoreResolves_r4, S_law16_StoreResolves_r5, S_law16_StoreResolves_r6, S_law16_StoreResolves_r7, S_law16_StoreResolves_r8, S_law16_StoreResolves_r9, S_law16_StoreResolves_r10, S_law16_StoreResolves_b0, S_law16_StoreResolves_r11, S_law16_StoreResolves_b1, S_law16_StoreResolves_r12, S_law16_StoreResolves_r13, S_law16_StoreResolves_r14, S_law16_StoreResolves_r15, S_law16_StoreResolves_r16, S_law16_StoreResolves_r17, S_law16_StoreResolves_r18, S_law16_StoreResolves_r19, S_law16_StoreResolves_r20, S_law16_StoreResolves_b2, S_law16_StoreResolves_r21, S_law16_StoreResolves_b3, S_law16_StoreResolves_r22, S_law16_StoreResolves_r23, S_law16_StoreResolves_r24, S_law16_StoreResolves_r25, S_law16_StoreResolves_r26, S_law16_StoreResolves_r27, S_law16_StoreResolves_r28, S_law16_StoreResolves_b4, S_law16_StoreResolves_r29, S_law16_StoreResolves_b5, S_law16_StoreResolves_r30, S_law16_StoreResolves, hE, h1, h2, yesS, fewS, c1]
  have htp : (⟨codes, 0⟩ : Tp).ok := ⟨Int.le_refl _, by show codes.length ≤ 100000; omega⟩
  have hF : storeF ⟨codes, 0⟩ (datasOf bits) = some (Store.storeM ⟨codes, 0⟩ (datasOf bits)) := if_pos ⟨htp, datasOf_ok bits, datasOf_ok3 bits⟩
  obtain ⟨s1, s2, s3, s4⟩ := Store.storeM_ok htp (datasOf_ok3 bits)
  have s5 := Store.storeM_all ⟨codes, 0⟩ (datasOf_ok3 bits)
  have s6 := Store.storeN_le ⟨codes, 0⟩
  rcases hq : Store.storeM ⟨codes, 0⟩ (datasOf bits) with ⟨t2, s⟩
  rw [hq] at hF
  simp only [hq] at s1 s3 s5
  clear s2 s4
  generalize Store.storeN ⟨codes, 0⟩ = n at s3 s6
  have hlen := s3.len
  have hwe := s3.w_eq
  have hty := s5.tysOk
  have hwl : IntKind.i64.wrap ((s.slots.length : Int) + 1) = ((n + 1 : Nat) : Int) := by rw [hlen, wrap_i64 (by omega) (by omega)]; rfl
  have hD := datasOf_ok bits
  have hD3 := datasOf_ok3 bits
  generalize hDq : datasOf bits = D at hF hD hD3
  simp [S_law16_StoreResolves_r0, S_law16_StoreResolves_r1, S_law16_StoreResolves_r2, S_law16_StoreResolves_r3, S_law16_StoreResolves_r4, S_law16_StoreResolves_r5, S_law16_StoreResolves_r6, S_law16_StoreResolves_r7, S_law16_StoreResolves_r8, S_law16_StoreResolves_r9, S_law16_StoreResolves_r10, S_law16_StoreResolves_b0, S_law16_StoreResolves_r11, S_law16_StoreResolves_b1, S_law16_StoreResolves_r12, S_law16_StoreResolves_r13, S_law16_StoreResolves_r14, S_law16_StoreResolves_r15, S_law16_StoreResolves_r16, S_law16_StoreResolves_r17, S_law16_StoreResolves_r18, S_law16_StoreResolves_r19, S_law16_StoreResolves_r20, S_law16_StoreResolves_b2, S_law16_StoreResolves_r21, S_law16_StoreResolves_b3, S_law16_StoreResolves_r22, S_law16_StoreResolves_r23, S_law16_StoreResolves_r24, S_law16_StoreResolves_r25, S_law16_StoreResolves_r26, S_law16_StoreResolves_r27, S_law16_StoreResolves_r28, S_law16_StoreResolves_b4, S_law16_StoreResolves_r29, S_law16_StoreResolves_b5, S_law16_StoreResolves_r30, S_law16_StoreResolves, hE, h1, h2, h3, h4, yesS, fewS, c1, hDq, hF]
  refine lpi hρ hE hcon 3 (nn := 3) (fun i (p : Tp × List Ty) => [(0, .int .i64 bits), (2, .int .i64 most), (7, .ptr 0 0 0), (8, .ptr 1 0 0), (9, tyV i), (10, .int .i64 (i : Int))])
    (fun i p => [(0, box (Cel.cells p.1)), (1, box (encStore s))] ++ tyH i p.2) (fun i p => p.1.ok ∧ p.2.length = i ∧ ∀ u ∈ p.2, TyOk (n + 1) 7 u) (t2, [])
    (Less.auto (by simp [tyV, tyH]) (by simp [tyH]) (by simp [tyH]) (by simp [tyH])) ⟨s1, rfl, fun u hu => by cases hu⟩ ?_ ?_
  · rintro ⟨t3, L⟩ ⟨_, hL, hLo⟩ K
    simp only at hL hLo
    have hLl : (L.length : Int) = 3 := by rw [hL]; rfl
    simp [S_law16_StoreResolves_l0, S_law16_StoreResolves_r0, S_law16_StoreResolves_r1, S_law16_StoreResolves_r2, S_law16_StoreResolves_r3, S_law16_StoreResolves_r4, S_law16_StoreResolves_r5, S_law16_StoreResolves_r6, S_law16_StoreResolves_r7, S_law16_StoreResolves_r8, S_law16_StoreResolves_r9, S_law16_StoreResolves_r10, S_law16_StoreResolves_b0, S_law16_StoreResolves_r11, S_law16_StoreResolves_b1, S_law16_StoreResolves_r12, S_law16_StoreResolves_r13, S_law16_StoreResolves_r14, S_law16_StoreResolves_r15, S_law16_StoreResolves_r16, S_law16_StoreResolves_r17, S_law16_StoreResolves_r18, S_law16_StoreResolves_r19, S_law16_StoreResolves_r20, S_law16_StoreResolves_b2, S_law16_StoreResolves_r21, S_law16_StoreResolves_b3, S_law16_StoreResolves_r22, S_law16_StoreResolves_r23, S_law16_StoreResolves_r24, S_law16_StoreResolves_r25, S_law16_StoreResolves_r26, S_law16_StoreResolves_r27, S_law16_StoreResolves_r28, S_law16_StoreResolves_b4, S_law16_StoreResolves_r29, S_law16_StoreResolves_b5, S_law16_StoreResolves_r30, S_law16_StoreResolves, hE, tyV, tyH]
    refine LessQ.mk (Less.auto (TL := [(2, .int .i64 most), (8, .ptr 0 0 0), (9, .own 1 2 0 3 none)]) (HL := [(0, box (encStore s)), (1, .arr 5 2 (L.map encTy) false false true)]) (n := 2) (by simp) (by simp) (by simp) (by simp)) ?_
    simp [S_law16_StoreResolves_r0, S_law16_StoreResolves_r1, S_law16_StoreResolves_r2, S_law16_StoreResolves_r3, S_law16_StoreResolves_r4, S_law16_StoreResolves_r5, S_law16_StoreResolves_r6, S_law16_StoreResolves_r7, S_law16_StoreResolves_r8, S_law16_StoreResolves_r9, S_law16_StoreResolves_r10, S_law16_StoreResolves_b0, S_law16_StoreResolves_r11, S_law16_StoreResolves_b1, S_law16_StoreResolves_r12, S_law16_StoreResolves_r13, S_law16_StoreResolves_r14, S_law16_StoreResolves_r15, S_law16_StoreResolves_r16, S_law16_StoreResolves_r17, S_law16_StoreResolves_r18, S_law16_StoreResolves_r19, S_law16_StoreResolves_r20, S_law16_StoreResolves_b2, S_law16_StoreResolves_r21, S_law16_StoreResolves_b3, S_law16_StoreResolves_r22, S_law16_StoreResolves_r23, S_law16_StoreResolves_r24, S_law16_StoreResolves_r25, S_law16_StoreResolves_r26, S_law16_StoreResolves_r27, S_law16_StoreResolves_r28, S_law16_StoreResolves_b4, S_law16_StoreResolves_r29, S_law16_StoreResolves_b5, S_law16_StoreResolves_r30, S_law16_StoreResolves, hE]
    refine lpi hρ hE hcon 3 (nn := 2) (fun i (_ : Unit) => [(2, .int .i64 most), (8, .ptr 0 0 0), (9, .own 1 2 0 3 none), (11, .int .i64 (i : Int))]) (fun i _ => [(0, box (encStore s)), (1, .arr 5 2 (L.map encTy) false false true)]) (fun i _ => True) ()
      (Less.auto (by simp) (by simp) (by simp) (by simp)) trivial ?_ ?_
    · intro _ _ K2
      have hvo : varsOk s L := by
        refine ⟨hty, Ty.oks_iff.2 fun u hu => (hLo u hu).ok, by omega, ?_⟩
        have h1 := sizes_le (l := L) (b := 7) fun u hu => (hLo u hu).size
        have h2 := s3.und (by omega) (List.replicate s.slots.length false)
        rw [hL] at h1
        omega
      have hsv := sv_short hvo
      generalize hvq : varsS s L = Vs at hsv
      simp [S_law16_StoreResolves_l1, S_law16_StoreResolves_r0, S_law16_StoreResolves_r1, S_law16_StoreResolves_r2, S_law16_StoreResolves_r3, S_law16_StoreResolves_r4, S_law16_StoreResolves_r5, S_law16_StoreResolves_r6, S_law16_StoreResolves_r7, S_law16_StoreResolves_r8, S_law16_StoreResolves_r9, S_law16_StoreResolves_r10, S_law16_StoreResolves_b0, S_law16_StoreResolves_r11, S_law16_StoreResolves_b1, S_law16_StoreResolves_r12, S_law16_StoreResolves_r13, S_law16_StoreResolves_r14, S_law16_StoreResolves_r15, S_law16_StoreResolves_r16, S_law16_StoreResolves_r17, S_law16_StoreResolves_r18, S_law16_StoreResolves_r19, S_law16_StoreResolves_r20, S_law16_StoreResolves_b2, S_law16_StoreResolves_r21, S_law16_StoreResolves_b3, S_law16_StoreResolves_r22, S_law16_StoreResolves_r23, S_law16_StoreResolves_r24, S_law16_StoreResolves_r25, S_law16_StoreResolves_r26, S_law16_StoreResolves_r27, S_law16_StoreResolves_r28, S_law16_StoreResolves_b4, S_law16_StoreResolves_r29, S_law16_StoreResolves_b5, S_law16_StoreResolves_r30, S_law16_StoreResolves, hE]
      refine LessQ.mk (Less.auto (TL := [(8, .ptr 0 0 0), (9, .own 1 2 0 3 none)]) (HL := [(0, box (encStore s)), (1, .arr 5 2 (L.map encTy) false false true)]) (n := 2) (by simp) (by simp) (by simp) (by simp)) ?_
      have hT3 : (L.map encTy).take 3 = L.map encTy := List.take_of_length_le (by simp [hL])
      simp [S_law16_StoreResolves_r0, S_law16_StoreResolves_r1, S_law16_StoreResolves_r2, S_law16_StoreResolves_r3, S_law16_StoreResolves_r4, S_law16_StoreResolves_r5, S_law16_StoreResolves_r6, S_law16_StoreResolves_r7, S_law16_StoreResolves_r8, S_law16_StoreResolves_r9, S_law16_StoreResolves_r10, S_law16_StoreResolves_b0, S_law16_StoreResolves_r11, S_law16_StoreResolves_b1, S_law16_StoreResolves_r12, S_law16_StoreResolves_r13, S_law16_StoreResolves_r14, S_law16_StoreResolves_r15, S_law16_StoreResolves_r16, S_law16_StoreResolves_r17, S_law16_StoreResolves_r18, S_law16_StoreResolves_r19, S_law16_StoreResolves_r20, S_law16_StoreResolves_b2, S_law16_StoreResolves_r21, S_law16_StoreResolves_b3, S_law16_StoreResolves_r22, S_law16_StoreResolves_r23, S_law16_StoreResolves_r24, S_law16_StoreResolves_r25, S_law16_StoreResolves_r26, S_law16_StoreResolves_r27, S_law16_StoreResolves_r28, S_law16_StoreResolves_b4, S_law16_StoreResolves_r29, S_law16_StoreResolves_b5, S_law16_StoreResolves_r30, S_law16_StoreResolves, hE, h16, h17, vars16S, hL, hT3, hvo, hvq]
      refine lpi hρ hE hcon Vs.length (nn := 0) (fun i (_ : Unit) => [(18, .sl (Vs.map encI) false), (19, .sl (Vs.map encI) false), (20, .int .i64 (i : Int))]) (fun i _ => []) (fun i _ => True) () (Less.auto (by simp) (by simp) (by simp) (by simp)) trivial ?_ ?_
      · intro _ _ K3
        simp [S_law16_StoreResolves_l2, S_law16_StoreResolves_r0, S_law16_StoreResolves_r1, S_law16_StoreResolves_r2, S_law16_StoreResolves_r3, S_law16_StoreResolves_r4, S_law16_StoreResolves_r5, S_law16_StoreResolves_r6, S_law16_StoreResolves_r7, S_law16_StoreResolves_r8, S_law16_StoreResolves_r9, S_law16_StoreResolves_r10, S_law16_StoreResolves_b0, S_law16_StoreResolves_r11, S_law16_StoreResolves_b1, S_law16_StoreResolves_r12, S_law16_StoreResolves_r13, S_law16_StoreResolves_r14, S_law16_StoreResolves_r15, S_law16_StoreResolves_r16, S_law16_StoreResolves_r17, S_law16_StoreResolves_r18, S_law16_StoreResolves_r19, S_law16_StoreResolves_r20, S_law16_StoreResolves_b2, S_law16_StoreResolves_r21, S_law16_StoreResolves_b3, S_law16_StoreResolves_r22, S_law16_StoreResolves_r23, S_law16_StoreResolves_r24, S_law16_StoreResolves_r25, S_law16_StoreResolves_r26, S_law16_StoreResolves_r27, S_law16_StoreResolves_r28, S_law16_StoreResolves_b4, S_law16_StoreResolves_r29, S_law16_StoreResolves_b5, S_law16_StoreResolves_r30, S_law16_StoreResolves, hE]
        refine LessQ.mk (Less.auto (TL := []) (HL := []) (n := 0) (by simp) (by simp) (by simp) (by simp)) ?_
        simp [S_law16_StoreResolves_r0, S_law16_StoreResolves_r1, S_law16_StoreResolves_r2, S_law16_StoreResolves_r3, S_law16_StoreResolves_r4, S_law16_StoreResolves_r5, S_law16_StoreResolves_r6, S_law16_StoreResolves_r7, S_law16_StoreResolves_r8, S_law16_StoreResolves_r9, S_law16_StoreResolves_r10, S_law16_StoreResolves_b0, S_law16_StoreResolves_r11, S_law16_StoreResolves_b1, S_law16_StoreResolves_r12, S_law16_StoreResolves_r13, S_law16_StoreResolves_r14, S_law16_StoreResolves_r15, S_law16_StoreResolves_r16, S_law16_StoreResolves_r17, S_law16_StoreResolves_r18, S_law16_StoreResolves_r19, S_law16_StoreResolves_r20, S_law16_StoreResolves_b2, S_law16_StoreResolves_r21, S_law16_StoreResolves_b3, S_law16_StoreResolves_r22, S_law16_StoreResolves_r23, S_law16_StoreResolves_r24, S_law16_StoreResolves_r25, S_law16_StoreResolves_r26, S_law16_StoreResolves_r27, S_law16_StoreResolves_r28, S_law16_StoreResolves_b4, S_law16_StoreResolves_r29, S_law16_StoreResolves_b5, S_law16_StoreResolves_r30, S_law16_StoreResolves, hE]
      · intro i _ hi _ K3 hK3
        have hnew := hK3 () trivial
        have hi' : (i : Int) < Vs.length := by omega
        have hw : IntKind.i64.wrap ((i : Int) + 1) = ((i + 1 : Nat) : Int) := wrap_succ (by omega)
        simp [S_law16_StoreResolves_l2, S_law16_StoreResolves_r0, S_law16_StoreResolves_r1, S_law16_StoreResolves_r2, S_law16_StoreResolves_r3, S_law16_StoreResolves_r4, S_law16_StoreResolves_r5, S_law16_StoreResolves_r6, S_law16_StoreResolves_r7, S_law16_StoreResolves_r8, S_law16_StoreResolves_r9, S_law16_StoreResolves_r10, S_law16_StoreResolves_b0, S_law16_StoreResolves_r11, S_law16_StoreResolves_b1, S_law16_StoreResolves_r12, S_law16_StoreResolves_r13, S_law16_StoreResolves_r14, S_law16_StoreResolves_r15, S_law16_StoreResolves_r16, S_law16_StoreResolves_r17, S_law16_StoreResolves_r18, S_law16_StoreResolves_r19, S_law16_StoreResolves_r20, S_law16_StoreResolves_b2, S_law16_StoreResolves_r21, S_law16_StoreResolves_b3, S_law16_StoreResolves_r22, S_law16_StoreResolves_r23, S_law16_StoreResolves_r24, S_law16_StoreResolves_r25, S_law16_StoreResolves_r26, S_law16_StoreResolves_r27, S_law16_StoreResolves_r28, S_law16_StoreResolves_b4, S_law16_StoreResolves_r29, S_law16_StoreResolves_b5, S_law16_StoreResolves_r30, S_law16_StoreResolves, hE, hi, hi', hw, -Int.natCast_add]
        exact hnew _ _ (Less.auto (by simp [-Int.natCast_add]) (by simp) (by simp) (by simp))
    · intro i _ hi _ K2 hK2
      have hnew := hK2 () trivial
      have hi3 : (i : Int) < 3 := by omega
      have hiL : i < L.length := by omega
      have hw : IntKind.i64.wrap ((i : Int) + 1) = ((i + 1 : Nat) : Int) := wrap_succ (by omega)
      obtain ⟨u, hu⟩ : ∃ u, L[i] = u := ⟨_, rfl⟩
      have huo : u.ok = true := (hLo u (hu ▸ List.getElem_mem hiL)).ok
      have hq1 : i * 5 / 5 = i := by omega
      have hq2 : i * 5 % 5 = 0 := by omega
      have hra := Store.resolve_ok hty huo
      have hrt := fun h => s3.resolved (t := u) h
      have hm30 := modI_lt (n := most) (m := 30) (by omega)
      have hm9 := modI_lt (n := most) (m := 9) (by omega)
      have hn9 := modI_nonneg most 9
      have hz0 := Store.sz_zero s.w16 u
      generalize hg30 : modI most 30 = m30 at hm30
      generalize hg9 : modI most 9 = m9 at hm9 hn9
      have hw9 : IntKind.i64.wrap (-1 - m9) = -1 - m9 := wrap_i64 (by omega) (by omega)
      have hb1 : m30 < 1000000 := by omega
      have hb2 : -1 - m9 < 1000000 := by omega
      have hmx : (max (-1 - m9) 0).toNat = 0 := by omega
      have hsl : s.slots.length ≤ 1000000 := by omega
      have hwo : (s.w16 u).ok = true := Store.walkN_ok hty _ huo
      generalize hq30 : sz s.w16 u (max m30 0).toNat = q30
      generalize hqw : s.w16 u = wu at hwo
      rcases hr : resolveM s.w16 u with ⟨ra, rb⟩
      rw [hr] at hra hrt
      simp only at hra hrt
      have hrao := hra.1
      obtain ⟨uk, un, ui, uh, ua⟩ := u
      cases rb with
      | true =>
        have hrr := hrt rfl
        obtain ⟨rk, rn, ri, rh, rl⟩ := ra
        simp [S_law16_StoreResolves_l1, S_law16_StoreResolves_r0, S_law16_StoreResolves_r1, S_law16_StoreResolves_r2, S_law16_StoreResolves_r3, S_law16_StoreResolves_r4, S_law16_StoreResolves_r5, S_law16_StoreResolves_r6, S_law16_StoreResolves_r7, S_law16_StoreResolves_r8, S_law16_StoreResolves_r9, S_law16_StoreResolves_r10, S_law16_StoreResolves_b0, S_law16_StoreResolves_r11, S_law16_StoreResolves_b1, S_law16_StoreResolves_r12, S_law16_StoreResolves_r13, S_law16_StoreResolves_r14, S_law16_StoreResolves_r15, S_law16_StoreResolves_r16, S_law16_StoreResolves_r17, S_law16_StoreResolves_r18, S_law16_StoreResolves_r19, S_law16_StoreResolves_r20, S_law16_StoreResolves_b2, S_law16_StoreResolves_r21, S_law16_StoreResolves_b3, S_law16_StoreResolves_r22, S_law16_StoreResolves_r23, S_law16_StoreResolves_r24, S_law16_StoreResolves_r25, S_law16_StoreResolves_r26, S_law16_StoreResolves_r27, S_law16_StoreResolves_r28, S_law16_StoreResolves_b4, S_law16_StoreResolves_r29, S_law16_StoreResolves_b5, S_law16_StoreResolves_r30, S_law16_StoreResolves, hE, hi3, hiL, hL, hi, hu, hq1, hq2, h8, h9, h10, h11, h12, h13, h14, h15, resolveS, resolve16S, equalS, walkS, walk16S, modS, sizeS, size16S, hwe, hty, huo, hr, hrao, hrr, hsl, hqw, hwo, hg30, hg9, hw9, hb1, hb2, hmx, hz0, hq30, hw, -Int.natCast_add]
        exact hnew _ _ (Less.auto (by simp [-Int.natCast_add]) (by simp) (by simp) (by simp))
      | false =>
        rcases hrr : resolveM s.w16 ra with ⟨rc, rd⟩
        obtain ⟨rk, rn, ri, rh, rl⟩ := ra
        simp [S_law16_StoreResolves_l1, S_law16_StoreResolves_r0, S_law16_StoreResolves_r1, S_law16_StoreResolves_r2, S_law16_StoreResolves_r3, S_law16_StoreResolves_r4, S_law16_StoreResolves_r5, S_law16_StoreResolves_r6, S_law16_StoreResolves_r7, S_law16_StoreResolves_r8, S_law16_StoreResolves_r9, S_law16_StoreResolves_r10, S_law16_StoreResolves_b0, S_law16_StoreResolves_r11, S_law16_StoreResolves_b1, S_law16_StoreResolves_r12, S_law16_StoreResolves_r13, S_law16_StoreResolves_r14, S_law16_StoreResolves_r15, S_law16_StoreResolves_r16, S_law16_StoreResolves_r17, S_law16_StoreResolves_r18, S_law16_StoreResolves_r19, S_law16_StoreResolves_r20, S_law16_StoreResolves_b2, S_law16_StoreResolves_r21, S_law16_StoreResolves_b3, S_law16_StoreResolves_r22, S_law16_StoreResolves_r23, S_law16_StoreResolves_r24, S_law16_StoreResolves_r25, S_law16_StoreResolves_r26, S_law16_StoreResolves_r27, S_law16_StoreResolves_r28, S_law16_StoreResolves_b4, S_law16_StoreResolves_r29, S_law16_StoreResolves_b5, S_law16_StoreResolves_r30, S_law16_StoreResolves, hE, hi3, hiL, hL, hi, hu, hq1, hq2, h8, h9, h10, h11, h12, h13, h14, h15, resolveS, resolve16S, equalS, walkS, walk16S, modS, sizeS, size16S, hwe, hty, huo, hr, hrao, hrr, hsl, hqw, hwo, hg30, hg9, hw9, hb1, hb2, hmx, hz0, hq30, hw, -Int.natCast_add]
        exact hnew _ _ (Less.auto (by simp [-Int.natCast_add]) (by simp) (by simp) (by simp))
  · rintro i ⟨t3, L⟩ hi ⟨ht3, hL, hLo⟩ K hK
    simp only at ht3 hL hLo
    have hF1 : typeF 2 t3 D (varTs (n + 1) ++ [tBound 0]) 2 = some (typeM 2 t3 D (varTs (n + 1) ++ [tBound 0])) := if_pos ⟨ht3, hD, by simp; omega, by decide⟩
    have ho := (typeM_ok (D := D) (Lv := varTs (n + 1) ++ [tBound 0]) 2 t3 ht3).1
    have hto := Store.typeM_tame hD3 (Store.leaf_append (Store.leaf_vars (n := n + 1)) (m := [tBound 0]) fun u hu => by rw [List.mem_singleton.1 hu]; exact leaf_bound) 2 t3 (S := 7) (by decide)
    rcases hq1 : typeM 2 t3 D (varTs (n + 1) ++ [tBound 0]) with ⟨t4, u⟩
    rw [hq1] at hF1
    simp only [hq1] at ho hto
    have hnew := hK (t4, L ++ [u]) ⟨ho, by simp [hL], fun v hv => (List.mem_append.1 hv).elim (hLo v) fun h => by rw [List.mem_singleton.1 h]; exact hto⟩
    have hi3 : (i : Int) < 3 := by omega
    have hw : IntKind.i64.wrap ((i : Int) + 1) = ((i + 1 : Nat) : Int) := wrap_succ (by omega)
    have hw0 : IntKind.i64.wrap 1 = 1 := rfl
    have hn1 : ((n + 1 : Nat) : Int) ≤ 10000 := by omega
    have hn0 : n + 1 ≤ 10000 := by omega
    have hlv := varTs_len (n + 1)
    generalize hV : varTs (n + 1) = W at hF1 hlv
    rcases W with _ | ⟨v, W⟩
    · simp at hlv
    have h64 : (W.length + 1 + 1) * 64 ≤ 1048576 := by simp at hlv; omega
    rw [List.cons_append] at hF1
    rcases i with _ | i
    · have hL0 : L = [] := List.eq_nil_of_length_eq_zero hL
      subst hL0
      simp only [tyV, tyH, List.nil_append, List.map_cons, List.map_nil] at hnew
      simp [S_law16_StoreResolves_l0, S_law16_StoreResolves_r0, S_law16_StoreResolves_r1, S_law16_StoreResolves_r2, S_law16_StoreResolves_r3, S_law16_StoreResolves_r4, S_law16_StoreResolves_r5, S_law16_StoreResolves_r6, S_law16_StoreResolves_r7, S_law16_StoreResolves_r8, S_law16_StoreResolves_r9, S_law16_StoreResolves_r10, S_law16_StoreResolves_b0, S_law16_StoreResolves_r11, S_law16_StoreResolves_b1, S_law16_StoreResolves_r12, S_law16_StoreResolves_r13, S_law16_StoreResolves_r14, S_law16_StoreResolves_r15, S_law16_StoreResolves_r16, S_law16_StoreResolves_r17, S_law16_StoreResolves_r18, S_law16_StoreResolves_r19, S_law16_StoreResolves_r20, S_law16_StoreResolves_b2, S_law16_StoreResolves_r21, S_law16_StoreResolves_b3, S_law16_StoreResolves_r22, S_law16_StoreResolves_r23, S_law16_StoreResolves_r24, S_law16_StoreResolves_r25, S_law16_StoreResolves_r26, S_law16_StoreResolves_r27, S_law16_StoreResolves_r28, S_law16_StoreResolves_b4, S_law16_StoreResolves_r29, S_law16_StoreResolves_b5, S_law16_StoreResolves_r30, S_law16_StoreResolves, hE, tyV, tyH, h3, hDq, h5, h6, h7, mkVarsS, hwl, hn1, hn0, hV, hF1, h64, Nat.not_succ_le_self, hw, -Int.natCast_add]
      exact hnew _ _ (Less.auto (by simp [hw0, -Int.natCast_add]) (by simp) (by simp) (by simp))
    · have hi4 : i + 1 + 1 ≤ 10 := by omega
      have hr1 : (i + 1 + 1) * 64 ≤ 1048576 := Nat.le_trans (Nat.mul_le_mul_right 64 hi4) (by decide)
      have hT1 : (L.map encTy).take (i + 1) = L.map encTy := List.take_of_length_le (by simp [hL])
      simp only [tyV, tyH, List.map_append, List.map_cons, List.map_nil] at hnew
      simp [S_law16_StoreResolves_l0, S_law16_StoreResolves_r0, S_law16_StoreResolves_r1, S_law16_StoreResolves_r2, S_law16_StoreResolves_r3, S_law16_StoreResolves_r4, S_law16_StoreResolves_r5, S_law16_StoreResolves_r6, S_law16_StoreResolves_r7, S_law16_StoreResolves_r8, S_law16_StoreResolves_r9, S_law16_StoreResolves_r10, S_law16_StoreResolves_b0, S_law16_StoreResolves_r11, S_law16_StoreResolves_b1, S_law16_StoreResolves_r12, S_law16_StoreResolves_r13, S_law16_StoreResolves_r14, S_law16_StoreResolves_r15, S_law16_StoreResolves_r16, S_law16_StoreResolves_r17, S_law16_StoreResolves_r18, S_law16_StoreResolves_r19, S_law16_StoreResolves_r20, S_law16_StoreResolves_b2, S_law16_StoreResolves_r21, S_law16_StoreResolves_b3, S_law16_StoreResolves_r22, S_law16_StoreResolves_r23, S_law16_StoreResolves_r24, S_law16_StoreResolves_r25, S_law16_StoreResolves_r26, S_law16_StoreResolves_r27, S_law16_StoreResolves_r28, S_law16_StoreResolves_b4, S_law16_StoreResolves_r29, S_law16_StoreResolves_b5, S_law16_StoreResolves_r30, S_law16_StoreResolves, hE, tyV, tyH, h3, hDq, h5, h6, h7, mkVarsS, hi3, hwl, hn1, hn0, hV, hF1, h64, hr1, hT1, hL, Nat.not_succ_le_self, hw, -Int.natCast_add]
      exact hnew _ _ (Less.auto (by simp [-Int.natCast_add]) (by simp) (by simp) (by simp))
end
end Go.Proofs.Ythfcfmkdeheicaa
