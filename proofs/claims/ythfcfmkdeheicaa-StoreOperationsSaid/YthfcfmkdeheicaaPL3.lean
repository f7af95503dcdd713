import Derived.Test.YthfcfmkdeheicaaPB24
set_option linter.all false
/- The law StoreOperations: what its function computes. -/
set_option linter.all false
namespace Go.Proofs.Ythfcfmkdeheicaa
open Go.J
open Go.J.Enc (enc)
set_option maxRecDepth 100000
set_option maxHeartbeats 4000000
section
variable {ρ : Nat → Value} (hρ : J.Good ρ) {E : Env} (hE : E.P = Try.prog) (hcon : ConsOk ρ E)
include hρ hE hcon
theorem StoreOperations_run (h1 : E.con 10 = yesS) (h2 : E.con 11 = fewS) (h3 : E.con 12 = smallTyS) (h4 : E.con 13 = validTyS) (h5 : E.con 15 = fnS (spec1 fun bits : Int => some (datasOf bits)))
    (h6 : E.con 14 = stS (stF1 storeF)) (h7 : E.con 16 = freshS) (h8 : E.con 17 = freshS) (h9 : E.con 18 = same16S) (h10 : E.con 19 = equalS) (h11 : E.con 20 = fnS (spec0 (⟨[], []⟩ : Store))) (h12 : E.con 21 = fnS (spec0 (⟨[], []⟩ : Store)))
    (h13 : E.con 22 = modS) (h14 : E.con 23 = setS) (h15 : E.con 24 = setS)
    {bits : Int} {codes : List Int} {home : Int} {base : Bool} {id : Int} {x : Slot} (hsh : x.type.short = true) (hs : HS) : CallOk ρ Try.prog 3 [enc bits, enc codes, enc home, enc base, enc id, enc x] hs (.bool true) hs := by
  refine fn hρ hE hcon Try.func3 BS_law16_StoreOperations rfl (by simp) ?_ hs
  obtain ⟨xb, xt, xh, xg⟩ := x
  simp only at hsh
  by_cases c1 : codes.length ≤ 60
  case neg => simp [S_law16_StoreOperations_r0, S_law16_StoreOperations_r1, S_law16_StoreOperations_r2, S_law16_StoreOperations_r3, S_law16_StoreOperations_r4, S_law16_StoreOperations_r5, S_law16_StoreOperations_r6, S_law16_StoreOperations_r7, S_law16_StoreOperations_r8, S_law16_StoreOperations_r9, S_law16_StoreOperations_r10, S_law16_StoreOperations_r11, S_law16_StoreOperations_r12, S_law16_StoreOperations_r13, S_law16_StoreOperations_r14, S_law16_StoreOperations_r15, S_law16_StoreOperations_r16, S_law16_StoreOperations_r17, S_law16_StoreOperations_r18, S_law16_StoreOperations_r19, S_law16_StoreOperations_r20, S_law16_StoreOperations_b0, S_law16_StoreOperations_r21, S_law16_StoreOperations_b1, S_law16_StoreOperations_r22, S_law16_StoreOperations, hE, h1, h2, yesS, fewS, c1]
  by_cases c2 : xt.size ≤ 20
  case neg =>
    have c2' : ¬ (xt.size : Int) ≤ 20 := by omega
    simp [S_law16_StoreOperations_r0, S_law16_StoreOperations_r1, S_law16_StoreOperations_r2, S_law16_StoreOperations_r3, S_law16_StoreOperations_r4, S_law16_StoreOperations_r5, S_law16_StoreOperations_r6, S_law16_StoreOperations_r7, S_law16_StoreOperations_r8, S_law16_StoreOperations_r9, S_law16_StoreOperations_r10, S_law16_StoreOperations_r11, S_law16_StoreOperations_r12, S_law16_StoreOperations_r13, S_law16_StoreOperations_r14, S_law16_StoreOperations_r15, S_law16_StoreOperations_r16, S_law16_StoreOperations_r17, S_law16_StoreOperations_r18, S_law16_StoreOperations_r19, S_law16_StoreOperations_r20, S_law16_StoreOperations_b0, S_law16_StoreOperations_r21, S_law16_StoreOperations_b1, S_law16_StoreOperations_r22, S_law16_StoreOperations, hE, h1, h2, h3, yesS, fewS, smallTyS, c1, c2']
  have c2' : (xt.size : Int) ≤ 20 := by omega
  have c3 : xt.size ≤ 10000 := by omega
  have hyo : (validOr xt).ok = true := by
    unfold validOr
    split
    · exact size_ok 20 (by omega) _ c2
    · rfl
  have htp : (⟨codes, 0⟩ : Tp).ok := ⟨Int.le_refl _, by show codes.length ≤ 100000; omega⟩
  have hF : storeF ⟨codes, 0⟩ (datasOf bits) = some (Store.storeM ⟨codes, 0⟩ (datasOf bits)) := if_pos ⟨htp, datasOf_ok bits, datasOf_ok3 bits⟩
  obtain ⟨s1, s2, s3, s4⟩ := Store.storeM_ok htp (datasOf_ok3 bits)
  have s5 := Store.storeM_all ⟨codes, 0⟩ (datasOf_ok3 bits)
  have s6 := Store.storeN_le ⟨codes, 0⟩
  have hlen := s3.len
  rcases hq : Store.storeM ⟨codes, 0⟩ (datasOf bits) with ⟨t2, s⟩
  rw [hq] at hF
  simp only [hq] at s3 s4 s5 hlen
  have hsm : s.small := ⟨by omega, by omega⟩
  have hfr := s5.fresh (by omega) home base
  have hfl : (s.fresh home base).1.slots.length ≤ 1000000 ∧ (s.fresh home base).1.trail.length ≤ 1000000 := by
    constructor
    · simp only [Store.fresh, List.length_append, List.length_singleton]; omega
    · simp only [Store.fresh, List.length_append, List.length_singleton]; omega
  have hsame1 : sameF (s.fresh home base).1 (s.fresh home base).1 = some true := by
    unfold sameF; rw [if_pos ⟨hfl.1, hfr.tys, hfl.2, hfr.olds⟩]; simp
  have hfx : (s.fresh home base).2.ok = true := rfl
  have hsame0 : sameF ⟨[], []⟩ ⟨[], []⟩ = some true := by
    unfold sameF; rw [if_pos ⟨Nat.zero_le _, fun x hx => (by cases hx), Nat.zero_le _, fun x hx => (by cases hx)⟩]; simp
  have hsetS : ∀ (i : Int) (z : Slot), z.type.ok = true → sameF (s.set i z).1 (s.set i z).1 = some true := fun i z hz => by
    have h1 := s5.set i hz
    have h2 : (s.set i z).1.trail.length ≤ 1000000 := by
      unfold Store.set
      split
      · simp only [List.length_append, List.length_singleton]; omega
      · simp only; omega
    unfold sameF; rw [if_pos ⟨by have := h1.len; omega, h1.tys, h2, h1.olds⟩]; simp
  rcases hfq : s.fresh home base with ⟨sf, xf⟩
  rw [hfq] at hsame1 hfx
  simp only at hsame1 hfx
  have hwl : IntKind.i64.wrap ((s.slots.length : Int) + 1) = (s.slots.length : Int) + 1 := wrap_i64 (by omega) (by omega)
  have hm1 : -1000000 ≤ (s.slots.length : Int) + 1 := by omega
  have hm2 : (s.slots.length : Int) + 1 ≤ 1000000 := by omega
  generalize hmq : modI id ((s.slots.length : Int) + 1) = mid
  generalize hyq : validOr xt = y at hyo
  cases xb with
  | true =>
    simp [S_law16_StoreOperations_r0, S_law16_StoreOperations_r1, S_law16_StoreOperations_r2, S_law16_StoreOperations_r3, S_law16_StoreOperations_r4, S_law16_StoreOperations_r5, S_law16_StoreOperations_r6, S_law16_StoreOperations_r7, S_law16_StoreOperations_r8, S_law16_StoreOperations_r9, S_law16_StoreOperations_r10, S_law16_StoreOperations_r11, S_law16_StoreOperations_r12, S_law16_StoreOperations_r13, S_law16_StoreOperations_r14, S_law16_StoreOperations_r15, S_law16_StoreOperations_r16, S_law16_StoreOperations_r17, S_law16_StoreOperations_r18, S_law16_StoreOperations_r19, S_law16_StoreOperations_r20, S_law16_StoreOperations_b0, S_law16_StoreOperations_r21, S_law16_StoreOperations_b1, S_law16_StoreOperations_r22, S_law16_StoreOperations, hE, h1, h2, h3, h4, h5, h6, h7, h8, h9, h10, h11, h12, h13, yesS, fewS, smallTyS, validTyS, freshS, same16S, equalS, modS, c1, c2', c3, hsh, hyq, hF, hsm, hfq, hsame1, hsame0, hfx, hwl, hm1, hm2, hmq]
    refine lpi hρ hE hcon 2 (nn := 2) (fun i (_ : Unit) => [(11, .ptr 0 0 0), (14, .ptr 1 0 0), (89, .sl [[.int .i64 id], [.int .i64 mid]] true), (90, .int .i64 2), (91, .int .i64 (i : Int))]) (fun i _ => [(0, box [.bool true, .int .i64 y.kind, .str y.name, .int .i64 y.id, .int .i64 y.home, .sl (y.args.map encTy) false, .int .i64 xh, .bool xg]), (1, box (encStore s))]) (fun i _ => True) ()
      (Less.auto (by simp) (by simp) (by simp) (by simp)) trivial ?_ ?_
    · intro _ _ K
      simp [S_law16_StoreOperations_l0, S_law16_StoreOperations_r0, S_law16_StoreOperations_r1, S_law16_StoreOperations_r2, S_law16_StoreOperations_r3, S_law16_StoreOperations_r4, S_law16_StoreOperations_r5, S_law16_StoreOperations_r6, S_law16_StoreOperations_r7, S_law16_StoreOperations_r8, S_law16_StoreOperations_r9, S_law16_StoreOperations_r10, S_law16_StoreOperations_r11, S_law16_StoreOperations_r12, S_law16_StoreOperations_r13, S_law16_StoreOperations_r14, S_law16_StoreOperations_r15, S_law16_StoreOperations_r16, S_law16_StoreOperations_r17, S_law16_StoreOperations_r18, S_law16_StoreOperations_r19, S_law16_StoreOperations_r20, S_law16_StoreOperations_b0, S_law16_StoreOperations_r21, S_law16_StoreOperations_b1, S_law16_StoreOperations_r22, S_law16_StoreOperations, hE]
      refine LessQ.mk (Less.auto (TL := []) (HL := []) (n := 2) (by simp) (by simp) (by simp) (by simp)) ?_
      simp [S_law16_StoreOperations_r0, S_law16_StoreOperations_r1, S_law16_StoreOperations_r2, S_law16_StoreOperations_r3, S_law16_StoreOperations_r4, S_law16_StoreOperations_r5, S_law16_StoreOperations_r6, S_law16_StoreOperations_r7, S_law16_StoreOperations_r8, S_law16_StoreOperations_r9, S_law16_StoreOperations_r10, S_law16_StoreOperations_r11, S_law16_StoreOperations_r12, S_law16_StoreOperations_r13, S_law16_StoreOperations_r14, S_law16_StoreOperations_r15, S_law16_StoreOperations_r16, S_law16_StoreOperations_r17, S_law16_StoreOperations_r18, S_law16_StoreOperations_r19, S_law16_StoreOperations_r20, S_law16_StoreOperations_b0, S_law16_StoreOperations_r21, S_law16_StoreOperations_b1, S_law16_StoreOperations_r22, S_law16_StoreOperations, hE]
    · intro i _ hi _ K hK
      have hnew := hK () trivial
      obtain ⟨w, hw⟩ : ∃ w, [[V.int .i64 id], [V.int .i64 mid]][i]? = some [V.int .i64 w] := by
        match i, hi with
        | 0, _ => exact ⟨id, rfl⟩
        | 1, _ => exact ⟨mid, rfl⟩
      have hi2 : (i : Int) < 2 := by omega
      have hw3 : IntKind.i64.wrap ((i : Int) + 1) = ((i + 1 : Nat) : Int) := wrap_succ (by omega)
      have hw' : ∀ h, ([[V.int .i64 id], [V.int .i64 mid]] : List (List V))[i]'h = [V.int .i64 w] := fun h => (List.getElem?_eq_some_iff.1 hw).2
      have hz := hsetS w ⟨true, y, xh, xg⟩ (by first | exact hyo | rfl)
      rcases hzq : s.set w ⟨true, y, xh, xg⟩ with ⟨sz, ok⟩
      rw [hzq] at hz
      simp only at hz
      simp [S_law16_StoreOperations_l0, S_law16_StoreOperations_r0, S_law16_StoreOperations_r1, S_law16_StoreOperations_r2, S_law16_StoreOperations_r3, S_law16_StoreOperations_r4, S_law16_StoreOperations_r5, S_law16_StoreOperations_r6, S_law16_StoreOperations_r7, S_law16_StoreOperations_r8, S_law16_StoreOperations_r9, S_law16_StoreOperations_r10, S_law16_StoreOperations_r11, S_law16_StoreOperations_r12, S_law16_StoreOperations_r13, S_law16_StoreOperations_r14, S_law16_StoreOperations_r15, S_law16_StoreOperations_r16, S_law16_StoreOperations_r17, S_law16_StoreOperations_r18, S_law16_StoreOperations_r19, S_law16_StoreOperations_r20, S_law16_StoreOperations_b0, S_law16_StoreOperations_r21, S_law16_StoreOperations_b1, S_law16_StoreOperations_r22, S_law16_StoreOperations, hE, hi, hi2, hw', h14, h15, h9, setS, same16S, hsm, hzq, hz, hw3, -Int.natCast_add]
      exact hnew _ _ (Less.auto (by simp [-Int.natCast_add]) (by simp) (by simp) (by simp))
  | false =>
    simp [S_law16_StoreOperations_r0, S_law16_StoreOperations_r1, S_law16_StoreOperations_r2, S_law16_StoreOperations_r3, S_law16_StoreOperations_r4, S_law16_StoreOperations_r5, S_law16_StoreOperations_r6, S_law16_StoreOperations_r7, S_law16_StoreOperations_r8, S_law16_StoreOperations_r9, S_law16_StoreOperations_r10, S_law16_StoreOperations_r11, S_law16_StoreOperations_r12, S_law16_StoreOperations_r13, S_law16_StoreOperations_r14, S_law16_StoreOperations_r15, S_law16_StoreOperations_r16, S_law16_StoreOperations_r17, S_law16_StoreOperations_r18, S_law16_StoreOperations_r19, S_law16_StoreOperations_r20, S_law16_StoreOperations_b0, S_law16_StoreOperations_r21, S_law16_StoreOperations_b1, S_law16_StoreOperations_r22, S_law16_StoreOperations, hE, h1, h2, h3, h4, h5, h6, h7, h8, h9, h10, h11, h12, h13, yesS, fewS, smallTyS, validTyS, freshS, same16S, equalS, modS, c1, c2', c3, hsh, hyq, hF, hsm, hfq, hsame1, hsame0, hfx, hwl, hm1, hm2, hmq]
    refine lpi hρ hE hcon 2 (nn := 2) (fun i (_ : Unit) => [(11, .ptr 0 0 0), (14, .ptr 1 0 0), (89, .sl [[.int .i64 id], [.int .i64 mid]] true), (90, .int .i64 2), (91, .int .i64 (i : Int))]) (fun i _ => [(0, box [.bool false, .int .i64 0, .str [], .int .i64 0, .int .i64 0, .snil, .int .i64 xh, .bool xg]), (1, box (encStore s))]) (fun i _ => True) ()
      (Less.auto (by simp) (by simp) (by simp) (by simp)) trivial ?_ ?_
    · intro _ _ K
      simp [S_law16_StoreOperations_l0, S_law16_StoreOperations_r0, S_law16_StoreOperations_r1, S_law16_StoreOperations_r2, S_law16_StoreOperations_r3, S_law16_StoreOperations_r4, S_law16_StoreOperations_r5, S_law16_StoreOperations_r6, S_law16_StoreOperations_r7, S_law16_StoreOperations_r8, S_law16_StoreOperations_r9, S_law16_StoreOperations_r10, S_law16_StoreOperations_r11, S_law16_StoreOperations_r12, S_law16_StoreOperations_r13, S_law16_StoreOperations_r14, S_law16_StoreOperations_r15, S_law16_StoreOperations_r16, S_law16_StoreOperations_r17, S_law16_StoreOperations_r18, S_law16_StoreOperations_r19, S_law16_StoreOperations_r20, S_law16_StoreOperations_b0, S_law16_StoreOperations_r21, S_law16_StoreOperations_b1, S_law16_StoreOperations_r22, S_law16_StoreOperations, hE]
      refine LessQ.mk (Less.auto (TL := []) (HL := []) (n := 2) (by simp) (by simp) (by simp) (by simp)) ?_
      simp [S_law16_StoreOperations_r0, S_law16_StoreOperations_r1, S_law16_StoreOperations_r2, S_law16_StoreOperations_r3, S_law16_StoreOperations_r4, S_law16_StoreOperations_r5, S_law16_StoreOperations_r6, S_law16_StoreOperations_r7, S_law16_StoreOperations_r8, S_law16_StoreOperations_r9, S_law16_StoreOperations_r10, S_law16_StoreOperations_r11, S_law16_StoreOperations_r12, S_law16_StoreOperations_r13, S_law16_StoreOperations_r14, S_law16_StoreOperations_r15, S_law16_StoreOperations_r16, S_law16_StoreOperations_r17, S_law16_StoreOperations_r18, S_law16_StoreOperations_r19, S_law16_StoreOperations_r20, S_law16_StoreOperations_b0, S_law16_StoreOperations_r21, S_law16_StoreOperations_b1, S_law16_StoreOperations_r22, S_law16_StoreOperations, hE]
    · intro i _ hi _ K hK
      have hnew := hK () trivial
      obtain ⟨w, hw⟩ : ∃ w, [[V.int .i64 id], [V.int .i64 mid]][i]? = some [V.int .i64 w] := by
        match i, hi with
        | 0, _ => exact ⟨id, rfl⟩
        | 1, _ => exact ⟨mid, rfl⟩
      have hi2 : (i : Int) < 2 := by omega
      have hw3 : IntKind.i64.wrap ((i : Int) + 1) = ((i + 1 : Nat) : Int) := wrap_succ (by omega)
      have hw' : ∀ h, ([[V.int .i64 id], [V.int .i64 mid]] : List (List V))[i]'h = [V.int .i64 w] := fun h => (List.getElem?_eq_some_iff.1 hw).2
      have hz := hsetS w ⟨false, .mk 0 [] 0 0 [], xh, xg⟩ (by first | exact hyo | rfl)
      rcases hzq : s.set w ⟨false, .mk 0 [] 0 0 [], xh, xg⟩ with ⟨sz, ok⟩
      rw [hzq] at hz
      simp only at hz
      simp [S_law16_StoreOperations_l0, S_law16_StoreOperations_r0, S_law16_StoreOperations_r1, S_law16_StoreOperations_r2, S_law16_StoreOperations_r3, S_law16_StoreOperations_r4, S_law16_StoreOperations_r5, S_law16_StoreOperations_r6, S_law16_StoreOperations_r7, S_law16_StoreOperations_r8, S_law16_StoreOperations_r9, S_law16_StoreOperations_r10, S_law16_StoreOperations_r11, S_law16_StoreOperations_r12, S_law16_StoreOperations_r13, S_law16_StoreOperations_r14, S_law16_StoreOperations_r15, S_law16_StoreOperations_r16, S_law16_StoreOperations_r17, S_law16_StoreOperations_r18, S_law16_StoreOperations_r19, S_law16_StoreOperations_r20, S_law16_StoreOperations_b0, S_law16_StoreOperations_r21, S_law16_StoreOperations_b1, S_law16_StoreOperations_r22, S_law16_StoreOperations, hE, hi, hi2, hw', h14, h15, h9, setS, same16S, hsm, hzq, hz, hw3, -Int.natCast_add]
      exact hnew _ _ (Less.auto (by simp [-Int.natCast_add]) (by simp) (by simp) (by simp))
end
end Go.Proofs.Ythfcfmkdeheicaa
