import Derived.Test.YthfcfmkdeheicaaPW2
set_option linter.all false
/- The law StoreRaw: what its function computes. -/
set_option linter.all false
namespace Go.Proofs.Ythfcfmkdeheicaa
open Go.J
open Go.J.Enc (enc)
set_option maxRecDepth 100000
set_option maxHeartbeats 1000000
theorem ok_of_size (n : Nat) (hn : n ≤ 10000) : ∀ t : Ty, t.size ≤ n → t.ok = true := by
  intro t
  induction t using Ty.ind with
  | h t ih =>
    intro h
    have h1 := Ty.size_eq t
    have h2 := args_le t.args
    exact Ty.ok_iff.2 ⟨by omega, fun x hx => ih x hx (by have := Ty.size_arg hx; omega)⟩
noncomputable def trueS : J.Spec := fnS (spec0 true)
section
variable {ρ : Nat → Value} (hρ : J.Good ρ) {E : Env} (hE : E.P = Try.prog) (hcon : ConsOk ρ E)
include hρ hE hcon
theorem StoreRaw_run (h1 : E.con 10 = trueS) (h2 : E.con 29 = fnS (spec1 fun s : Store => some (decide s.few))) (h3 : E.con 30 = valid16S) (h4 : E.con 22 = modS) (h5 : E.con 27 = rollS) (h6 : E.con 18 = same16S)
    {s : Store} (hsh : ∀ x ∈ s.slots, x.type.short = true) {m : Int} (hs : HS) : CallOk ρ Try.prog 5 [enc s, enc m] hs (.bool true) hs := by
  refine fn hρ hE hcon Try.func5 BS_law16_StoreRaw rfl (by simp) ?_ hs
  by_cases c1 : s.few
  · obtain ⟨d1, d2, d3, d4⟩ := c1
    have c1 : s.few := ⟨d1, d2, d3, d4⟩
    have hfine : s.fine := ⟨by omega, by omega, fun x hx => ⟨ok_of_size 20 (by omega) _ (d3 x hx), hsh x hx, by have := d3 x hx; omega⟩⟩
    by_cases c2 : s.valid = true
    · have hw : IntKind.i64.wrap ((s.trail.length : Int) + 2) = (s.trail.length : Int) + 2 := wrap_i64 (by omega) (by omega)
      have hmn := modI_nonneg m ((s.trail.length : Int) + 2)
      have hml := modI_lt (n := m) (m := (s.trail.length : Int) + 2) (by omega)
      have hq1 : -1000000 ≤ (s.trail.length : Int) + 2 := by omega
      have hq2 : (s.trail.length : Int) + 2 ≤ 1000000 := by omega
      generalize hqe : modI m ((s.trail.length : Int) + 2) = q at hmn hml
      have hw2 : IntKind.i64.wrap (q - 1) = q - 1 := wrap_i64 (by omega) (by omega)
      simp [S_law16_StoreRaw_r0, S_law16_StoreRaw_r1, S_law16_StoreRaw_r2, S_law16_StoreRaw_r3, S_law16_StoreRaw_r4, S_law16_StoreRaw_r5, S_law16_StoreRaw_r6, S_law16_StoreRaw_r7, S_law16_StoreRaw_r8, S_law16_StoreRaw_r9, S_law16_StoreRaw_r10, S_law16_StoreRaw_r11, S_law16_StoreRaw_r12, S_law16_StoreRaw_b0, S_law16_StoreRaw_r13, S_law16_StoreRaw_b1, S_law16_StoreRaw_r14, S_law16_StoreRaw, hE, h1, h2, h3, h4, trueS, valid16S, modS, c1, c2, hfine, hw, hq1, hq2, hqe, hw2]
      refine lpi hρ hE hcon 2 (nn := 1) (fun i (_ : Unit) => [(2, .ptr 0 0 0), (25, .sl [[.int .i64 m], [.int .i64 (q - 1)]] true), (26, .int .i64 2), (27, .int .i64 (i : Int))]) (fun i _ => [(0, box (encStore s))]) (fun i _ => True) ()
        (Less.auto (by simp) (by simp) (by simp) (by simp)) trivial ?_ ?_
      · intro _ _ K
        simp [S_law16_StoreRaw_l0, S_law16_StoreRaw_r0, S_law16_StoreRaw_r1, S_law16_StoreRaw_r2, S_law16_StoreRaw_r3, S_law16_StoreRaw_r4, S_law16_StoreRaw_r5, S_law16_StoreRaw_r6, S_law16_StoreRaw_r7, S_law16_StoreRaw_r8, S_law16_StoreRaw_r9, S_law16_StoreRaw_r10, S_law16_StoreRaw_r11, S_law16_StoreRaw_r12, S_law16_StoreRaw_b0, S_law16_StoreRaw_r13, S_law16_StoreRaw_b1, S_law16_StoreRaw_r14, S_law16_StoreRaw, hE]
        refine LessQ.mk (Less.auto (TL := []) (HL := []) (n := 1) (by simp) (by simp) (by simp) (by simp)) ?_
        simp [S_law16_StoreRaw_r0, S_law16_StoreRaw_r1, S_law16_StoreRaw_r2, S_law16_StoreRaw_r3, S_law16_StoreRaw_r4, S_law16_StoreRaw_r5, S_law16_StoreRaw_r6, S_law16_StoreRaw_r7, S_law16_StoreRaw_r8, S_law16_StoreRaw_r9, S_law16_StoreRaw_r10, S_law16_StoreRaw_r11, S_law16_StoreRaw_r12, S_law16_StoreRaw_b0, S_law16_StoreRaw_r13, S_law16_StoreRaw_b1, S_law16_StoreRaw_r14, S_law16_StoreRaw, hE]
      · intro i _ hi _ K hK
        have hnew := hK () trivial
        have hsm : s.small := ⟨by omega, by omega⟩
        obtain ⟨x, hx⟩ : ∃ x, [[V.int .i64 m], [V.int .i64 (q - 1)]][i]? = some [V.int .i64 x] := by
          match i, hi with
          | 0, _ => exact ⟨m, rfl⟩
          | 1, _ => exact ⟨q - 1, rfl⟩
        have hi2 : (i : Int) < 2 := by omega
        have hw3 : IntKind.i64.wrap ((i : Int) + 1) = ((i + 1 : Nat) : Int) := wrap_succ (by omega)
        have k1 : s.slots.length ≤ 1000000 := by omega
        have k2 : ∀ x ∈ s.slots, x.type.ok = true := fun x hx => ok_of_size 20 (by omega) _ (d3 x hx)
        have k3 : s.trail.length ≤ 1000000 := by omega
        have k4 : ∀ x ∈ s.trail, x.old.type.ok = true := fun x hx => ok_of_size 20 (by omega) _ (d4 x hx)
        have hsame : sameF s s = some true := by unfold sameF; rw [if_pos ⟨k1, k2, k3, k4⟩]; simp
        have hx' : ∀ h, ([[V.int .i64 m], [V.int .i64 (q - 1)]] : List (List V))[i]'h = [V.int .i64 x] := fun h => (List.getElem?_eq_some_iff.1 hx).2
        by_cases e1 : x < 0
        · have hr : rollM s x = (s, false) := if_pos (.inl e1)
          have e2 : ¬ 0 ≤ x := by omega
          simp [S_law16_StoreRaw_l0, S_law16_StoreRaw_r0, S_law16_StoreRaw_r1, S_law16_StoreRaw_r2, S_law16_StoreRaw_r3, S_law16_StoreRaw_r4, S_law16_StoreRaw_r5, S_law16_StoreRaw_r6, S_law16_StoreRaw_r7, S_law16_StoreRaw_r8, S_law16_StoreRaw_r9, S_law16_StoreRaw_r10, S_law16_StoreRaw_r11, S_law16_StoreRaw_r12, S_law16_StoreRaw_b0, S_law16_StoreRaw_r13, S_law16_StoreRaw_b1, S_law16_StoreRaw_r14, S_law16_StoreRaw, hE, hi, hi2, hx', h5, h6, rollS, same16S, hsm, hr, e1, e2, hsame, hw3, -Int.natCast_add]
          exact hnew _ _ (Less.auto (by simp [-Int.natCast_add]) (by simp) (by simp) (by simp))
        · by_cases e2 : (s.trail.length : Int) < x
          · have hr : rollM s x = (s, false) := if_pos (.inr e2)
            have e3 : ¬ x ≤ (s.trail.length : Int) := by omega
            have e0 : 0 ≤ x := by omega
            simp [S_law16_StoreRaw_l0, S_law16_StoreRaw_r0, S_law16_StoreRaw_r1, S_law16_StoreRaw_r2, S_law16_StoreRaw_r3, S_law16_StoreRaw_r4, S_law16_StoreRaw_r5, S_law16_StoreRaw_r6, S_law16_StoreRaw_r7, S_law16_StoreRaw_r8, S_law16_StoreRaw_r9, S_law16_StoreRaw_r10, S_law16_StoreRaw_r11, S_law16_StoreRaw_r12, S_law16_StoreRaw_b0, S_law16_StoreRaw_r13, S_law16_StoreRaw_b1, S_law16_StoreRaw_r14, S_law16_StoreRaw, hE, hi, hi2, hx', h5, h6, rollS, same16S, hsm, hr, e0, e1, e2, e3, hsame, hw3, -Int.natCast_add]
            exact hnew _ _ (Less.auto (by simp [-Int.natCast_add]) (by simp) (by simp) (by simp))
          · obtain ⟨j, rfl⟩ := Int.eq_ofNat_of_zero_le (Int.not_lt.1 e1)
            have hr : rollM s (j : Int) = (⟨rbSlots s (s.trail.drop j), s.trail.take j⟩, true) := if_neg (fun h => h.elim e1 e2)
            have e3 : (j : Int) ≤ (s.trail.length : Int) := by omega
            have e4 : j ≤ s.trail.length := by omega
            simp [S_law16_StoreRaw_l0, S_law16_StoreRaw_r0, S_law16_StoreRaw_r1, S_law16_StoreRaw_r2, S_law16_StoreRaw_r3, S_law16_StoreRaw_r4, S_law16_StoreRaw_r5, S_law16_StoreRaw_r6, S_law16_StoreRaw_r7, S_law16_StoreRaw_r8, S_law16_StoreRaw_r9, S_law16_StoreRaw_r10, S_law16_StoreRaw_r11, S_law16_StoreRaw_r12, S_law16_StoreRaw_b0, S_law16_StoreRaw_r13, S_law16_StoreRaw_b1, S_law16_StoreRaw_r14, S_law16_StoreRaw, hE, hi, hi2, hx', h5, h6, rollS, same16S, hsm, hr, e1, e2, e3, e4, hsame, hw3, -Int.natCast_add]
            exact hnew _ _ (Less.auto (by simp [-Int.natCast_add]) (by simp) (by simp) (by simp))
    · have c2 : s.valid = false := by simpa using c2
      simp [S_law16_StoreRaw_r0, S_law16_StoreRaw_r1, S_law16_StoreRaw_r2, S_law16_StoreRaw_r3, S_law16_StoreRaw_r4, S_law16_StoreRaw_r5, S_law16_StoreRaw_r6, S_law16_StoreRaw_r7, S_law16_StoreRaw_r8, S_law16_StoreRaw_r9, S_law16_StoreRaw_r10, S_law16_StoreRaw_r11, S_law16_StoreRaw_r12, S_law16_StoreRaw_b0, S_law16_StoreRaw_r13, S_law16_StoreRaw_b1, S_law16_StoreRaw_r14, S_law16_StoreRaw, hE, h1, h2, h3, trueS, valid16S, c1, c2, hfine]
  · simp [S_law16_StoreRaw_r0, S_law16_StoreRaw_r1, S_law16_StoreRaw_r2, S_law16_StoreRaw_r3, S_law16_StoreRaw_r4, S_law16_StoreRaw_r5, S_law16_StoreRaw_r6, S_law16_StoreRaw_r7, S_law16_StoreRaw_r8, S_law16_StoreRaw_r9, S_law16_StoreRaw_r10, S_law16_StoreRaw_r11, S_law16_StoreRaw_r12, S_law16_StoreRaw_b0, S_law16_StoreRaw_r13, S_law16_StoreRaw_b1, S_law16_StoreRaw_r14, S_law16_StoreRaw, hE, h1, h2, trueS, c1]
end
end Go.Proofs.Ythfcfmkdeheicaa
