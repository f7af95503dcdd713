import Derived.Test.YthfcfmkdeheicaaGreatGM7
import Derived.Test.YthfcfmkdeheicaaGreatGW5
set_option linter.all false
set_option linter.all false
namespace Go.Proofs.YthfcfmkdeheicaaGreat
open Go.J
open Go.J.Enc (enc)
set_option maxRecDepth 100000
set_option maxHeartbeats 1000000
section
variable {ρ : Nat → Value} (hρ : J.Good ρ)
include hρ
section
variable {E : Env} (hE : E.P = Tryz.prog) (hcon : ConsOk ρ E)
include hE hcon
theorem lattice_common_run {d : Nat} (hc : E.con 75 = rwS 10 false (rwF (commonF d))) (hsm : E.con 119 = fnS (spec2 fun a b : Ty => some (a.same b))) (hix : E.con 120 = rdS 10 (some 121) (rdF2 ixFP)) (htv : E.con 86 = fnS (spec1 fun i : Int => some (tVar i)))
    {a b : Ty} {L : List Pair} (hao : a.ok = true) (hbo : b.ok = true) (hL : pok L) (hlen : L.length + a.size ≤ 8000) (hd : a.size ≤ d + 1) {R : List Pair} {g : Ty} (hres : cmM a b L = (g, R))
    {hs : HS} {v : V} (hv : rowOf 10 hs v = some (L.map encPair)) (hvac : hs.H.get hs.n = none) :
    CallOk ρ Tryz.prog 75 [enc a, enc b, v] hs (rwK false (rowTo 10 v (L.map encPair) (R.map encPair) hs).1 (enc g)) (rowTo 10 v (L.map encPair) (R.map encPair) hs).2 := by
  have hpl : L.length ≤ R.length := by
    obtain ⟨⟨M, hM⟩, _⟩ := cm_gn (a := a) (b := b) (L := L)
    rw [hres] at hM
    rw [show R = L ++ M from hM]; simp
  rw [← hE]
  refine rw_run (KK := fun v hs => GivesL (if L.map encPair = [] then 0 else 1) (rwK false (oV 0 (R.map encPair)) (enc g)) (oH 0 10 (R.map encPair)) v hs ∨ GivesP (if L.map encPair = [] then 0 else 1) (rwK false (oV 0 (R.map encPair)) (enc g)) (oH 0 10 (R.map encPair)) v hs)
    hρ hcon (by rw [hE]; exact follows) (by rw [hE]; exact named) (by rw [hE]; exact Tryz.func75) fB75 rfl (enc_pure1 _) (enc_pure1 _) (by simp) (by simp) (by simp) (by simpa using hpl) ?_ (fun _ _ h => h) hv hvac
  clear hv hvac
  rw [cmM_eq] at hres
  have hal := Ty.ok_len hao
  have hsz := Ty.size_pos a
  by_cases hcond : a.same b = true ∧ a.kind ≠ 1
  · rw [if_pos hcond] at hres
    obtain ⟨hs1, hs2⟩ := hcond
    have hl := (same_iff.1 hs1).2.2.2.2
    rcases hg : cmL a.args b.args L with ⟨gl, Lf⟩
    rw [hg] at hres
    simp only [Prod.mk.injEq] at hres
    obtain ⟨rfl, rfl⟩ := hres
    have hkk : (if L.map encPair = [] then 0 else 1) = 0 ∨ (if L.map encPair = [] then 0 else 1) = 1 ∧ L ≠ [] := by
      cases L with
      | nil => exact .inl rfl
      | cons a l => exact .inr ⟨rfl, by simp⟩
    have hend := fun (T : PT V) (hs : HS) (Q : Ex → PT V → HS → Prop) (hQ) (h0) => lattice_common_loop (T := T) (hs := hs) (Q := Q) hρ hE hcon hc hkk hao hbo hl hL hlen hd hg hQ h0
    have hgl : gl.length = a.args.length := by have := cmL_len (L := L) hl; rw [hg] at this; exact this
    have k1 : a.args.length * 64 ≤ 1048576 := Nat.le_trans (Nat.mul_le_mul_right 64 hal) (by decide)
    have k2 : a.args.length * 5 ≤ 1048576 := Nat.le_trans (Nat.mul_le_mul_right 5 hal) (by decide)
    have hnn : normLL (gl.map encTy) = gl.map encTy := by simp
    have hT : (gl.map encTy).take a.args.length = gl.map encTy := List.take_of_length_le (by simp [hgl])
    rcases L with _ | ⟨x, L⟩
    · simp [fS75r0, fS75r1, fS75r2, fS75r3, fS75r4, fS75r5, fS75r6, fS75b0, fS75r7, fS75b1, fS75r8, fS75r9, fS75r10, fS75r11, fS75r12, fS75r13, fS75r14, fS75, hE, hsm, hs1, hs2]
      refine ⟨⟨k1, k2⟩, ?_⟩
      refine hend _ _ _ ?_ (Less.auto (by simp) (by simp [hs2, fillR_zero]) rfl rfl)
      rcases Lf with _ | ⟨y, Lf⟩
      · simp [fS75r0, fS75r1, fS75r2, fS75r3, fS75r4, fS75r5, fS75r6, fS75b0, fS75r7, fS75b1, fS75r8, fS75r9, fS75r10, fS75r11, fS75r12, fS75r13, fS75r14, fS75, hE, hgl]
        exact .inr (GivesP.keep rfl rfl (by simp [still2, hgl, hT, hnn]) (by simp [ownB]))
      · simp [fS75r0, fS75r1, fS75r2, fS75r3, fS75r4, fS75r5, fS75r6, fS75b0, fS75r7, fS75b1, fS75r8, fS75r9, fS75r10, fS75r11, fS75r12, fS75r13, fS75r14, fS75, hE, hgl]
        exact .inr (GivesP.keep rfl rfl (by simp [still2, hgl, hT, hnn]) (by simp [ownB]))
    · simp [fS75r0, fS75r1, fS75r2, fS75r3, fS75r4, fS75r5, fS75r6, fS75b0, fS75r7, fS75b1, fS75r8, fS75r9, fS75r10, fS75r11, fS75r12, fS75r13, fS75r14, fS75, hE, hsm, hs1, hs2]
      refine ⟨⟨k1, k2⟩, ?_⟩
      refine hend _ _ _ ?_ (Less.auto (by simp) (by simp [hs2, fillR_zero]) rfl rfl)
      rcases Lf with _ | ⟨y, Lf⟩
      · simp at hpl
      · simp [fS75r0, fS75r1, fS75r2, fS75r3, fS75r4, fS75r5, fS75r6, fS75b0, fS75r7, fS75b1, fS75r8, fS75r9, fS75r10, fS75r11, fS75r12, fS75r13, fS75r14, fS75, hE, hgl]
        exact .inr (GivesP.keep rfl rfl (by simp [still2, hgl, hT, hnn]) (by simp [ownB]))
  · rw [if_neg hcond] at hres
    have hF0 : ∀ p ∈ L, peF p a b = some (decide (p.a = a) && decide (p.b = b)) := fun p hp => if_pos ⟨(hL p hp).1, (hL p hp).2, hao, hbo⟩
    have hF : ixFP L a b = some (ixI (ixP L a b)) := by
      unfold ixFP
      rw [if_pos ⟨by omega, fun p hp => by rw [hF0 p hp]; rfl⟩, idxF_ix hF0]
    have hcs : a.same b = true → a.kind = 1 := fun h => Classical.byContradiction fun h2 => hcond ⟨h, h2⟩
    cases hj : ixP L a b with
    | some j =>
      rw [hj] at hres hF
      have hF : ixFP L a b = some (j : Int) := hF
      simp only [Prod.mk.injEq] at hres
      obtain ⟨rfl, rfl⟩ := hres
      have hj0 : ¬ (j : Int) < 0 := by omega
      rcases L with _ | ⟨x, L⟩
      · cases hj
      · by_cases hs1 : a.same b = true
        · have hk1 := hcs hs1
          obtain ⟨ak, an, ai, ah, aa⟩ := a
          simp only [Ty.kind_mk] at hk1
          subst hk1
          simp [fS75r0, fS75r1, fS75r2, fS75r3, fS75r4, fS75r5, fS75r6, fS75b0, fS75r7, fS75b1, fS75r8, fS75r9, fS75r10, fS75r11, fS75r12, fS75r13, fS75r14, fS75, hE, hsm, hs1, hix, hF, htv, tVar, hj0]
          exact .inl (GivesL.keepX rfl rfl rfl (by simp))
        · have hs2 : a.same b = false := by simpa using hs1
          simp [fS75r0, fS75r1, fS75r2, fS75r3, fS75r4, fS75r5, fS75r6, fS75b0, fS75r7, fS75b1, fS75r8, fS75r9, fS75r10, fS75r11, fS75r12, fS75r13, fS75r14, fS75, hE, hsm, hs2, hix, hF, htv, tVar, hj0]
          exact .inl (GivesL.keepX rfl rfl rfl (by simp))
    | none =>
      rw [hj] at hres hF
      have hF : ixFP L a b = some (-1 : Int) := hF
      simp only [Prod.mk.injEq] at hres
      obtain ⟨rfl, rfl⟩ := hres
      rcases L with _ | ⟨x, L⟩
      · by_cases hs1 : a.same b = true
        · have hk1 := hcs hs1
          obtain ⟨ak, an, ai, ah, aa⟩ := a
          simp only [Ty.kind_mk] at hk1
          subst hk1
          simp [fS75r0, fS75r1, fS75r2, fS75r3, fS75r4, fS75r5, fS75r6, fS75b0, fS75r7, fS75b1, fS75r8, fS75r9, fS75r10, fS75r11, fS75r12, fS75r13, fS75r14, fS75, hE, hsm, hs1, hix, hF, htv, tVar]
          exact .inl (GivesL.litX (fun k => if k = 0 then 26 else k) rfl rfl ⟨rfl, rfl⟩ (by simp))
        · have hs2 : a.same b = false := by simpa using hs1
          simp [fS75r0, fS75r1, fS75r2, fS75r3, fS75r4, fS75r5, fS75r6, fS75b0, fS75r7, fS75b1, fS75r8, fS75r9, fS75r10, fS75r11, fS75r12, fS75r13, fS75r14, fS75, hE, hsm, hs2, hix, hF, htv, tVar]
          exact .inl (GivesL.litX (fun k => if k = 0 then 26 else k) rfl rfl ⟨rfl, rfl⟩ (by simp))
      · have h64 : (L.length + 1 + 1) * 128 ≤ 1048576 := by simp at hlen; omega
        by_cases hs1 : a.same b = true
        · have hk1 := hcs hs1
          obtain ⟨ak, an, ai, ah, aa⟩ := a
          simp only [Ty.kind_mk] at hk1
          subst hk1
          simp [fS75r0, fS75r1, fS75r2, fS75r3, fS75r4, fS75r5, fS75r6, fS75b0, fS75r7, fS75b1, fS75r8, fS75r9, fS75r10, fS75r11, fS75r12, fS75r13, fS75r14, fS75, hE, hsm, hs1, hix, hF, htv, tVar, h64, Nat.not_succ_le_self]
          exact .inl (GivesL.keepX rfl rfl rfl (by simp))
        · have hs2 : a.same b = false := by simpa using hs1
          simp [fS75r0, fS75r1, fS75r2, fS75r3, fS75r4, fS75r5, fS75r6, fS75b0, fS75r7, fS75b1, fS75r8, fS75r9, fS75r10, fS75r11, fS75r12, fS75r13, fS75r14, fS75, hE, hsm, hs2, hix, hF, htv, tVar, h64, Nat.not_succ_le_self]
          exact .inl (GivesL.keepX rfl rfl rfl (by simp))
end
end
end Go.Proofs.YthfcfmkdeheicaaGreat
