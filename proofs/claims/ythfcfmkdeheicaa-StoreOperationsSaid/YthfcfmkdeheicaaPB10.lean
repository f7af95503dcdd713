import Derived.Test.YthfcfmkdeheicaaPB9
set_option linter.all false
set_option linter.all false
namespace Go.Proofs.Ythfcfmkdeheicaa
open Go.J
open Go.J.Enc (enc)
set_option maxRecDepth 100000
set_option maxHeartbeats 4000000
section
variable {ρ : Nat → Value} (hρ : J.Good ρ) {E : Env} (hE : E.P = Try.prog) (hcon : ConsOk ρ E)
include hρ hE hcon
theorem ref2_Lower_run (h1 : E.con 109 = fnS (spec1 fun s : List Nat => if s.length < 2^63 then some (wordN s) else none)) (h2 : E.con 110 = fnS (spec1 fun c : Byte => some (lowerB c.n)))
    (h3 : E.con 111 = fnS (spec1 fun s : List Nat => some (decide (s ∈ keywords)))) {s : List Nat} (hl : s.length < 2^63) (hs : HS) : CallOk ρ Try.prog 91 [enc s] hs (enc (lowerN s)) hs := by
  refine fn hρ hE hcon Try.func91 BS_ref2_Lower rfl (by simp) ?_ hs
  simp only [show (2:Nat)^63 = 9223372036854775808 from rfl] at *
  cases hw : wordN s with
  | false => simp [S_ref2_Lower_r0, S_ref2_Lower_r1, S_ref2_Lower, hE, h1, hl, hw, lowerN]
  | true =>
    rcases s with _ | ⟨c, s⟩
    · cases hw
    · have hl2 : ((s.length : Int) + 1 ≤ 12) ↔ s.length ≤ 11 := by omega
      simp only [List.length_cons] at hl
      cases hc : lowerB c <;> by_cases h12 : s.length ≤ 11 <;> by_cases hk : (c :: s) ∈ keywords <;> simp [S_ref2_Lower_r0, S_ref2_Lower_r1, S_ref2_Lower, hE, h1, h2, h3, hl, hw, lowerN, hc, h12, hk, hl2]
theorem ref2_Upper_run (h1 : E.con 109 = fnS (spec1 fun s : List Nat => if s.length < 2^63 then some (wordN s) else none)) (h2 : E.con 112 = fnS (spec1 fun c : Byte => some (upperB c.n)))
    {s : List Nat} (hl : s.length < 2^63) (hs : HS) : CallOk ρ Try.prog 92 [enc s] hs (enc (upperN s)) hs := by
  refine fn hρ hE hcon Try.func92 BS_ref2_Upper rfl (by simp) ?_ hs
  simp only [show (2:Nat)^63 = 9223372036854775808 from rfl] at *
  cases hw : wordN s with
  | false => simp [S_ref2_Upper_r0, S_ref2_Upper_r1, S_ref2_Upper, hE, h1, hl, hw, upperN]
  | true =>
    rcases s with _ | ⟨c, s⟩
    · cases hw
    · have hl2 : ((s.length : Int) + 1 ≤ 12) ↔ s.length ≤ 11 := by omega
      simp only [List.length_cons] at hl
      cases hc : upperB c <;> by_cases h12 : s.length ≤ 11 <;> simp [S_ref2_Upper_r0, S_ref2_Upper_r1, S_ref2_Upper, hE, h1, h2, hl, hw, upperN, hc, h12, hl2]
theorem make_SmallType_run {d : Nat} (hc : E.con 56 = fnS (spec2 fun (t : Ty) (n : Int) => if t.size ≤ d ∧ -1000000 ≤ n ∧ n ≤ 1000000 then some (max (n - t.size) 0) else none)) {t : Ty} (ht : t.size ≤ d) {n : Int} (h1 : -1000000 ≤ n) (h2 : n ≤ 999999) (hs : HS) :
    CallOk ρ Try.prog 12 [enc t, enc n] hs (enc (decide (t.size ≤ n))) hs := by
  refine fn hρ hE hcon Try.func12 BS_make_SmallType rfl (by simp) ?_ hs
  have hw : IntKind.i64.wrap (n + 1) = n + 1 := wrap_i64 (by omega) (by omega)
  have e : (0 < max (n + 1 - t.size) 0) ↔ t.size ≤ n := by omega
  simp [S_make_SmallType_r0, S_make_SmallType_r1, S_make_SmallType, hE, hw, hc, ht, h2, show -1000000 ≤ n + 1 by omega, show n + 1 ≤ 1000000 by omega, e]
theorem ref3_Valid_loop {d : Nat} (hc : E.con 57 = fnS (spec1 fun t : Ty => if t.size ≤ d ∧ t.short = true then some t.valid else none)) {t : Ty} (ht : t.size ≤ d + 1) (hll : t.args.length ≤ 1000000) (hsh : t.short = true) {Q : Ex → PT V → HS → Prop}
    (hf : Ty.valids t.args = false → Q .ret (mkP [(2, .bool false)]) { H := mkP [], n := 0, log := [] }) (hq : Ty.valids t.args = true → Q (.exit 1) (mkP [(1, .ptr 0 0 0)]) { H := mkP [(0, box (encTy t))], n := 1, log := [] }) :
    ∀ (n i : Nat), i + n = t.args.length → Ty.valids (t.args.take i) = true → LsN ρ E 0 132 S_ref3_Valid_l0 (LessQ 0 Q) (n + 1) (mkP [(1, .ptr 0 0 0), (3, .int .i64 (i : Int))]) { H := mkP [(0, box (encTy t))], n := 1, log := [] } := by
  intro n
  induction n with
  | zero =>
    intro i hi he
    have hil : ¬ (i : Int) < t.args.length := by omega
    rw [List.take_of_length_le (by omega)] at he
    refine lp hρ hE hcon fun K hK => ?_
    simp [S_ref3_Valid_l0, S_ref3_Valid_r0, S_ref3_Valid_r1, S_ref3_Valid_r2, S_ref3_Valid_r3, S_ref3_Valid_r4, S_ref3_Valid_r5, S_ref3_Valid_r6, S_ref3_Valid_r7, S_ref3_Valid_r8, S_ref3_Valid_r9, S_ref3_Valid_r10, S_ref3_Valid_r11, S_ref3_Valid_r12, S_ref3_Valid_r13, S_ref3_Valid_r14, S_ref3_Valid_r15, S_ref3_Valid_b0, S_ref3_Valid_r16, S_ref3_Valid_b1, S_ref3_Valid_r17, S_ref3_Valid_r18, S_ref3_Valid_r19, S_ref3_Valid_r20, S_ref3_Valid_r21, S_ref3_Valid_b2, S_ref3_Valid_r22, S_ref3_Valid_b3, S_ref3_Valid_r23, S_ref3_Valid, hE, hil]
    exact LessQ.mk (Less.keep 1 (by simp) (by simp) rfl rfl) (hq he)
  | succ n ih =>
    intro i hi he
    have hil : i < t.args.length := by omega
    have hil' : (i : Int) < t.args.length := by omega
    have hw : IntKind.i64.wrap ((i : Int) + 1) = ((i + 1 : Nat) : Int) := wrap_succ (by omega)
    have hsz : t.args[i].size ≤ d := by have := Ty.size_arg (List.getElem_mem hil); omega
    have hs2 : t.args[i].short = true := Ty.shorts_iff.1 (Ty.short_iff.1 hsh).2 _ (List.getElem_mem hil)
    refine lp hρ hE hcon fun K hK => ?_
    cases hb : t.args[i].valid with
    | true =>
      have hnx : Ty.valids (t.args.take (i + 1)) = true := by
        rw [Ty.valids_iff] at he ⊢
        intro u hu
        rw [List.take_add_one, List.getElem?_eq_getElem hil] at hu
        rcases List.mem_append.1 hu with hu | hu
        · exact he u hu
        · rw [List.mem_singleton.1 hu]; exact hb
      simp [S_ref3_Valid_l0, S_ref3_Valid_r0, S_ref3_Valid_r1, S_ref3_Valid_r2, S_ref3_Valid_r3, S_ref3_Valid_r4, S_ref3_Valid_r5, S_ref3_Valid_r6, S_ref3_Valid_r7, S_ref3_Valid_r8, S_ref3_Valid_r9, S_ref3_Valid_r10, S_ref3_Valid_r11, S_ref3_Valid_r12, S_ref3_Valid_r13, S_ref3_Valid_r14, S_ref3_Valid_r15, S_ref3_Valid_b0, S_ref3_Valid_r16, S_ref3_Valid_b1, S_ref3_Valid_r17, S_ref3_Valid_r18, S_ref3_Valid_r19, S_ref3_Valid_r20, S_ref3_Valid_r21, S_ref3_Valid_b2, S_ref3_Valid_r22, S_ref3_Valid_b3, S_ref3_Valid_r23, S_ref3_Valid, hE, hil', hil, hc, hsz, hs2, hb, hw, -Int.natCast_add]
      exact hK _ _ (LsN_less (Less.keep 1 (by simp [-Int.natCast_add]) (by simp) rfl rfl) (ih (i + 1) (by omega) hnx))
    | false =>
      have hnv : Ty.valids t.args = false := by
        rw [Bool.eq_false_iff, Ne, Ty.valids_iff]
        intro h
        rw [h _ (List.getElem_mem hil)] at hb
        cases hb
      simp [S_ref3_Valid_l0, S_ref3_Valid_r0, S_ref3_Valid_r1, S_ref3_Valid_r2, S_ref3_Valid_r3, S_ref3_Valid_r4, S_ref3_Valid_r5, S_ref3_Valid_r6, S_ref3_Valid_r7, S_ref3_Valid_r8, S_ref3_Valid_r9, S_ref3_Valid_r10, S_ref3_Valid_r11, S_ref3_Valid_r12, S_ref3_Valid_r13, S_ref3_Valid_r14, S_ref3_Valid_r15, S_ref3_Valid_b0, S_ref3_Valid_r16, S_ref3_Valid_b1, S_ref3_Valid_r17, S_ref3_Valid_r18, S_ref3_Valid_r19, S_ref3_Valid_r20, S_ref3_Valid_r21, S_ref3_Valid_b2, S_ref3_Valid_r22, S_ref3_Valid_b3, S_ref3_Valid_r23, S_ref3_Valid, hE, hil', hil, hc, hsz, hs2, hb]
      exact LessQ.mk (Less.keep 0 (by simp) (by simp) rfl rfl) (hf hnv)
theorem ref3_Valid_run {d : Nat} (hc : E.con 57 = fnS (spec1 fun t : Ty => if t.size ≤ d ∧ t.short = true then some t.valid else none)) (hL : E.con 91 = fnS (spec1 fun s : List Nat => if s.length < 2^63 then some (lowerN s) else none))
    (hU : E.con 92 = fnS (spec1 fun s : List Nat => if s.length < 2^63 then some (upperN s) else none))
    {t : Ty} (ht : t.size ≤ d + 1) (hll : t.args.length ≤ 1000000) (hsh : t.short = true) (hs : HS) : CallOk ρ Try.prog 57 [enc t] hs (enc t.valid) hs := by
  refine fn hρ hE hcon Try.func57 BS_ref3_Valid rfl (by simp) ?_ hs
  have lo := fun Q => ref3_Valid_loop hρ hE hcon hc ht hll hsh (Q := Q)
  obtain ⟨k, nm, i, h, l⟩ := t
  have hnm := (Ty.short_iff.1 hsh).1
  simp only [Ty.name_mk, Ty.args_mk] at hnm hll lo
  simp only [show (2:Nat)^63 = 9223372036854775808 from rfl] at hL hU hnm
  by_cases h1 : k = 1
  · subst h1
    simp [S_ref3_Valid_r0, S_ref3_Valid_r1, S_ref3_Valid_r2, S_ref3_Valid_r3, S_ref3_Valid_r4, S_ref3_Valid_r5, S_ref3_Valid_r6, S_ref3_Valid_r7, S_ref3_Valid_r8, S_ref3_Valid_r9, S_ref3_Valid_r10, S_ref3_Valid_r11, S_ref3_Valid_r12, S_ref3_Valid_r13, S_ref3_Valid_r14, S_ref3_Valid_r15, S_ref3_Valid_b0, S_ref3_Valid_r16, S_ref3_Valid_b1, S_ref3_Valid_r17, S_ref3_Valid_r18, S_ref3_Valid_r19, S_ref3_Valid_r20, S_ref3_Valid_r21, S_ref3_Valid_b2, S_ref3_Valid_r22, S_ref3_Valid_b3, S_ref3_Valid_r23, S_ref3_Valid, hE]
    repeat' (refine brT_mk (fun h => ?_) (fun h => ?_) <;> simp [h, hE, S_ref3_Valid_r0, S_ref3_Valid_r1, S_ref3_Valid_r2, S_ref3_Valid_r3, S_ref3_Valid_r4, S_ref3_Valid_r5, S_ref3_Valid_r6, S_ref3_Valid_r7, S_ref3_Valid_r8, S_ref3_Valid_r9, S_ref3_Valid_r10, S_ref3_Valid_r11, S_ref3_Valid_r12, S_ref3_Valid_r13, S_ref3_Valid_r14, S_ref3_Valid_r15, S_ref3_Valid_b0, S_ref3_Valid_r16, S_ref3_Valid_b1, S_ref3_Valid_r17, S_ref3_Valid_r18, S_ref3_Valid_r19, S_ref3_Valid_r20, S_ref3_Valid_r21, S_ref3_Valid_b2, S_ref3_Valid_r22, S_ref3_Valid_b3, S_ref3_Valid_r23, S_ref3_Valid])
    all_goals clear lo
    all_goals simp_all [Ty.valid]
    all_goals (intros; first | omega | simp_all | (exfalso; omega))
  by_cases h2 : k = 2
  · subst h2
    simp [S_ref3_Valid_r0, S_ref3_Valid_r1, S_ref3_Valid_r2, S_ref3_Valid_r3, S_ref3_Valid_r4, S_ref3_Valid_r5, S_ref3_Valid_r6, S_ref3_Valid_r7, S_ref3_Valid_r8, S_ref3_Valid_r9, S_ref3_Valid_r10, S_ref3_Valid_r11, S_ref3_Valid_r12, S_ref3_Valid_r13, S_ref3_Valid_r14, S_ref3_Valid_r15, S_ref3_Valid_b0, S_ref3_Valid_r16, S_ref3_Valid_b1, S_ref3_Valid_r17, S_ref3_Valid_r18, S_ref3_Valid_r19, S_ref3_Valid_r20, S_ref3_Valid_r21, S_ref3_Valid_b2, S_ref3_Valid_r22, S_ref3_Valid_b3, S_ref3_Valid_r23, S_ref3_Valid, hE]
    repeat' (refine brT_mk (fun h => ?_) (fun h => ?_) <;> simp [h, hE, hL, hnm, S_ref3_Valid_r0, S_ref3_Valid_r1, S_ref3_Valid_r2, S_ref3_Valid_r3, S_ref3_Valid_r4, S_ref3_Valid_r5, S_ref3_Valid_r6, S_ref3_Valid_r7, S_ref3_Valid_r8, S_ref3_Valid_r9, S_ref3_Valid_r10, S_ref3_Valid_r11, S_ref3_Valid_r12, S_ref3_Valid_r13, S_ref3_Valid_r14, S_ref3_Valid_r15, S_ref3_Valid_b0, S_ref3_Valid_r16, S_ref3_Valid_b1, S_ref3_Valid_r17, S_ref3_Valid_r18, S_ref3_Valid_r19, S_ref3_Valid_r20, S_ref3_Valid_r21, S_ref3_Valid_b2, S_ref3_Valid_r22, S_ref3_Valid_b3, S_ref3_Valid_r23, S_ref3_Valid])
    all_goals clear lo
    all_goals simp_all [Ty.valid]
    all_goals (intros; first | omega | simp_all | (exfalso; omega))
  by_cases h3 : k = 3
  · subst h3
    simp [S_ref3_Valid_r0, S_ref3_Valid_r1, S_ref3_Valid_r2, S_ref3_Valid_r3, S_ref3_Valid_r4, S_ref3_Valid_r5, S_ref3_Valid_r6, S_ref3_Valid_r7, S_ref3_Valid_r8, S_ref3_Valid_r9, S_ref3_Valid_r10, S_ref3_Valid_r11, S_ref3_Valid_r12, S_ref3_Valid_r13, S_ref3_Valid_r14, S_ref3_Valid_r15, S_ref3_Valid_b0, S_ref3_Valid_r16, S_ref3_Valid_b1, S_ref3_Valid_r17, S_ref3_Valid_r18, S_ref3_Valid_r19, S_ref3_Valid_r20, S_ref3_Valid_r21, S_ref3_Valid_b2, S_ref3_Valid_r22, S_ref3_Valid_b3, S_ref3_Valid_r23, S_ref3_Valid, hE]
    repeat' (refine brT_mk (fun h => ?_) (fun h => ?_) <;> simp [h, hE, hL, hnm, S_ref3_Valid_r0, S_ref3_Valid_r1, S_ref3_Valid_r2, S_ref3_Valid_r3, S_ref3_Valid_r4, S_ref3_Valid_r5, S_ref3_Valid_r6, S_ref3_Valid_r7, S_ref3_Valid_r8, S_ref3_Valid_r9, S_ref3_Valid_r10, S_ref3_Valid_r11, S_ref3_Valid_r12, S_ref3_Valid_r13, S_ref3_Valid_r14, S_ref3_Valid_r15, S_ref3_Valid_b0, S_ref3_Valid_r16, S_ref3_Valid_b1, S_ref3_Valid_r17, S_ref3_Valid_r18, S_ref3_Valid_r19, S_ref3_Valid_r20, S_ref3_Valid_r21, S_ref3_Valid_b2, S_ref3_Valid_r22, S_ref3_Valid_b3, S_ref3_Valid_r23, S_ref3_Valid])
    all_goals clear lo
    all_goals simp_all [Ty.valid]
    all_goals (intros; first | omega | simp_all | (exfalso; omega))
  by_cases h5 : k = 5
  · subst h5
    simp [S_ref3_Valid_r0, S_ref3_Valid_r1, S_ref3_Valid_r2, S_ref3_Valid_r3, S_ref3_Valid_r4, S_ref3_Valid_r5, S_ref3_Valid_r6, S_ref3_Valid_r7, S_ref3_Valid_r8, S_ref3_Valid_r9, S_ref3_Valid_r10, S_ref3_Valid_r11, S_ref3_Valid_r12, S_ref3_Valid_r13, S_ref3_Valid_r14, S_ref3_Valid_r15, S_ref3_Valid_b0, S_ref3_Valid_r16, S_ref3_Valid_b1, S_ref3_Valid_r17, S_ref3_Valid_r18, S_ref3_Valid_r19, S_ref3_Valid_r20, S_ref3_Valid_r21, S_ref3_Valid_b2, S_ref3_Valid_r22, S_ref3_Valid_b3, S_ref3_Valid_r23, S_ref3_Valid, hE]
    repeat' (refine brT_mk (fun h => ?_) (fun h => ?_) <;> simp [h, hE, hL, hnm, S_ref3_Valid_r0, S_ref3_Valid_r1, S_ref3_Valid_r2, S_ref3_Valid_r3, S_ref3_Valid_r4, S_ref3_Valid_r5, S_ref3_Valid_r6, S_ref3_Valid_r7, S_ref3_Valid_r8, S_ref3_Valid_r9, S_ref3_Valid_r10, S_ref3_Valid_r11, S_ref3_Valid_r12, S_ref3_Valid_r13, S_ref3_Valid_r14, S_ref3_Valid_r15, S_ref3_Valid_b0, S_ref3_Valid_r16, S_ref3_Valid_b1, S_ref3_Valid_r17, S_ref3_Valid_r18, S_ref3_Valid_r19, S_ref3_Valid_r20, S_ref3_Valid_r21, S_ref3_Valid_b2, S_ref3_Valid_r22, S_ref3_Valid_b3, S_ref3_Valid_r23, S_ref3_Valid])
    all_goals clear lo
    all_goals simp_all [Ty.valid]
    all_goals (intros; first | omega | simp_all | (exfalso; omega))
  by_cases h4 : k = 4
  · subst h4
    by_cases hi0 : i = 0
    · by_cases hh0 : h = 0
      · subst hi0 hh0
        simp [S_ref3_Valid_r0, S_ref3_Valid_r1, S_ref3_Valid_r2, S_ref3_Valid_r3, S_ref3_Valid_r4, S_ref3_Valid_r5, S_ref3_Valid_r6, S_ref3_Valid_r7, S_ref3_Valid_r8, S_ref3_Valid_r9, S_ref3_Valid_r10, S_ref3_Valid_r11, S_ref3_Valid_r12, S_ref3_Valid_r13, S_ref3_Valid_r14, S_ref3_Valid_r15, S_ref3_Valid_b0, S_ref3_Valid_r16, S_ref3_Valid_b1, S_ref3_Valid_r17, S_ref3_Valid_r18, S_ref3_Valid_r19, S_ref3_Valid_r20, S_ref3_Valid_r21, S_ref3_Valid_b2, S_ref3_Valid_r22, S_ref3_Valid_b3, S_ref3_Valid_r23, S_ref3_Valid, hE]
        refine Ls_lessQ (Ls_loop (LsN_less (Less.keep (TL := [(1, .ptr 0 0 0), (3, .int .i64 ((0 : Nat) : Int))]) (HL := [(0, box (encTy (.mk 4 nm 0 0 l)))]) 1 (by simp) (by simp) rfl rfl) (lo _ ?_ ?_ l.length 0 (by omega) (by simp [Ty.valids]))))
        · intro hv
          simp [S_ref3_Valid_r0, S_ref3_Valid_r1, S_ref3_Valid_r2, S_ref3_Valid_r3, S_ref3_Valid_r4, S_ref3_Valid_r5, S_ref3_Valid_r6, S_ref3_Valid_r7, S_ref3_Valid_r8, S_ref3_Valid_r9, S_ref3_Valid_r10, S_ref3_Valid_r11, S_ref3_Valid_r12, S_ref3_Valid_r13, S_ref3_Valid_r14, S_ref3_Valid_r15, S_ref3_Valid_b0, S_ref3_Valid_r16, S_ref3_Valid_b1, S_ref3_Valid_r17, S_ref3_Valid_r18, S_ref3_Valid_r19, S_ref3_Valid_r20, S_ref3_Valid_r21, S_ref3_Valid_b2, S_ref3_Valid_r22, S_ref3_Valid_b3, S_ref3_Valid_r23, S_ref3_Valid, hE, hv, Ty.valid]
        · intro hv
          clear lo
          by_cases ha : nm = [45, 62]
          · subst ha
            have hl2 : ((l.length : Int) = 2) ↔ l.length = 2 := by omega
            simp [S_ref3_Valid_r0, S_ref3_Valid_r1, S_ref3_Valid_r2, S_ref3_Valid_r3, S_ref3_Valid_r4, S_ref3_Valid_r5, S_ref3_Valid_r6, S_ref3_Valid_r7, S_ref3_Valid_r8, S_ref3_Valid_r9, S_ref3_Valid_r10, S_ref3_Valid_r11, S_ref3_Valid_r12, S_ref3_Valid_r13, S_ref3_Valid_r14, S_ref3_Valid_r15, S_ref3_Valid_b0, S_ref3_Valid_r16, S_ref3_Valid_b1, S_ref3_Valid_r17, S_ref3_Valid_r18, S_ref3_Valid_r19, S_ref3_Valid_r20, S_ref3_Valid_r21, S_ref3_Valid_b2, S_ref3_Valid_r22, S_ref3_Valid_b3, S_ref3_Valid_r23, S_ref3_Valid, hE, hv, Ty.valid, hl2]
          by_cases hb : nm = [73, 110, 116]
          · subst hb
            simp [S_ref3_Valid_r0, S_ref3_Valid_r1, S_ref3_Valid_r2, S_ref3_Valid_r3, S_ref3_Valid_r4, S_ref3_Valid_r5, S_ref3_Valid_r6, S_ref3_Valid_r7, S_ref3_Valid_r8, S_ref3_Valid_r9, S_ref3_Valid_r10, S_ref3_Valid_r11, S_ref3_Valid_r12, S_ref3_Valid_r13, S_ref3_Valid_r14, S_ref3_Valid_r15, S_ref3_Valid_b0, S_ref3_Valid_r16, S_ref3_Valid_b1, S_ref3_Valid_r17, S_ref3_Valid_r18, S_ref3_Valid_r19, S_ref3_Valid_r20, S_ref3_Valid_r21, S_ref3_Valid_b2, S_ref3_Valid_r22, S_ref3_Valid_b3, S_ref3_Valid_r23, S_ref3_Valid, hE, hv, Ty.valid]
          have hl4 : ((l.length : Int) ≤ 4) ↔ l.length ≤ 4 := by omega
          cases hu : upperN nm <;> simp [S_ref3_Valid_r0, S_ref3_Valid_r1, S_ref3_Valid_r2, S_ref3_Valid_r3, S_ref3_Valid_r4, S_ref3_Valid_r5, S_ref3_Valid_r6, S_ref3_Valid_r7, S_ref3_Valid_r8, S_ref3_Valid_r9, S_ref3_Valid_r10, S_ref3_Valid_r11, S_ref3_Valid_r12, S_ref3_Valid_r13, S_ref3_Valid_r14, S_ref3_Valid_r15, S_ref3_Valid_b0, S_ref3_Valid_r16, S_ref3_Valid_b1, S_ref3_Valid_r17, S_ref3_Valid_r18, S_ref3_Valid_r19, S_ref3_Valid_r20, S_ref3_Valid_r21, S_ref3_Valid_b2, S_ref3_Valid_r22, S_ref3_Valid_b3, S_ref3_Valid_r23, S_ref3_Valid, hE, hv, Ty.valid, ha, hb, hU, hnm, hu, hl4]
      · simp [S_ref3_Valid_r0, S_ref3_Valid_r1, S_ref3_Valid_r2, S_ref3_Valid_r3, S_ref3_Valid_r4, S_ref3_Valid_r5, S_ref3_Valid_r6, S_ref3_Valid_r7, S_ref3_Valid_r8, S_ref3_Valid_r9, S_ref3_Valid_r10, S_ref3_Valid_r11, S_ref3_Valid_r12, S_ref3_Valid_r13, S_ref3_Valid_r14, S_ref3_Valid_r15, S_ref3_Valid_b0, S_ref3_Valid_r16, S_ref3_Valid_b1, S_ref3_Valid_r17, S_ref3_Valid_r18, S_ref3_Valid_r19, S_ref3_Valid_r20, S_ref3_Valid_r21, S_ref3_Valid_b2, S_ref3_Valid_r22, S_ref3_Valid_b3, S_ref3_Valid_r23, S_ref3_Valid, hE, hi0, hh0, Ty.valid]
    · simp [S_ref3_Valid_r0, S_ref3_Valid_r1, S_ref3_Valid_r2, S_ref3_Valid_r3, S_ref3_Valid_r4, S_ref3_Valid_r5, S_ref3_Valid_r6, S_ref3_Valid_r7, S_ref3_Valid_r8, S_ref3_Valid_r9, S_ref3_Valid_r10, S_ref3_Valid_r11, S_ref3_Valid_r12, S_ref3_Valid_r13, S_ref3_Valid_r14, S_ref3_Valid_r15, S_ref3_Valid_b0, S_ref3_Valid_r16, S_ref3_Valid_b1, S_ref3_Valid_r17, S_ref3_Valid_r18, S_ref3_Valid_r19, S_ref3_Valid_r20, S_ref3_Valid_r21, S_ref3_Valid_b2, S_ref3_Valid_r22, S_ref3_Valid_b3, S_ref3_Valid_r23, S_ref3_Valid, hE, hi0, Ty.valid]
  simp [S_ref3_Valid_r0, S_ref3_Valid_r1, S_ref3_Valid_r2, S_ref3_Valid_r3, S_ref3_Valid_r4, S_ref3_Valid_r5, S_ref3_Valid_r6, S_ref3_Valid_r7, S_ref3_Valid_r8, S_ref3_Valid_r9, S_ref3_Valid_r10, S_ref3_Valid_r11, S_ref3_Valid_r12, S_ref3_Valid_r13, S_ref3_Valid_r14, S_ref3_Valid_r15, S_ref3_Valid_b0, S_ref3_Valid_r16, S_ref3_Valid_b1, S_ref3_Valid_r17, S_ref3_Valid_r18, S_ref3_Valid_r19, S_ref3_Valid_r20, S_ref3_Valid_r21, S_ref3_Valid_b2, S_ref3_Valid_r22, S_ref3_Valid_b3, S_ref3_Valid_r23, S_ref3_Valid, hE, h1, h2, h3, h4, h5, Ty.valid]
end
end Go.Proofs.Ythfcfmkdeheicaa
