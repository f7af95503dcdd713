import Derived.Test.YthfcfmkdeheicaaGreatGM6
set_option linter.all false
set_option linter.all false
namespace Go.Proofs.YthfcfmkdeheicaaGreat
open Go.J
open Go.J.Enc (enc)
set_option maxRecDepth 100000
set_option maxHeartbeats 1000000
theorem cmL_cons {a b : Ty} {l m : List Ty} {L : List Pair} : cmL (a :: l) (b :: m) L = ((cmM a b L).1 :: (cmL l m (cmM a b L).2).1, (cmL l m (cmM a b L).2).2) := by rw [cmL]
theorem cmL_nil {m : List Ty} {L : List Pair} : cmL [] m L = ([], L) := by rw [cmL]; simp
def pok (L : List Pair) : Prop := ∀ p ∈ L, p.a.ok = true ∧ p.b.ok = true
theorem pok_snoc {L : List Pair} (h : pok L) {a b : Ty} (ha : a.ok = true) (hb : b.ok = true) : pok (L ++ [⟨a, b⟩]) := by
  intro p hp
  rcases List.mem_append.1 hp with hp | hp
  · exact h p hp
  · rw [List.mem_singleton.1 hp]; exact ⟨ha, hb⟩
theorem cmL_len : ∀ {l m : List Ty} {L : List Pair}, l.length = m.length → (cmL l m L).1.length = l.length := by
  intro l
  induction l with
  | nil => intro m L _; rw [cmL_nil]
  | cons a l ih =>
    intro m L h
    cases m with
    | nil => simp at h
    | cons b m => rw [cmL_cons]; simp [ih (by simpa using h)]
theorem cm_pok {a : Ty} : ∀ {b : Ty} {L : List Pair}, a.ok = true → b.ok = true → pok L → pok (cmM a b L).2 ∧ (cmM a b L).1.ok = true := by
  induction a using Ty.ind with
  | h a ih =>
    intro b L ha hb hL
    have ihl : ∀ (l : List Ty), (∀ u ∈ l, u ∈ a.args) → ∀ (m : List Ty) (L : List Pair), (∀ v ∈ m, v.ok = true) → pok L → pok (cmL l m L).2 ∧ ∀ x ∈ (cmL l m L).1, x.ok = true := by
      intro l
      induction l with
      | nil => intro _ m L _ h; rw [cmL_nil]; exact ⟨h, fun x hx => by cases hx⟩
      | cons u l ihl =>
        intro hsub m L hm h
        cases m with
        | nil => rw [cmL]; exact ⟨h, fun x hx => by cases hx⟩; simp
        | cons v m =>
          rw [cmL_cons]
          have hu := hsub u (List.mem_cons_self ..)
          obtain ⟨h1, h2⟩ := ih u hu (Ty.ok_arg ha hu) (hm v (List.mem_cons_self ..)) h
          obtain ⟨h3, h4⟩ := ihl (fun w hw => hsub w (List.mem_cons_of_mem _ hw)) m _ (fun w hw => hm w (List.mem_cons_of_mem _ hw)) h1
          refine ⟨h3, fun x hx => ?_⟩
          rcases List.mem_cons.1 hx with rfl | hx
          · exact h2
          · exact h4 x hx
    rw [cmM_eq]
    split
    · rename_i hc
      obtain ⟨h1, h2⟩ := ihl a.args (fun _ h => h) b.args L (fun v hv => Ty.ok_arg hb hv) hL
      refine ⟨h1, Ty.ok_iff.2 ⟨?_, h2⟩⟩
      show (cmL a.args b.args L).1.length ≤ 10000
      rw [cmL_len (same_iff.1 hc.1).2.2.2.2]; exact Ty.ok_len ha
    · split
      · exact ⟨hL, by simp [tVar, Ty.ok, Ty.oks]⟩
      · exact ⟨pok_snoc hL ha hb, by simp [tVar, Ty.ok, Ty.oks]⟩
def ixI : Option Nat → Int
  | some j => (j : Int)
  | none => -1
theorem idxF_ix {L : List Pair} {a b : Ty} (h : ∀ p ∈ L, peF p a b = some (decide (p.a = a) && decide (p.b = b))) : idxF (fun p => (peF p a b).getD false) L 0 = ixI (ixP L a b) := by
  have key : ∀ (L : List Pair) (i : Int), (∀ p ∈ L, peF p a b = some (decide (p.a = a) && decide (p.b = b))) → idxF (fun p => (peF p a b).getD false) L i = match ixP L a b with | some j => i + (j : Int) | none => -1 := by
    intro L
    induction L with
    | nil => intro i _; rfl
    | cons p L ih =>
      intro i h
      have hp := h p (List.mem_cons_self ..)
      rw [idxF, hp, Option.getD_some]
      unfold ixP
      rw [List.findIdx?_cons]
      by_cases hc : (decide (p.a = a) && decide (p.b = b)) = true
      · rw [if_pos hc, if_pos hc]; simp
      · rw [if_neg hc, if_neg hc, ih (i + 1) fun q hq => h q (List.mem_cons_of_mem _ hq)]
        unfold ixP
        cases List.findIdx? (fun p => decide (p.a = a) && decide (p.b = b)) L with
        | none => rfl
        | some j => show i + 1 + (j : Int) = i + ((j + 1 : Nat) : Int); omega
  rw [key L 0 h]
  cases ixP L a b with
  | none => rfl
  | some j => show (0 : Int) + j = j; omega
noncomputable def commonF (d : Nat) (a b : Ty) (L : List Pair) : Option (List Pair × Ty) := open Classical in if a.ok = true ∧ b.ok = true ∧ pok L ∧ L.length + a.size ≤ 8000 ∧ a.size ≤ d then some ((cmM a b L).2, (cmM a b L).1) else none
section
variable {ρ : Nat → Value} (hρ : J.Good ρ) {E : Env} (hE : E.P = Tryz.prog) (hcon : ConsOk ρ E)
include hρ hE hcon
theorem lattice_common_loop {d : Nat} (hc : E.con 75 = rwS 10 false (rwF (commonF d))) {k : Nat} {a b : Ty} {L : List Pair} (hk : k = 0 ∨ k = 1 ∧ L ≠ []) (hao : a.ok = true) (hbo : b.ok = true) (hl : a.args.length = b.args.length) (hL : pok L) (hlen : L.length + a.size ≤ 8000) (hd : a.size ≤ d + 1) {gl : List Ty} {Lf : List Pair} (hg : cmL a.args b.args L = (gl, Lf)) {T : PT V} {hs : HS} {Q : Ex → PT V → HS → Prop}
    (hQ : Q (.exit 0) (mkP [(2, oV 0 (Lf.map encPair)), (3, .ptr 1 0 0), (6, .ptr 3 0 0), (8, .own 4 0 0 a.args.length (some a.args.length))]) { H := mkP (oH 0 10 (Lf.map encPair) ++ [(1, box (encTy a)), (3, box zTy), (4, .arr 5 0 (gl.map encTy) true false true)]), n := 5, log := [] })
    (h0 : Less k T hs (mkP [(2, oV 0 (L.map encPair)), (3, .ptr 1 0 0), (4, .ptr 2 0 0), (6, .ptr 3 0 0), (8, .own 4 0 0 a.args.length (some a.args.length)), (24, .int .i64 (a.args.length : Int)), (25, .int .i64 ((0 : Nat) : Int))])
      { H := mkP (oH 0 10 (L.map encPair) ++ [(1, box (encTy a)), (2, box (encTy b)), (3, box zTy), (4, .arr 5 0 (fillR gl a.args.length 0) true false true)]), n := 5, log := [] }) :
    Ls ρ E k 67 (.loop fS75l0) T hs Q := by
  have hsza := Ty.size_eq a
  have hal := Ty.ok_len hao
  have hgl : gl.length = a.args.length := by have := cmL_len (L := L) hl; rw [hg] at this; exact this
  refine lpi hρ hE hcon a.args.length (nn := 5) (fun i (R : List Pair) => [(2, oV 0 (R.map encPair)), (3, .ptr 1 0 0), (4, .ptr 2 0 0), (6, .ptr 3 0 0), (8, .own 4 0 0 a.args.length (some a.args.length)), (24, .int .i64 (a.args.length : Int)), (25, .int .i64 (i : Int))])
    (fun i R => oH 0 10 (R.map encPair) ++ [(1, box (encTy a)), (2, box (encTy b)), (3, box zTy), (4, .arr 5 0 (fillR gl a.args.length i) true false true)])
    (fun i R => cmL (a.args.drop i) (b.args.drop i) R = (gl.drop i, Lf) ∧ pok R ∧ L.length ≤ R.length ∧ R.length + Ty.sizes (a.args.drop i) ≤ L.length + Ty.sizes a.args) L
    h0 ⟨by simpa using hg, hL, Nat.le_refl _, by simp⟩ ?_ ?_
  · rintro R ⟨h1, h2, h3, h4⟩ K
    rw [List.drop_length, cmL_nil] at h1
    obtain ⟨_, rfl⟩ : _ ∧ R = Lf := by simpa using h1
    rw [fillR_full hgl]
    rcases R with _ | ⟨y, R⟩
    · have hk0 : k = 0 := by
        rcases hk with h | ⟨_, h⟩
        · exact h
        · cases L with
          | nil => exact absurd rfl h
          | cons a l => simp at h3
      subst hk0
      simp [fS75l0, fS75r0, fS75r1, fS75r2, fS75r3, fS75r4, fS75r5, fS75r6, fS75b0, fS75r7, fS75b1, fS75r8, fS75r9, fS75r10, fS75r11, fS75r12, fS75r13, fS75r14, fS75, hE]
      exact LessQ.mk (Less.auto (n := 5) (by simp) (by simp) rfl rfl) hQ
    · simp [fS75l0, fS75r0, fS75r1, fS75r2, fS75r3, fS75r4, fS75r5, fS75r6, fS75b0, fS75r7, fS75b1, fS75r8, fS75r9, fS75r10, fS75r11, fS75r12, fS75r13, fS75r14, fS75, hE]
      rcases hk with rfl | ⟨rfl, _⟩ <;> exact LessQ.mk (Less.auto (n := 5) (by simp) (by simp) rfl rfl) hQ
  · rintro i R hi ⟨h1, h2, h3, h4⟩ K hK
    have hib : i < b.args.length := by omega
    have hi' : (i : Int) < a.args.length := by omega
    have hib' : (i : Int) < b.args.length := by omega
    have hw2 : IntKind.i64.wrap ((i : Int) + 1) = ((i + 1 : Nat) : Int) := wrap_succ (by omega)
    have hm5 : (i * 5) / 5 = i := by omega
    have hm6 : (i * 5) % 5 = 0 := by omega
    have hig : i < gl.length := by omega
    rw [List.drop_eq_getElem_cons hi, List.drop_eq_getElem_cons hib, List.drop_eq_getElem_cons hig, cmL_cons] at h1
    rw [List.drop_eq_getElem_cons hi, Ty.sizes] at h4
    have hma := List.getElem_mem hi
    have hmb := List.getElem_mem hib
    have hsp := Ty.size_mem hma
    have hF : commonF d a.args[i] b.args[i] R = some ((cmM a.args[i] b.args[i] R).2, (cmM a.args[i] b.args[i] R).1) := if_pos ⟨Ty.ok_arg hao hma, Ty.ok_arg hbo hmb, h2, by omega, by omega⟩
    obtain ⟨⟨M, hM⟩, _, _, hml⟩ := cm_gn (a := a.args[i]) (b := b.args[i]) (L := R)
    obtain ⟨hpk, _⟩ := cm_pok (a := a.args[i]) (b := b.args[i]) (L := R) (Ty.ok_arg hao hma) (Ty.ok_arg hbo hmb) h2
    rcases hq : cmM a.args[i] b.args[i] R with ⟨g1, R2⟩
    rw [hq] at hF h1 hM hml hpk
    simp only at h1 hM hml hpk hF
    have h6 := congrArg Prod.snd h1
    obtain ⟨hg1, h5⟩ := List.cons.inj (congrArg Prod.fst h1)
    simp only at h6
    have hlr : R.length ≤ R2.length := by rw [hM]; simp
    have hnew := hK R2 ⟨Prod.ext h5 h6, hpk, by omega, by omega⟩
    have hiR : i < (fillR gl a.args.length i).length := by rw [fillR_len hgl (Nat.le_of_lt hi)]; exact hi
    have hov := fillR_over hgl hi hiR
    rw [← hg1] at hov
    simp [encTy_n] at hov
    generalize hpx : a.args[i] = px at hF
    generalize htx : b.args[i] = tx at hF
    rcases R with _ | ⟨y, R⟩
    · have hk0 : k = 0 := by
        rcases hk with h | ⟨_, h⟩
        · exact h
        · cases L with
          | nil => exact absurd rfl h
          | cons a l => simp at h3
      subst hk0
      rcases R2 with _ | ⟨z, R2⟩
      · simp [fS75l0, fS75r0, fS75r1, fS75r2, fS75r3, fS75r4, fS75r5, fS75r6, fS75b0, fS75r7, fS75b1, fS75r8, fS75r9, fS75r10, fS75r11, fS75r12, fS75r13, fS75r14, fS75, hE, hi, hi', hib, hib', hm5, hm6, hpx, htx, hc, hF, hw2, hiR, hov, -Int.natCast_add]
        exact hnew _ _ (Less.auto (by simp [-Int.natCast_add]) (by simp) rfl rfl)
      · simp [fS75l0, fS75r0, fS75r1, fS75r2, fS75r3, fS75r4, fS75r5, fS75r6, fS75b0, fS75r7, fS75b1, fS75r8, fS75r9, fS75r10, fS75r11, fS75r12, fS75r13, fS75r14, fS75, hE, hi, hi', hib, hib', hm5, hm6, hpx, htx, hc, hF, hw2, hiR, hov, -Int.natCast_add]
        exact hnew _ _ (Less.auto (by simp [-Int.natCast_add]) (by simp) rfl rfl)
    · rcases R2 with _ | ⟨z, R2⟩
      · simp at hlr
      · have hlr2 : R.length ≤ R2.length := by simpa using hlr
        simp [fS75l0, fS75r0, fS75r1, fS75r2, fS75r3, fS75r4, fS75r5, fS75r6, fS75b0, fS75r7, fS75b1, fS75r8, fS75r9, fS75r10, fS75r11, fS75r12, fS75r13, fS75r14, fS75, hE, hi, hi', hib, hib', hm5, hm6, hpx, htx, hc, hF, hw2, hlr2, hiR, hov, -Int.natCast_add]
        rcases hk with rfl | ⟨rfl, _⟩ <;> exact hnew _ _ (Less.auto (by simp [-Int.natCast_add]) (by simp) rfl rfl)
end
end Go.Proofs.YthfcfmkdeheicaaGreat
