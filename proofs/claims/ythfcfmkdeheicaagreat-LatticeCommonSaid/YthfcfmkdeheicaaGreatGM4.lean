import Derived.Test.YthfcfmkdeheicaaGreatGM3
import Derived.Test.YthfcfmkdeheicaaGreatJQ
import Derived.Test.YthfcfmkdeheicaaGreatJS
set_option linter.all false
set_option linter.all false
namespace Go.Proofs.YthfcfmkdeheicaaGreat
open Go.J
open Go.J.Enc (enc)
set_option maxRecDepth 100000
set_option maxHeartbeats 1000000
theorem mtL_cons {p t : Ty} {l m : List Ty} {s : List Assign} : mtL (p :: l) (t :: m) s = if (mtM p t s).2 then mtL l m (mtM p t s).1 else ((mtM p t s).1, false) := by rw [mtL]
theorem mtL_nil {m : List Ty} {s : List Assign} : mtL [] m s = (s, true) := by rw [mtL]; simp
def aok (s : List Assign) : Prop := ∀ a ∈ s, a.type.ok = true
theorem aok_snoc {s : List Assign} (h : aok s) {i : Int} {t : Ty} (ht : t.ok = true) : aok (s ++ [⟨i, t⟩]) := by
  intro a ha
  rcases List.mem_append.1 ha with ha | ha
  · exact h a ha
  · rw [List.mem_singleton.1 ha]; exact ht
theorem mt_aok {p : Ty} : ∀ {t : Ty} {s : List Assign}, t.ok = true → aok s → aok (mtM p t s).1 := by
  induction p using Ty.ind with
  | h p ih =>
    intro t s ht hs
    have ihl : ∀ (l : List Ty), (∀ u ∈ l, u ∈ p.args) → ∀ (m : List Ty) (s : List Assign), (∀ v ∈ m, v.ok = true) → aok s → aok (mtL l m s).1 := by
      intro l
      induction l with
      | nil => intro _ m s _ h; rw [mtL_nil]; exact h
      | cons u l ihl =>
        intro hsub m s hm h
        cases m with
        | nil => rw [mtL]; exact h; simp
        | cons v m =>
          rw [mtL_cons]
          have h1 := ih u (hsub u (List.mem_cons_self ..)) (hm v (List.mem_cons_self ..)) h
          split
          · exact ihl (fun w hw => hsub w (List.mem_cons_of_mem _ hw)) m _ (fun w hw => hm w (List.mem_cons_of_mem _ hw)) h1
          · exact h1
    rw [mtM_eq]
    split
    · split
      · exact hs
      · exact aok_snoc hs ht
    · split
      · exact ihl _ (fun _ h => h) _ _ (fun v hv => Ty.ok_arg ht hv) hs
      · exact hs
noncomputable def matchF (d : Nat) (p t : Ty) (L : List Assign) : Option (List Assign × Bool) := open Classical in if p.vplain = true ∧ p.ok = true ∧ t.ok = true ∧ aok L ∧ L.length + p.size ≤ 10000 ∧ p.size ≤ d then some (mtM p t L) else none
section
variable {ρ : Nat → Value} (hρ : J.Good ρ)
include hρ
section
variable {E : Env} (hE : E.P = Tryz.prog) (hcon : ConsOk ρ E)
include hE hcon
theorem lattice_same_run {a b : Ty} (hs : HS) : CallOk ρ Tryz.prog 119 [enc a, enc b] hs (enc (a.same b)) hs := by
  refine fn hρ hE hcon Tryz.func119 fB119 rfl (by simp) ?_ hs
  have he : a.same b = (decide (a.kind = b.kind) && decide (a.name = b.name) && decide (a.id = b.id) && decide (a.home = b.home) && decide ((a.args.length : Int) = b.args.length)) := by
    unfold Ty.same; rw [show decide ((a.args.length : Int) = b.args.length) = decide (a.args.length = b.args.length) by rw [Bool.eq_iff_iff]; simp; omega]
  rw [he]
  by_cases h1 : a.kind = b.kind
  · by_cases h2 : a.name = b.name
    · by_cases h3 : a.id = b.id
      · by_cases h4 : a.home = b.home
        · by_cases h5 : (a.args.length : Int) = b.args.length <;> simp [fS119r0, fS119r1, fS119, hE, h1, h2, h3, h4, h5]
        · simp [fS119r0, fS119r1, fS119, hE, h1, h2, h3, h4]
      · simp [fS119r0, fS119r1, fS119, hE, h1, h2, h3]
    · simp [fS119r0, fS119r1, fS119, hE, h1, h2]
  · simp [fS119r0, fS119r1, fS119, hE, h1]
theorem lattice_match_loop {d : Nat} (hc : E.con 123 = rwS 6 true (rwF (matchF d))) {k : Nat} {p t : Ty} {L : List Assign} (hk : k = 0 ∨ k = 1 ∧ L ≠ []) (hp : p.vplain = true) (hpo : p.ok = true) (hto : t.ok = true) (hkd : p.kind ≠ 1) (hL : aok L) (hlen : L.length + p.size ≤ 10000) (hd : p.size ≤ d + 1) {T : PT V} {hs : HS} {Q : Ex → PT V → HS → Prop}
    (hQ : ∀ R b, mtM p t L = (R, b) → Q (.exit 0) (mkP [(2, oV 0 (R.map encAssign)), (8, .bool b)]) { H := mkP (oH 0 6 (R.map encAssign)), n := 1, log := [] })
    (h0 : Less k T hs (mkP [(2, oV 0 (L.map encAssign)), (3, .ptr 1 0 0), (4, .ptr 2 0 0), (8, .bool (p.same t)), (9, .int .i64 ((0 : Nat) : Int))]) { H := mkP (oH 0 6 (L.map encAssign) ++ [(1, box (encTy p)), (2, box (encTy t))]), n := 3, log := [] }) :
    Ls ρ E k 59 (.loop fS123l0) T hs Q := by
  have hpa := vplains_iff.1 (vplain_args hp)
  have hszp := Ty.size_eq p
  have htl := Ty.ok_len hto
  refine lpi hρ hE hcon t.args.length (nn := 3) (fun i (st : List Assign × Bool) => [(2, oV 0 (st.1.map encAssign)), (3, .ptr 1 0 0), (4, .ptr 2 0 0), (8, .bool st.2), (9, .int .i64 (i : Int))])
    (fun i st => oH 0 6 (st.1.map encAssign) ++ [(1, box (encTy p)), (2, box (encTy t))])
    (fun i st => mtM p t L = (if st.2 = true then mtL (p.args.drop i) (t.args.drop i) st.1 else (st.1, false)) ∧ aok st.1 ∧ L.length ≤ st.1.length ∧ st.1.length + Ty.sizes (p.args.drop i) ≤ L.length + Ty.sizes p.args ∧ (st.2 = true → p.args.length = t.args.length)) (L, p.same t)
    h0 ⟨by rw [mtM_eq, if_neg hkd]; simp, hL, Nat.le_refl _, by simp, fun h => (same_iff.1 h).2.2.2.2⟩ ?_ ?_
  · rintro ⟨R, b⟩ ⟨h1, h2, h3, h4, h5⟩ K
    simp only at h1 h2 h3 h4 h5
    have hm : mtM p t L = (R, b) := by
      rw [h1]
      cases b with
      | false => rfl
      | true => rw [if_pos rfl, ← h5 rfl, List.drop_length, mtL_nil]
    have hQ := hQ R b hm
    rcases R with _ | ⟨y, R⟩
    · have hk0 : k = 0 := by
        rcases hk with h | ⟨_, h⟩
        · exact h
        · cases L with
          | nil => exact absurd rfl h
          | cons a l => simp at h3
      subst hk0
      cases b <;> simp [fS123l0, fS123r0, fS123r1, fS123r2, fS123r3, fS123r4, fS123r5, fS123r6, fS123r7, fS123r8, fS123b0, fS123r9, fS123b1, fS123r10, fS123, hE] <;> exact LessQ.mk (Less.auto (n := 1) (by simp) (by simp) rfl rfl) hQ
    · cases b <;> simp [fS123l0, fS123r0, fS123r1, fS123r2, fS123r3, fS123r4, fS123r5, fS123r6, fS123r7, fS123r8, fS123b0, fS123r9, fS123b1, fS123r10, fS123, hE] <;> rcases hk with rfl | ⟨rfl, _⟩ <;> exact LessQ.mk (Less.auto (n := 1) (by simp) (by simp) rfl rfl) hQ
  · rintro i ⟨R, b⟩ hi ⟨h1, h2, h3, h4, h5⟩ K hK
    simp only at h1 h2 h3 h4 h5
    have hi' : (i : Int) < t.args.length := by omega
    have hw2 : IntKind.i64.wrap ((i : Int) + 1) = ((i + 1 : Nat) : Int) := wrap_succ (by omega)
    have hm5 : (i * 5) / 5 = i := by omega
    have hm6 : (i * 5) % 5 = 0 := by omega
    cases b with
    | false =>
      have hQ := hQ R false (by rw [h1]; rfl)
      rcases R with _ | ⟨y, R⟩
      · have hk0 : k = 0 := by
          rcases hk with h | ⟨_, h⟩
          · exact h
          · cases L with
            | nil => exact absurd rfl h
            | cons a l => simp at h3
        subst hk0
        simp [fS123l0, fS123r0, fS123r1, fS123r2, fS123r3, fS123r4, fS123r5, fS123r6, fS123r7, fS123r8, fS123b0, fS123r9, fS123b1, fS123r10, fS123, hE]
        exact LessQ.mk (Less.auto (n := 1) (by simp) (by simp) rfl rfl) hQ
      · simp [fS123l0, fS123r0, fS123r1, fS123r2, fS123r3, fS123r4, fS123r5, fS123r6, fS123r7, fS123r8, fS123b0, fS123r9, fS123b1, fS123r10, fS123, hE]
        rcases hk with rfl | ⟨rfl, _⟩ <;> exact LessQ.mk (Less.auto (n := 1) (by simp) (by simp) rfl rfl) hQ
    | true =>
      have hpl := h5 rfl
      have hip : i < p.args.length := by omega
      have hip' : (i : Int) < p.args.length := by omega
      rw [if_pos rfl, List.drop_eq_getElem_cons hip, List.drop_eq_getElem_cons hi, mtL_cons] at h1
      rw [List.drop_eq_getElem_cons hip, Ty.sizes] at h4
      have hmp := List.getElem_mem hip
      have hmt := List.getElem_mem hi
      have hsp := Ty.size_mem hmp
      have hb1 : R.length + p.args[i].size ≤ 10000 := by omega
      have hF : matchF d p.args[i] t.args[i] R = some (mtM p.args[i] t.args[i] R) := if_pos ⟨hpa _ hmp, Ty.ok_arg hpo hmp, Ty.ok_arg hto hmt, h2, hb1, by omega⟩
      have hml := mt_len (p := p.args[i]) (t := t.args[i]) (s := R)
      have hma := mt_aok (p := p.args[i]) (t := t.args[i]) (s := R) (Ty.ok_arg hto hmt) h2
      rcases hq : mtM p.args[i] t.args[i] R with ⟨R2, b2⟩
      rw [hq] at hF h1 hml hma
      simp only at h1 hml hma
      have hnew := hK (R2, b2) ⟨h1, hma, by show L.length ≤ R2.length; omega, by show R2.length + _ ≤ _; omega, fun _ => hpl⟩
      have hlr : R.length ≤ R2.length := hml.1
      generalize hpx : p.args[i] = px at hF
      generalize htx : t.args[i] = tx at hF
      rcases R with _ | ⟨y, R⟩
      · have hk0 : k = 0 := by
          rcases hk with h | ⟨_, h⟩
          · exact h
          · cases L with
            | nil => exact absurd rfl h
            | cons a l => simp at h3
        subst hk0
        rcases R2 with _ | ⟨z, R2⟩
        · simp [fS123l0, fS123r0, fS123r1, fS123r2, fS123r3, fS123r4, fS123r5, fS123r6, fS123r7, fS123r8, fS123b0, fS123r9, fS123b1, fS123r10, fS123, hE, hi, hi', hip, hip', hm5, hm6, hpx, htx, hc, hF, hw2, -Int.natCast_add]
          exact hnew _ _ (Less.auto (by simp [-Int.natCast_add]) (by simp) rfl rfl)
        · simp [fS123l0, fS123r0, fS123r1, fS123r2, fS123r3, fS123r4, fS123r5, fS123r6, fS123r7, fS123r8, fS123b0, fS123r9, fS123b1, fS123r10, fS123, hE, hi, hi', hip, hip', hm5, hm6, hpx, htx, hc, hF, hw2, -Int.natCast_add]
          exact hnew _ _ (Less.auto (by simp [-Int.natCast_add]) (by simp) rfl rfl)
      · rcases R2 with _ | ⟨z, R2⟩
        · simp at hlr
        · have hlr2 : R.length ≤ R2.length := by simpa using hlr
          simp [fS123l0, fS123r0, fS123r1, fS123r2, fS123r3, fS123r4, fS123r5, fS123r6, fS123r7, fS123r8, fS123b0, fS123r9, fS123b1, fS123r10, fS123, hE, hi, hi', hip, hip', hm5, hm6, hpx, htx, hc, hF, hw2, hlr2, -Int.natCast_add]
          rcases hk with rfl | ⟨rfl, _⟩ <;> exact hnew _ _ (Less.auto (by simp [-Int.natCast_add]) (by simp) rfl rfl)
theorem lattice_match_run {d : Nat} (hc : E.con 123 = rwS 6 true (rwF (matchF d))) (hcf : E.con 155 = rdS 6 (some 156) (rdF1 ixFAB)) (hap : E.con 95 = rdE (rrM 6 1 0 leafRG)) (heq : E.con 63 = tequalS)
    (hsm : E.con 119 = fnS (spec2 fun a b : Ty => some (a.same b))) {p t : Ty} {L : List Assign} (hp : p.vplain = true) (hpo : p.ok = true) (hto : t.ok = true) (hL : aok L) (hlen : L.length + p.size ≤ 10000) (hd : p.size ≤ d + 1)
    {hs : HS} {v : V} (hv : rowOf 6 hs v = some (L.map encAssign)) (hvac : hs.H.get hs.n = none) :
    CallOk ρ Tryz.prog 123 [enc p, enc t, v] hs (rwK true (rowTo 6 v (L.map encAssign) ((mtM p t L).1.map encAssign) hs).1 (enc (mtM p t L).2)) (rowTo 6 v (L.map encAssign) ((mtM p t L).1.map encAssign) hs).2 := by
  have hpl := mt_len (p := p) (t := t) (s := L)
  rw [← hE]
  refine rw_run (KK := fun v hs => GivesL (if L.map encAssign = [] then 0 else 1) (rwK true (oV 0 ((mtM p t L).1.map encAssign)) (enc (mtM p t L).2)) (oH 0 6 ((mtM p t L).1.map encAssign)) v hs) hρ hcon (by rw [hE]; exact follows) (by rw [hE]; exact named) (by rw [hE]; exact Tryz.func123) fB123 rfl (enc_pure1 _) (enc_pure1 _) (by simp) (by simp) (by rfl) (by simpa using hpl.1) ?_ (fun _ _ h => .inl h) hv hvac
  clear hv hvac
  have hE2 := mtM_eq p t L
  have hlen2 : L.length ≤ 100000 := by omega
  have hcn : ixFAB L p = some (hasA L p.id) := if_pos ⟨hlen2, fun x _ => rfl⟩
  have hsz := Ty.size_pos p
  by_cases hk : p.kind = 1
  · rw [if_pos hk] at hE2
    have hpa : p.args = [] := by rw [vplain_var hp hk]; rfl
    obtain ⟨i, rfl⟩ : ∃ i, p = Ty.mk 1 [] i 0 [] := ⟨p.id, vplain_var hp hk⟩
    simp only [Ty.id_mk] at hE2 hcn
    by_cases hh : hasA L i = true
    · rw [if_pos hh] at hE2
      rw [hh] at hcn
      have hr : leafRG (.mk 1 [] i 0 []) L = some ((Ty.mk 1 [] i 0 []).repl L) := by
        have e : leafR L (.mk 1 [] i 0 []) = (Ty.mk 1 [] i 0 []).repl L := by rw [repl_eq]; unfold leafR; simp
        rw [← e]; exact if_pos ⟨hlen2, hpo, hpa⟩
      have hro : ((Ty.mk 1 [] i 0 []).repl L).ok = true := by
        rw [repl_eq, if_pos hk]
        simp only [Ty.id_mk]
        cases hl : lookA L i with
        | none => exact hpo
        | some u =>
          obtain ⟨a, ha, rfl⟩ := lookA_mem hl
          exact hL a ha
      generalize (Ty.mk 1 [] i 0 []).repl L = u at hr hro hE2
      rw [hE2]
      rcases L with _ | ⟨x, L⟩
      · cases hh
      · obtain ⟨uk, un, ui, uh, ua⟩ := u
        obtain ⟨tk, tn, ti, th, ta⟩ := t
        simp [fS123r0, fS123r1, fS123r2, fS123r3, fS123r4, fS123r5, fS123r6, fS123r7, fS123r8, fS123b0, fS123r9, fS123b1, fS123r10, fS123, hE, hcf, hcn, hk, hap, hr, heq, tequalS, hro, hto]
        exact GivesL.keepX rfl rfl rfl (by simp)
    · rw [if_neg hh] at hE2
      rw [show hasA L i = false by simpa using hh] at hcn
      rw [hE2]
      rcases L with _ | ⟨x, L⟩
      · simp [fS123r0, fS123r1, fS123r2, fS123r3, fS123r4, fS123r5, fS123r6, fS123r7, fS123r8, fS123b0, fS123r9, fS123b1, fS123r10, fS123, hE, hcf, hcn, hk]
        exact GivesL.litX (fun k => if k = 0 then 16 else k) rfl rfl ⟨rfl, rfl⟩ (by simp)
      · have h64 : (L.length + 1 + 1) * 72 ≤ 1048576 := by simp at hlen; omega
        simp [fS123r0, fS123r1, fS123r2, fS123r3, fS123r4, fS123r5, fS123r6, fS123r7, fS123r8, fS123b0, fS123r9, fS123b1, fS123r10, fS123, hE, hcf, hcn, hk, h64, Nat.not_succ_le_self]
        exact GivesL.keepX rfl rfl rfl (by simp)
  · rw [if_neg hk] at hE2
    have hkk : (if L.map encAssign = [] then 0 else 1) = 0 ∨ (if L.map encAssign = [] then 0 else 1) = 1 ∧ L ≠ [] := by
      cases L with
      | nil => exact .inl rfl
      | cons a l => exact .inr ⟨rfl, by simp⟩
    generalize hsm2 : p.same t = sm at hE2
    have hend : ∀ T hs, Less (if L.map encAssign = [] then 0 else 1) T hs (mkP [(2, oV 0 (L.map encAssign)), (3, .ptr 1 0 0), (4, .ptr 2 0 0), (8, .bool (p.same t)), (9, .int .i64 ((0 : Nat) : Int))]) { H := mkP (oH 0 6 (L.map encAssign) ++ [(1, box (encTy p)), (2, box (encTy t))]), n := 3, log := [] } →
        ∀ Q, (∀ R b, mtM p t L = (R, b) → Q (.exit 0) (mkP [(2, oV 0 (R.map encAssign)), (8, .bool b)]) { H := mkP (oH 0 6 (R.map encAssign)), n := 1, log := [] }) → Ls ρ E (if L.map encAssign = [] then 0 else 1) 59 (.loop fS123l0) T hs Q := fun T hs h0 Q hQ =>
      lattice_match_loop hρ hE hcon hc hkk hp hpo hto hk hL hlen hd hQ h0
    rw [hsm2] at hend
    rcases L with _ | ⟨x, L⟩
    · simp [fS123r0, fS123r1, fS123r2, fS123r3, fS123r4, fS123r5, fS123r6, fS123r7, fS123r8, fS123b0, fS123r9, fS123b1, fS123r10, fS123, hE, hk, hsm, hsm2]
      refine hend _ _ (Less.auto (by simp) (by simp [hk]) rfl rfl) _ fun R b hR => ?_
      rw [hR]
      rcases R with _ | ⟨y, R⟩ <;> simp [fS123r0, fS123r1, fS123r2, fS123r3, fS123r4, fS123r5, fS123r6, fS123r7, fS123r8, fS123b0, fS123r9, fS123b1, fS123r10, fS123, hE] <;> exact GivesL.keepX rfl rfl rfl (by simp)
    · simp [fS123r0, fS123r1, fS123r2, fS123r3, fS123r4, fS123r5, fS123r6, fS123r7, fS123r8, fS123b0, fS123r9, fS123b1, fS123r10, fS123, hE, hk, hsm, hsm2]
      refine hend _ _ (Less.auto (by simp) (by simp [hk]) rfl rfl) _ fun R b hR => ?_
      rw [hR] at hpl ⊢
      rcases R with _ | ⟨y, R⟩
      · simp at hpl
      · simp [fS123r0, fS123r1, fS123r2, fS123r3, fS123r4, fS123r5, fS123r6, fS123r7, fS123r8, fS123b0, fS123r9, fS123b1, fS123r10, fS123, hE]
        exact GivesL.keepX rfl rfl rfl (by simp)
end
end
end Go.Proofs.YthfcfmkdeheicaaGreat
