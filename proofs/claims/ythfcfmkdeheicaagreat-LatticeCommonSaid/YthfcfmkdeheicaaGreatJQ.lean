import Derived.Test.YthfcfmkdeheicaaGreatJI
import Derived.Test.YthfcfmkdeheicaaGreatJN
import Derived.Test.YthfcfmkdeheicaaGreatJL
set_option linter.all false
/- Comparing types: a model, and that it says 0 at equal types alone. -/
set_option linter.all false
namespace Go.J
open Enc (enc)
theorem ltNs_cons {a b : Nat} {l m : List Nat} : ltNs (a :: l) (b :: m) = (decide (a < b) || (decide (a = b) && ltNs l m)) := by
  show bi (Nat.blt a b) true (et (Nat.beq a b) (ltNs l m)) = _
  rw [Bool.eq_iff_iff]
  simp only [bi_eq, Bool.or_eq_true, Bool.and_eq_true, decide_eq_true_eq]
  by_cases h : Nat.blt a b = true
  · simp [h, blt_true.1 h]
  · have h2 : ¬ a < b := fun e => h (blt_true.2 e)
    simp [h, h2, et_true, beq_true]
theorem ltNs_irr : ∀ l : List Nat, ltNs l l = false := by
  intro l
  induction l with
  | nil => rfl
  | cons a l ih => rw [ltNs_cons, ih]; simp
def cmpI (a b : Int) : Int := if a < b then -1 else if a > b then 1 else 0
noncomputable def cmpS (a b : List Nat) : Int := if ltNs a b = true then -1 else if a = b then 0 else 1
theorem cmpI_zero {a b : Int} : cmpI a b = 0 ↔ a = b := by
  unfold cmpI
  split
  · constructor
    · intro h; cases h
    · omega
  · split
    · constructor
      · intro h; cases h
      · omega
    · constructor
      · intro _; omega
      · intro _; rfl
theorem cmpS_zero {a b : List Nat} : cmpS a b = 0 ↔ a = b := by
  unfold cmpS
  constructor
  · intro h
    split at h
    · cases h
    · split at h
      · assumption
      · cases h
  · intro h
    subst h
    rw [ltNs_irr]; simp
/-- the first that is not 0 -/
def nzM : List Int → Int
  | [] => 0
  | a :: l => if a ≠ 0 then a else nzM l
theorem nzM_zero : ∀ {l : List Int}, nzM l = 0 ↔ ∀ a ∈ l, a = 0 := by
  intro l
  induction l with
  | nil => simp [nzM]
  | cons a l ih =>
    rw [nzM]
    by_cases h : a = 0
    · rw [if_neg (by simpa using h), ih]; simp [h]
    · rw [if_pos h]
      constructor
      · intro e; exact absurd e h
      · intro e; exact e a (List.mem_cons_self ..)
noncomputable def headC (a b : Ty) : List Int := [cmpI a.kind b.kind, cmpS a.name b.name, cmpI a.id b.id, cmpI a.home b.home, cmpI (a.args.length : Int) (b.args.length : Int)]
mutual
noncomputable def cmpTy : Ty → Ty → Int
  | .mk k n i h l, b => if nzM (headC (.mk k n i h l) b) ≠ 0 then nzM (headC (.mk k n i h l) b) else cmpTs l b.args
noncomputable def cmpTs : List Ty → List Ty → Int
  | [], [] => 0
  | [], _ :: _ => -1
  | _ :: _, [] => 1
  | a :: l, b :: m => if cmpTy a b ≠ 0 then cmpTy a b else cmpTs l m
end
theorem cmpTy_eq (a b : Ty) : cmpTy a b = if nzM (headC a b) ≠ 0 then nzM (headC a b) else cmpTs a.args b.args := by
  cases a; rw [cmpTy]; simp only [Ty.args_mk]
theorem cmpTy_zero {a : Ty} : ∀ {b : Ty}, cmpTy a b = 0 ↔ a = b := by
  induction a using Ty.ind with
  | h a ih =>
    intro b
    have ihl : ∀ l : List Ty, (∀ u ∈ l, u ∈ a.args) → ∀ m, cmpTs l m = 0 ↔ l = m := by
      intro l
      induction l with
      | nil => intro _ m; cases m <;> simp [cmpTs]
      | cons u l ihl =>
        intro hs m
        cases m with
        | nil => simp [cmpTs]
        | cons v m =>
          rw [cmpTs]
          have h1 := ih u (hs u (List.mem_cons_self ..)) (b := v)
          have h2 := ihl (fun w hw => hs w (List.mem_cons_of_mem _ hw)) m
          by_cases h : cmpTy u v = 0
          · rw [if_neg (by simpa using h), h2, h1.1 h]; simp
          · rw [if_pos h]
            constructor
            · intro e; exact absurd e h
            · intro e; rw [List.cons.injEq] at e; exact absurd (h1.2 e.1) h
    rw [cmpTy_eq, Ty.eq_iff]
    have hz : nzM (headC a b) = 0 ↔ a.kind = b.kind ∧ a.name = b.name ∧ a.id = b.id ∧ a.home = b.home ∧ a.args.length = b.args.length := by
      rw [nzM_zero]
      simp only [headC, List.mem_cons, List.not_mem_nil, or_false, forall_eq_or_imp, forall_eq, cmpI_zero, cmpS_zero]
      simp
      intros
      omega
    by_cases h : nzM (headC a b) = 0
    · rw [if_neg (by simpa using h), ihl a.args (fun _ h => h)]
      obtain ⟨h1, h2, h3, h4, _⟩ := hz.1 h
      exact ⟨fun e => ⟨h1, h2, h3, h4, e⟩, fun e => e.2.2.2.2⟩
    · rw [if_pos h]
      constructor
      · intro e; exact absurd e h
      · rintro ⟨h1, h2, h3, h4, h5⟩
        exact absurd (hz.2 ⟨h1, h2, h3, h4, by rw [h5]⟩) h
end Go.J

/- Matching of types: the model of lattice.match, and what it finds. -/
namespace Go.J
open Enc (enc)
theorem lookA_mem {s : List Assign} {i : Int} {t : Ty} (h : lookA s i = some t) : ∃ a ∈ s, a.type = t := by
  induction s with
  | nil => cases h
  | cons a s ih =>
    rw [lookA] at h
    split at h
    · cases h; exact ⟨a, List.mem_cons_self .., rfl⟩
    · obtain ⟨b, hb, e⟩ := ih h
      exact ⟨b, List.mem_cons_of_mem _ hb, e⟩
def hasA (s : List Assign) (i : Int) : Bool := s.any fun a => decide (a.id = i)
theorem hasA_iff {s : List Assign} {i : Int} : hasA s i = true ↔ lookA s i ≠ none := by
  induction s with
  | nil => simp [hasA, lookA]
  | cons a s ih =>
    simp only [hasA, List.any_cons, lookA] at ih ⊢
    by_cases h : a.id = i
    · simp [h]
    · simp [h, ih]
/-- apart from the arguments -/
def Ty.same (a b : Ty) : Bool := decide (a.kind = b.kind) && decide (a.name = b.name) && decide (a.id = b.id) && decide (a.home = b.home) && decide (a.args.length = b.args.length)
theorem same_iff {a b : Ty} : a.same b = true ↔ a.kind = b.kind ∧ a.name = b.name ∧ a.id = b.id ∧ a.home = b.home ∧ a.args.length = b.args.length := by
  simp [Ty.same, and_assoc]
mutual
def mtM : Ty → Ty → List Assign → List Assign × Bool
  | .mk k n i h l, t, s => if k = 1 then (if hasA s i then (s, decide ((Ty.mk k n i h l).repl s = t)) else (s ++ [⟨i, t⟩], true))
    else if (Ty.mk k n i h l).same t then mtL l t.args s else (s, false)
def mtL : List Ty → List Ty → List Assign → List Assign × Bool
  | p :: l, t :: m, s => if (mtM p t s).2 then mtL l m (mtM p t s).1 else ((mtM p t s).1, false)
  | _, _, s => (s, true)
end
theorem mtM_eq (p t : Ty) (s : List Assign) : mtM p t s = if p.kind = 1 then (if hasA s p.id then (s, decide (p.repl s = t)) else (s ++ [⟨p.id, t⟩], true)) else if p.same t then mtL p.args t.args s else (s, false) := by
  cases p; rw [mtM]; simp only [Ty.kind_mk, Ty.id_mk, Ty.args_mk]
def leqM (a b : Ty) : Bool := (mtM b a []).2
/-! what a substitution makes of plain types, variable by variable -/
mutual
def Ty.app (θ : Int → Ty) : Ty → Ty
  | .mk k n i h l => if k = 1 then θ i else .mk k n i h (Ty.apps θ l)
def Ty.apps (θ : Int → Ty) : List Ty → List Ty
  | [] => []
  | t :: l => Ty.app θ t :: Ty.apps θ l
end
theorem apps_eq (θ : Int → Ty) (l : List Ty) : Ty.apps θ l = l.map (Ty.app θ) := by
  induction l with
  | nil => simp [Ty.apps]
  | cons t l ih => simp [Ty.apps, ih]
theorem app_eq (θ : Int → Ty) (t : Ty) : t.app θ = if t.kind = 1 then θ t.id else .mk t.kind t.name t.id t.home (t.args.map (Ty.app θ)) := by
  cases t; simp only [Ty.app, Ty.kind_mk, Ty.name_mk, Ty.id_mk, Ty.home_mk, Ty.args_mk, apps_eq]
def fnA (s : List Assign) (i : Int) : Ty := (lookA s i).getD (tVar i)
theorem repl_app (s : List Assign) (t : Ty) : t.vplain = true → t.repl s = t.app (fnA s) := by
  induction t using Ty.ind with
  | h t ih =>
    intro hp
    rw [repl_eq, app_eq]
    split
    · rename_i hk
      rw [vplain_var hp hk]; rfl
    · congr 1
      exact List.map_congr_left fun u hu => ih u hu (vplains_iff.1 (vplain_args hp) u hu)
theorem app_same {θ : Int → Ty} {t : Ty} (hk : t.kind ≠ 1) : t.same (t.app θ) = true := by
  rw [app_eq, if_neg hk, same_iff]; simp
/-! the variables of a type -/
mutual
def Ty.occ (j : Int) : Ty → Bool
  | .mk k _ i _ l => if k = 1 then decide (i = j) else Ty.occs j l
def Ty.occs (j : Int) : List Ty → Bool
  | [] => false
  | t :: l => Ty.occ j t || Ty.occs j l
end
theorem occs_eq (j : Int) (l : List Ty) : Ty.occs j l = l.any (Ty.occ j) := by
  induction l with
  | nil => simp [Ty.occs]
  | cons t l ih => simp [Ty.occs, ih]
theorem occ_eq (j : Int) (t : Ty) : t.occ j = if t.kind = 1 then decide (t.id = j) else t.args.any (Ty.occ j) := by
  cases t; simp only [Ty.occ, Ty.kind_mk, Ty.id_mk, Ty.args_mk, occs_eq]
theorem app_congr {θ η : Int → Ty} (t : Ty) : (∀ j, t.occ j = true → θ j = η j) → t.app θ = t.app η := by
  induction t using Ty.ind with
  | h t ih =>
    intro h
    rw [app_eq, app_eq]
    by_cases hk : t.kind = 1
    · rw [if_pos hk, if_pos hk]
      exact h _ (by rw [occ_eq, if_pos hk]; simp)
    · rw [if_neg hk, if_neg hk]
      congr 1
      exact List.map_congr_left fun u hu => ih u hu fun j hj => h j (by rw [occ_eq, if_neg hk]; exact List.any_eq_true.2 ⟨u, hu, hj⟩)
/-! what is found is right -/
/-- 's2' extends 's1' -/
def ExtA (s1 s2 : List Assign) : Prop := ∃ u, s2 = s1 ++ u
theorem ExtA.refl (s : List Assign) : ExtA s s := ⟨[], by simp⟩
theorem ExtA.trans {a b c : List Assign} (h : ExtA a b) (g : ExtA b c) : ExtA a c := by
  obtain ⟨u, rfl⟩ := h; obtain ⟨v, rfl⟩ := g; exact ⟨u ++ v, by simp⟩
theorem ExtA.look {a b : List Assign} (h : ExtA a b) {i : Int} (hi : lookA a i ≠ none) : lookA b i = lookA a i := by
  obtain ⟨u, rfl⟩ := h
  rw [lookA_app]
  cases hl : lookA a i with
  | none => exact absurd hl hi
  | some x => rfl
theorem ExtA.has {a b : List Assign} (h : ExtA a b) {i : Int} (hi : lookA a i ≠ none) : lookA b i ≠ none := by rw [h.look hi]; exact hi
theorem mt_snd {p : Ty} : ∀ {t : Ty} {s : List Assign}, p.vplain = true → ExtA s (mtM p t s).1 ∧ ((mtM p t s).2 = true → (∀ j, p.occ j = true → lookA (mtM p t s).1 j ≠ none) ∧ p.app (fnA (mtM p t s).1) = t) := by
  induction p using Ty.ind with
  | h p ih =>
    intro t s hp
    have ihl : ∀ (l : List Ty), (∀ u ∈ l, u ∈ p.args) → ∀ (m : List Ty) (s : List Assign), ExtA s (mtL l m s).1 ∧ (l.length = m.length → (mtL l m s).2 = true → (∀ u ∈ l, ∀ j, u.occ j = true → lookA (mtL l m s).1 j ≠ none) ∧ l.map (Ty.app (fnA (mtL l m s).1)) = m) := by
      intro l
      induction l with
      | nil =>
        intro _ m s
        refine ⟨by rw [mtL]; exact ExtA.refl s; simp, fun hl _ => ⟨fun u hu => (by cases hu), ?_⟩⟩
        cases m with
        | nil => rfl
        | cons _ _ => simp at hl
      | cons u l ihl =>
        intro hsub m s
        cases m with
        | nil => exact ⟨by rw [mtL]; exact ExtA.refl s; simp, fun hl => by simp at hl⟩
        | cons t m =>
          have hu := hsub u (List.mem_cons_self ..)
          obtain ⟨h1, h2⟩ := ih u hu (t := t) (s := s) (vplains_iff.1 (vplain_args hp) u hu)
          obtain ⟨h3, h4⟩ := ihl (fun v hv => hsub v (List.mem_cons_of_mem _ hv)) m (mtM u t s).1
          rw [mtL]
          by_cases hb : (mtM u t s).2 = true
          · rw [if_pos hb]
            refine ⟨h1.trans h3, fun hl hr => ?_⟩
            obtain ⟨h5, h6⟩ := h4 (by simpa using hl) hr
            obtain ⟨h7, h8⟩ := h2 hb
            refine ⟨fun v hv j hj => ?_, ?_⟩
            · rcases List.mem_cons.1 hv with rfl | hv
              · exact h3.has (h7 j hj)
              · exact h5 v hv j hj
            · rw [List.map_cons, h6]
              congr 1
              refine (app_congr _ fun j hj => ?_).trans h8
              unfold fnA
              rw [h3.look (h7 j hj)]
          · rw [if_neg hb]
            exact ⟨h1, fun _ h => absurd h (by simp)⟩
    rw [mtM_eq]
    by_cases hk : p.kind = 1
    · rw [if_pos hk]
      by_cases hh : hasA s p.id = true
      · rw [if_pos hh]
        refine ⟨ExtA.refl s, fun h => ⟨fun j hj => ?_, ?_⟩⟩
        · rw [occ_eq, if_pos hk] at hj
          rw [← of_decide_eq_true hj]; exact hasA_iff.1 hh
        · rw [← repl_app _ _ hp]; exact of_decide_eq_true h
      · rw [if_neg hh]
        have hn : lookA s p.id = none := by
          cases hl : lookA s p.id with
          | none => rfl
          | some x => exact absurd (hasA_iff.2 (by rw [hl]; simp)) hh
        have hl : lookA (s ++ [⟨p.id, t⟩]) p.id = some t := by rw [lookA_app, hn]; simp [lookA]
        refine ⟨⟨_, rfl⟩, fun _ => ⟨fun j hj => ?_, ?_⟩⟩
        · rw [occ_eq, if_pos hk] at hj
          rw [← of_decide_eq_true hj]
          show lookA (s ++ [⟨p.id, t⟩]) p.id ≠ none
          rw [hl]; simp
        · rw [app_eq, if_pos hk]
          show (lookA (s ++ [⟨p.id, t⟩]) p.id).getD _ = t
          rw [hl]; rfl
    · rw [if_neg hk]
      by_cases hs : p.same t = true
      · rw [if_pos hs]
        obtain ⟨e1, e2, e3, e4, e5⟩ := same_iff.1 hs
        obtain ⟨h1, h2⟩ := ihl p.args (fun _ h => h) t.args s
        refine ⟨h1, fun h => ?_⟩
        obtain ⟨h3, h4⟩ := h2 e5 h
        refine ⟨fun j hj => ?_, ?_⟩
        · rw [occ_eq, if_neg hk] at hj
          obtain ⟨u, hu, hj⟩ := List.any_eq_true.1 hj
          exact h3 u hu j hj
        · rw [app_eq, if_neg hk, h4]
          exact Ty.ext' (by simpa using e1) (by simpa using e2) (by simpa using e3) (by simpa using e4) (by simp)
      · rw [if_neg hs]
        exact ⟨ExtA.refl s, fun h => absurd h (by simp)⟩
/-! what is there is found -/
def Agr (s : List Assign) (θ : Int → Ty) : Prop := ∀ i u, lookA s i = some u → u = θ i
theorem Agr.snoc {s : List Assign} {θ : Int → Ty} (h : Agr s θ) {i : Int} {t : Ty} (e : θ i = t) : Agr (s ++ [⟨i, t⟩]) θ := by
  intro j u hu
  rw [lookA_app] at hu
  cases hl : lookA s j with
  | some x =>
    rw [hl] at hu
    have e : x = u := by simpa using hu
    exact e ▸ h j x hl
  | none =>
    rw [hl] at hu
    simp only [Option.none_or, lookA] at hu
    split at hu
    · rename_i e2; cases hu; subst e2; exact e.symm
    · cases hu
theorem mt_cpl {θ : Int → Ty} {p : Ty} : ∀ {s : List Assign}, p.vplain = true → Agr s θ → (mtM p (p.app θ) s).2 = true ∧ Agr (mtM p (p.app θ) s).1 θ := by
  induction p using Ty.ind with
  | h p ih =>
    intro s hp ha
    have ihl : ∀ (l : List Ty), (∀ u ∈ l, u ∈ p.args) → ∀ (s : List Assign), Agr s θ → (mtL l (l.map (Ty.app θ)) s).2 = true ∧ Agr (mtL l (l.map (Ty.app θ)) s).1 θ := by
      intro l
      induction l with
      | nil => intro _ s h; rw [List.map_nil, mtL]; exact ⟨rfl, h⟩; simp
      | cons u l ihl =>
        intro hsub s h
        have hu := hsub u (List.mem_cons_self ..)
        obtain ⟨h1, h2⟩ := ih u hu (vplains_iff.1 (vplain_args hp) u hu) h
        rw [List.map_cons, mtL, if_pos h1]
        exact ihl (fun v hv => hsub v (List.mem_cons_of_mem _ hv)) _ h2
    rw [mtM_eq]
    by_cases hk : p.kind = 1
    · rw [if_pos hk]
      by_cases hh : hasA s p.id = true
      · rw [if_pos hh]
        refine ⟨?_, ha⟩
        have h1 := hasA_iff.1 hh
        refine decide_eq_true ?_
        rw [repl_app _ _ hp, app_eq, if_pos hk, app_eq, if_pos hk]
        unfold fnA
        cases hl : lookA s p.id with
        | none => exact absurd hl h1
        | some x => exact ha _ _ hl
      · rw [if_neg hh]
        exact ⟨rfl, ha.snoc (by rw [app_eq, if_pos hk])⟩
    · rw [if_neg hk, if_pos (app_same hk)]
      rw [app_eq, if_neg hk]
      exact ihl p.args (fun _ h => h) s ha
theorem leq_iff {a b : Ty} (hb : b.vplain = true) : leqM a b = true ↔ ∃ θ : Int → Ty, b.app θ = a := by
  constructor
  · intro h
    exact ⟨_, ((mt_snd (t := a) (s := []) hb).2 h).2⟩
  · rintro ⟨θ, rfl⟩
    exact (mt_cpl (s := []) hb (fun i u h => by cases h)).1
/-! how long what is found becomes -/
theorem mt_len {p : Ty} : ∀ {t : Ty} {s : List Assign}, s.length ≤ (mtM p t s).1.length ∧ (mtM p t s).1.length ≤ s.length + p.size := by
  induction p using Ty.ind with
  | h p ih =>
    intro t s
    have ihl : ∀ (l : List Ty), (∀ u ∈ l, u ∈ p.args) → ∀ (m : List Ty) (s : List Assign), s.length ≤ (mtL l m s).1.length ∧ (mtL l m s).1.length ≤ s.length + Ty.sizes l := by
      intro l
      induction l with
      | nil => intro _ m s; rw [mtL]; exact ⟨Nat.le_refl _, Nat.le_add_right ..⟩; simp
      | cons u l ihl =>
        intro hsub m s
        cases m with
        | nil => rw [mtL]; exact ⟨Nat.le_refl _, Nat.le_add_right ..⟩; simp
        | cons t m =>
          have h1 := ih u (hsub u (List.mem_cons_self ..)) (t := t) (s := s)
          have h2 := ihl (fun v hv => hsub v (List.mem_cons_of_mem _ hv)) m (mtM u t s).1
          rw [mtL, Ty.sizes]
          split
          · omega
          · show _ ≤ (mtM u t s).1.length ∧ (mtM u t s).1.length ≤ _
            omega
    have h2 := ihl p.args (fun _ h => h) t.args s
    have h3 := Ty.size_eq p
    rw [mtM_eq]
    split
    · split
      · exact ⟨Nat.le_refl _, Nat.le_add_right ..⟩
      · simp; omega
    · split
      · omega
      · exact ⟨Nat.le_refl _, Nat.le_add_right ..⟩
end Go.J

/- The most special common generalization: the model of lattice.common, and what it is. -/
set_option linter.all false
namespace Go.J
open Enc (enc)
def ixP (L : List Pair) (a b : Ty) : Option Nat := L.findIdx? fun p => decide (p.a = a) && decide (p.b = b)
mutual
def cmM : Ty → Ty → List Pair → Ty × List Pair
  | .mk k n i h l, b, L => if (Ty.mk k n i h l).same b = true ∧ k ≠ 1 then (.mk k n i h (cmL l b.args L).1, (cmL l b.args L).2) else
    match ixP L (.mk k n i h l) b with
    | some j => (tVar (j : Int), L)
    | none => (tVar (L.length : Int), L ++ [⟨.mk k n i h l, b⟩])
def cmL : List Ty → List Ty → List Pair → List Ty × List Pair
  | a :: l, b :: m, L => ((cmM a b L).1 :: (cmL l m (cmM a b L).2).1, (cmL l m (cmM a b L).2).2)
  | _, _, L => ([], L)
end
theorem cmM_eq (a b : Ty) (L : List Pair) : cmM a b L = if a.same b = true ∧ a.kind ≠ 1 then (.mk a.kind a.name a.id a.home (cmL a.args b.args L).1, (cmL a.args b.args L).2) else
    match ixP L a b with
    | some j => (tVar (j : Int), L)
    | none => (tVar (L.length : Int), L ++ [⟨a, b⟩]) := by
  cases a; rw [cmM]; simp only [Ty.kind_mk, Ty.id_mk, Ty.args_mk, Ty.name_mk, Ty.home_mk]
/-! the same with all pairs known -/
mutual
def gnM (L : List Pair) : Ty → Ty → Ty
  | .mk k n i h l, b => if (Ty.mk k n i h l).same b = true ∧ k ≠ 1 then .mk k n i h (gnL L l b.args) else tVar (((ixP L (.mk k n i h l) b).getD 0 : Nat) : Int)
def gnL (L : List Pair) : List Ty → List Ty → List Ty
  | a :: l, b :: m => gnM L a b :: gnL L l m
  | _, _ => []
end
theorem gnM_eq (L : List Pair) (a b : Ty) : gnM L a b = if a.same b = true ∧ a.kind ≠ 1 then .mk a.kind a.name a.id a.home (gnL L a.args b.args) else tVar (((ixP L a b).getD 0 : Nat) : Int) := by
  cases a; rw [gnM]; simp only [Ty.kind_mk, Ty.id_mk, Ty.args_mk, Ty.name_mk, Ty.home_mk]
/-! all pairs are known -/
mutual
def Cov (L : List Pair) : Ty → Ty → Prop
  | .mk k n i h l, b => ((Ty.mk k n i h l).same b = true ∧ k ≠ 1 → CovL L l b.args) ∧ (¬ ((Ty.mk k n i h l).same b = true ∧ k ≠ 1) → ixP L (.mk k n i h l) b ≠ none)
def CovL (L : List Pair) : List Ty → List Ty → Prop
  | a :: l, b :: m => Cov L a b ∧ CovL L l m
  | _, _ => True
end
theorem Cov_eq (L : List Pair) (a b : Ty) : Cov L a b ↔ (a.same b = true ∧ a.kind ≠ 1 → CovL L a.args b.args) ∧ (¬ (a.same b = true ∧ a.kind ≠ 1) → ixP L a b ≠ none) := by
  cases a; rw [Cov]; simp only [Ty.kind_mk, Ty.id_mk, Ty.args_mk, Ty.name_mk, Ty.home_mk]
theorem ixP_app {L M : List Pair} {a b : Ty} {j : Nat} (h : ixP L a b = some j) : ixP (L ++ M) a b = some j := by
  unfold ixP at h ⊢
  rw [List.findIdx?_append, h]; rfl
theorem ixP_snoc {L : List Pair} {a b : Ty} (h : ixP L a b = none) : ixP (L ++ [⟨a, b⟩]) a b = some L.length := by
  unfold ixP at h ⊢
  rw [List.findIdx?_append, h]
  simp
theorem ixP_some {L : List Pair} {a b : Ty} {j : Nat} (h : ixP L a b = some j) : ∃ hj : j < L.length, L[j].a = a ∧ L[j].b = b := by
  unfold ixP at h
  obtain ⟨hj, h1, _⟩ := List.findIdx?_eq_some_iff_getElem.1 h
  simp only [Bool.and_eq_true, decide_eq_true_eq] at h1
  exact ⟨hj, h1⟩
/-- what is known stays known -/
theorem Cov_app {L M : List Pair} (a : Ty) : ∀ b, Cov L a b → Cov (L ++ M) a b ∧ gnM (L ++ M) a b = gnM L a b := by
  induction a using Ty.ind with
  | h a ih =>
    intro b h
    have ihl : ∀ l : List Ty, (∀ u ∈ l, u ∈ a.args) → ∀ m, CovL L l m → CovL (L ++ M) l m ∧ gnL (L ++ M) l m = gnL L l m := by
      intro l
      induction l with
      | nil => intro _ m _; rw [CovL, gnL, gnL]; exact ⟨trivial, rfl⟩; all_goals simp
      | cons u l ihl =>
        intro hsub m h
        cases m with
        | nil => rw [CovL, gnL, gnL]; exact ⟨trivial, rfl⟩; all_goals simp
        | cons v m =>
          rw [CovL] at h
          obtain ⟨h1, h2⟩ := ih u (hsub u (List.mem_cons_self ..)) v h.1
          obtain ⟨h3, h4⟩ := ihl (fun w hw => hsub w (List.mem_cons_of_mem _ hw)) m h.2
          rw [CovL, gnL, gnL, h2, h4]
          exact ⟨⟨h1, h3⟩, rfl⟩
    rw [Cov_eq] at h
    rw [Cov_eq, gnM_eq, gnM_eq]
    by_cases hc : a.same b = true ∧ a.kind ≠ 1
    · obtain ⟨h1, h2⟩ := ihl a.args (fun _ h => h) b.args (h.1 hc)
      rw [if_pos hc, if_pos hc, h2]
      exact ⟨⟨fun _ => h1, fun h => absurd hc h⟩, rfl⟩
    · rw [if_neg hc, if_neg hc]
      cases hj : ixP L a b with
      | none => exact absurd hj (h.2 hc)
      | some j => rw [ixP_app hj]; exact ⟨⟨fun h => absurd h hc, fun _ => by simp⟩, rfl⟩
/-- what is made, and what is known afterwards -/
theorem cm_gn {a : Ty} : ∀ {b : Ty} {L : List Pair}, (∃ M, (cmM a b L).2 = L ++ M) ∧ Cov (cmM a b L).2 a b ∧ (cmM a b L).1 = gnM (cmM a b L).2 a b ∧ (cmM a b L).2.length ≤ L.length + a.size := by
  induction a using Ty.ind with
  | h a ih =>
    intro b L
    have ihl : ∀ l : List Ty, (∀ u ∈ l, u ∈ a.args) → ∀ (m : List Ty) (L : List Pair), (∃ M, (cmL l m L).2 = L ++ M) ∧ CovL (cmL l m L).2 l m ∧ (cmL l m L).1 = gnL (cmL l m L).2 l m ∧ (cmL l m L).2.length ≤ L.length + Ty.sizes l := by
      intro l
      induction l with
      | nil => intro _ m L; rw [cmL, CovL, gnL]; exact ⟨⟨[], by simp⟩, trivial, rfl, Nat.le_add_right ..⟩; all_goals simp
      | cons u l ihl =>
        intro hsub m L
        cases m with
        | nil => rw [cmL, CovL, gnL]; exact ⟨⟨[], by simp⟩, trivial, rfl, Nat.le_add_right ..⟩; all_goals simp
        | cons v m =>
          obtain ⟨⟨M1, h1⟩, h2, h3, h4⟩ := ih u (hsub u (List.mem_cons_self ..)) (b := v) (L := L)
          obtain ⟨⟨M2, g1⟩, g2, g3, g4⟩ := ihl (fun w hw => hsub w (List.mem_cons_of_mem _ hw)) m (cmM u v L).2
          rw [cmL]
          show (∃ M, (cmL l m (cmM u v L).2).2 = L ++ M) ∧ CovL (cmL l m (cmM u v L).2).2 (u :: l) (v :: m) ∧ (cmM u v L).1 :: (cmL l m (cmM u v L).2).1 = gnL (cmL l m (cmM u v L).2).2 (u :: l) (v :: m) ∧ (cmL l m (cmM u v L).2).2.length ≤ _
          have h5 := Cov_app (M := M2) u v h2
          rw [← g1] at h5
          refine ⟨⟨M1 ++ M2, by rw [g1, h1, List.append_assoc]⟩, ?_, ?_, ?_⟩
          · rw [CovL]; exact ⟨h5.1, g2⟩
          · rw [gnL, ← g3, h5.2, ← h3]
          · rw [Ty.sizes]; omega
    rw [cmM_eq, Cov_eq, gnM_eq]
    have hs := Ty.size_eq a
    by_cases hc : a.same b = true ∧ a.kind ≠ 1
    · obtain ⟨h1, h2, h3, h4⟩ := ihl a.args (fun _ h => h) b.args L
      rw [if_pos hc, if_pos hc]
      refine ⟨h1, ⟨fun _ => h2, fun h => absurd hc h⟩, ?_, ?_⟩
      · show Ty.mk _ _ _ _ (cmL a.args b.args L).1 = _
        rw [← h3]
      · show (cmL a.args b.args L).2.length ≤ _
        omega
    · rw [if_neg hc, if_neg hc]
      cases hj : ixP L a b with
      | some j =>
        refine ⟨⟨[], by simp⟩, ⟨fun h => absurd h hc, fun _ => ?_⟩, ?_, Nat.le_add_right ..⟩
        · show ixP L a b ≠ none
          rw [hj]; simp
        · show tVar _ = tVar (((ixP L a b).getD 0 : Nat) : Int)
          rw [hj]; rfl
      | none =>
        have hn := ixP_snoc hj
        refine ⟨⟨[⟨a, b⟩], rfl⟩, ⟨fun h => absurd h hc, fun _ => ?_⟩, ?_, ?_⟩
        · show ixP (L ++ [⟨a, b⟩]) a b ≠ none
          rw [hn]; simp
        · show tVar _ = tVar (((ixP (L ++ [(⟨a, b⟩ : Pair)]) a b).getD 0 : Nat) : Int)
          rw [hn]; rfl
        · show (L ++ [(⟨a, b⟩ : Pair)]).length ≤ _
          simp; omega
theorem gn_plain (L : List Pair) (a : Ty) : ∀ b, (gnM L a b).vplain = true := by
  induction a using Ty.ind with
  | h a ih =>
    intro b
    rw [gnM_eq]
    split
    · rename_i hc
      refine vplain_node (by simpa using hc.2) fun x hx => ?_
      simp only [Ty.args_mk] at hx
      have ihl : ∀ l : List Ty, (∀ u ∈ l, u ∈ a.args) → ∀ m, ∀ x ∈ gnL L l m, x.vplain = true := by
        intro l
        induction l with
        | nil => intro _ m x hx; rw [gnL] at hx; cases hx; simp
        | cons u l ihl =>
          intro hsub m x hx
          cases m with
          | nil => rw [gnL] at hx; cases hx; simp
          | cons v m =>
            rw [gnL] at hx
            rcases List.mem_cons.1 hx with rfl | hx
            · exact ih u (hsub u (List.mem_cons_self ..)) v
            · exact ihl (fun w hw => hsub w (List.mem_cons_of_mem _ hw)) m x hx
      exact ihl a.args (fun _ h => h) b.args x hx
    · exact vplain_tVar _
/-- both types are instances -/
theorem gn_side {L : List Pair} {θ : Int → Ty} {f : Pair → Ty} (hf : (∀ p, f p = p.a) ∨ (∀ p, f p = p.b)) (hθ : ∀ (j : Nat) (hj : j < L.length), θ (j : Int) = f L[j]) (a : Ty) : ∀ b, Cov L a b → (gnM L a b).app θ = f ⟨a, b⟩ := by
  induction a using Ty.ind with
  | h a ih =>
    intro b hcov
    rw [Cov_eq] at hcov
    rw [gnM_eq]
    by_cases hc : a.same b = true ∧ a.kind ≠ 1
    · rw [if_pos hc, app_eq]
      simp only [Ty.kind_mk, if_neg hc.2, Ty.name_mk, Ty.id_mk, Ty.home_mk, Ty.args_mk]
      obtain ⟨e1, e2, e3, e4, e5⟩ := same_iff.1 hc.1
      have ihl : ∀ l : List Ty, (∀ u ∈ l, u ∈ a.args) → ∀ m, l.length = m.length → CovL L l m → (gnL L l m).map (Ty.app θ) = (l.zip m).map fun q => f ⟨q.1, q.2⟩ := by
        intro l
        induction l with
        | nil => intro _ m _ _; rw [gnL]; rfl; simp
        | cons u l ihl =>
          intro hsub m hl hcov
          cases m with
          | nil => simp at hl
          | cons v m =>
            rw [CovL] at hcov
            rw [gnL, List.map_cons, ih u (hsub u (List.mem_cons_self ..)) v hcov.1, ihl (fun w hw => hsub w (List.mem_cons_of_mem _ hw)) m (by simpa using hl) hcov.2]
            rfl
      rw [ihl a.args (fun _ h => h) b.args e5 (hcov.1 hc)]
      rcases hf with hf | hf
      · rw [hf, List.map_congr_left (g := Prod.fst) fun q _ => hf _, List.map_fst_zip (by omega)]
        exact Ty.eta a
      · rw [hf, List.map_congr_left (g := Prod.snd) fun q _ => hf _, List.map_snd_zip (by omega)]
        exact Ty.ext' (by simpa using e1) (by simpa using e2) (by simpa using e3) (by simpa using e4) (by simp)
    · rw [if_neg hc]
      cases hj : ixP L a b with
      | none => exact absurd hj (hcov.2 hc)
      | some j =>
        obtain ⟨hl, h1, h2⟩ := ixP_some hj
        rw [app_eq]
        show (if (1 : Int) = 1 then θ _ else _) = _
        rw [if_pos rfl]
        show θ (j : Int) = _
        rw [hθ j hl]
        rcases hf with hf | hf <;> rw [hf, hf] <;> assumption
/-- it is the least one -/
theorem gn_least {L : List Pair} {θ η : Int → Ty} (x : Ty) : gnM L (x.app θ) (x.app η) = x.app fun i => gnM L (θ i) (η i) := by
  induction x using Ty.ind with
  | h x ih =>
    by_cases hk : x.kind = 1
    · rw [app_eq θ x, app_eq η x, app_eq _ x, if_pos hk, if_pos hk, if_pos hk]
    · rw [app_eq θ x, app_eq η x, app_eq _ x, if_neg hk, if_neg hk, if_neg hk, gnM_eq, if_pos ⟨by rw [same_iff]; simp, by simpa using hk⟩]
      simp only [Ty.kind_mk, Ty.name_mk, Ty.id_mk, Ty.home_mk, Ty.args_mk]
      congr 1
      have ihl : ∀ l : List Ty, (∀ u ∈ l, u ∈ x.args) → gnL L (l.map (Ty.app θ)) (l.map (Ty.app η)) = l.map (Ty.app fun i => gnM L (θ i) (η i)) := by
        intro l
        induction l with
        | nil => intro _; rw [List.map_nil, List.map_nil, gnL]; rfl; simp
        | cons u l ihl =>
          intro hsub
          rw [List.map_cons, List.map_cons, gnL, ih u (hsub u (List.mem_cons_self ..)), ihl fun w hw => hsub w (List.mem_cons_of_mem _ hw)]
          rfl
      exact ihl x.args fun _ h => h
/-! the laws -/
def comM (a b : Ty) : Ty := (cmM a b []).1
def comL (a b : Ty) : List Pair := (cmM a b []).2
theorem com_gn (a b : Ty) : comM a b = gnM (comL a b) a b := cm_gn.2.2.1
theorem com_cov (a b : Ty) : Cov (comL a b) a b := cm_gn.2.1
theorem com_plain (a b : Ty) : (comM a b).vplain = true := by rw [com_gn]; exact gn_plain _ _ _
theorem com_least {a b x : Ty} (hx : x.vplain = true) (h1 : leqM a x = true) (h2 : leqM b x = true) : leqM (comM a b) x = true := by
  obtain ⟨θ, rfl⟩ := (leq_iff hx).1 h1
  obtain ⟨η, rfl⟩ := (leq_iff hx).1 h2
  exact (leq_iff hx).2 ⟨_, by rw [com_gn, gn_least]⟩
end Go.J

/- Types that chapter 15's laws make: their sizes, and what substitutions make of them. -/
set_option linter.all false
namespace Go.J
open Enc (enc)
/-- a plain type of at most 'B' nodes -/
structure Nc (B : Nat) (t : Ty) : Prop where
  pl : t.vplain = true
  ok : t.ok = true
  sz : t.size ≤ B
theorem Nc.mono {B C : Nat} {t : Ty} (h : Nc B t) (hle : B ≤ C) : Nc C t := ⟨h.pl, h.ok, Nat.le_trans h.sz hle⟩
theorem nc_var {B : Nat} (i : Int) (h : 1 ≤ B) : Nc B (tVar i) := ⟨vplain_tVar i, by simp [tVar, Ty.ok, Ty.oks], by simpa [tVar, Ty.size, Ty.sizes] using h⟩
theorem nc_rigid {B : Nat} (a b : Int) (h : 1 ≤ B) : Nc B (tRigid a b) := ⟨by simp [tRigid, Ty.vplain, Ty.vplains], by simp [tRigid, Ty.ok, Ty.oks], by simpa [tRigid, Ty.size, Ty.sizes] using h⟩
theorem typeM_okT {D : List Decl} (hD : DOk3 D) {Lv : List Ty} (hl : ∀ l ∈ Lv, l.ok = true) (d : Nat) (t : Tp) : (typeM d t D Lv).2.ok = true :=
  typeM_ind (P := fun t => t.ok = true) hl (by decide) (fun dd hdd l hlen hx => Ty.ok_iff.2 ⟨by have := hD dd hdd; show l.length ≤ 10000; omega, hx⟩)
    (fun a b h1 h2 => Ty.ok_iff.2 ⟨by show ([a, b] : List Ty).length ≤ 10000; simp, fun x hx => by
      have hx : x ∈ ([a, b] : List Ty) := hx
      simp only [List.mem_cons, List.not_mem_nil, or_false] at hx
      rcases hx with rfl | rfl
      · exact h1
      · exact h2⟩) d t
theorem typeM_nc {D : List Decl} (hD : DOk3 D) {Lv : List Ty} (hl : ∀ l ∈ Lv, Nc 1 l) (d : Nat) (t : Tp) {B : Nat} (hB : 2 ^ (d + 1) ≤ B + 1) : Nc B (typeM d t D Lv).2 :=
  ⟨typeM_vplain (fun l h => (hl l h).pl) d t, typeM_okT hD (fun l h => (hl l h).ok) d t, by have := typeM_size hD (fun l h => (hl l h).sz) d t; omega⟩
theorem varTs_nc (n : Nat) : ∀ l ∈ varTs n, Nc 1 l := by
  intro l hl
  obtain ⟨i, _, rfl⟩ := List.mem_map.1 hl
  exact nc_var _ (Nat.le_refl _)
theorem leaves_nc {n : Nat} {u : Ty} (hu : Nc 1 u) : ∀ l ∈ varTs n ++ [u], Nc 1 l := by
  intro l hl
  rcases List.mem_append.1 hl with hl | hl
  · exact varTs_nc n l hl
  · rw [List.mem_singleton.1 hl]; exact hu
theorem repl_nc {s : List Assign} {B : Nat} (hB : 1 ≤ B) (hs : ∀ a ∈ s, Nc B a.type) (t : Ty) : t.vplain = true → t.ok = true → Nc (t.size * B) (t.repl s) := by
  induction t using Ty.ind with
  | h t ih =>
    intro hp ho
    rw [repl_eq]
    have hsz := Ty.size_eq t
    by_cases hk : t.kind = 1
    · rw [if_pos hk]
      have hle : B ≤ t.size * B := Nat.le_mul_of_pos_left _ (Ty.size_pos t)
      cases hl : lookA s t.id with
      | none => exact ⟨hp, ho, by show t.size ≤ _; exact Nat.le_mul_of_pos_right _ hB⟩
      | some u =>
        obtain ⟨a, ha, rfl⟩ := lookA_mem hl
        exact (hs a ha).mono hle
    · rw [if_neg hk]
      have hall : ∀ u ∈ t.args, Nc (u.size * B) (u.repl s) := fun u hu => ih u hu (vplains_iff.1 (vplain_args hp) u hu) (Ty.ok_arg ho hu)
      refine ⟨vplain_node (by simpa using hk) fun x hx => ?_, Ty.ok_iff.2 ⟨by simpa using Ty.ok_len ho, fun x hx => ?_⟩, ?_⟩
      · obtain ⟨u, hu, rfl⟩ := List.mem_map.1 (show x ∈ t.args.map (Ty.repl s) from hx)
        exact (hall u hu).pl
      · obtain ⟨u, hu, rfl⟩ := List.mem_map.1 (show x ∈ t.args.map (Ty.repl s) from hx)
        exact (hall u hu).ok
      · rw [Ty.size_eq]
        show Ty.sizes (t.args.map (Ty.repl s)) + 1 ≤ _
        have key : ∀ l : List Ty, (∀ u ∈ l, Nc (u.size * B) (u.repl s)) → Ty.sizes (l.map (Ty.repl s)) ≤ Ty.sizes l * B := by
          intro l
          induction l with
          | nil => intro _; simp [Ty.sizes]
          | cons u l ihl =>
            intro h
            have h1 := (h u (List.mem_cons_self ..)).sz
            have h2 := ihl fun w hw => h w (List.mem_cons_of_mem _ hw)
            simp only [List.map_cons, Ty.sizes, Nat.add_mul]
            omega
        have := key t.args hall
        rw [hsz, Nat.add_mul]
        omega
theorem substM_nc {D : List Decl} (hD : DOk3 D) (t : Tp) (n i : Nat) : ∀ a ∈ (substM t D n i).2, Nc 3 a.type := by
  induction i with
  | zero => intro a ha; cases ha
  | succ i ih =>
    intro a ha
    unfold substM at ha
    dsimp only at ha
    split at ha
    · rcases List.mem_append.1 ha with ha | ha
      · exact ih a ha
      · rw [List.mem_singleton.1 ha]
        exact typeM_nc hD (leaves_nc (nc_rigid _ _ (Nat.le_refl _))) 1 _ (by decide)
    · exact ih a ha
theorem gn_size (L : List Pair) (a : Ty) : ∀ b, (gnM L a b).size ≤ a.size := by
  induction a using Ty.ind with
  | h a ih =>
    intro b
    have hs := Ty.size_eq a
    rw [gnM_eq]
    split
    · rw [Ty.size_eq]
      show Ty.sizes (gnL L a.args b.args) + 1 ≤ _
      have key : ∀ l : List Ty, (∀ u ∈ l, u ∈ a.args) → ∀ m, Ty.sizes (gnL L l m) ≤ Ty.sizes l := by
        intro l
        induction l with
        | nil => intro _ m; rw [gnL]; exact Nat.le_refl _; simp
        | cons u l ihl =>
          intro hsub m
          cases m with
          | nil => rw [gnL]; exact Nat.zero_le _; simp
          | cons v m =>
            rw [gnL]
            simp only [Ty.sizes]
            have h1 := ih u (hsub u (List.mem_cons_self ..)) v
            have h2 := ihl (fun w hw => hsub w (List.mem_cons_of_mem _ hw)) m
            omega
      have := key a.args (fun _ h => h) b.args
      omega
    · show (tVar _).size ≤ _
      have h1 := Ty.size_pos a
      simp [tVar, Ty.size, Ty.sizes]
      omega
/-! what the law makes -/
def madeX (t : Tp) (D : List Decl) : Tp × Ty := typeM 2 t D (varTs 3 ++ [tRigid 0 0])
def madeM (t : Tp) (D : List Decl) : Ty × Ty × Ty × Tp :=
  let x := madeX t D
  let s1 := substM x.1 D 3 3
  let s2 := substM s1.1 D 3 3
  let c := s2.1.next 3
  if c.2 = 0 then
    let y := typeM 2 c.1 D (varTs 3 ++ [tRigid 0 1])
    (x.2.repl s1.2, y.2, x.2, y.1)
  else (x.2.repl s1.2, x.2.repl s2.2, x.2, c.1)
theorem madeM_ok {t : Tp} {D : List Decl} (ht : t.ok) (hD : DOk3 D) : Nc 21 (madeM t D).1 ∧ Nc 21 (madeM t D).2.1 ∧ Nc 7 (madeM t D).2.2.1 ∧ (madeM t D).2.2.2.ok := by
  have hx : Nc 7 (madeX t D).2 := typeM_nc hD (leaves_nc (nc_rigid _ _ (Nat.le_refl _))) 2 _ (by decide)
  have hx1 : (madeX t D).1.ok := (typeM_ok _ _ ht).1
  have h1 := substM_ok hx1 D 3 3
  have h2 := substM_ok h1.1 D 3 3
  have h3 := next_ok h2.1 3
  have r1 := repl_nc (B := 3) (by decide) (substM_nc hD (madeX t D).1 3 3) _ hx.pl hx.ok
  have r2 := repl_nc (B := 3) (by decide) (substM_nc hD (substM (madeX t D).1 D 3 3).1 3 3) _ hx.pl hx.ok
  have hs : (madeX t D).2.size * 3 ≤ 21 := by have := hx.sz; omega
  unfold madeM
  dsimp only
  split
  · exact ⟨r1.mono hs, (typeM_nc hD (leaves_nc (nc_rigid _ _ (Nat.le_refl _))) 2 _ (B := 7) (by decide)).mono (by decide), hx, (typeM_ok _ _ h3).1⟩
  · exact ⟨r1.mono hs, r2.mono hs, hx, h3⟩
theorem com_nc {a b : Ty} {B : Nat} (ha : Nc B a) (hb : b.ok = true) (hok : (comM a b).ok = true) : Nc B (comM a b) := ⟨com_plain a b, hok, Nat.le_trans (by rw [com_gn]; exact gn_size _ _ _) ha.sz⟩
end Go.J
