import Derived.Test.YtpcmebclpindjaaGreatJL
import Derived.Test.YtpcmebclpindjaaGreatJK
set_option linter.all false
/- Types whose leaves are replaced. -/
namespace Go.J
open Enc (enc)
mutual
def Ty.reb (g : Ty → Ty) : Ty → Ty
  | .mk k n i h [] => g (.mk k n i h [])
  | .mk k n i h (t :: l) => .mk k n i h (Ty.reb g t :: Ty.rebs g l)
def Ty.rebs (g : Ty → Ty) : List Ty → List Ty
  | [] => []
  | t :: l => Ty.reb g t :: Ty.rebs g l
end
theorem rebs_eq (g : Ty → Ty) (l : List Ty) : Ty.rebs g l = l.map (Ty.reb g) := by
  induction l with
  | nil => simp [Ty.rebs]
  | cons t l ih => simp [Ty.rebs, ih]
theorem reb_leaf {g : Ty → Ty} {t : Ty} (h : t.args = []) : t.reb g = g t := by
  obtain ⟨k, n, i, hh, l⟩ := t
  simp only [Ty.args_mk] at h
  subst h
  rw [Ty.reb]
theorem reb_node {g : Ty → Ty} {t : Ty} (h : t.args ≠ []) : t.reb g = .mk t.kind t.name t.id t.home (t.args.map (Ty.reb g)) := by
  obtain ⟨k, n, i, hh, l⟩ := t
  cases l with
  | nil => exact absurd rfl h
  | cons t l => rw [Ty.reb, rebs_eq]; rfl
/-- the cells of a type that nothing was written to -/
abbrev zTy : List V := [.int .i64 0, .str [], .int .i64 0, .int .i64 0, .snil]
/-- a row that is filled from the left -/
def fillR (l : List Ty) (n i : Nat) : List (List V) := (l.take i).map encTy ++ List.replicate (n - i) zTy
theorem fillR_len {l : List Ty} {n i : Nat} (hl : l.length = n) (hi : i ≤ n) : (fillR l n i).length = n := by
  simp [fillR]; omega
theorem fillR_set {l : List Ty} {n i : Nat} (hl : l.length = n) (hi : i < n) : (fillR l n i).set i (encTy (l[i]'(by omega))) = fillR l n (i + 1) := by
  unfold fillR
  have h1 : ((l.take i).map encTy).length = i := by simp; omega
  rw [List.set_append_right _ _ (by omega), h1, Nat.sub_self]
  obtain ⟨m, hm⟩ : ∃ m, n - i = m + 1 := ⟨n - i - 1, by omega⟩
  have hm2 : n - (i + 1) = m := by omega
  rw [hm, hm2, List.replicate_succ, List.set_cons_zero, List.take_add_one, List.getElem?_eq_getElem (by omega), Option.toList_some, List.map_append, List.append_assoc]
  rfl
theorem fillR_full {l : List Ty} {n : Nat} (hl : l.length = n) : fillR l n n = l.map encTy := by
  simp [fillR, ← hl]
theorem fillR_zero {l : List Ty} {n : Nat} : fillR l n 0 = List.replicate n zTy := by simp [fillR]
theorem fillR_mem {l : List Ty} {n i : Nat} {e : List V} (h : e ∈ fillR l n i) : e.length = 5 ∧ e.all V.pure2 = true := by
  unfold fillR at h
  rcases List.mem_append.1 h with h | h
  · obtain ⟨t, _, rfl⟩ := List.mem_map.1 h
    obtain ⟨k, n, i, hh, l⟩ := t
    exact ⟨by rw [encTy]; rfl, by rw [encTy]; rfl⟩
  · obtain ⟨_, rfl⟩ := List.mem_replicate.1 h
    exact ⟨rfl, rfl⟩
@[simp] theorem fillR_pure {l : List Ty} {n i : Nat} : ((fillR l n i).all fun e => e.all V.pure2) = true := List.all_eq_true.2 fun e he => (fillR_mem he).2
@[simp] theorem fillR_ren {l : List Ty} {n i : Nat} {π : Nat → Nat} : ((fillR l n i).map fun e => e.map (V.ren2 π)) = fillR l n i := map_id2 fun x hx v hv => V.ren2_pure (List.all_eq_true.1 (fillR_mem hx).2 v hv)
theorem fillR_over {l : List Ty} {n i : Nat} (hl : l.length = n) (hi : i < n) (h : i < (fillR l n i).length) : (fillR l n i).set i (overL ((fillR l n i)[i]'h) 0 (encTy (l[i]'(by omega)))) = fillR l n (i + 1) := by
  have h5 := (fillR_mem (List.getElem_mem h)).1
  have e : overL ((fillR l n i)[i]'h) 0 (encTy (l[i]'(by omega))) = encTy (l[i]'(by omega)) := by
    generalize (fillR l n i)[i]'h = r at h5
    match r, h5 with
    | [a, b, c, d, f], _ =>
      obtain ⟨k, n, i, hh, l⟩ := l[i]
      rw [encTy]; rfl
  rw [e, fillR_set hl hi]
end Go.J

/- Replacing the leaves of a type is replacing its variables. -/
namespace Go.J
open Enc (enc)
mutual
def Ty.leafy : Ty → Bool
  | .mk k _ _ _ l => (decide (k ≠ 1) || decide (l.length = 0)) && Ty.leafys l
def Ty.leafys : List Ty → Bool
  | [] => true
  | t :: l => Ty.leafy t && Ty.leafys l
end
mutual
theorem reb_repl (s : List Assign) : ∀ t : Ty, t.leafy = true → t.reb (fun t => if t.kind = 1 then (lookA s t.id).getD t else t) = t.repl s
  | .mk k n i h [], _ => by
    rw [Ty.reb, repl_eq]
    simp only [Ty.kind_mk, Ty.id_mk, Ty.args_mk, Ty.name_mk, Ty.home_mk, List.map_nil]
  | .mk k n i h (t :: l), hl => by
    rw [Ty.leafy] at hl
    simp only [Bool.and_eq_true, Bool.or_eq_true, decide_eq_true_eq] at hl
    have hk : k ≠ 1 := by
      rcases hl.1 with h | h
      · exact h
      · simp at h
    have hl2 := hl.2
    rw [Ty.leafys, Bool.and_eq_true] at hl2
    rw [Ty.reb, reb_repl s t hl2.1, rebs_repls s l hl2.2, repl_eq s (.mk k n i h (t :: l))]
    simp only [Ty.kind_mk, if_neg hk, Ty.id_mk, Ty.args_mk, Ty.name_mk, Ty.home_mk, List.map_cons]
    rw [repls_eq]
theorem rebs_repls (s : List Assign) : ∀ l : List Ty, Ty.leafys l = true → Ty.rebs (fun t => if t.kind = 1 then (lookA s t.id).getD t else t) l = Ty.repls s l
  | [], _ => by rw [Ty.rebs, Ty.repls]
  | t :: l, hl => by
    rw [Ty.leafys, Bool.and_eq_true] at hl
    rw [Ty.rebs, Ty.repls, reb_repl s t hl.1, rebs_repls s l hl.2]
end
end Go.J

/- Type variables in the order in which they are met; numbering them. -/
namespace Go.J
open Enc (enc)
/-- the substitution that numbers variables -/
def numA : List Int → Nat → List Assign
  | [], _ => []
  | x :: l, i => ⟨x, tVar (i : Int)⟩ :: numA l (i + 1)
theorem numA_snoc (l : List Int) (x : Int) (i : Nat) : numA (l ++ [x]) i = numA l i ++ [⟨x, tVar ((i + l.length : Nat) : Int)⟩] := by
  induction l generalizing i with
  | nil => simp [numA]
  | cons y l ih => simp only [List.cons_append, numA, ih, List.length_cons]; rw [show i + 1 + l.length = i + (l.length + 1) by omega]
theorem numA_len (l : List Int) (i : Nat) : (numA l i).length = l.length := by
  induction l generalizing i with
  | nil => rfl
  | cons y l ih => simp [numA, ih]
/-- what replacing type variables makes of a leaf -/
def leafR (s : List Assign) (t : Ty) : Ty := if t.kind = 1 then (lookA s t.id).getD t else t
/-- a variable's number is added, if it is new -/
def colLeaf (out : List Int) (t : Ty) : List Int := if t.kind = 1 ∧ t.id ∉ out then out ++ [t.id] else out
mutual
def colT : Ty → List Int → List Int
  | .mk k n i h l, out => colTs l (colLeaf out (.mk k n i h l))
def colTs : List Ty → List Int → List Int
  | [], out => out
  | t :: l, out => colTs l (colT t out)
end
theorem colT_eq (t : Ty) (out : List Int) : colT t out = colTs t.args (colLeaf out t) := by cases t; rw [colT]; rfl
theorem colTs_snoc (l : List Ty) (t : Ty) (out : List Int) : colTs (l ++ [t]) out = colT t (colTs l out) := by
  induction l generalizing out with
  | nil => simp [colTs]
  | cons a l ih => simp [colTs, ih]
theorem colLeaf_pre (out : List Int) (t : Ty) : ∃ m, colLeaf out t = out ++ m ∧ m.length ≤ 1 := by
  unfold colLeaf; split
  · exact ⟨_, rfl, Nat.le_refl _⟩
  · exact ⟨[], by simp, by simp⟩
mutual
theorem colT_pre : ∀ (t : Ty) (out : List Int), ∃ m, colT t out = out ++ m ∧ m.length ≤ t.size
  | .mk k n i h l, out => by
    obtain ⟨a, ha, ha2⟩ := colLeaf_pre out (.mk k n i h l)
    obtain ⟨b, hb, hb2⟩ := colTs_pre l (colLeaf out (.mk k n i h l))
    have := Ty.size_eq (.mk k n i h l)
    exact ⟨a ++ b, by rw [colT, hb, ha, List.append_assoc], by rw [List.length_append]; simp only [Ty.args_mk] at this; omega⟩
theorem colTs_pre : ∀ (l : List Ty) (out : List Int), ∃ m, colTs l out = out ++ m ∧ m.length ≤ Ty.sizes l
  | [], out => ⟨[], by simp [colTs], by simp⟩
  | t :: l, out => by
    obtain ⟨a, ha, ha2⟩ := colT_pre t out
    obtain ⟨b, hb, hb2⟩ := colTs_pre l (colT t out)
    refine ⟨a ++ b, by rw [colTs, hb, ha, List.append_assoc], ?_⟩
    rw [List.length_append]; simp only [Ty.sizes]; omega
end
theorem colLeaf_len (out : List Int) (t : Ty) : out.length ≤ (colLeaf out t).length ∧ (colLeaf out t).length ≤ out.length + 1 := by
  obtain ⟨m, h1, h2⟩ := colLeaf_pre out t
  rw [h1, List.length_append]; omega
theorem colT_len (t : Ty) (out : List Int) : out.length ≤ (colT t out).length ∧ (colT t out).length ≤ out.length + t.size := by
  obtain ⟨m, h1, h2⟩ := colT_pre t out
  rw [h1, List.length_append]; omega
theorem colTs_len (l : List Ty) (out : List Int) : out.length ≤ (colTs l out).length ∧ (colTs l out).length ≤ out.length + Ty.sizes l := by
  obtain ⟨m, h1, h2⟩ := colTs_pre l out
  rw [h1, List.length_append]; omega
theorem colLeaf_nodup {out : List Int} {t : Ty} (h : out.Nodup) : (colLeaf out t).Nodup := by
  unfold colLeaf; split
  · rename_i hh
    rw [List.nodup_append]
    exact ⟨h, List.nodup_cons.2 ⟨by simp, List.nodup_nil⟩, fun a ha b hb e => by rw [List.mem_singleton] at hb; subst hb; subst e; exact hh.2 ha⟩
  · exact h
mutual
theorem colT_nodup : ∀ (t : Ty) {out : List Int}, out.Nodup → (colT t out).Nodup
  | .mk k n i h l, out, ho => by rw [colT]; exact colTs_nodup l (colLeaf_nodup ho)
theorem colTs_nodup : ∀ (l : List Ty) {out : List Int}, out.Nodup → (colTs l out).Nodup
  | [], out, ho => by rw [colTs]; exact ho
  | t :: l, out, ho => by rw [colTs]; exact colTs_nodup l (colT_nodup t ho)
end
/-- On types whose variables have no arguments: the leaves' numbers. -/
theorem idsOf_leaves {t : Ty} {out : List Ty} (hk : t.kind = 1) : idsOf (if t ∈ out then out else out ++ [t]) = colLeaf (idsOf out) t := by
  have hsub : ∀ (a : Ty) (o : List Int) (y : Int), y ∈ o → y ∈ addId o a := by
    intro a o y hy; unfold addId; split
    · exact hy
    · exact List.mem_append.2 (.inl hy)
  have hself : ∀ (a : Ty) (o : List Int), a.id ∈ addId o a := by
    intro a o; unfold addId; split
    · assumption
    · simp
  have key : ∀ (l : List Ty) (o : List Int), (∀ y ∈ o, y ∈ l.foldl addId o) ∧ ∀ x ∈ l, x.id ∈ l.foldl addId o := by
    intro l
    induction l with
    | nil => intro o; exact ⟨fun y hy => hy, fun x hx => by cases hx⟩
    | cons a l ih =>
      intro o
      obtain ⟨h1, h2⟩ := ih (addId o a)
      refine ⟨fun y hy => h1 y (hsub a o y hy), fun x hx => ?_⟩
      rcases List.mem_cons.1 hx with rfl | hx
      · exact h1 _ (hself x o)
      · exact h2 x hx
  have hmem : ∀ l : List Ty, ∀ x ∈ l, x.id ∈ idsOf l := fun l => (key l []).2
  unfold colLeaf
  by_cases ht : t ∈ out
  · rw [if_pos ht, if_neg (fun h => h.2 (hmem out t ht))]
  · rw [if_neg ht, idsOf_snoc]
    unfold addId
    by_cases hi : t.id ∈ idsOf out
    · rw [if_pos hi, if_neg (fun h => h.2 hi)]
    · rw [if_neg hi, if_pos ⟨hk, hi⟩]
mutual
theorem leaves_col : ∀ (t : Ty), t.leafy = true → ∀ out, idsOf (leavesM 1 t out) = colT t (idsOf out)
  | .mk k n i h l, hl, out => by
    rw [Ty.leafy] at hl
    simp only [Bool.and_eq_true, Bool.or_eq_true, decide_eq_true_eq] at hl
    by_cases hk : k = 1
    · have h0 : l = [] := by
        rcases hl.1 with h | h
        · exact absurd hk h
        · exact List.eq_nil_of_length_eq_zero h
      subst h0
      rw [leavesM_eq, if_pos ⟨hk, rfl⟩, idsOf_leaves (t := .mk k n i h []) hk, colT]
      rfl
    · rw [leavesM_eq, if_neg (fun hh => hk hh.1), colT]
      have : colLeaf (idsOf out) (.mk k n i h l) = idsOf out := if_neg (fun hh => hk hh.1)
      rw [this]
      exact leaves_colTs l hl.2 out
theorem leaves_colTs : ∀ (l : List Ty), Ty.leafys l = true → ∀ out, idsOf (leavesL 1 l out) = colTs l (idsOf out)
  | [], _, out => by rw [leavesL, colTs]
  | t :: l, hl, out => by
    rw [Ty.leafys, Bool.and_eq_true] at hl
    rw [leavesL, colTs, leaves_colTs l hl.2, leaves_col t hl.1]
end
theorem varsM_col {l : List Ty} (h : Ty.leafys l = true) : varsM l = colTs l [] := leaves_colTs l h []
end Go.J

/- Closures that collect numbers in a variable of their maker, and functions that are handed such a closure. -/
namespace Go.J
open Enc (enc)
noncomputable def colL (out : List Int) : List (Nat × Obj) := (0, capB (oV 1 (out.map encI))) :: oH 1 1 (out.map encI)
noncomputable def colD (g : Option Nat) (tv : V) (id ro : Nat) (out out' : List Int) : EmbD where
  k := match out with | [] => 1 | _ => 2
  k' := match out' with | [] => 1 | _ => 2
  π := fun i => if i = 0 then id else ro
  OL := colL out
  OL' := colL out'
  vs0 := [tv, capV g 0]
  v0 := .tuple []
noncomputable def colM (g : Option Nat) (F : List Int → Ty → Option (List Int)) (vs : List V) (hs : HS) : Option EmbD := match vs with
  | [tv, cv] => ob (capOf g cv) fun id => ob (Enc.dec tv : Option Ty) fun t => ob (hs.H.get id) fun o => ob (capB? o) fun c => ob (rowOf 1 hs c) fun oc => ob (decL oc : Option (List Int)) fun out => ob (F out t) fun r =>
      gd (et (Nat.blt id hs.n) (et (bi (Nat.beq (lenL oc) 0) true (nt (Nat.beq id (rowId c)))) (et (Nat.ble (lenL out) (lenL r)) (vacant hs hs.n))))
        (some (colD g tv id (rowId c) out r))
  | _ => none
theorem colD_good {g : Option Nat} {t : Ty} {id ro : Nat} {out out' : List Int} (hle : out.length ≤ out'.length) : (colD g (enc t) id ro out out').Good := by
  have hin : ∀ (out : List Int) (p : Nat × Obj), p ∈ colL out → p.2.in (dom (colL out)) = true ∧ p.2.fz = false := by
    intro out p hp
    unfold colL at hp ⊢
    rcases List.mem_cons.1 hp with rfl | hp
    · cases out <;> exact ⟨rfl, rfl⟩
    · cases out with
      | nil => cases hp
      | cons x l =>
        simp only [List.map_cons, oH_cons, List.mem_singleton] at hp
        subst hp
        exact ⟨encI_pure (x :: l), rfl⟩
  refine ⟨?_, ?_, ?_, fun p hp => (hin out p hp).1, hin out', rfl, ?_⟩
  · cases out <;> rfl
  · cases out' <;> rfl
  · cases out <;> cases out' <;> first | (simp at hle; done) | exact Nat.le_refl _ | exact Nat.le_succ _
  · intro v hv
    simp only [colD, List.mem_cons, List.not_mem_nil, or_false] at hv
    rcases hv with rfl | rfl
    · exact V.in3_pure (enc_pure1 t)
    · cases g <;> cases out <;> rfl
theorem colM_inv {g : Option Nat} {F : List Int → Ty → Option (List Int)} {vs : List V} {hs : HS} {D : EmbD} (h : colM g F vs hs = some D) :
    ∃ out t r id ro, F out t = some r ∧ D = colD g (enc t) id ro out r ∧ out.length ≤ r.length ∧ D.Good ∧ D.Fits vs hs := by
  unfold colM at h
  split at h
  · rename_i tv cv
    simp only [ob_eq, gd_eq, et_true, blt_true, nt_true, lenL_eq, beq_true, ble_true, vacant_eq] at h
    obtain ⟨id, hid, t, ht, o, ho, c, hc, oc, hoc, out, hout, r, hr, ⟨h1, h3, h5, h6⟩, h⟩ := h
    cases h
    have e1 := Enc.enc_dec _ _ ht
    subst e1
    have e2 := capOf_inv hid
    subst e2
    have e3 := decL_inv hout
    have e4 := capB_inv hc
    subst e4
    subst e3
    refine ⟨out, t, r, id, rowId c, hr, rfl, h5, colD_good h5, ?_⟩
    have htv : ∀ π : Nat → Nat, (enc t : V).ren π = enc t := fun π => V.ren_none (V.in3_pure (enc_pure1 t))
    rcases rowOf_inv hoc with ⟨e5, e6⟩ | ⟨ro, e5, e6, g5, g6, _⟩
    · subst e5
      have e7 : out = [] := by cases out with | nil => rfl | cons x l => cases e6
      subst e7
      refine ⟨?_, ?_, ?_, ?_, ?_⟩
      · simp only [colD, List.map_cons, List.map_nil]
        rw [htv]; cases g <;> rfl
      · intro i j hi hj e
        simp only [colD] at hi hj
        omega
      · intro p hp
        simp only [colD, colL, List.map_nil, oH_nil, List.mem_cons, List.not_mem_nil, or_false] at hp
        subst hp
        show hs.H.get id = _
        rw [ho]; rfl
      · intro i hi
        simp only [colD] at hi
        have : i = 0 := by
          cases hr1 : r <;> rw [hr1] at hi <;> simp at hi <;> omega
        subst this
        exact h6
      · intro i hi
        simp only [colD] at hi ⊢
        have : i = 0 := by omega
        subst this
        exact h1
    · subst e5
      cases out with
      | nil => exact absurd rfl e6
      | cons x l =>
        have hro : rowId (oV ro ((x :: l).map Cel.cells)) = ro := rfl
        rw [hro] at h3 ⊢
        have hr1 : ∃ y m, r = y :: m := by
          cases hr1 : r with
          | nil => rw [hr1] at h5; simp at h5
          | cons y m => exact ⟨y, m, rfl⟩
        obtain ⟨y, m, hr1⟩ := hr1
        have h3' : id ≠ ro := by
          change nt (id.beq ro) = true at h3
          simpa using h3
        refine ⟨?_, ?_, ?_, ?_, ?_⟩
        · simp only [colD, List.map_cons, List.map_nil]
          rw [htv]; cases g <;> rfl
        · intro i j hi hj e
          simp only [colD] at hi hj e
          rcases (show i = 0 ∨ i = 1 by omega) with rfl | rfl <;> rcases (show j = 0 ∨ j = 1 by omega) with rfl | rfl <;>
            first | rfl | (simp at e; first | (exact absurd e h3') | (exact absurd e.symm h3'))
        · intro p hp
          simp only [colD, colL, List.map_cons, oH_cons, List.mem_cons, List.not_mem_nil, or_false] at hp
          rcases hp with rfl | rfl
          · show hs.H.get id = _
            rw [ho]; rfl
          · show hs.H.get ro = _
            rw [g5]; exact congrArg some (oO_ren (es := (x :: l).map encI) (encI_pure (x :: l))).symm
        · intro i hi
          simp only [colD, hr1] at hi
          simp at hi
        · intro i hi
          simp only [colD] at hi ⊢
          rcases (show i = 0 ∨ i = 1 by omega) with rfl | rfl
          · exact h1
          · exact g6
  · cases h
section
variable {g : Option Nat} {tv : V} {id ro : Nat} {out out' : List Int} {x y : Int} {hs : HS}
@[simp] theorem colD_val : (colD g tv id ro out out').val hs = .tuple [] := (rfl)
theorem colD_heap00 : (colD g tv id ro [] []).heap hs = { H := hs.H.set id (capB .snil), n := hs.n, log := id :: hs.log } := by
  show ({ H := hs.H.set id _, n := hs.n + 0, log := _ } : HS) = _
  rfl
theorem colD_heap01 : (colD g tv id ro [] (x :: out')).heap hs = { H := (hs.H.set hs.n (oO 1 ((x :: out').map encI))).set id (capB (oV hs.n ((x :: out').map encI))), n := hs.n + 1, log := id :: hs.n :: hs.log } := by
  show ({ H := (hs.H.set (hs.n + 0) ((oO 1 ((x :: out').map encI)).ren _)).set id _, n := hs.n + 1, log := _ } : HS) = _
  rw [oO_ren (encI_pure (x :: out'))]; rfl
theorem colD_heap11 : (colD g tv id ro (y :: out) (x :: out')).heap hs = { H := (hs.H.set ro (oO 1 ((x :: out').map encI))).set id (capB (oV ro ((x :: out').map encI))), n := hs.n, log := id :: ro :: hs.log } := by
  show ({ H := (hs.H.set ro ((oO 1 ((x :: out').map encI)).ren _)).set id _, n := hs.n + 0, log := _ } : HS) = _
  rw [oO_ren (encI_pure (x :: out'))]; rfl
attribute [simp] colD_heap00 colD_heap01 colD_heap11
@[simp] theorem colM_n {F : List Int → Ty → Option (List Int)} {cv : V} : colM g F [tv, cv] hs = ob (capOf g cv) fun id => ob (Enc.dec tv : Option Ty) fun t => ob (hs.H.get id) fun o => ob (capB? o) fun c => ob (rowOf 1 hs c) fun oc => ob (decL oc : Option (List Int)) fun out => ob (F out t) fun r =>
      gd (et (Nat.blt id hs.n) (et (bi (Nat.beq (lenL oc) 0) true (nt (Nat.beq id (rowId c)))) (et (Nat.ble (lenL out) (lenL r)) (vacant hs hs.n))))
        (some (colD g tv id (rowId c) out r)) := (rfl)
end
end Go.J

/- Numbering type variables twice is numbering them once. Sizes of types that a tape makes. -/
namespace Go.J
open Enc (enc)
mutual
/-- variables are variables and no more -/
def Ty.vplain : Ty → Bool
  | .mk k n _ h l => (decide (k ≠ 1) || (decide (n = []) && decide (h = 0) && decide (l.length = 0))) && Ty.vplains l
def Ty.vplains : List Ty → Bool
  | [] => true
  | t :: l => Ty.vplain t && Ty.vplains l
end
theorem vplains_iff {l : List Ty} : Ty.vplains l = true ↔ ∀ t ∈ l, t.vplain = true := by
  induction l with
  | nil => simp [Ty.vplains]
  | cons t l ih => simp [Ty.vplains, ih]
theorem vplain_var {t : Ty} (h : t.vplain = true) (hk : t.kind = 1) : t = tVar t.id := by
  obtain ⟨k, n, i, hh, l⟩ := t
  rw [Ty.vplain] at h
  simp only [Bool.and_eq_true, Bool.or_eq_true, decide_eq_true_eq] at h
  simp only [Ty.kind_mk] at hk
  subst hk
  rcases h.1 with h | h
  · exact absurd rfl h
  · obtain ⟨⟨rfl, rfl⟩, h3⟩ := h
    rw [List.eq_nil_of_length_eq_zero h3]; rfl
theorem vplain_args {t : Ty} (h : t.vplain = true) : Ty.vplains t.args = true := by
  obtain ⟨k, n, i, hh, l⟩ := t
  rw [Ty.vplain, Bool.and_eq_true] at h
  exact h.2
theorem vplain_node {t : Ty} (hk : t.kind ≠ 1) (h : ∀ x ∈ t.args, x.vplain = true) : t.vplain = true := by
  obtain ⟨k, n, i, hh, l⟩ := t
  rw [Ty.vplain, Bool.and_eq_true]
  exact ⟨by simp only [Ty.kind_mk] at hk; simp [hk], vplains_iff.2 h⟩
theorem vplain_tVar (i : Int) : (tVar i).vplain = true := by simp [tVar, Ty.vplain, Ty.vplains]
mutual
theorem vplain_leafy : ∀ t : Ty, t.vplain = true → t.leafy = true
  | .mk k n i h l, hp => by
    rw [Ty.vplain] at hp
    simp only [Bool.and_eq_true, Bool.or_eq_true, decide_eq_true_eq] at hp
    rw [Ty.leafy]
    simp only [Bool.and_eq_true, Bool.or_eq_true, decide_eq_true_eq]
    exact ⟨hp.1.imp (fun h => h) (fun h => h.2), vplains_leafys l hp.2⟩
theorem vplains_leafys : ∀ l : List Ty, Ty.vplains l = true → Ty.leafys l = true
  | [], _ => by rw [Ty.leafys]
  | t :: l, hp => by
    rw [Ty.vplains, Bool.and_eq_true] at hp
    rw [Ty.leafys, vplain_leafy t hp.1, vplains_leafys l hp.2]; rfl
end
/-- substitutions of variables by variables -/
def VarA (s : List Assign) : Prop := ∀ i t, lookA s i = some t → ∃ j, t = tVar j
theorem numA_VarA : ∀ (l : List Int) (i : Nat), VarA (numA l i) := by
  intro l
  induction l with
  | nil => intro i j t h; cases h
  | cons x l ih =>
    intro i j t h
    simp only [numA, lookA] at h
    split at h
    · cases h; exact ⟨_, rfl⟩
    · exact ih _ j t h
theorem repl_VarA {s : List Assign} (hs : VarA s) {t : Ty} : t.vplain = true → (t.repl s).vplain = true ∧ (t.repl s).size = t.size ∧ (t.ok = true → (t.repl s).ok = true) := by
  induction t using Ty.ind with
  | h t ih =>
    intro hp
    rw [repl_eq]
    by_cases hk : t.kind = 1
    · rw [if_pos hk]
      have ht := vplain_var hp hk
      cases hl : lookA s t.id with
      | none => exact ⟨hp, rfl, fun h => h⟩
      | some u =>
        obtain ⟨j, rfl⟩ := hs _ _ hl
        refine ⟨vplain_tVar j, ?_, fun _ => ?_⟩
        · conv => rhs; rw [ht]
          rw [Option.getD_some, Ty.size_eq, Ty.size_eq]; rfl
        · rw [Option.getD_some, Ty.ok_iff]; exact ⟨Nat.zero_le _, fun x hx => by cases hx⟩
    · rw [if_neg hk]
      have ha := vplains_iff.1 (vplain_args hp)
      refine ⟨vplain_node hk ?_, ?_, fun ho => ?_⟩
      · intro x hx
        simp only [Ty.args_mk, List.mem_map] at hx
        obtain ⟨y, hy, rfl⟩ := hx
        exact (ih y hy (ha y hy)).1
      · rw [Ty.size_eq, Ty.size_eq t]
        congr 1
        simp only [Ty.args_mk]
        have : ∀ l : List Ty, (∀ y ∈ l, (y.repl s).size = y.size) → Ty.sizes (l.map (Ty.repl s)) = Ty.sizes l := by
          intro l
          induction l with
          | nil => intro _; rfl
          | cons a l ihl => intro h; simp only [List.map_cons, Ty.sizes]; rw [h a (List.mem_cons_self ..), ihl fun y hy => h y (List.mem_cons_of_mem _ hy)]
        exact this _ fun y hy => (ih y hy (ha y hy)).2.1
      · rw [Ty.ok_iff] at ho ⊢
        refine ⟨by simpa using ho.1, fun x hx => ?_⟩
        simp only [Ty.args_mk, List.mem_map] at hx
        obtain ⟨y, hy, rfl⟩ := hx
        exact (ih y hy (ha y hy)).2.2 (ho.2 y hy)
theorem lookA_numA : ∀ {ids : List Int} (i : Nat) {j : Nat} {v : Int}, ids.Nodup → ids[j]? = some v → lookA (numA ids i) v = some (tVar ((i + j : Nat) : Int)) := by
  intro ids
  induction ids with
  | nil => intro i j v _ h; cases h
  | cons x l ih =>
    intro i j v hn h
    rw [List.nodup_cons] at hn
    cases j with
    | zero =>
      have : x = v := by simpa using h
      subst this
      simp [numA, lookA]
    | succ j =>
      have h' : l[j]? = some v := by simpa using h
      have hne : ¬ x = v := fun e => hn.1 (e ▸ List.mem_of_getElem? h')
      simp only [numA, lookA, if_neg hne]
      rw [ih (i + 1) hn.2 h', show i + 1 + j = i + (j + 1) by omega]
def rangeI (n : Nat) : List Int := (List.range n).map fun i => ((i : Nat) : Int)
theorem rangeI_succ (n : Nat) : rangeI (n + 1) = rangeI n ++ [(n : Int)] := by simp [rangeI, List.range_succ]
theorem rangeI_mem {n : Nat} {x : Int} : x ∈ rangeI n ↔ ∃ i : Nat, i < n ∧ x = i := by
  simp only [rangeI, List.mem_map, List.mem_range]
  exact ⟨fun ⟨i, h1, h2⟩ => ⟨i, h1, h2.symm⟩, fun ⟨i, h1, h2⟩ => ⟨i, h1, h2.symm⟩⟩
@[simp] theorem rangeI_len (n : Nat) : (rangeI n).length = n := by simp [rangeI]
theorem look_range (n : Nat) (m : Int) : (lookA (numA (rangeI n) 0) m).getD (tVar m) = tVar m := by
  have hn : (rangeI n).Nodup := by
    unfold rangeI
    unfold List.Nodup
    rw [List.pairwise_map]
    exact List.Pairwise.imp (fun h e => h (Int.ofNat.inj e)) List.nodup_range
  cases hl : lookA (numA (rangeI n) 0) m with
  | none => rfl
  | some u =>
    by_cases hm : m ∈ rangeI n
    · obtain ⟨i, hi, rfl⟩ := rangeI_mem.1 hm
      have := lookA_numA (ids := rangeI n) 0 (j := i) (v := (i : Int)) hn (by simp [rangeI, hi])
      rw [this] at hl
      cases hl
      simp
    · exfalso
      have : ∀ (l : List Int) (k : Nat) (u : Ty), lookA (numA l k) m = some u → m ∈ l := by
        intro l
        induction l with
        | nil => intro k u h; cases h
        | cons x l ih =>
          intro k u h
          simp only [numA, lookA] at h
          split at h
          · rename_i e; rw [e]; exact List.mem_cons_self ..
          · exact List.mem_cons_of_mem _ (ih _ _ h)
      exact hm (this _ _ _ hl)
theorem reb_range (n : Nat) {t : Ty} : t.vplain = true → t.reb (leafR (numA (rangeI n) 0)) = t := by
  intro hp
  have h1 : t.reb (leafR (numA (rangeI n) 0)) = t.repl (numA (rangeI n) 0) := reb_repl _ t (vplain_leafy t hp)
  rw [h1]
  clear h1
  revert hp
  induction t using Ty.ind with
  | h t ih =>
    intro hp
    rw [repl_eq]
    by_cases hk : t.kind = 1
    · rw [if_pos hk]
      have ht := vplain_var hp hk
      conv => lhs; arg 2; rw [ht]
      rw [look_range]; exact ht.symm
    · rw [if_neg hk]
      have ha := vplains_iff.1 (vplain_args hp)
      have : t.args.map (Ty.repl (numA (rangeI n) 0)) = t.args := by
        conv => rhs; rw [← List.map_id t.args]
        exact List.map_congr_left fun x hx => ih x hx (ha x hx)
      rw [this]; cases t; rfl
theorem pre_take {α : Type} {a b : List α} (h : a <+: b) : a = b.take a.length := (List.prefix_iff_eq_take.1 h)
section
variable {ids : List Int} (hn : ids.Nodup)
include hn
theorem col_leaf {t : Ty} (hp : t.vplain = true) (hk : t.kind = 1) {k : Nat} (hkl : k ≤ ids.length) (h : colLeaf (ids.take k) t <+: ids) :
    ∃ k', k ≤ k' ∧ k' ≤ ids.length ∧ colLeaf (ids.take k) t = ids.take k' ∧ colLeaf (rangeI k) (t.repl (numA ids 0)) = rangeI k' ∧ (t.repl (numA ids 0)).args = [] := by
  have ht := vplain_var hp hk
  rw [repl_eq, if_pos hk]
  by_cases hm : t.id ∈ ids.take k
  · obtain ⟨j, hj, hje⟩ := List.getElem_of_mem hm
    have hjk : j < k := by rw [List.length_take] at hj; omega
    have hg : ids[j]? = some t.id := by
      rw [List.getElem_take] at hje
      rw [← hje]; exact List.getElem?_eq_getElem _
    rw [lookA_numA 0 hn hg, Option.getD_some]
    refine ⟨k, Nat.le_refl _, hkl, if_neg (fun h => h.2 hm), ?_, rfl⟩
    unfold colLeaf
    rw [if_neg]
    intro hh
    refine hh.2 (rangeI_mem.2 ⟨j, hjk, ?_⟩)
    simp [tVar]
  · have e : colLeaf (ids.take k) t = ids.take k ++ [t.id] := if_pos ⟨hk, hm⟩
    rw [e] at h
    obtain ⟨m, hm2⟩ := h
    have hkl2 : (ids.take k).length = k := by rw [List.length_take]; omega
    have hg : ids[k]? = some t.id := by
      rw [← hm2, List.append_assoc, List.getElem?_append_right (by omega), hkl2, Nat.sub_self]; rfl
    have hlt : k < ids.length := by
      rw [List.getElem?_eq_some_iff] at hg; exact hg.1
    rw [lookA_numA 0 hn hg, Option.getD_some]
    refine ⟨k + 1, Nat.le_succ _, hlt, ?_, ?_, rfl⟩
    · rw [e, List.take_add_one, hg]; rfl
    · unfold colLeaf
      rw [if_pos]
      · rw [rangeI_succ]; simp [tVar]
      · refine ⟨rfl, fun hh => ?_⟩
        obtain ⟨i, hi, he⟩ := rangeI_mem.1 hh
        simp [tVar] at he
        omega
omit hn in
theorem colTs_num : ∀ (l : List Ty), (∀ t ∈ l, t.vplain = true ∧ ∀ k, k ≤ ids.length → colT t (ids.take k) <+: ids → ∃ k', k ≤ k' ∧ k' ≤ ids.length ∧ colT t (ids.take k) = ids.take k' ∧ colT (t.repl (numA ids 0)) (rangeI k) = rangeI k') →
    ∀ k, k ≤ ids.length → colTs l (ids.take k) <+: ids → ∃ k', k ≤ k' ∧ k' ≤ ids.length ∧ colTs l (ids.take k) = ids.take k' ∧ colTs (l.map (Ty.repl (numA ids 0))) (rangeI k) = rangeI k' := by
  intro l
  induction l with
  | nil => intro _ k hk _; exact ⟨k, Nat.le_refl _, hk, by rw [colTs], by simp [colTs]⟩
  | cons t l ih =>
    intro ht k hk h
    rw [colTs] at h
    obtain ⟨m, hm, _⟩ := colTs_pre l (colT t (ids.take k))
    have h1 : colT t (ids.take k) <+: ids := List.IsPrefix.trans ⟨m, hm.symm⟩ h
    obtain ⟨k1, a1, a2, a3, a4⟩ := (ht t (List.mem_cons_self ..)).2 k hk h1
    rw [a3] at h
    obtain ⟨k2, b1, b2, b3, b4⟩ := ih (fun t h => ht t (List.mem_cons_of_mem _ h)) k1 a2 h
    exact ⟨k2, by omega, b2, by rw [colTs, a3, b3], by rw [List.map_cons, colTs, a4, b4]⟩
theorem colT_num (t : Ty) : t.vplain = true → ∀ k, k ≤ ids.length → colT t (ids.take k) <+: ids → ∃ k', k ≤ k' ∧ k' ≤ ids.length ∧ colT t (ids.take k) = ids.take k' ∧ colT (t.repl (numA ids 0)) (rangeI k) = rangeI k' := by
  induction t using Ty.ind with
  | h t ih =>
    intro hp k hk h
    have ha := vplains_iff.1 (vplain_args hp)
    by_cases hk1 : t.kind = 1
    · have ht := vplain_var hp hk1
      have e0 : t.args = [] := by rw [ht]; rfl
      rw [colT_eq, e0, colTs] at h ⊢
      obtain ⟨k', h1, h2, h3, h4, h5⟩ := col_leaf hn hp hk1 hk h
      exact ⟨k', h1, h2, h3, by rw [colT_eq, h5, colTs, h4]⟩
    · have e : ∀ out, colLeaf out t = out := fun out => if_neg (fun h => hk1 h.1)
      rw [colT_eq, e] at h ⊢
      obtain ⟨k', h1, h2, h3, h4⟩ := colTs_num t.args (fun x hx => ⟨ha x hx, ih x hx (ha x hx)⟩) k hk h
      refine ⟨k', h1, h2, h3, ?_⟩
      rw [repl_eq, if_neg hk1, colT_eq]
      have e2 : ∀ out, colLeaf out (Ty.mk t.kind t.name t.id t.home (t.args.map (Ty.repl (numA ids 0)))) = out := fun out => if_neg (fun h => hk1 h.1)
      rw [e2]; exact h4
end
/-- the variables of numbered types -/
theorem colTs_numbered {l : List Ty} (hl : Ty.vplains l = true) : colTs (l.map (Ty.repl (numA (colTs l []) 0))) [] = rangeI (colTs l []).length := by
  have hn : (colTs l []).Nodup := colTs_nodup l List.nodup_nil
  have h := vplains_iff.1 hl
  obtain ⟨k', _, h2, h3, h4⟩ := colTs_num l (fun t ht => ⟨h t ht, colT_num hn t (h t ht)⟩) 0 (Nat.zero_le _) (by rw [List.take_zero]; exact List.prefix_rfl)
  rw [List.take_zero] at h3
  have : (colTs l []).length = k' := by
    conv => lhs; rw [h3]
    rw [List.length_take]; omega
  rw [this]; exact h4
/-- numbering twice -/
theorem canon_twice {l : List Ty} (hl : Ty.vplains l = true) : (l.map (Ty.repl (numA (colTs l []) 0))).map (Ty.reb (leafR (numA (colTs (l.map (Ty.repl (numA (colTs l []) 0))) []) 0))) = l.map (Ty.repl (numA (colTs l []) 0)) := by
  rw [colTs_numbered hl]
  conv => rhs; rw [← List.map_id (l.map (Ty.repl (numA (colTs l []) 0)))]
  refine List.map_congr_left fun x hx => ?_
  obtain ⟨y, hy, rfl⟩ := List.mem_map.1 hx
  exact reb_range _ (repl_VarA (numA_VarA _ _) (vplains_iff.1 hl y hy)).1
/-- types with numbered variables -/
def canonT (l : List Ty) : List Ty := l.map (Ty.repl (numA (colTs l []) 0))
theorem canonT_reb {l : List Ty} (hl : Ty.vplains l = true) : l.map (Ty.reb (leafR (numA (colTs l []) 0))) = canonT l :=
  List.map_congr_left fun x hx => reb_repl _ x (vplain_leafy x (vplains_iff.1 hl x hx))
theorem canonT_vars {l : List Ty} (hl : Ty.vplains l = true) : l.map (Ty.repl (numA (varsM l) 0)) = canonT l := by
  rw [varsM_col (vplains_leafys l hl)]; rfl
theorem canonT_vplain {l : List Ty} (hl : Ty.vplains l = true) : Ty.vplains (canonT l) = true := vplains_iff.2 fun x hx => by
  obtain ⟨y, hy, rfl⟩ := List.mem_map.1 hx
  exact (repl_VarA (numA_VarA _ _) (vplains_iff.1 hl y hy)).1
theorem canonT_twice {l : List Ty} (hl : Ty.vplains l = true) : canonT (canonT l) = canonT l := by
  rw [← canonT_reb (canonT_vplain hl)]
  exact canon_twice hl
theorem canonT_sizes {l : List Ty} (hl : Ty.vplains l = true) : Ty.sizes (canonT l) = Ty.sizes l := by
  have key : ∀ (s : List Assign), VarA s → ∀ l : List Ty, Ty.vplains l = true → Ty.sizes (l.map (Ty.repl s)) = Ty.sizes l := by
    intro s hs l
    induction l with
    | nil => intro _; rfl
    | cons t l ih =>
      intro h
      rw [Ty.vplains, Bool.and_eq_true] at h
      simp only [List.map_cons, Ty.sizes]
      rw [ih h.2, (repl_VarA hs h.1).2.1]
  exact key _ (numA_VarA _ _) l hl
theorem canonT_oks {l : List Ty} (hl : Ty.vplains l = true) (ho : Ty.oks l = true) : Ty.oks (canonT l) = true := Ty.oks_iff.2 fun x hx => by
  obtain ⟨y, hy, rfl⟩ := List.mem_map.1 hx
  exact (repl_VarA (numA_VarA _ _) (vplains_iff.1 hl y hy)).2.2 (Ty.oks_iff.1 ho y hy)
end Go.J

/- Sizes of types that a tape makes. -/
namespace Go.J
open Enc (enc)
theorem sizes_le {l : List Ty} {b : Nat} (h : ∀ t ∈ l, t.size ≤ b) : Ty.sizes l ≤ l.length * b := by
  induction l with
  | nil => simp [Ty.sizes]
  | cons t l ih =>
    have h1 := h t (List.mem_cons_self ..)
    have h2 := ih fun t ht => h t (List.mem_cons_of_mem _ ht)
    simp only [Ty.sizes, List.length_cons, Nat.succ_mul]
    omega
def DOk3 (D : List Decl) : Prop := ∀ d ∈ D, d.params.length ≤ 2
theorem datasOf_ok3 (bits : Int) : DOk3 (datasOf bits) := by
  intro d hd
  have key : ∀ d ∈ allD, d.params.length ≤ 2 := by decide
  exact key d (datasOf_mem hd)
theorem typeM_size {D : List Decl} {Lv : List Ty} (hD : DOk3 D) (hl : ∀ l ∈ Lv, l.size ≤ 1) : ∀ (d : Nat) (t : Tp), (typeM d t D Lv).2.size + 1 ≤ 2 ^ (d + 1) := by
  have hint : tInt.size = 1 := by decide
  intro d
  induction d with
  | zero =>
    intro t
    rw [typeM]
    try dsimp only
    split
    · rename_i h
      obtain ⟨j, hj, _, h2⟩ := next_get (t.next 7).1 h.2
      rw [h2]
      have := hl _ (List.getElem_mem hj)
      rw [Option.getD_some]; dsimp only; omega
    · split <;> (rw [hint]; exact Nat.le_refl _)
  | succ d ih =>
    intro t
    have hp : 2 ^ (d + 1 + 1) = 2 * 2 ^ (d + 1) := by rw [Nat.pow_succ 2 (d + 1)]; omega
    have hpos : 2 ≤ 2 ^ (d + 1) := by rw [Nat.pow_succ]; have := Nat.two_pow_pos d; omega
    rw [typeM]
    try dsimp only
    split
    · rename_i h
      obtain ⟨j, hj, _, h2⟩ := next_get (t.next 7).1 h.2
      rw [h2]
      have := hl _ (List.getElem_mem hj)
      rw [Option.getD_some]; dsimp only; omega
    · split
      · rw [hint]; omega
      · split
        · rename_i h
          obtain ⟨j, hj, _, h2⟩ := next_get (t.next 7).1 h.2
          rw [h2]
          have hpar := hD _ (List.getElem_mem hj)
          rw [Option.getD_some]
          have hargs : ∀ (q : Tp) (n : Nat) (x : Ty), x ∈ (argsM d q D Lv n).2 → x.size + 1 ≤ 2 ^ (d + 1) := by
            intro q n
            induction n with
            | zero => intro x hx; rw [argsM] at hx; cases hx
            | succ n ihn =>
              intro x hx
              rw [argsM] at hx
              rcases List.mem_append.1 hx with hx | hx
              · exact ihn x hx
              · rw [List.mem_singleton.1 hx]; exact ih _
          have hs := sizes_le (l := (argsM d ((t.next 7).1.next (D.length : Int)).1 D Lv D[j].params.length).2) (b := 2 ^ (d + 1) - 1) fun x hx => by have := hargs _ _ x hx; omega
          rw [argsM_len] at hs
          rw [Ty.size_eq]
          have hm : D[j].params.length * (2 ^ (d + 1) - 1) ≤ 2 * (2 ^ (d + 1) - 1) := Nat.mul_le_mul_right _ hpar
          show Ty.sizes (argsM d ((t.next 7).1.next (D.length : Int)).1 D Lv D[j].params.length).2 + 1 + 1 ≤ _
          omega
        · rw [Ty.size_eq]
          simp only [tArrow, tCon, Ty.args_mk, Ty.sizes]
          have h1 := ih (t.next 7).1
          have h2 := ih (typeM d (t.next 7).1 D Lv).1
          omega
theorem typeM_vplain {D : List Decl} {Lv : List Ty} (hl : ∀ l ∈ Lv, l.vplain = true) (d : Nat) (t : Tp) : (typeM d t D Lv).2.vplain = true :=
  typeM_ind (P := fun t => t.vplain = true) hl (by decide) (fun dd _ l _ hx => vplain_node (by simp [tCon]) hx)
    (fun a b h1 h2 => vplain_node (by simp [tArrow, tCon]) (fun x hx => by
      simp only [tArrow, tCon, Ty.args_mk, List.mem_cons, List.not_mem_nil, or_false] at hx
      rcases hx with rfl | rfl <;> assumption)) d t
theorem typeM_tyok {D : List Decl} {Lv : List Ty} (hD : DOk3 D) (hl : ∀ l ∈ Lv, l.ok = true) (d : Nat) (t : Tp) : (typeM d t D Lv).2.ok = true :=
  typeM_ind (P := fun t => t.ok = true) hl (by decide) (fun dd hdd l hlen hx => Ty.ok_iff.2 ⟨by have := hD dd hdd; simp [tCon, hlen]; omega, hx⟩)
    (fun a b h1 h2 => Ty.ok_iff.2 ⟨by simp [tArrow, tCon], fun x hx => by
      simp only [tArrow, tCon, Ty.args_mk, List.mem_cons, List.not_mem_nil, or_false] at hx
      rcases hx with rfl | rfl <;> assumption⟩) d t
end Go.J
