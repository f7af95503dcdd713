import Derived.Test.YthfcfmkdeheicaaGreatGM2
import Derived.Test.YthfcfmkdeheicaaGreatJS
set_option linter.all false
set_option linter.all false
namespace Go.Proofs.YthfcfmkdeheicaaGreat
open Go.J
open Go.J.Enc (enc)
set_option maxRecDepth 100000
set_option maxHeartbeats 1000000
/-- the place of the first one -/
def idxF {α : Type} (f : α → Bool) : List α → Int → Int
  | [], _ => -1
  | x :: l, i => if f x = true then i else idxF f l (i + 1)
theorem idxF_ge {α : Type} (f : α → Bool) : ∀ (l : List α) (i : Int), 0 ≤ i → decide (0 ≤ idxF f l i) = l.any f := by
  intro l
  induction l with
  | nil => intro i h; simp [idxF]
  | cons y l ih =>
    intro i h
    rw [idxF]
    split
    · rename_i e; simp [e, h]
    · rename_i e
      rw [ih (i + 1) (by omega)]
      simp [e]

noncomputable def m1F (a : Assign) (p : Ty) : Option Bool := some (decide (a.id = p.id))
section
variable {ρ : Nat → Value} (hρ : J.Good ρ)
include hρ
theorem vMatch1 : Valid ρ Tryz.prog 156 (rdS 6 none (rdF1 m1F)) := Valid.rd (fo Tryz.func156 fB156) fun X cs r h hp x X0 RL hX hs q hq hc hnd hx => by
  obtain ⟨a, p, b, rfl, rfl, hF, rfl⟩ := rdF1_inv h
  cases hF
  have hEE : (EL []).P = Tryz.prog := rfl
  have hcn : ConsOk ρ (EL []) := consOk_list valid_nil
  rcases hx with ⟨rfl, rfl, hpx, hri⟩ | ⟨es, i, rfl, hne, rfl, rfl, h5, h6, h7⟩
  · rcases hX with ⟨rfl, _, _⟩ | ⟨es, e1, _⟩
    · refine rd_run (sz := 6) (g := none) (RL := []) (cs := [encTy p]) hρ hcn follows named Tryz.func156 fB156 rfl hp ?_ hq hc hnd (.inl ⟨rfl, rfl, hpx, hri⟩)
      rw [show Tryz.f156.ntmps = 9 from rfl]
      simp [fS156r0, fS156r1, fS156, hEE]
      exact GivesL.keep rfl rfl (by simp) (by simp) (by simp)
    · cases e1
  · rcases hX with ⟨e1, e2, _⟩ | ⟨es2, e1, _⟩
    · rw [oH_cons' hne] at e2; cases e2
    · cases e1
end
/-! ### IndexFunc over Assign -/
noncomputable def ixFA (l : List Assign) (c0 : Ty) : Option Int := if l.length ≤ 100000 ∧ ∀ x ∈ l, (m1F x c0).isSome = true then some (idxF (fun x => (m1F x c0).getD false) l 0) else none
noncomputable def ixFAB (l : List Assign) (c0 : Ty) : Option Bool := if l.length ≤ 100000 ∧ ∀ x ∈ l, (m1F x c0).isSome = true then some (l.any fun x => (m1F x c0).getD false) else none
section
variable {ρ : Nat → Value} (hρ : J.Good ρ)
include hρ
section
variable {E : Env} (hE : E.P = Tryz.prog) (hcon : ConsOk ρ E)
include hE hcon
theorem slices_IndexFunc__api_Assignapi_Assign_frzA (hc : E.con 156 = rdS 6 none (rdF1 m1F)) {l : List Assign} {c0 : Ty} (hl : l.length ≤ 100000) (hall : ∀ x ∈ l, (m1F x c0).isSome = true)  {r : Int} (hr : idxF (fun x => (m1F x c0).getD false) l 0 = r) :
    Wp ρ E 1 Tryz.f185.ntmps fS185 ((PT.leaf.set 0 (.sl (l.map encAssign) false)).set 1 (.func 156 [.ptr 0 0 0])) { H := mkP [(0, box (encTy c0))], n := 1, log := [] } (J.Leaves E.P Tryz.f185 (GivesL 1 (enc r) [(0, box (encTy c0))])) := by
  rw [show Tryz.f185.ntmps = 19 from rfl]
  simp [fS185r0, fS185r1, fS185r2, fS185r3, fS185r4, fS185r5, fS185b0, fS185r6, fS185b1, fS185r7, fS185, hE]
  refine lpi hρ hE hcon l.length (nn := 1) (fun i (_ : Unit) => [(0, .sl (l.map encAssign) false), (1, .func 156 [.ptr 0 0 0]), (7, .int .i64 (l.length : Int)), (8, .int .i64 (i : Int))])
    (fun i _ => [(0, box (encTy c0))]) (fun i _ => idxF (fun x => (m1F x c0).getD false) (l.drop i) (i : Int) = r) ()
    (Less.auto (by simp) (by simp) rfl rfl) (by simpa using hr) ?_ ?_
  · intro _ h K
    rw [List.drop_length, idxF] at h
    simp [fS185l0, fS185r0, fS185r1, fS185r2, fS185r3, fS185r4, fS185r5, fS185b0, fS185r6, fS185b1, fS185r7, fS185, hE]
    refine LessQ.mk (Less.auto (TL := []) (HL := [(0, box (encTy c0))]) (n := 1) (by simp) (by simp) rfl rfl) ?_
    simp [fS185r0, fS185r1, fS185r2, fS185r3, fS185r4, fS185r5, fS185b0, fS185r6, fS185b1, fS185r7, fS185, hE, ← h]
    exact GivesL.keep rfl rfl (by simp) (by simp) (by simp)
  · intro i _ hi h K hK
    have hi' : (i : Int) < l.length := by omega
    have hw2 : IntKind.i64.wrap ((i : Int) + 1) = ((i + 1 : Nat) : Int) := wrap_succ (by omega)
    have hm5 : (i * 6) / 6 = i := by omega
    have hm6 : (i * 6) % 6 = 0 := by omega
    obtain ⟨q, hq⟩ := Option.isSome_iff_exists.1 (hall l[i] (List.getElem_mem hi))
    rw [List.drop_eq_getElem_cons hi, idxF, hq] at h
    simp only [Option.getD_some] at h
    cases q with
    | true =>
      rw [if_pos rfl] at h
      simp [fS185l0, fS185r0, fS185r1, fS185r2, fS185r3, fS185r4, fS185r5, fS185b0, fS185r6, fS185b1, fS185r7, fS185, hE, hi, hi', hm5, hm6, hc, hq]
      refine LessQ.mk (Less.auto (TL := [(4, .int .i64 (i : Int))]) (HL := [(0, box (encTy c0))]) (n := 1) (by simp) (by simp) rfl rfl) ?_
      simp [fS185r0, fS185r1, fS185r2, fS185r3, fS185r4, fS185r5, fS185b0, fS185r6, fS185b1, fS185r7, fS185, hE, ← h]
      exact GivesL.keep rfl rfl (by simp) (by simp) (by simp)
    | false =>
      rw [if_neg (by decide)] at h
      have hnew := hK () h
      simp [fS185l0, fS185r0, fS185r1, fS185r2, fS185r3, fS185r4, fS185r5, fS185b0, fS185r6, fS185b1, fS185r7, fS185, hE, hi, hi', hm5, hm6, hc, hq, hw2, -Int.natCast_add]
      exact hnew _ _ (Less.auto (by simp [-Int.natCast_add]) (by simp) rfl rfl)
theorem slices_IndexFunc__api_Assignapi_Assign_rowA (hc : E.con 156 = rdS 6 none (rdF1 m1F)) {l : List Assign} {c0 : Ty} (hl : l.length ≤ 100000) (hall : ∀ x ∈ l, (m1F x c0).isSome = true) (hne : l ≠ []) {r : Int} (hr : idxF (fun x => (m1F x c0).getD false) l 0 = r) :
    Wp ρ E 2 Tryz.f185.ntmps fS185 ((PT.leaf.set 0 (.own 1 (l.length - 1) 0 l.length none)).set 1 (.func 156 [.ptr 0 0 0])) { H := mkP [(0, box (encTy c0)), (1, .arr 6 (l.length - 1) (l.map encAssign) false false true)], n := 2, log := [] } (J.Leaves E.P Tryz.f185 (GivesL 2 (enc r) [(0, box (encTy c0)), (1, .arr 6 (l.length - 1) (l.map encAssign) false false true)])) := by
  rw [show Tryz.f185.ntmps = 19 from rfl]
  have hpos : 0 < l.length := List.length_pos_iff.2 hne
  simp [fS185r0, fS185r1, fS185r2, fS185r3, fS185r4, fS185r5, fS185b0, fS185r6, fS185b1, fS185r7, fS185, hE]
  refine lpi hρ hE hcon l.length (nn := 2) (fun i (_ : Unit) => [(0, .own 1 (l.length - 1) 0 l.length none), (1, .func 156 [.ptr 0 0 0]), (7, .int .i64 (l.length : Int)), (8, .int .i64 (i : Int))])
    (fun i _ => [(0, box (encTy c0)), (1, .arr 6 (l.length - 1) (l.map encAssign) false false true)]) (fun i _ => idxF (fun x => (m1F x c0).getD false) (l.drop i) (i : Int) = r) ()
    (Less.auto (by simp) (by simp) rfl rfl) (by simpa using hr) ?_ ?_
  · intro _ h K
    rw [List.drop_length, idxF] at h
    simp [fS185l0, fS185r0, fS185r1, fS185r2, fS185r3, fS185r4, fS185r5, fS185b0, fS185r6, fS185b1, fS185r7, fS185, hE]
    refine LessQ.mk (Less.auto (TL := []) (HL := [(0, box (encTy c0)), (1, .arr 6 (l.length - 1) (l.map encAssign) false false true)]) (n := 2) (by simp) (by simp) rfl rfl) ?_
    simp [fS185r0, fS185r1, fS185r2, fS185r3, fS185r4, fS185r5, fS185b0, fS185r6, fS185b1, fS185r7, fS185, hE, ← h]
    exact GivesL.keep rfl rfl (by simp) (by simp) (by simp)
  · intro i _ hi h K hK
    have hi' : (i : Int) < l.length := by omega
    have hw2 : IntKind.i64.wrap ((i : Int) + 1) = ((i + 1 : Nat) : Int) := wrap_succ (by omega)
    have hm5 : (i * 6) / 6 = i := by omega
    have hm6 : (i * 6) % 6 = 0 := by omega
    obtain ⟨q, hq⟩ := Option.isSome_iff_exists.1 (hall l[i] (List.getElem_mem hi))
    rw [List.drop_eq_getElem_cons hi, idxF, hq] at h
    simp only [Option.getD_some] at h
    cases q with
    | true =>
      rw [if_pos rfl] at h
      simp [fS185l0, fS185r0, fS185r1, fS185r2, fS185r3, fS185r4, fS185r5, fS185b0, fS185r6, fS185b1, fS185r7, fS185, hE, hi, hi', hm5, hm6, hc, hq]
      refine LessQ.mk (Less.auto (TL := [(4, .int .i64 (i : Int))]) (HL := [(0, box (encTy c0)), (1, .arr 6 (l.length - 1) (l.map encAssign) false false true)]) (n := 2) (by simp) (by simp) rfl rfl) ?_
      simp [fS185r0, fS185r1, fS185r2, fS185r3, fS185r4, fS185r5, fS185b0, fS185r6, fS185b1, fS185r7, fS185, hE, ← h]
      exact GivesL.keep rfl rfl (by simp) (by simp) (by simp)
    | false =>
      rw [if_neg (by decide)] at h
      have hnew := hK () h
      simp [fS185l0, fS185r0, fS185r1, fS185r2, fS185r3, fS185r4, fS185r5, fS185b0, fS185r6, fS185b1, fS185r7, fS185, hE, hi, hi', hm5, hm6, hc, hq, hw2, -Int.natCast_add]
      exact hnew _ _ (Less.auto (by simp [-Int.natCast_add]) (by simp) rfl rfl)
theorem slices_IndexFunc__api_Assignapi_Assign_nilA {c0 : Ty} :
    Wp ρ E 1 Tryz.f185.ntmps fS185 ((PT.leaf.set 0 .snil).set 1 (.func 156 [.ptr 0 0 0])) { H := mkP [(0, box (encTy c0))], n := 1, log := [] } (J.Leaves E.P Tryz.f185 (GivesL 1 (enc (-1 : Int)) [(0, box (encTy c0))])) := by
  rw [show Tryz.f185.ntmps = 19 from rfl]
  simp [fS185r0, fS185r1, fS185r2, fS185r3, fS185r4, fS185r5, fS185b0, fS185r6, fS185b1, fS185r7, fS185, hE]
  refine lpi hρ hE hcon 0 (nn := 1) (fun i (_ : Unit) => [(7, .int .i64 0), (8, .int .i64 0)]) (fun i _ => [(0, box (encTy c0))]) (fun i _ => True) ()
    (Less.auto (by simp) (by simp) rfl rfl) trivial ?_ ?_
  · intro _ h K
    simp [fS185l0, fS185r0, fS185r1, fS185r2, fS185r3, fS185r4, fS185r5, fS185b0, fS185r6, fS185b1, fS185r7, fS185, hE]
    refine LessQ.mk (Less.auto (TL := []) (HL := [(0, box (encTy c0))]) (n := 1) (by simp) (by simp) rfl rfl) ?_
    simp [fS185r0, fS185r1, fS185r2, fS185r3, fS185r4, fS185r5, fS185b0, fS185r6, fS185b1, fS185r7, fS185, hE]
    exact GivesL.keep rfl rfl (by simp) (by simp) (by simp)
  · intro i _ hi
    omega
end
theorem v_slices_IndexFunc__api_Assignapi_AssignA : Valid ρ Tryz.prog 185 (rdS 6 (some 156) (rdF1 ixFA)) := Valid.rd (fo Tryz.func185 fB185) fun X cs r h hp x X0 RL hX hs q hq hc hnd hx => by
  obtain ⟨l, c0, b, rfl, rfl, hF, rfl⟩ := rdF1_inv h
  obtain ⟨⟨h1, h2⟩, rfl⟩ := ite_inv hF
  have hEE : (EL [(156, rdS 6 none (rdF1 m1F))]).P = Tryz.prog := rfl
  have hcn : ConsOk ρ (EL [(156, rdS 6 none (rdF1 m1F))]) := consOk_list (valid_cons (vMatch1 hρ) valid_nil)
  have hfin := fun (k : V) (RL : List (Nat × J.Obj)) (T : PT V) (he) (hw) (hx) => rd_run (sz := 6) (g := some 156) (X0 := k) (RL := RL) (T := T) (cs := [encTy c0]) (x := x) (hs := hs) (q := q) hρ hcn follows named Tryz.func185 fB185 he hp hw hq hc hnd hx
  rcases hx with ⟨rfl, rfl, hpx, hri⟩ | ⟨es, i, rfl, hne, rfl, rfl, h5, h6, h7⟩
  · rcases hX with ⟨rfl, _, _⟩ | ⟨es, e1, e2, e3, _⟩
    · exact hfin _ [] _ rfl (slices_IndexFunc__api_Assignapi_Assign_frzA hρ hEE hcn rfl h1 h2 rfl) (.inl ⟨rfl, rfl, hpx, hri⟩)
    · cases es with
      | nil =>
        have e0 : l = [] := by
          have e4 : l.map encAssign = [] := by injection e1
          exact List.map_eq_nil_iff.1 e4
        subst e0
        have e5 : X0 = V.snil := e2
        subst e5
        exact hfin _ [] _ rfl (slices_IndexFunc__api_Assignapi_Assign_nilA hρ hEE hcn) (.inl ⟨rfl, rfl, hpx, hri⟩)
      | cons e es => rw [oH_cons] at e3; cases e3
  · have hne2 : ∃ e l, es = e :: l := List.exists_cons_of_ne_nil hne
    rcases hX with ⟨e1, e2, _⟩ | ⟨es2, e1, e2, e3, _⟩
    · rw [oH_cons' hne] at e2; cases e2
    · have e4 : es = l.map encAssign := by
        have e6 : l.map encAssign = es2 := by injection e1
        rw [oH_cons' hne] at e3
        cases es2 with
        | nil => cases e3
        | cons y m =>
          rw [oH_cons' (by simp)] at e3
          have e7 : (J.oO 6 es) = J.oO 6 (y :: m) := by injection e3 with e8; injection e8
          have e9 : es = y :: m := by unfold oO at e7; injection e7
          rw [e9, ← e6]
      have hl0 : l ≠ [] := fun e => hne (by rw [e4, e]; rfl)
      have hV : ∀ i, oV i (l.map encAssign) = .own i (l.length - 1) 0 l.length none := fun i => by rw [oV_cons' (by rw [← e4]; exact hne)]; simp
      have hO : oH 1 6 (l.map encAssign) = [(1, .arr 6 (l.length - 1) (l.map encAssign) false false true)] := by rw [oH_cons' (by rw [← e4]; exact hne)]; simp [J.oO]
      have hw := slices_IndexFunc__api_Assignapi_Assign_rowA hρ hEE hcn rfl h1 h2 hl0 rfl
      refine hfin (oV 1 es) (oH 1 6 es) _ rfl ?_ (.inr ⟨es, i, rfl, hne, rfl, rfl, h5, h6, h7⟩)
      subst e4
      rw [hV]
      show Wp ρ _ ((1) + (oH 1 6 (l.map encAssign)).length) _ _ _ { H := mkP ([(0, box (encTy c0))] ++ oH 1 6 (l.map encAssign)), n := 1 + (oH 1 6 (l.map encAssign)).length, log := [] } (J.Leaves _ _ (GivesL (1 + (oH 1 6 (l.map encAssign)).length) _ ([(0, box (encTy c0))] ++ oH 1 6 (l.map encAssign))))
      rw [hO]
      exact hw
end
section
variable {ρ : Nat → Value} (hρ : J.Good ρ)
include hρ
theorem v_slices_ContainsFunc__api_Assignapi_AssignA : Valid ρ Tryz.prog 155 (rdS 6 (some 156) (rdF1 ixFAB)) := Valid.rd (fo Tryz.func155 fB155) fun X cs r h hp x X0 RL hX hs q hq hc hnd hx => by
  obtain ⟨l, c0, b, rfl, rfl, hF, rfl⟩ := rdF1_inv h
  obtain ⟨⟨h1, h2⟩, rfl⟩ := ite_inv hF
  have hEE : (EL [(185, rdS 6 (some 156) (rdF1 ixFA))]).P = Tryz.prog := rfl
  have hcn : ConsOk ρ (EL [(185, rdS 6 (some 156) (rdF1 ixFA))]) := consOk_list (valid_cons (v_slices_IndexFunc__api_Assignapi_AssignA hρ) valid_nil)
  have hix : ixFA l c0 = some (idxF (fun x => (m1F x c0).getD false) l 0) := if_pos ⟨h1, h2⟩
  have hge := idxF_ge (fun x => (m1F x c0).getD false) l 0 (Int.le_refl _)
  generalize idxF (fun x => (m1F x c0).getD false) l 0 = ix at hix hge
  rw [← hge] at hp ⊢
  have hcon : (EL [(185, rdS 6 (some 156) (rdF1 ixFA))]).con 185 = rdS 6 (some 156) (rdF1 ixFA) := rfl
  have hfin := fun (k : V) (RL : List (Nat × J.Obj)) (T : PT V) (he) (hw) (hx) => rd_run (sz := 6) (g := some 156) (X0 := k) (RL := RL) (T := T) (cs := [encTy c0]) (x := x) (hs := hs) (q := q) hρ hcn follows named Tryz.func155 fB155 he hp hw hq hc hnd hx
  rcases hx with ⟨rfl, rfl, hpx, hri⟩ | ⟨es, i, rfl, hne, rfl, rfl, h5, h6, h7⟩
  · rcases hX with ⟨rfl, _, _⟩ | ⟨es, e1, e2, e3, _⟩
    · refine hfin _ [] _ rfl ?_ (.inl ⟨rfl, rfl, hpx, hri⟩)
      rw [show Tryz.f155.ntmps = 9 from rfl]
      simp [fS155r0, fS155r1, fS155, hEE, hcon, hix]
      exact GivesL.keep rfl rfl (by simp) (by simp) (by simp)
    · cases es with
      | nil =>
        have e0 : l = [] := by
          have e4 : l.map encAssign = [] := by injection e1
          exact List.map_eq_nil_iff.1 e4
        subst e0
        have e5 : X0 = V.snil := e2
        subst e5
        refine hfin _ [] _ rfl ?_ (.inl ⟨rfl, rfl, hpx, hri⟩)
        rw [show Tryz.f155.ntmps = 9 from rfl]
        simp [fS155r0, fS155r1, fS155, hEE, hcon, hix]
        exact GivesL.keep rfl rfl (by simp) (by simp) (by simp)
      | cons e es => rw [oH_cons] at e3; cases e3
  · rcases hX with ⟨e1, e2, _⟩ | ⟨es2, e1, e2, e3, _⟩
    · rw [oH_cons' hne] at e2; cases e2
    · have e4 : es = l.map encAssign := by
        have e6 : l.map encAssign = es2 := by injection e1
        rw [oH_cons' hne] at e3
        cases es2 with
        | nil => cases e3
        | cons y m =>
          rw [oH_cons' (by simp)] at e3
          have e7 : (J.oO 6 es) = J.oO 6 (y :: m) := by injection e3 with e8; injection e8
          have e9 : es = y :: m := by unfold oO at e7; injection e7
          rw [e9, ← e6]
      obtain ⟨y, m, rfl⟩ := List.exists_cons_of_ne_nil (fun e => hne (by rw [e4, e]; rfl) : l ≠ [])
      refine hfin (oV 1 es) (oH 1 6 es) _ rfl ?_ (.inr ⟨es, i, rfl, hne, rfl, rfl, h5, h6, h7⟩)
      subst e4
      rw [show Tryz.f155.ntmps = 9 from rfl]
      simp [fS155r0, fS155r1, fS155, hEE, hcon, hix]
      exact GivesL.keep rfl rfl (by simp) (by simp) (by simp)
end
end Go.Proofs.YthfcfmkdeheicaaGreat
