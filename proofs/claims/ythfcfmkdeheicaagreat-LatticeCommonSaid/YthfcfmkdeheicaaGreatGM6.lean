import Derived.Test.YthfcfmkdeheicaaGreatGM5
import Derived.Test.YthfcfmkdeheicaaGreatJQ
import Derived.Test.YthfcfmkdeheicaaGreatJS
import Derived.Test.YthfcfmkdeheicaaGreatJN
set_option linter.all false
set_option linter.all false
namespace Go.Proofs.YthfcfmkdeheicaaGreat
open Go.J
open Go.J.Enc (enc)
set_option maxRecDepth 100000
set_option maxHeartbeats 1000000
noncomputable def peF (p : Pair) (a b : Ty) : Option Bool := if p.a.ok = true ∧ p.b.ok = true ∧ a.ok = true ∧ b.ok = true then some (decide (p.a = a) && decide (p.b = b)) else none
section
variable {ρ : Nat → Value} (hρ : J.Good ρ)
include hρ
section
variable {E : Env} (hE : E.P = Tryz.prog) (hcon : ConsOk ρ E)
include hE hcon
theorem lattice_pair_equal_run (heq : E.con 63 = tequalS) {p : Pair} {a b : Ty} (h1 : p.a.ok = true) (h2 : p.b.ok = true) (h3 : a.ok = true) (h4 : b.ok = true) (hs : HS) : CallOk ρ Tryz.prog 122 [enc p, enc a, enc b] hs (enc (decide (p.a = a) && decide (p.b = b))) hs := by
  refine fn hρ hE hcon Tryz.func122 fB122 rfl (by simp) ?_ hs
  obtain ⟨pa, pb⟩ := p
  simp only at h1 h2
  by_cases e : pa = a
  · subst e
    simp [fS122r0, fS122r1, fS122, hE, heq, tequalS, h1, h2, h3, h4]
  · have he : decide (pa = a) = false := by simpa using e
    rw [he, Bool.false_and]
    obtain ⟨ak, an, ai, ah, al⟩ := a
    obtain ⟨pk, pn, pi, ph, pl⟩ := pa
    obtain ⟨bk, bn, bi, bh, bl⟩ := b
    obtain ⟨qk, qn, qi, qh, ql⟩ := pb
    simp only [Ty.mk.injEq] at e
    simp [fS122r0, fS122r1, fS122, hE, heq, tequalS, h1, h2, h3, h4, e]
end
theorem vPairEq : Valid ρ Tryz.prog 122 (fnS (spec3 peF)) := v3 (fo Tryz.func122 fB122) fun a b c r h hs => by
  obtain ⟨⟨h1, h2, h3, h4⟩, rfl⟩ := ite_inv h
  exact lattice_pair_equal_run hρ (E := EL [(63, tequalS)]) rfl (consOk_list (valid_cons (vTEqual hρ) valid_nil)) rfl h1 h2 h3 h4 hs
theorem vCommon1 : Valid ρ Tryz.prog 121 (rdS 10 none (rdF2 peF)) := Valid.rd (fo Tryz.func121 fB121) fun X cs r h hp x X0 RL hX hs q hq hc hnd hx => by
  obtain ⟨p, a, b, c, rfl, rfl, hF, rfl⟩ := rdF2_inv h
  have hEE : (EL [(122, fnS (spec3 peF))]).P = Tryz.prog := rfl
  have hcn : ConsOk ρ (EL [(122, fnS (spec3 peF))]) := consOk_list (valid_cons (vPairEq hρ) valid_nil)
  have hcc : (EL [(122, fnS (spec3 peF))]).con 122 = fnS (spec3 peF) := rfl
  rcases hx with ⟨rfl, rfl, hpx, hri⟩ | ⟨es, i, rfl, hne, rfl, rfl, h5, h6, h7⟩
  · rcases hX with ⟨rfl, _, _⟩ | ⟨es, e1, _⟩
    · refine rd_run (sz := 10) (g := none) (RL := []) (cs := [encTy a, encTy b]) hρ hcn follows named Tryz.func121 fB121 rfl hp ?_ hq hc hnd (.inl ⟨rfl, rfl, hpx, hri⟩)
      rw [show Tryz.f121.ntmps = 9 from rfl]
      obtain ⟨pa, pb⟩ := p
      simp [fS121r0, fS121r1, fS121, hEE, hcc, hF]
      exact GivesL.keep rfl rfl (by simp) (by simp) (by simp)
    · cases e1
  · rcases hX with ⟨e1, e2, _⟩ | ⟨es2, e1, _⟩
    · rw [oH_cons' hne] at e2; cases e2
    · cases e1
end
/-! ### IndexFunc over Pair -/
noncomputable def ixFP (l : List Pair) (c0 : Ty) (c1 : Ty) : Option Int := if l.length ≤ 100000 ∧ ∀ x ∈ l, (peF x c0 c1).isSome = true then some (idxF (fun x => (peF x c0 c1).getD false) l 0) else none
section
variable {ρ : Nat → Value} (hρ : J.Good ρ)
include hρ
section
variable {E : Env} (hE : E.P = Tryz.prog) (hcon : ConsOk ρ E)
include hE hcon
theorem slices_IndexFunc__lattice_pairlattice_pair_frzP (hc : E.con 121 = rdS 10 none (rdF2 peF)) {l : List Pair} {c0 : Ty} {c1 : Ty} (hl : l.length ≤ 100000) (hall : ∀ x ∈ l, (peF x c0 c1).isSome = true)  {r : Int} (hr : idxF (fun x => (peF x c0 c1).getD false) l 0 = r) :
    Wp ρ E 2 Tryz.f120.ntmps fS120 ((PT.leaf.set 0 (.sl (l.map encPair) false)).set 1 (.func 121 [.ptr 0 0 0, .ptr 1 0 0])) { H := mkP [(0, box (encTy c0)), (1, box (encTy c1))], n := 2, log := [] } (J.Leaves E.P Tryz.f120 (GivesL 2 (enc r) [(0, box (encTy c0)), (1, box (encTy c1))])) := by
  rw [show Tryz.f120.ntmps = 19 from rfl]
  simp [fS120r0, fS120r1, fS120r2, fS120r3, fS120r4, fS120r5, fS120b0, fS120r6, fS120b1, fS120r7, fS120, hE]
  refine lpi hρ hE hcon l.length (nn := 2) (fun i (_ : Unit) => [(0, .sl (l.map encPair) false), (1, .func 121 [.ptr 0 0 0, .ptr 1 0 0]), (7, .int .i64 (l.length : Int)), (8, .int .i64 (i : Int))])
    (fun i _ => [(0, box (encTy c0)), (1, box (encTy c1))]) (fun i _ => idxF (fun x => (peF x c0 c1).getD false) (l.drop i) (i : Int) = r) ()
    (Less.auto (by simp) (by simp) rfl rfl) (by simpa using hr) ?_ ?_
  · intro _ h K
    rw [List.drop_length, idxF] at h
    simp [fS120l0, fS120r0, fS120r1, fS120r2, fS120r3, fS120r4, fS120r5, fS120b0, fS120r6, fS120b1, fS120r7, fS120, hE]
    refine LessQ.mk (Less.auto (TL := []) (HL := [(0, box (encTy c0)), (1, box (encTy c1))]) (n := 2) (by simp) (by simp) rfl rfl) ?_
    simp [fS120r0, fS120r1, fS120r2, fS120r3, fS120r4, fS120r5, fS120b0, fS120r6, fS120b1, fS120r7, fS120, hE, ← h]
    exact GivesL.keep rfl rfl (by simp) (by simp) (by simp)
  · intro i _ hi h K hK
    have hi' : (i : Int) < l.length := by omega
    have hw2 : IntKind.i64.wrap ((i : Int) + 1) = ((i + 1 : Nat) : Int) := wrap_succ (by omega)
    have hm5 : (i * 10) / 10 = i := by omega
    have hm6 : (i * 10) % 10 = 0 := by omega
    obtain ⟨q, hq⟩ := Option.isSome_iff_exists.1 (hall l[i] (List.getElem_mem hi))
    rw [List.drop_eq_getElem_cons hi, idxF, hq] at h
    simp only [Option.getD_some] at h
    cases q with
    | true =>
      rw [if_pos rfl] at h
      simp [fS120l0, fS120r0, fS120r1, fS120r2, fS120r3, fS120r4, fS120r5, fS120b0, fS120r6, fS120b1, fS120r7, fS120, hE, hi, hi', hm5, hm6, hc, hq]
      refine LessQ.mk (Less.auto (TL := [(4, .int .i64 (i : Int))]) (HL := [(0, box (encTy c0)), (1, box (encTy c1))]) (n := 2) (by simp) (by simp) rfl rfl) ?_
      simp [fS120r0, fS120r1, fS120r2, fS120r3, fS120r4, fS120r5, fS120b0, fS120r6, fS120b1, fS120r7, fS120, hE, ← h]
      exact GivesL.keep rfl rfl (by simp) (by simp) (by simp)
    | false =>
      rw [if_neg (by decide)] at h
      have hnew := hK () h
      simp [fS120l0, fS120r0, fS120r1, fS120r2, fS120r3, fS120r4, fS120r5, fS120b0, fS120r6, fS120b1, fS120r7, fS120, hE, hi, hi', hm5, hm6, hc, hq, hw2, -Int.natCast_add]
      exact hnew _ _ (Less.auto (by simp [-Int.natCast_add]) (by simp) rfl rfl)
theorem slices_IndexFunc__lattice_pairlattice_pair_rowP (hc : E.con 121 = rdS 10 none (rdF2 peF)) {l : List Pair} {c0 : Ty} {c1 : Ty} (hl : l.length ≤ 100000) (hall : ∀ x ∈ l, (peF x c0 c1).isSome = true) (hne : l ≠ []) {r : Int} (hr : idxF (fun x => (peF x c0 c1).getD false) l 0 = r) :
    Wp ρ E 3 Tryz.f120.ntmps fS120 ((PT.leaf.set 0 (.own 2 (l.length - 1) 0 l.length none)).set 1 (.func 121 [.ptr 0 0 0, .ptr 1 0 0])) { H := mkP [(0, box (encTy c0)), (1, box (encTy c1)), (2, .arr 10 (l.length - 1) (l.map encPair) false false true)], n := 3, log := [] } (J.Leaves E.P Tryz.f120 (GivesL 3 (enc r) [(0, box (encTy c0)), (1, box (encTy c1)), (2, .arr 10 (l.length - 1) (l.map encPair) false false true)])) := by
  rw [show Tryz.f120.ntmps = 19 from rfl]
  have hpos : 0 < l.length := List.length_pos_iff.2 hne
  simp [fS120r0, fS120r1, fS120r2, fS120r3, fS120r4, fS120r5, fS120b0, fS120r6, fS120b1, fS120r7, fS120, hE]
  refine lpi hρ hE hcon l.length (nn := 3) (fun i (_ : Unit) => [(0, .own 2 (l.length - 1) 0 l.length none), (1, .func 121 [.ptr 0 0 0, .ptr 1 0 0]), (7, .int .i64 (l.length : Int)), (8, .int .i64 (i : Int))])
    (fun i _ => [(0, box (encTy c0)), (1, box (encTy c1)), (2, .arr 10 (l.length - 1) (l.map encPair) false false true)]) (fun i _ => idxF (fun x => (peF x c0 c1).getD false) (l.drop i) (i : Int) = r) ()
    (Less.auto (by simp) (by simp) rfl rfl) (by simpa using hr) ?_ ?_
  · intro _ h K
    rw [List.drop_length, idxF] at h
    simp [fS120l0, fS120r0, fS120r1, fS120r2, fS120r3, fS120r4, fS120r5, fS120b0, fS120r6, fS120b1, fS120r7, fS120, hE]
    refine LessQ.mk (Less.auto (TL := []) (HL := [(0, box (encTy c0)), (1, box (encTy c1)), (2, .arr 10 (l.length - 1) (l.map encPair) false false true)]) (n := 3) (by simp) (by simp) rfl rfl) ?_
    simp [fS120r0, fS120r1, fS120r2, fS120r3, fS120r4, fS120r5, fS120b0, fS120r6, fS120b1, fS120r7, fS120, hE, ← h]
    exact GivesL.keep rfl rfl (by simp) (by simp) (by simp)
  · intro i _ hi h K hK
    have hi' : (i : Int) < l.length := by omega
    have hw2 : IntKind.i64.wrap ((i : Int) + 1) = ((i + 1 : Nat) : Int) := wrap_succ (by omega)
    have hm5 : (i * 10) / 10 = i := by omega
    have hm6 : (i * 10) % 10 = 0 := by omega
    obtain ⟨q, hq⟩ := Option.isSome_iff_exists.1 (hall l[i] (List.getElem_mem hi))
    rw [List.drop_eq_getElem_cons hi, idxF, hq] at h
    simp only [Option.getD_some] at h
    cases q with
    | true =>
      rw [if_pos rfl] at h
      simp [fS120l0, fS120r0, fS120r1, fS120r2, fS120r3, fS120r4, fS120r5, fS120b0, fS120r6, fS120b1, fS120r7, fS120, hE, hi, hi', hm5, hm6, hc, hq]
      refine LessQ.mk (Less.auto (TL := [(4, .int .i64 (i : Int))]) (HL := [(0, box (encTy c0)), (1, box (encTy c1)), (2, .arr 10 (l.length - 1) (l.map encPair) false false true)]) (n := 3) (by simp) (by simp) rfl rfl) ?_
      simp [fS120r0, fS120r1, fS120r2, fS120r3, fS120r4, fS120r5, fS120b0, fS120r6, fS120b1, fS120r7, fS120, hE, ← h]
      exact GivesL.keep rfl rfl (by simp) (by simp) (by simp)
    | false =>
      rw [if_neg (by decide)] at h
      have hnew := hK () h
      simp [fS120l0, fS120r0, fS120r1, fS120r2, fS120r3, fS120r4, fS120r5, fS120b0, fS120r6, fS120b1, fS120r7, fS120, hE, hi, hi', hm5, hm6, hc, hq, hw2, -Int.natCast_add]
      exact hnew _ _ (Less.auto (by simp [-Int.natCast_add]) (by simp) rfl rfl)
theorem slices_IndexFunc__lattice_pairlattice_pair_nilP {c0 : Ty} {c1 : Ty} :
    Wp ρ E 2 Tryz.f120.ntmps fS120 ((PT.leaf.set 0 .snil).set 1 (.func 121 [.ptr 0 0 0, .ptr 1 0 0])) { H := mkP [(0, box (encTy c0)), (1, box (encTy c1))], n := 2, log := [] } (J.Leaves E.P Tryz.f120 (GivesL 2 (enc (-1 : Int)) [(0, box (encTy c0)), (1, box (encTy c1))])) := by
  rw [show Tryz.f120.ntmps = 19 from rfl]
  simp [fS120r0, fS120r1, fS120r2, fS120r3, fS120r4, fS120r5, fS120b0, fS120r6, fS120b1, fS120r7, fS120, hE]
  refine lpi hρ hE hcon 0 (nn := 2) (fun i (_ : Unit) => [(7, .int .i64 0), (8, .int .i64 0)]) (fun i _ => [(0, box (encTy c0)), (1, box (encTy c1))]) (fun i _ => True) ()
    (Less.auto (by simp) (by simp) rfl rfl) trivial ?_ ?_
  · intro _ h K
    simp [fS120l0, fS120r0, fS120r1, fS120r2, fS120r3, fS120r4, fS120r5, fS120b0, fS120r6, fS120b1, fS120r7, fS120, hE]
    refine LessQ.mk (Less.auto (TL := []) (HL := [(0, box (encTy c0)), (1, box (encTy c1))]) (n := 2) (by simp) (by simp) rfl rfl) ?_
    simp [fS120r0, fS120r1, fS120r2, fS120r3, fS120r4, fS120r5, fS120b0, fS120r6, fS120b1, fS120r7, fS120, hE]
    exact GivesL.keep rfl rfl (by simp) (by simp) (by simp)
  · intro i _ hi
    omega
end
theorem v_slices_IndexFunc__lattice_pairlattice_pairP : Valid ρ Tryz.prog 120 (rdS 10 (some 121) (rdF2 ixFP)) := Valid.rd (fo Tryz.func120 fB120) fun X cs r h hp x X0 RL hX hs q hq hc hnd hx => by
  obtain ⟨l, c0, c1, b, rfl, rfl, hF, rfl⟩ := rdF2_inv h
  obtain ⟨⟨h1, h2⟩, rfl⟩ := ite_inv hF
  have hEE : (EL [(121, rdS 10 none (rdF2 peF))]).P = Tryz.prog := rfl
  have hcn : ConsOk ρ (EL [(121, rdS 10 none (rdF2 peF))]) := consOk_list (valid_cons (vCommon1 hρ) valid_nil)
  have hfin := fun (k : V) (RL : List (Nat × J.Obj)) (T : PT V) (he) (hw) (hx) => rd_run (sz := 10) (g := some 121) (X0 := k) (RL := RL) (T := T) (cs := [encTy c0, encTy c1]) (x := x) (hs := hs) (q := q) hρ hcn follows named Tryz.func120 fB120 he hp hw hq hc hnd hx
  rcases hx with ⟨rfl, rfl, hpx, hri⟩ | ⟨es, i, rfl, hne, rfl, rfl, h5, h6, h7⟩
  · rcases hX with ⟨rfl, _, _⟩ | ⟨es, e1, e2, e3, _⟩
    · exact hfin _ [] _ rfl (slices_IndexFunc__lattice_pairlattice_pair_frzP hρ hEE hcn rfl h1 h2 rfl) (.inl ⟨rfl, rfl, hpx, hri⟩)
    · cases es with
      | nil =>
        have e0 : l = [] := by
          have e4 : l.map encPair = [] := by injection e1
          exact List.map_eq_nil_iff.1 e4
        subst e0
        have e5 : X0 = V.snil := e2
        subst e5
        exact hfin _ [] _ rfl (slices_IndexFunc__lattice_pairlattice_pair_nilP hρ hEE hcn) (.inl ⟨rfl, rfl, hpx, hri⟩)
      | cons e es => rw [oH_cons] at e3; cases e3
  · have hne2 : ∃ e l, es = e :: l := List.exists_cons_of_ne_nil hne
    rcases hX with ⟨e1, e2, _⟩ | ⟨es2, e1, e2, e3, _⟩
    · rw [oH_cons' hne] at e2; cases e2
    · have e4 : es = l.map encPair := by
        have e6 : l.map encPair = es2 := by injection e1
        rw [oH_cons' hne] at e3
        cases es2 with
        | nil => cases e3
        | cons y m =>
          rw [oH_cons' (by simp)] at e3
          have e7 : (J.oO 10 es) = J.oO 10 (y :: m) := by injection e3 with e8; injection e8
          have e9 : es = y :: m := by unfold oO at e7; injection e7
          rw [e9, ← e6]
      have hl0 : l ≠ [] := fun e => hne (by rw [e4, e]; rfl)
      have hV : ∀ i, oV i (l.map encPair) = .own i (l.length - 1) 0 l.length none := fun i => by rw [oV_cons' (by rw [← e4]; exact hne)]; simp
      have hO : oH 2 10 (l.map encPair) = [(2, .arr 10 (l.length - 1) (l.map encPair) false false true)] := by rw [oH_cons' (by rw [← e4]; exact hne)]; simp [J.oO]
      have hw := slices_IndexFunc__lattice_pairlattice_pair_rowP hρ hEE hcn rfl h1 h2 hl0 rfl
      refine hfin (oV 2 es) (oH 2 10 es) _ rfl ?_ (.inr ⟨es, i, rfl, hne, rfl, rfl, h5, h6, h7⟩)
      subst e4
      rw [hV]
      show Wp ρ _ ((2) + (oH 2 10 (l.map encPair)).length) _ _ _ { H := mkP ([(0, box (encTy c0)), (1, box (encTy c1))] ++ oH 2 10 (l.map encPair)), n := 2 + (oH 2 10 (l.map encPair)).length, log := [] } (J.Leaves _ _ (GivesL (2 + (oH 2 10 (l.map encPair)).length) _ ([(0, box (encTy c0)), (1, box (encTy c1))] ++ oH 2 10 (l.map encPair))))
      rw [hO]
      exact hw
end
end Go.Proofs.YthfcfmkdeheicaaGreat
