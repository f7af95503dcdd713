import Derived.Test.YthfcfmkdeheicaaGreatGM8
import Derived.Test.YthfcfmkdeheicaaGreatJQ
set_option linter.all false
set_option linter.all false
namespace Go.Proofs.YthfcfmkdeheicaaGreat
open Go.J
open Go.J.Enc (enc)
set_option maxRecDepth 100000
set_option maxHeartbeats 1000000
/-- the pairs' sides, numbered -/
def asgL (f : Pair → Ty) : List Pair → Nat → List Assign
  | [], _ => []
  | p :: L, i => ⟨(i : Int), f p⟩ :: asgL f L (i + 1)
theorem asgL_snoc (f : Pair → Ty) (p : Pair) : ∀ (L : List Pair) (i : Nat), asgL f (L ++ [p]) i = asgL f L i ++ [⟨((i + L.length : Nat) : Int), f p⟩] := by
  intro L
  induction L with
  | nil => intro i; rfl
  | cons q L ih => intro i; rw [List.cons_append, asgL, asgL, ih, List.cons_append, List.length_cons, show i + 1 + L.length = i + (L.length + 1) by omega]
theorem asgL_take (f : Pair → Ty) (L : List Pair) {i : Nat} (hi : i < L.length) : asgL f (L.take (i + 1)) 0 = asgL f (L.take i) 0 ++ [⟨(i : Int), f L[i]⟩] := by
  rw [List.take_add_one, List.getElem?_eq_getElem hi, Option.toList_some, asgL_snoc]
  simp [Nat.min_eq_left (Nat.le_of_lt hi)]
theorem asgL_len (f : Pair → Ty) : ∀ (L : List Pair) (i : Nat), (asgL f L i).length = L.length := by
  intro L
  induction L with
  | nil => intro i; rfl
  | cons p L ih => intro i; rw [asgL]; simp [ih]
noncomputable def topComF (a b : Ty) : Option (T3 Ty (List Assign) (List Assign)) := if a.ok = true ∧ b.ok = true ∧ a.size ≤ 8000 then some ⟨comM a b, asgL Pair.a (comL a b) 0, asgL Pair.b (comL a b) 0⟩ else none
section
variable {ρ : Nat → Value} (hρ : J.Good ρ)
include hρ
section
variable {E : Env} (hE : E.P = Tryz.prog) (hcon : ConsOk ρ E)
include hE hcon
theorem lattice_Common_run (hc : E.con 75 = rwS 10 false (rwF (commonF 8000))) {a b : Ty} (hao : a.ok = true) (hbo : b.ok = true) (hd : a.size ≤ 8000) (hs : HS) : CallOk ρ Tryz.prog 21 [enc a, enc b] hs (enc (⟨comM a b, asgL Pair.a (comL a b) 0, asgL Pair.b (comL a b) 0⟩ : T3 Ty (List Assign) (List Assign))) hs := by
  refine fn hρ hE hcon Tryz.func21 fB21 rfl (by simp) ?_ hs
  have hF : commonF 8000 a b [] = some (comL a b, comM a b) := if_pos ⟨hao, hbo, fun p hp => (by cases hp), by simpa using hd, hd⟩
  have hl : (comL a b).length ≤ 8000 := by
    have := (cm_gn (a := a) (b := b) (L := [])).2.2.2
    show (cmM a b []).2.length ≤ 8000
    simp at this; omega
  generalize comM a b = g at hF
  generalize comL a b = L at hF hl
  by_cases hL0 : L = []
  · subst hL0
    simp [fS21r0, fS21r1, fS21r2, fS21r3, fS21r4, fS21r5, fS21r6, fS21r7, fS21b0, fS21r8, fS21b1, fS21r9, fS21, hE, hc, hF]
    refine lpi hρ hE hcon 0 (nn := 2) (fun i (_ : Unit) => [(7, .ptr 0 0 0), (9, .snil), (10, .snil), (4, .ptr 1 0 0), (20, .int .i64 0), (21, .int .i64 0)]) (fun i _ => [(0, box (encTy g)), (1, box zTy)]) (fun i _ => True) ()
      (Less.auto (by simp) (by simp) rfl rfl) trivial ?_ ?_
    · intro _ h K
      simp [fS21l0, fS21r0, fS21r1, fS21r2, fS21r3, fS21r4, fS21r5, fS21r6, fS21r7, fS21b0, fS21r8, fS21b1, fS21r9, fS21, hE]
      refine LessQ.mk (Less.auto (TL := [(7, .ptr 0 0 0), (9, .snil), (10, .snil), (4, .ptr 1 0 0)]) (HL := [(0, box (encTy g)), (1, box zTy)]) (n := 2) (by simp) (by simp) rfl rfl) ?_
      simp [fS21r0, fS21r1, fS21r2, fS21r3, fS21r4, fS21r5, fS21r6, fS21r7, fS21b0, fS21r8, fS21b1, fS21r9, fS21, hE, asgL]
    · intro i _ hi
      omega
  · have hne : L.map encPair ≠ [] := fun e => hL0 (List.map_eq_nil_iff.1 e)
    have hV : ∀ r, oV r (L.map encPair) = .own r (L.length - 1) 0 L.length none := fun r => by rw [oV_cons' hne]; simp
    have hO : oO 10 (L.map encPair) = .arr 10 (L.length - 1) (L.map encPair) false false true := by simp [oO]
    have hpos : 0 < L.length := List.length_pos_iff.2 hL0
    have hz : ¬ L.length = 0 := by omega
    simp [fS21r0, fS21r1, fS21r2, fS21r3, fS21r4, fS21r5, fS21r6, fS21r7, fS21b0, fS21r8, fS21b1, fS21r9, fS21, hE, hc, hF, hV, hO, hz, hL0]
    refine lpi hρ hE hcon L.length (nn := 5) (fun i (X : List Assign × List Assign) => [(7, .ptr 0 0 0), (4, .ptr 1 0 0), (9, oV 3 (X.1.map encAssign)), (10, oV 4 (X.2.map encAssign)), (19, .own 2 (L.length - 1) 0 L.length none), (20, .int .i64 (L.length : Int)), (21, .int .i64 (i : Int))])
      (fun i X => [(0, box (encTy g)), (1, box zTy), (2, .arr 10 (L.length - 1) (L.map encPair) false false true)] ++ oH 3 6 (X.1.map encAssign) ++ oH 4 6 (X.2.map encAssign)) (fun i X => X.1 = asgL Pair.a (L.take i) 0 ∧ X.2 = asgL Pair.b (L.take i) 0) ([], [])
      (Less.auto (by simp) (by simp) rfl rfl) ⟨rfl, rfl⟩ ?_ ?_
    · rintro ⟨X, Y⟩ ⟨h1, h2⟩ K
      simp only [List.take_length] at h1 h2
      rw [← h1, ← h2]
      have hx := asgL_len Pair.a L 0
      have hy := asgL_len Pair.b L 0
      rw [← h1] at hx
      rw [← h2] at hy
      rcases X with _ | ⟨x, X⟩
      · simp at hx; omega
      · rcases Y with _ | ⟨y, Y⟩
        · simp at hy; omega
        · simp [fS21l0, fS21r0, fS21r1, fS21r2, fS21r3, fS21r4, fS21r5, fS21r6, fS21r7, fS21b0, fS21r8, fS21b1, fS21r9, fS21, hE]
          refine LessQ.mk (Less.auto (TL := [(7, .ptr 0 0 0), (4, .ptr 1 0 0), (9, oV 2 ((x :: X).map encAssign)), (10, oV 3 ((y :: Y).map encAssign))]) (HL := [(0, box (encTy g)), (1, box zTy)] ++ oH 2 6 ((x :: X).map encAssign) ++ oH 3 6 ((y :: Y).map encAssign)) (n := 4) (by simp) (by simp) rfl rfl) ?_
          simp [fS21r0, fS21r1, fS21r2, fS21r3, fS21r4, fS21r5, fS21r6, fS21r7, fS21b0, fS21r8, fS21b1, fS21r9, fS21, hE]
    · rintro i ⟨X, Y⟩ hi ⟨h1, h2⟩ K hK
      simp only at h1 h2
      have hi' : (i : Int) < L.length := by omega
      have hw2 : IntKind.i64.wrap ((i : Int) + 1) = ((i + 1 : Nat) : Int) := wrap_succ (by omega)
      have hw0 : IntKind.i64.wrap 1 = 1 := rfl
      have hm5 : (i * 10) / 10 = i := by omega
      have hm6 : (i * 10) % 10 = 0 := by omega
      have hx := asgL_len Pair.a (L.take i) 0
      have hy := asgL_len Pair.b (L.take i) 0
      rw [← h1, List.length_take] at hx
      rw [← h2, List.length_take] at hy
      have hnew := hK (X ++ [⟨(i : Int), L[i].a⟩], Y ++ [⟨(i : Int), L[i].b⟩]) ⟨by rw [asgL_take Pair.a L hi, h1], by rw [asgL_take Pair.b L hi, h2]⟩
      rcases X with _ | ⟨x, X⟩
      · have hi0 : i = 0 := by simp at hx; omega
        subst hi0
        rcases Y with _ | ⟨y, Y⟩
        · simp [fS21l0, fS21r0, fS21r1, fS21r2, fS21r3, fS21r4, fS21r5, fS21r6, fS21r7, fS21b0, fS21r8, fS21b1, fS21r9, fS21, hE, hi, hi', hw2, -Int.natCast_add]
          exact hnew _ _ (Less.auto (by simp [hw0, -Int.natCast_add]) (by simp) rfl rfl)
        · simp at hy
      · rcases Y with _ | ⟨y, Y⟩
        · simp at hx hy; omega
        · have hx1 : X.length + 1 + 1 ≤ 8002 := by simp only [List.length_cons] at hx; omega
          have hy1 : Y.length + 1 + 1 ≤ 8002 := by simp only [List.length_cons] at hy; omega
          have hx64 : (X.length + 1 + 1) * 72 ≤ 1048576 := Nat.le_trans (Nat.mul_le_mul_right 72 hx1) (by decide)
          have hy64 : (Y.length + 1 + 1) * 72 ≤ 1048576 := Nat.le_trans (Nat.mul_le_mul_right 72 hy1) (by decide)
          have e1 : X.length + 1 = i := by simp only [List.length_cons] at hx; omega
          have e2 : Y.length + 1 = i := by simp only [List.length_cons] at hy; omega
          simp [fS21l0, fS21r0, fS21r1, fS21r2, fS21r3, fS21r4, fS21r5, fS21r6, fS21r7, fS21b0, fS21r8, fS21b1, fS21r9, fS21, hE, hi, hi', hm5, hm6, hx64, hy64, hw2, Nat.not_succ_le_self, -Int.natCast_add]
          exact hnew _ _ (Less.auto (by simp [-Int.natCast_add]) (by simp) rfl rfl)
end
theorem vLcommon (d : Nat) : Valid ρ Tryz.prog 75 (rwS 10 false (rwF (commonF d))) := by
  induction d with
  | zero =>
    refine Valid.rw (fo Tryz.func75 fB75) fun a b es r _ _ h0 h _ _ _ hs v hv hvac => ?_
    obtain ⟨p, t, L, q, rfl, rfl, rfl, hF, rfl⟩ := rwF_inv h
    obtain ⟨⟨h1, h2, h3, h4, h5⟩, rfl⟩ := ite_inv hF
    have := Ty.size_pos p
    omega
  | succ d ih =>
    refine Valid.rw (fo Tryz.func75 fB75) fun a b es r _ _ h0 h _ _ _ hs v hv hvac => ?_
    obtain ⟨p, t, L, q, rfl, rfl, rfl, hF, rfl⟩ := rwF_inv h
    obtain ⟨⟨h1, h2, h3, h4, h5⟩, rfl⟩ := ite_inv hF
    exact lattice_common_run hρ (E := EL [(75, rwS 10 false (rwF (commonF d))), (119, fnS (spec2 fun a b : Ty => some (a.same b))), (120, rdS 10 (some 121) (rdF2 ixFP)), (86, fnS (spec1 fun i : Int => some (tVar i)))]) rfl
      (consOk_list (valid_cons ih (valid_cons (vLSame hρ) (valid_cons (v_slices_IndexFunc__lattice_pairlattice_pairP hρ) (valid_cons (vTVar hρ) valid_nil))))) rfl rfl rfl rfl h1 h2 h3 h4 h5 rfl hv hvac
noncomputable def comS : J.Spec := fnS (spec2 topComF)
theorem vLCommon : Valid ρ Tryz.prog 21 comS := v2 (fo Tryz.func21 fB21) fun a b r h hs => by
  obtain ⟨⟨h1, h2, h3⟩, rfl⟩ := ite_inv h
  exact lattice_Common_run hρ (E := EL [(75, rwS 10 false (rwF (commonF 8000)))]) rfl (consOk_list (valid_cons (vLcommon hρ 8000) valid_nil)) rfl h1 h2 h3 hs
end
end Go.Proofs.YthfcfmkdeheicaaGreat
