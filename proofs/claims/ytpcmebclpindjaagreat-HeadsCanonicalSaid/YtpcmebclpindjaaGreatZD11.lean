import Derived.Test.YtpcmebclpindjaaGreatZD10
set_option linter.all false
set_option linter.all false
namespace Go.Proofs.YtpcmebclpindjaaGreat
open Go.J
open Go.J.Enc (enc)
set_option maxRecDepth 100000
set_option maxHeartbeats 1000000
section
variable {ρ : Nat → Value} (hρ : J.Good ρ)
include hρ
section
variable {E : Env} (hE : E.P = Tryz.prog) (hcon : ConsOk ρ E)
include hE hcon
theorem heads_Canonical_run (hV : E.con 58 = tvarsS) (hR : E.con 60 = replaceS) (hv : E.con 59 = fnS (spec1 fun i : Int => some (tVar i))) {l : List Ty} (hl : Ty.oks l = true) (hll : l.length ≤ 1000) (hsz : Ty.sizes l ≤ 10000) (hvl : (colTs l []).length ≤ 1000) (hs : HS) :
    CallOk ρ Tryz.prog 19 [enc l] hs (enc (l.map (Ty.reb (leafR (numA (colTs l []) 0))))) hs := by
  refine fn hρ hE hcon Tryz.func19 BS_heads_Canonical rfl (by simp) ?_ hs
  have h10 : l.length ≤ 1000000 := by omega
  have h11 : Ty.sizes l ≤ 100000 := by omega
  simp [S_heads_Canonical_r0, S_heads_Canonical_r1, S_heads_Canonical_r2, S_heads_Canonical_r3, S_heads_Canonical_r4, S_heads_Canonical_r5, S_heads_Canonical_b0, S_heads_Canonical_r6, S_heads_Canonical_b1, S_heads_Canonical_r7, S_heads_Canonical_r8, S_heads_Canonical_r9, S_heads_Canonical_r10, S_heads_Canonical_r11, S_heads_Canonical_b2, S_heads_Canonical_r12, S_heads_Canonical_b3, S_heads_Canonical_r13, S_heads_Canonical, hE, hV, tvarsS, hl, h10, h11]
  generalize colTs l [] = ids at hvl ⊢
  have hg1 : l.length * 64 ≤ 1048576 := by omega
  have hg2 : l.length * 5 ≤ 1048576 := by omega
  refine lpi hρ hE hcon ids.length (nn := 1) (fun i (S : List Assign) => [(0, .sl (l.map encTy) false), (3, oV 0 (S.map encAssign)), (10, .sl (ids.map encI) false), (11, .int .i64 (ids.length : Int)), (12, .int .i64 (i : Int))]) (fun i S => oH 0 6 (S.map encAssign)) (fun i S => S = numA (ids.take i) 0) []
    (Less.auto (by simp) (by simp) (by simp) (by simp)) rfl ?_ ?_
  · intro S hS K
    rw [List.take_length] at hS
    rw [← hS]
    have hSl : S.length ≤ 100000 := by rw [hS, numA_len]; omega
    clear hS
    have hml : (l.map (Ty.reb (leafR S))).length = l.length := List.length_map ..
    rcases S with _ | ⟨x, S⟩
    · simp [S_heads_Canonical_l0, S_heads_Canonical_r0, S_heads_Canonical_r1, S_heads_Canonical_r2, S_heads_Canonical_r3, S_heads_Canonical_r4, S_heads_Canonical_r5, S_heads_Canonical_b0, S_heads_Canonical_r6, S_heads_Canonical_b1, S_heads_Canonical_r7, S_heads_Canonical_r8, S_heads_Canonical_r9, S_heads_Canonical_r10, S_heads_Canonical_r11, S_heads_Canonical_b2, S_heads_Canonical_r12, S_heads_Canonical_b3, S_heads_Canonical_r13, S_heads_Canonical, hE]
      refine LessQ.mk (Less.auto (TL := [(0, .sl (l.map encTy) false), (3, .snil)]) (HL := []) (n := 1) (by simp) (by simp) (by simp) (by simp)) ?_
      simp [S_heads_Canonical_r0, S_heads_Canonical_r1, S_heads_Canonical_r2, S_heads_Canonical_r3, S_heads_Canonical_r4, S_heads_Canonical_r5, S_heads_Canonical_b0, S_heads_Canonical_r6, S_heads_Canonical_b1, S_heads_Canonical_r7, S_heads_Canonical_r8, S_heads_Canonical_r9, S_heads_Canonical_r10, S_heads_Canonical_r11, S_heads_Canonical_b2, S_heads_Canonical_r12, S_heads_Canonical_b3, S_heads_Canonical_r13, S_heads_Canonical, hE, hg1, hg2]
      refine lpi hρ hE hcon l.length (nn := 2) (fun i (_ : Unit) => [(3, .snil), (6, .own 0 0 0 l.length (some l.length)), (28, .sl (l.map encTy) false), (29, .int .i64 (l.length : Int)), (30, .int .i64 (i : Int))]) (fun i _ => [(0, .arr 5 0 (fillR (l.map (Ty.reb (leafR []))) l.length i) true false true)]) (fun i _ => True) ()
        (Less.auto (by simp) (by simp [fillR_zero]) (by simp) (by simp)) trivial ?_ ?_
      · intro _ _ K
        rw [fillR_full hml]
        simp [S_heads_Canonical_l1, S_heads_Canonical_r0, S_heads_Canonical_r1, S_heads_Canonical_r2, S_heads_Canonical_r3, S_heads_Canonical_r4, S_heads_Canonical_r5, S_heads_Canonical_b0, S_heads_Canonical_r6, S_heads_Canonical_b1, S_heads_Canonical_r7, S_heads_Canonical_r8, S_heads_Canonical_r9, S_heads_Canonical_r10, S_heads_Canonical_r11, S_heads_Canonical_b2, S_heads_Canonical_r12, S_heads_Canonical_b3, S_heads_Canonical_r13, S_heads_Canonical, hE]
        refine LessQ.mk (Less.auto (TL := [(6, .own 0 0 0 l.length (some l.length))]) (HL := [(0, .arr 5 0 ((l.map (Ty.reb (leafR []))).map encTy) true false true)]) (n := 1) (by simp) (by simp) (by simp) (by simp)) ?_
        have hnn : normLL (l.map (encTy ∘ Ty.reb (leafR []))) = l.map (encTy ∘ Ty.reb (leafR [])) := by rw [← List.map_map]; simp [-List.map_map]
        simp [S_heads_Canonical_r0, S_heads_Canonical_r1, S_heads_Canonical_r2, S_heads_Canonical_r3, S_heads_Canonical_r4, S_heads_Canonical_r5, S_heads_Canonical_b0, S_heads_Canonical_r6, S_heads_Canonical_b1, S_heads_Canonical_r7, S_heads_Canonical_r8, S_heads_Canonical_r9, S_heads_Canonical_r10, S_heads_Canonical_r11, S_heads_Canonical_b2, S_heads_Canonical_r12, S_heads_Canonical_b3, S_heads_Canonical_r13, S_heads_Canonical, hE, hnn]
      · intro i _ hi _ K hK
        have hi' : (i : Int) < l.length := by omega
        have hw2 : IntKind.i64.wrap ((i : Int) + 1) = ((i + 1 : Nat) : Int) := wrap_succ (by omega)
        have hok : l[i].ok = true := Ty.oks_iff.1 hl _ (List.getElem_mem hi)
        have hiR : i < (fillR (l.map (Ty.reb (leafR []))) l.length i).length := by rw [fillR_len hml (Nat.le_of_lt hi)]; exact hi
        have hov := fillR_over hml hi hiR
        rw [List.getElem_map] at hov
        have hnew := hK () trivial
        have hm5 : (i * 5) / 5 = i := by omega
        have hm6 : (i * 5) % 5 = 0 := by omega
        generalize hy : l[i].reb (leafR []) = y at hov
        simp [encTy_n] at hov
        simp [S_heads_Canonical_l1, S_heads_Canonical_r0, S_heads_Canonical_r1, S_heads_Canonical_r2, S_heads_Canonical_r3, S_heads_Canonical_r4, S_heads_Canonical_r5, S_heads_Canonical_b0, S_heads_Canonical_r6, S_heads_Canonical_b1, S_heads_Canonical_r7, S_heads_Canonical_r8, S_heads_Canonical_r9, S_heads_Canonical_r10, S_heads_Canonical_r11, S_heads_Canonical_b2, S_heads_Canonical_r12, S_heads_Canonical_b3, S_heads_Canonical_r13, S_heads_Canonical, hE, hi, hi', hR, replaceS, hok, hSl, hy, hw2, hiR, hm5, hm6, hov, -Int.natCast_add]
        exact hnew _ _ (Less.auto (by simp [-Int.natCast_add]) (by simp) (by simp) (by simp))
    · simp [S_heads_Canonical_l0, S_heads_Canonical_r0, S_heads_Canonical_r1, S_heads_Canonical_r2, S_heads_Canonical_r3, S_heads_Canonical_r4, S_heads_Canonical_r5, S_heads_Canonical_b0, S_heads_Canonical_r6, S_heads_Canonical_b1, S_heads_Canonical_r7, S_heads_Canonical_r8, S_heads_Canonical_r9, S_heads_Canonical_r10, S_heads_Canonical_r11, S_heads_Canonical_b2, S_heads_Canonical_r12, S_heads_Canonical_b3, S_heads_Canonical_r13, S_heads_Canonical, hE]
      refine LessQ.mk (Less.auto (TL := [(0, .sl (l.map encTy) false), (3, oV 0 ((x :: S).map encAssign))]) (HL := oH 0 6 ((x :: S).map encAssign)) (n := 1) (by simp) (by simp) (by simp) (by simp)) ?_
      simp [S_heads_Canonical_r0, S_heads_Canonical_r1, S_heads_Canonical_r2, S_heads_Canonical_r3, S_heads_Canonical_r4, S_heads_Canonical_r5, S_heads_Canonical_b0, S_heads_Canonical_r6, S_heads_Canonical_b1, S_heads_Canonical_r7, S_heads_Canonical_r8, S_heads_Canonical_r9, S_heads_Canonical_r10, S_heads_Canonical_r11, S_heads_Canonical_b2, S_heads_Canonical_r12, S_heads_Canonical_b3, S_heads_Canonical_r13, S_heads_Canonical, hE, hg1, hg2]
      refine lpi hρ hE hcon l.length (nn := 2) (fun i (_ : Bool) => [(3, oV 0 ((x :: S).map encAssign)), (6, .own 1 0 0 l.length (some l.length)), (28, .sl (l.map encTy) false), (29, .int .i64 (l.length : Int)), (30, .int .i64 (i : Int))])
        (fun i b => [(0, J.Obj.arr 6 S.length ((x :: S).map encAssign) false b true), (1, .arr 5 0 (fillR (l.map (Ty.reb (leafR (x :: S)))) l.length i) true false true)]) (fun i _ => True) false
        (Less.auto (by simp) (by simp [fillR_zero]) (by simp) (by simp)) trivial ?_ ?_
      · intro b _ K
        rw [fillR_full hml]
        simp [S_heads_Canonical_l1, S_heads_Canonical_r0, S_heads_Canonical_r1, S_heads_Canonical_r2, S_heads_Canonical_r3, S_heads_Canonical_r4, S_heads_Canonical_r5, S_heads_Canonical_b0, S_heads_Canonical_r6, S_heads_Canonical_b1, S_heads_Canonical_r7, S_heads_Canonical_r8, S_heads_Canonical_r9, S_heads_Canonical_r10, S_heads_Canonical_r11, S_heads_Canonical_b2, S_heads_Canonical_r12, S_heads_Canonical_b3, S_heads_Canonical_r13, S_heads_Canonical, hE]
        refine LessQ.mk (Less.auto (TL := [(6, .own 0 0 0 l.length (some l.length))]) (HL := [(0, .arr 5 0 ((l.map (Ty.reb (leafR (x :: S)))).map encTy) true false true)]) (n := 1) (by simp) (by simp) (by simp) (by simp)) ?_
        have hnn : normLL (l.map (encTy ∘ Ty.reb (leafR (x :: S)))) = l.map (encTy ∘ Ty.reb (leafR (x :: S))) := by rw [← List.map_map]; simp [-List.map_map]
        simp [S_heads_Canonical_r0, S_heads_Canonical_r1, S_heads_Canonical_r2, S_heads_Canonical_r3, S_heads_Canonical_r4, S_heads_Canonical_r5, S_heads_Canonical_b0, S_heads_Canonical_r6, S_heads_Canonical_b1, S_heads_Canonical_r7, S_heads_Canonical_r8, S_heads_Canonical_r9, S_heads_Canonical_r10, S_heads_Canonical_r11, S_heads_Canonical_b2, S_heads_Canonical_r12, S_heads_Canonical_b3, S_heads_Canonical_r13, S_heads_Canonical, hE, hnn]
      · intro i b hi _ K hK
        have hi' : (i : Int) < l.length := by omega
        have hw2 : IntKind.i64.wrap ((i : Int) + 1) = ((i + 1 : Nat) : Int) := wrap_succ (by omega)
        have hok : l[i].ok = true := Ty.oks_iff.1 hl _ (List.getElem_mem hi)
        have hiR : i < (fillR (l.map (Ty.reb (leafR (x :: S)))) l.length i).length := by rw [fillR_len hml (Nat.le_of_lt hi)]; exact hi
        have hov := fillR_over hml hi hiR
        rw [List.getElem_map] at hov
        have hnew := hK true trivial
        have hm5 : (i * 5) / 5 = i := by omega
        have hm6 : (i * 5) % 5 = 0 := by omega
        have hSl' : S.length + 1 ≤ 100000 := by simpa using hSl
        generalize hy : l[i].reb (leafR (x :: S)) = y at hov
        simp [encTy_n] at hov
        simp [S_heads_Canonical_l1, S_heads_Canonical_r0, S_heads_Canonical_r1, S_heads_Canonical_r2, S_heads_Canonical_r3, S_heads_Canonical_r4, S_heads_Canonical_r5, S_heads_Canonical_b0, S_heads_Canonical_r6, S_heads_Canonical_b1, S_heads_Canonical_r7, S_heads_Canonical_r8, S_heads_Canonical_r9, S_heads_Canonical_r10, S_heads_Canonical_r11, S_heads_Canonical_b2, S_heads_Canonical_r12, S_heads_Canonical_b3, S_heads_Canonical_r13, S_heads_Canonical, hE, hi, hi', hR, replaceS, hok, hSl', hy, hw2, hiR, hm5, hm6, hov, -Int.natCast_add]
        exact hnew _ _ (Less.auto (by simp [-Int.natCast_add]) (by simp) (by simp) (by simp))
  · intro i S hi hS K hK
    have hi' : (i : Int) < ids.length := by omega
    have hw2 : IntKind.i64.wrap ((i : Int) + 1) = ((i + 1 : Nat) : Int) := wrap_succ (by omega)
    have hnew := hK (S ++ [⟨ids[i], tVar (i : Int)⟩]) (by
      rw [List.take_add_one, List.getElem?_eq_getElem hi, Option.toList_some, numA_snoc, hS, List.length_take]
      rw [Nat.min_eq_left (by omega), Nat.zero_add])
    have hSl : S.length = i := by rw [hS, numA_len, List.length_take]; omega
    clear hS
    have hb : S.length ≤ 1000 := by omega
    rcases S with _ | ⟨x, S⟩
    · simp [S_heads_Canonical_l0, S_heads_Canonical_r0, S_heads_Canonical_r1, S_heads_Canonical_r2, S_heads_Canonical_r3, S_heads_Canonical_r4, S_heads_Canonical_r5, S_heads_Canonical_b0, S_heads_Canonical_r6, S_heads_Canonical_b1, S_heads_Canonical_r7, S_heads_Canonical_r8, S_heads_Canonical_r9, S_heads_Canonical_r10, S_heads_Canonical_r11, S_heads_Canonical_b2, S_heads_Canonical_r12, S_heads_Canonical_b3, S_heads_Canonical_r13, S_heads_Canonical, hE, hi, hi', hv, tVar, hw2, -Int.natCast_add]
      exact hnew _ _ (Less.auto (by simp [tVar, -Int.natCast_add]) (by simp [tVar]) (by simp) (by simp))
    · have hb1 : S.length + 1 ≤ 1000 := hb
      have k1 : (S.length + 1 + 1) * 72 ≤ 1048576 := Nat.le_trans (Nat.mul_le_mul_right 72 (Nat.succ_le_succ hb1)) (by decide)
      simp [S_heads_Canonical_l0, S_heads_Canonical_r0, S_heads_Canonical_r1, S_heads_Canonical_r2, S_heads_Canonical_r3, S_heads_Canonical_r4, S_heads_Canonical_r5, S_heads_Canonical_b0, S_heads_Canonical_r6, S_heads_Canonical_b1, S_heads_Canonical_r7, S_heads_Canonical_r8, S_heads_Canonical_r9, S_heads_Canonical_r10, S_heads_Canonical_r11, S_heads_Canonical_b2, S_heads_Canonical_r12, S_heads_Canonical_b3, S_heads_Canonical_r13, S_heads_Canonical, hE, hi, hi', hv, tVar, hw2, k1, Nat.not_succ_le_self, -Int.natCast_add]
      exact hnew _ _ (Less.auto (by simp [tVar, -Int.natCast_add]) (by simp [tVar]) (by simp) (by simp))
end
noncomputable def hcanonF (l : List Ty) : Option (List Ty) := if Ty.oks l = true ∧ l.length ≤ 1000 ∧ Ty.sizes l ≤ 10000 ∧ (colTs l []).length ≤ 1000 then some (l.map (Ty.reb (leafR (numA (colTs l []) 0)))) else none
noncomputable def hcanonS : J.Spec := fnS (spec1 hcanonF)
theorem vHCanon : Valid ρ Tryz.prog 19 hcanonS := v1 (fo Tryz.func19 BS_heads_Canonical) fun a r h hs => by
  obtain ⟨⟨h1, h2, h3, h4⟩, rfl⟩ := ite_inv h
  exact heads_Canonical_run hρ (E := EL [(58, tvarsS), (60, replaceS), (59, fnS (spec1 fun i : Int => some (tVar i)))]) rfl
    (consOk_list (valid_cons (vTVars hρ) (valid_cons (vTReplace hρ) (valid_cons (vTVar hρ) valid_nil)))) rfl rfl rfl h1 h2 h3 h4 hs
end
end Go.Proofs.YtpcmebclpindjaaGreat
