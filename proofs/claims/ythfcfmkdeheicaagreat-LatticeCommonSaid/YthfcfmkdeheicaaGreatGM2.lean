import Derived.Test.YthfcfmkdeheicaaGreatGM1
import Derived.Test.YthfcfmkdeheicaaGreatJS
import Derived.Test.YthfcfmkdeheicaaGreatJN
set_option linter.all false
set_option linter.all false
namespace Go.Proofs.YthfcfmkdeheicaaGreat
open Go.J
open Go.J.Enc (enc)
set_option maxRecDepth 100000
set_option maxHeartbeats 1000000
/-! Replacing by a substitution that is written still -/
noncomputable def leafRF (t : Ty) (s : List Assign) : Option Ty := if s.length ≤ 100000 ∧ t.ok = true then some (leafR s t) else none
noncomputable def leafRG (t : Ty) (s : List Assign) : Option Ty := if s.length ≤ 100000 ∧ t.ok = true ∧ t.args = [] then some (leafR s t) else none
section
variable {ρ : Nat → Value} (hρ : J.Good ρ)
include hρ
section
variable {E : Env} (hE : E.P = Tryz.prog) (hcon : ConsOk ρ E)
include hE hcon
theorem types_Replace_1_rrun {t : Ty} {s : List Assign} (ht : t.ok = true) (hsl : s.length ≤ 100000) (hne : s ≠ []) {g id ro : Nat} {vs : List V} {hs : HS} (hg : (rrD 6 2 g (enc t) id ro (s.map encAssign) (enc (leafR s t))).Good) (hfit : (rrD 6 2 g (enc t) id ro (s.map encAssign) (enc (leafR s t))).Fits vs hs) :
    CallOk ρ Tryz.prog 160 vs hs (enc (leafR s t)) hs := by
  rw [← hE]
  refine rdG_run (D := rrD 6 2 g (enc t) id ro (s.map encAssign) (enc (leafR s t))) hρ hcon (by rw [hE]; exact follows) (by rw [hE]; exact named) (by rw [hE]; exact Tryz.func160) fB160 rfl hg rfl (enc_pure1 _) ?_ hfit
  show Wp ρ E 2 _ _ _ { H := mkP [(0, box [oV 1 (s.map encAssign)]), (1, oO 6 (s.map encAssign))], n := 2, log := [] } (J.Leaves E.P _ (GivesL 2 (enc (leafR s t)) [(0, box [oV 1 (s.map encAssign)]), (1, oO 6 (s.map encAssign))]))
  obtain ⟨x, l, rfl⟩ := List.exists_cons_of_ne_nil hne
  unfold leafR
  generalize hsq : x :: l = s at *
  have hlen : l.length + 1 = s.length := by rw [← hsq]; rfl
  have hV : ∀ i, oV i (s.map encAssign) = .own i (s.length - 1) 0 s.length none := fun i => by rw [← hsq]; simp
  have hO : oO 6 (s.map encAssign) = .arr 6 (s.length - 1) (s.map encAssign) false false true := by rw [← hsq]; simp
  rw [hV, hO]
  have hpos : 0 < s.length := by omega
  by_cases hk : t.kind = 1
  · rw [if_pos hk]
    simp [fS160r0, fS160r1, fS160r2, fS160r3, fS160r4, fS160r5, fS160r6, fS160b0, fS160r7, fS160b1, fS160r8, fS160, hE, hk]
    refine lpi hρ hE hcon s.length (nn := 4) (fun i (_ : Unit) => [(1, .ptr 0 0 0), (2, .ptr 2 0 0), (3, .ptr 3 0 0), (9, .own 1 (s.length - 1) 0 s.length none), (10, .int .i64 (s.length : Int)), (11, .int .i64 (i : Int))])
      (fun i _ => [(0, box [.own 1 (s.length - 1) 0 s.length none]), (1, .arr 6 (s.length - 1) (s.map encAssign) false false true), (2, box (encTy t)), (3, box [.int .i64 0, .str [], .int .i64 0, .int .i64 0, .snil])]) (fun i _ => lookA (s.take i) t.id = none) ()
      (Less.auto (by simp) (by simp [hk]) rfl rfl) rfl ?_ ?_
    · intro _ hl K
      rw [List.take_length] at hl
      simp [fS160l0, fS160r0, fS160r1, fS160r2, fS160r3, fS160r4, fS160r5, fS160r6, fS160b0, fS160r7, fS160b1, fS160r8, fS160, hE]
      refine LessQ.mk (Less.auto (TL := [(2, .ptr 2 0 0), (3, .ptr 3 0 0)]) (HL := [(0, box [.own 1 (s.length - 1) 0 s.length none]), (1, .arr 6 (s.length - 1) (s.map encAssign) false false true), (2, box (encTy t)), (3, box [.int .i64 0, .str [], .int .i64 0, .int .i64 0, .snil])]) (n := 4) (by simp) (by simp [hk]) rfl rfl) ?_
      simp [fS160r0, fS160r1, fS160r2, fS160r3, fS160r4, fS160r5, fS160r6, fS160b0, fS160r7, fS160b1, fS160r8, fS160, hE, hl, hk]
      exact GivesL.keep rfl rfl (by simp) (by simp) (by simp)
    · intro i _ hi hl K hK
      have hi' : (i : Int) < s.length := by omega
      have hw2 : IntKind.i64.wrap ((i : Int) + 1) = ((i + 1 : Nat) : Int) := wrap_succ (by omega)
      have hlk : ∀ j, lookA (s.take (i + 1)) j = (lookA (s.take i) j).or (lookA [s[i]] j) := fun j => by
        rw [List.take_add_one, List.getElem?_eq_getElem hi, Option.toList_some, lookA_app]
      have hm5 : (i * 6) / 6 = i := by omega
      have hm6 : (i * 6) % 6 = 0 := by omega
      by_cases he : s[i].id = t.id
      · have hres : lookA s t.id = some s[i].type := by
          conv => lhs; rw [← List.take_append_drop (i + 1) s]
          rw [lookA_app, hlk, hl]
          simp [lookA, he]
        simp [fS160l0, fS160r0, fS160r1, fS160r2, fS160r3, fS160r4, fS160r5, fS160r6, fS160b0, fS160r7, fS160b1, fS160r8, fS160, hE, hi, hi', he, hk, hm5, hm6]
        refine LessQ.mk (Less.auto (TL := [(3, .ptr 3 0 0)]) (HL := [(0, box [.own 1 (s.length - 1) 0 s.length none]), (1, .arr 6 (s.length - 1) (s.map encAssign) false false true), (3, box (encTy s[i].type))]) (n := 4) (by simp) (by simp) rfl rfl) ?_
        simp [fS160r0, fS160r1, fS160r2, fS160r3, fS160r4, fS160r5, fS160r6, fS160b0, fS160r7, fS160b1, fS160r8, fS160, hE, hres]
        exact GivesL.keep rfl rfl (by simp) (by simp) (by simp)
      · have hnew := hK () (by rw [hlk, hl]; simp [lookA, he])
        simp [fS160l0, fS160r0, fS160r1, fS160r2, fS160r3, fS160r4, fS160r5, fS160r6, fS160b0, fS160r7, fS160b1, fS160r8, fS160, hE, hi, hi', he, hk, hw2, hm5, hm6, -Int.natCast_add]
        exact hnew _ _ (Less.auto (by simp [-Int.natCast_add]) (by simp [hk]) rfl rfl)
  · rw [if_neg hk]
    simp [fS160r0, fS160r1, fS160r2, fS160r3, fS160r4, fS160r5, fS160r6, fS160b0, fS160r7, fS160b1, fS160r8, fS160, hE, hk]
    exact GivesL.keep rfl rfl (by simp) (by simp) (by simp)
theorem types_rebuild_rrun (hL : E.con 160 = rdE (rrM 6 2 0 leafRF)) {t : Ty} {s : List Assign} (ht : t.ok = true) (hta : t.args = []) (hsl : s.length ≤ 100000) (hne : s ≠ []) {id ro : Nat} {vs : List V} {hs : HS} (hg : (rrD 6 3 160 (enc t) id ro (s.map encAssign) (enc (leafR s t))).Good) (hfit : (rrD 6 3 160 (enc t) id ro (s.map encAssign) (enc (leafR s t))).Fits vs hs) :
    CallOk ρ Tryz.prog 159 vs hs (enc (leafR s t)) hs := by
  rw [← hE]
  refine rdG_run (D := rrD 6 3 160 (enc t) id ro (s.map encAssign) (enc (leafR s t))) hρ hcon (by rw [hE]; exact follows) (by rw [hE]; exact named) (by rw [hE]; exact Tryz.func159) fB159 rfl hg rfl (enc_pure1 _) ?_ hfit
  show Wp ρ E 2 _ _ _ { H := mkP [(0, box [oV 1 (s.map encAssign)]), (1, oO 6 (s.map encAssign))], n := 2, log := [] } (J.Leaves E.P _ (GivesL 2 (enc (leafR s t)) [(0, box [oV 1 (s.map encAssign)]), (1, oO 6 (s.map encAssign))]))
  have hF : leafRF t s = some (leafR s t) := if_pos ⟨hsl, ht⟩
  generalize leafR s t = r at hF
  obtain ⟨x, l, rfl⟩ := List.exists_cons_of_ne_nil hne
  obtain ⟨tk, tn, ti, th, ta⟩ := t
  simp only [Ty.args_mk] at hta
  subst hta
  simp [fS159r0, fS159r1, fS159r2, fS159r3, fS159r4, fS159r5, fS159r6, fS159r7, fS159b0, fS159r8, fS159b1, fS159r9, fS159r10, fS159, hE, hL, hF]
  exact GivesL.keep rfl rfl (by simp) (by simp) (by simp)
theorem types_Replace_rrun (hc : E.con 159 = rdE (rrM 6 3 160 leafRG)) {t : Ty} {s : List Assign} (ht : t.ok = true) (hta : t.args = []) (hsl : s.length ≤ 100000) (hne : s ≠ []) {g id ro : Nat} {vs : List V} {hs : HS} (hg : (rrD 6 0 g (enc t) id ro (s.map encAssign) (enc (leafR s t))).Good) (hfit : (rrD 6 0 g (enc t) id ro (s.map encAssign) (enc (leafR s t))).Fits vs hs) :
    CallOk ρ Tryz.prog 130 vs hs (enc (leafR s t)) hs := by
  rw [← hE]
  refine rdG_run (D := rrD 6 0 g (enc t) id ro (s.map encAssign) (enc (leafR s t))) hρ hcon (by rw [hE]; exact follows) (by rw [hE]; exact named) (by rw [hE]; exact Tryz.func130) fB130 rfl hg rfl (enc_pure1 _) ?_ hfit
  show Wp ρ E 1 _ _ _ { H := mkP [(0, oO 6 (s.map encAssign))], n := 1, log := [] } (J.Leaves E.P _ (GivesL 1 (enc (leafR s t)) [(0, oO 6 (s.map encAssign))]))
  have hF : leafRG t s = some (leafR s t) := if_pos ⟨hsl, ht, hta⟩
  generalize leafR s t = r at hF
  obtain ⟨x, l, rfl⟩ := List.exists_cons_of_ne_nil hne
  simp [fS130r0, fS130r1, fS130, hE, hc, hF]
  exact GivesL.keep rfl rfl (by simp) (by simp) (by simp)
theorem subst_Apply_rrun (hc : E.con 130 = rdE (rrM 6 0 0 leafRG)) {t : Ty} {s : List Assign} (ht : t.ok = true) (hta : t.args = []) (hsl : s.length ≤ 100000) (hne : s ≠ []) {g id ro : Nat} {vs : List V} {hs : HS} (hg : (rrD 6 1 g (enc t) id ro (s.map encAssign) (enc (leafR s t))).Good) (hfit : (rrD 6 1 g (enc t) id ro (s.map encAssign) (enc (leafR s t))).Fits vs hs) :
    CallOk ρ Tryz.prog 95 vs hs (enc (leafR s t)) hs := by
  rw [← hE]
  refine rdG_run (D := rrD 6 1 g (enc t) id ro (s.map encAssign) (enc (leafR s t))) hρ hcon (by rw [hE]; exact follows) (by rw [hE]; exact named) (by rw [hE]; exact Tryz.func95) fB95 rfl hg rfl (enc_pure1 _) ?_ hfit
  show Wp ρ E 1 _ _ _ { H := mkP [(0, oO 6 (s.map encAssign))], n := 1, log := [] } (J.Leaves E.P _ (GivesL 1 (enc (leafR s t)) [(0, oO 6 (s.map encAssign))]))
  have hF : leafRG t s = some (leafR s t) := if_pos ⟨hsl, ht, hta⟩
  generalize leafR s t = r at hF
  obtain ⟨x, l, rfl⟩ := List.exists_cons_of_ne_nil hne
  simp [fS95r0, fS95r1, fS95, hE, hc, hF]
  exact GivesL.keep rfl rfl (by simp) (by simp) (by simp)
end
theorem vRRep1 : Valid ρ Tryz.prog 160 (rdE (rrM 6 2 0 leafRF)) := Valid.rdE (fo Tryz.func160 fB160) fun vs hs D h _ => by
  obtain ⟨t, l, r, id, ro, hF, hne, rfl, hg, hfit⟩ := rrM_inv enc_pure1 enc_pure1 h
  obtain ⟨⟨h1, h2⟩, rfl⟩ := ite_inv hF
  exact types_Replace_1_rrun hρ (E := EL []) rfl (consOk_list valid_nil) h2 h1 hne hg hfit
theorem vRRebuild : Valid ρ Tryz.prog 159 (rdE (rrM 6 3 160 leafRG)) := Valid.rdE (fo Tryz.func159 fB159) fun vs hs D h _ => by
  obtain ⟨t, l, r, id, ro, hF, hne, rfl, hg, hfit⟩ := rrM_inv enc_pure1 enc_pure1 h
  obtain ⟨⟨h1, h2, h3⟩, rfl⟩ := ite_inv hF
  exact types_rebuild_rrun hρ (E := EL [(160, rdE (rrM 6 2 0 leafRF))]) rfl (consOk_list (valid_cons (vRRep1 hρ) valid_nil)) rfl h2 h3 h1 hne hg hfit
theorem vRReplace : Valid ρ Tryz.prog 130 (rdE (rrM 6 0 0 leafRG)) := Valid.rdE (fo Tryz.func130 fB130) fun vs hs D h _ => by
  obtain ⟨t, l, r, id, ro, hF, hne, rfl, hg, hfit⟩ := rrM_inv enc_pure1 enc_pure1 h
  obtain ⟨⟨h1, h2, h3⟩, rfl⟩ := ite_inv hF
  exact types_Replace_rrun hρ (E := EL [(159, rdE (rrM 6 3 160 leafRG))]) rfl (consOk_list (valid_cons (vRRebuild hρ) valid_nil)) rfl h2 h3 h1 hne hg hfit
theorem vRApply : Valid ρ Tryz.prog 95 (rdE (rrM 6 1 0 leafRG)) := Valid.rdE (fo Tryz.func95 fB95) fun vs hs D h _ => by
  obtain ⟨t, l, r, id, ro, hF, hne, rfl, hg, hfit⟩ := rrM_inv enc_pure1 enc_pure1 h
  obtain ⟨⟨h1, h2, h3⟩, rfl⟩ := ite_inv hF
  exact subst_Apply_rrun hρ (E := EL [(130, rdE (rrM 6 0 0 leafRG))]) rfl (consOk_list (valid_cons (vRReplace hρ) valid_nil)) rfl h2 h3 h1 hne hg hfit
end
end Go.Proofs.YthfcfmkdeheicaaGreat
