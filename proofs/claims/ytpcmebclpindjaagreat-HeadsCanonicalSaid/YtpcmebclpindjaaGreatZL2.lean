import Derived.Test.YtpcmebclpindjaaGreatZD11
import Derived.Test.YtpcmebclpindjaaGreatJN
set_option linter.all false
/- The law HeadsCanonical: what its function computes. -/
set_option linter.all false
namespace Go.Proofs.YtpcmebclpindjaaGreat
open Go.J
open Go.J.Enc (enc)
set_option maxRecDepth 100000
set_option maxHeartbeats 1000000
/-- small types without odd variables -/
structure Tame (l : List Ty) : Prop where
  ok : Ty.oks l = true
  plain : Ty.vplains l = true
  size : Ty.sizes l ≤ 1000
  len : l.length ≤ 1000
theorem Tame.canon {l : List Ty} (h : Tame l) : Tame (canonT l) := ⟨canonT_oks h.plain h.ok, canonT_vplain h.plain, by rw [canonT_sizes h.plain]; exact h.size, by unfold canonT; rw [List.length_map]; exact h.len⟩
theorem Tame.heads {l : List Ty} (h : Tame l) : hcanonF l = some (canonT l) := by
  have h1 := (colTs_len l []).2
  have h2 := h.size
  simp only [List.length_nil] at h1
  unfold hcanonF
  rw [if_pos ⟨h.ok, h.len, by omega, by omega⟩, canonT_reb h.plain]
theorem Tame.ref {l : List Ty} (h : Tame l) : canon30F l = some (canonT l) := by
  have h1 := (colTs_len l []).2
  have h2 := h.size
  simp only [List.length_nil] at h1
  have e := varsM_col (vplains_leafys l h.plain)
  unfold canon30F
  rw [if_pos ⟨h.ok, h.len, by omega, by rw [e]; omega⟩, canonT_vars h.plain]
noncomputable def trueS : J.Spec := fnS (spec0 true)
noncomputable def eqAllS : J.Spec := fnS (spec2 (eqAllF 10000))
theorem Tame.eq {l m : List Ty} (h : Tame l) : eqAllF 10000 l m = some (decide (l = m)) := by
  have h1 := h.size
  have h2 := h.len
  unfold eqAllF
  rw [if_pos ⟨by omega, h.ok, by omega⟩]
section
variable {ρ : Nat → Value} (hρ : J.Good ρ) {E : Env} (hE : E.P = Tryz.prog) (hcon : ConsOk ρ E)
include hρ hE hcon
theorem HeadsCanonical_run (h1 : E.con 13 = trueS) (h2 : E.con 14 = fewS) (h3 : E.con 16 = fnS (spec1 fun bits : Int => some (datasOf bits))) (h4 : E.con 17 = fnS (spec0 leavesTs)) (h5 : E.con 15 = stS (stF3 (typeF 3)))
    (h6 : E.con 19 = hcanonS) (h7 : E.con 20 = canon30S) (h8 : E.con 18 = eqAllS) {bits : Int} {codes : List Int} (hs : HS) : CallOk ρ Tryz.prog 3 [enc bits, enc codes] hs (.bool true) hs := by
  refine fn hρ hE hcon Tryz.func3 BS_law30_HeadsCanonical rfl (by simp) ?_ hs
  by_cases c1 : codes.length ≤ 60
  · have hD := datasOf_ok bits
    have hD3 := datasOf_ok3 bits
    have hlk : ∀ l ∈ leavesTs, l.ok = true ∧ l.vplain = true ∧ l.size ≤ 1 := by decide
    have htp : (⟨codes, 0⟩ : Tp).ok := ⟨Int.le_refl _, by show codes.length ≤ 100000; omega⟩
    have hF1 : ∀ t : Tp, t.ok → typeF 3 t (datasOf bits) leavesTs 3 = some (typeM 3 t (datasOf bits) leavesTs) := fun t ht => if_pos ⟨ht, hD, by decide, by decide⟩
    have hF2 : ∀ t : Tp, t.ok → typeF 3 t (datasOf bits) leavesTs 2 = some (typeM 2 t (datasOf bits) leavesTs) := fun t ht => if_pos ⟨ht, hD, by decide, by decide⟩
    have ha1 := typeM_size hD3 (fun l hl => (hlk l hl).2.2) 3 ⟨codes, 0⟩
    have ha2 := typeM_vplain (D := datasOf bits) (fun l hl => (hlk l hl).2.1) 3 ⟨codes, 0⟩
    have ha3 := typeM_tyok hD3 (fun l hl => (hlk l hl).1) 3 ⟨codes, 0⟩
    have hq := (typeM_ok (D := datasOf bits) (Lv := leavesTs) 3 _ htp).1
    have hG1 := hF1 _ htp
    generalize typeM 3 ⟨codes, 0⟩ (datasOf bits) leavesTs = A at ha1 ha2 ha3 hq hG1
    obtain ⟨tp, a⟩ := A
    have hb1 := typeM_size hD3 (fun l hl => (hlk l hl).2.2) 2 tp
    have hb2 := typeM_vplain (D := datasOf bits) (fun l hl => (hlk l hl).2.1) 2 tp
    have hb3 := typeM_tyok hD3 (fun l hl => (hlk l hl).1) 2 tp
    have hG2 := hF2 _ hq
    generalize typeM 2 tp (datasOf bits) leavesTs = B at hb1 hb2 hb3 hG2
    obtain ⟨tp2, b⟩ := B
    simp only at ha1 ha2 ha3 hb1 hb2 hb3
    have t1 : Tame [a, b] := ⟨Ty.oks_iff.2 (by simp [ha3, hb3]), vplains_iff.2 (by simp [ha2, hb2]), by simp only [Ty.sizes]; omega, by simp⟩
    have t2 : Tame [b, a] := ⟨Ty.oks_iff.2 (by simp [ha3, hb3]), vplains_iff.2 (by simp [ha2, hb2]), by simp only [Ty.sizes]; omega, by simp⟩
    have e1 := t1.heads
    have e2 := t1.ref
    have e3 := t2.heads
    have e4 := t2.ref
    have e5 := t2.canon.heads
    rw [canonT_twice t2.plain] at e5
    have e6 := t1.canon.eq (m := canonT [a, b])
    have e7 := t2.canon.eq (m := canonT [b, a])
    simp only [decide_true] at e6 e7
    generalize canonT [a, b] = X at e1 e2 e6
    generalize canonT [b, a] = Y at e3 e4 e5 e7
    simp [S_law30_HeadsCanonical_r0, S_law30_HeadsCanonical_r1, S_law30_HeadsCanonical_r2, S_law30_HeadsCanonical_r3, S_law30_HeadsCanonical_r4, S_law30_HeadsCanonical_r5, S_law30_HeadsCanonical_r6, S_law30_HeadsCanonical_r7, S_law30_HeadsCanonical_r8, S_law30_HeadsCanonical, hE, h1, h2, h3, h4, h5, h6, h7, h8, trueS, fewS, hcanonS, canon30S, eqAllS, c1, hG1, hG2, e1, e2, e3, e4, e5, e6, e7]
  · simp [S_law30_HeadsCanonical_r0, S_law30_HeadsCanonical_r1, S_law30_HeadsCanonical_r2, S_law30_HeadsCanonical_r3, S_law30_HeadsCanonical_r4, S_law30_HeadsCanonical_r5, S_law30_HeadsCanonical_r6, S_law30_HeadsCanonical_r7, S_law30_HeadsCanonical_r8, S_law30_HeadsCanonical, hE, h1, h2, trueS, fewS, c1]
end
end Go.Proofs.YtpcmebclpindjaaGreat
