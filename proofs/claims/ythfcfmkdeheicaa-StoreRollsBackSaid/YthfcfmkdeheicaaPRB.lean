import Derived.Test.YthfcfmkdeheicaaPW5
import Derived.Test.YthfcfmkdeheicaaJP
set_option linter.all false
/- Rolling back, by the reference. -/
set_option linter.all false
namespace Go.Proofs.Ythfcfmkdeheicaa
open Go.J
open Go.J.Enc (enc)
set_option maxRecDepth 100000
set_option maxHeartbeats 4000000
/-- one change is undone, by the reference -/
def refStep (c : Change) (l : List Slot) : List Slot :=
  if c.new = true ∧ c.id = (l.length : Int) - 1 then l.take c.id.toNat else if c.new = false ∧ 0 ≤ c.id ∧ c.id < (l.length : Int) then l.set c.id.toNat c.old else l
def refSlots (s : Store) (l : List Change) : List Slot := l.foldr refStep s.slots
def refRoll (s : Store) (m : Int) : Store × Bool := if m < 0 ∨ (s.trail.length : Int) < m then (s, false) else (⟨refSlots s (s.trail.drop m.toNat), s.trail.take m.toNat⟩, true)
/-- stores that were made step by step -/
def Made (s : Store) : Prop := Store.Ext ⟨[], []⟩ s
theorem roll_ext {a b : Store} (h : Store.Ext a b) : rollM b (a.trail.length : Int) = (a, true) := by
  have h1 := h.undo (N := b.slots.length) (step := rbStep b) (fun l x hl => by
      have : (b.slot? (l.length : Int)).isSome = true := by rw [Store.slot?_nat, List.getElem?_eq_getElem hl]; rfl
      unfold rbStep
      rw [if_neg (by simp [this]; omega), if_pos rfl]
      simp) (fun l i x hi hl => by
      have : (b.slot? (i : Int)).isSome = true := by rw [Store.slot?_nat, List.getElem?_eq_getElem (by omega : i < b.slots.length)]; rfl
      unfold rbStep
      rw [if_neg (by simp [this]; omega), if_neg (by simp)]
      simp) (Nat.le_refl _)
  obtain ⟨l, e⟩ := h.grow.2
  unfold rollM
  have hle := h.len
  rw [if_neg (by omega)]
  simp only [Int.toNat_natCast]
  show ((⟨rbSlots b _, _⟩ : Store), true) = _
  unfold rbSlots
  rw [h1, e, List.take_left]
theorem ref_ext {a b : Store} (h : Store.Ext a b) : refRoll b (a.trail.length : Int) = (a, true) := by
  have h1 := h.undo (N := b.slots.length) (step := refStep) (fun l x hl => by
      unfold refStep
      rw [if_pos ⟨rfl, by simp⟩]
      simp) (fun l i x hi hl => by
      unfold refStep
      rw [if_neg (by simp), if_pos ⟨rfl, by simp, by simp; omega⟩]
      simp) (Nat.le_refl _)
  obtain ⟨l, e⟩ := h.grow.2
  unfold refRoll
  have hle := h.len
  rw [if_neg (by omega)]
  simp only [Int.toNat_natCast]
  show ((⟨refSlots b _, _⟩ : Store), true) = _
  unfold refSlots
  rw [h1, e, List.take_left]
theorem roll_ref {s : Store} (h : Made s) (m : Int) : rollM s m = refRoll s m := by
  by_cases hm : m < 0 ∨ (s.trail.length : Int) < m
  · unfold rollM refRoll; rw [if_pos hm, if_pos hm]
  · obtain ⟨k, rfl⟩ := Int.eq_ofNat_of_zero_le (by omega : 0 ≤ m)
    obtain ⟨c, _, c2, c3⟩ := Store.Ext.at h k (Nat.zero_le _) (by omega)
    have e1 := roll_ext c2
    have e2 := ref_ext c2
    rw [c3] at e1 e2
    rw [e1, e2]
section
variable {ρ : Nat → Value} (hρ : J.Good ρ) {E : Env} (hE : E.P = Try.prog) (hcon : ConsOk ρ E)
include hρ hE hcon
theorem ref16_Rollback_run {s : Store} (hsm : s.small) (hne : s.slots ≠ []) (hid : ∀ c ∈ s.trail, 0 ≤ c.id) {m : Int} (hs : HS) : CallOk ρ Try.prog 28 [enc s, enc m] hs (enc (refRoll s m)) hs := by
  refine fn hρ hE hcon Try.func28 BS_ref16_Rollback rfl (by simp) ?_ hs
  unfold refRoll
  by_cases h1 : m < 0
  · rw [if_pos (.inl h1)]
    simp [S_ref16_Rollback_r0, S_ref16_Rollback_r1, S_ref16_Rollback_r2, S_ref16_Rollback_r3, S_ref16_Rollback_r4, S_ref16_Rollback_r5, S_ref16_Rollback_r6, S_ref16_Rollback_r7, S_ref16_Rollback_r8, S_ref16_Rollback_r9, S_ref16_Rollback_r10, S_ref16_Rollback_b0, S_ref16_Rollback_b1, S_ref16_Rollback_r11, S_ref16_Rollback_b2, S_ref16_Rollback_r12, S_ref16_Rollback, hE, h1]
  by_cases h2 : (s.trail.length : Int) < m
  · rw [if_pos (.inr h2)]
    simp [S_ref16_Rollback_r0, S_ref16_Rollback_r1, S_ref16_Rollback_r2, S_ref16_Rollback_r3, S_ref16_Rollback_r4, S_ref16_Rollback_r5, S_ref16_Rollback_r6, S_ref16_Rollback_r7, S_ref16_Rollback_r8, S_ref16_Rollback_r9, S_ref16_Rollback_r10, S_ref16_Rollback_b0, S_ref16_Rollback_b1, S_ref16_Rollback_r11, S_ref16_Rollback_b2, S_ref16_Rollback_r12, S_ref16_Rollback, hE, h1, h2]
  rw [if_neg (fun h => h.elim h1 h2)]
  obtain ⟨k, rfl⟩ := Int.eq_ofNat_of_zero_le (Int.not_lt.1 h1)
  have h3 : k ≤ s.trail.length := by omega
  obtain ⟨sl, tr⟩ := s
  obtain ⟨g1, g2⟩ := hsm
  simp only at g1 g2 h2 h3 hid hne
  have k1 := room1 g1
  have k2 := room2 g1
  have k3 := room1 g2
  have k4 := room2 g2
  rcases sl with _ | ⟨a, sl⟩
  · exact absurd rfl hne
  have hw1 : IntKind.i64.wrap ((tr.length : Int) - 1) = (tr.length : Int) - 1 := wrap_i64 (by omega) (by omega)
  simp at k1 k2 k3 k4
  simp only [Int.toNat_natCast]
  have hT : (tr.map encChange).take k = (tr.take k).map encChange := (List.map_take ..).symm
  generalize hpre : tr.take k = pre at hT
  have hpl : pre.length = k := by rw [← hpre, List.length_take]; omega
  have hk1 : pre.length * 104 ≤ 1048576 := by omega
  by_cases hk0 : pre = []
  · simp [S_ref16_Rollback_r0, S_ref16_Rollback_r1, S_ref16_Rollback_r2, S_ref16_Rollback_r3, S_ref16_Rollback_r4, S_ref16_Rollback_r5, S_ref16_Rollback_r6, S_ref16_Rollback_r7, S_ref16_Rollback_r8, S_ref16_Rollback_r9, S_ref16_Rollback_r10, S_ref16_Rollback_b0, S_ref16_Rollback_b1, S_ref16_Rollback_r11, S_ref16_Rollback_b2, S_ref16_Rollback_r12, S_ref16_Rollback, hE, h1, h2, h3, k1, k2, k3, k4, hw1, hT, hk0, hk1, sliceJ, sliceSl, bounds, optJ, isSomeO, orc_some', Nat.not_succ_le_self]
    refine lpi hρ hE hcon (tr.length - k) (nn := 5) (fun i (p : List Slot × List Slot) => [(1, .int .i64 (k : Int)), (2, .ptr 0 0 0), (4, .ptr 1 0 0), (6, .ptr 4 0 0), (7, .int .i64 ((tr.length : Int) - 1 - i))])
      (fun i p => [(0, box (encStore ⟨a :: sl, tr⟩)), (1, box [.snil, .snil]), (2, .arr 8 0 (p.1.map encSlot) false false true), (4, box [.own 2 0 0 p.2.length none, .snil])])
      (fun i p => p.1.length = sl.length + 1 ∧ p.2.length ≤ p.1.length ∧ p.1.take p.2.length = p.2 ∧ p.2 = refSlots ⟨a :: sl, tr⟩ (tr.drop (tr.length - i))) (a :: sl, a :: sl)
      (Less.auto (by simp) (by simp) (by simp) (by simp)) ⟨by simp, Nat.le_refl _, by simp, by rw [Nat.sub_zero, List.drop_length]; rfl⟩ ?_ ?_
    · rintro ⟨R, l⟩ ⟨e1, e2, e3, e4⟩ K
      simp only at e1 e2 e3 e4
      have hkk : tr.length - (tr.length - k) = k := by omega
      rw [hkk] at e4
      have hlt : ¬ ((k : Int) ≤ (tr.length : Int) - 1 - ((tr.length - k : Nat) : Int)) := by omega
      simp [S_ref16_Rollback_l0, S_ref16_Rollback_r0, S_ref16_Rollback_r1, S_ref16_Rollback_r2, S_ref16_Rollback_r3, S_ref16_Rollback_r4, S_ref16_Rollback_r5, S_ref16_Rollback_r6, S_ref16_Rollback_r7, S_ref16_Rollback_r8, S_ref16_Rollback_r9, S_ref16_Rollback_r10, S_ref16_Rollback_b0, S_ref16_Rollback_b1, S_ref16_Rollback_r11, S_ref16_Rollback_b2, S_ref16_Rollback_r12, S_ref16_Rollback, hE, hlt]
      refine LessQ.mk (Less.auto (TL := [(4, .ptr 1 0 0), (6, .ptr 4 0 0)]) (HL := [(1, box [.snil, .snil]), (2, .arr 8 0 (R.map encSlot) false false true), (4, box [.own 2 0 0 l.length none, .snil])]) (n := 5) (by simp) (by simp) (by simp) (by simp)) ?_
      rw [← e4]
      simp [S_ref16_Rollback_r0, S_ref16_Rollback_r1, S_ref16_Rollback_r2, S_ref16_Rollback_r3, S_ref16_Rollback_r4, S_ref16_Rollback_r5, S_ref16_Rollback_r6, S_ref16_Rollback_r7, S_ref16_Rollback_r8, S_ref16_Rollback_r9, S_ref16_Rollback_r10, S_ref16_Rollback_b0, S_ref16_Rollback_b1, S_ref16_Rollback_r11, S_ref16_Rollback_b2, S_ref16_Rollback_r12, S_ref16_Rollback, hE]
      refine ⟨e2, ?_, hk0⟩
      rw [← List.map_take, e3, norm_Slot]
    · rintro i ⟨R, l⟩ hi ⟨e1, e2, e3, e4⟩ K hK
      simp only at e1 e2 e3 e4
      obtain ⟨q, hq⟩ : ∃ q, tr.length - i = q + 1 := ⟨tr.length - i - 1, by omega⟩
      have hqi : (tr.length : Int) - 1 - i = (q : Int) := by omega
      have hql : q < tr.length := by omega
      have hqk : (k : Int) ≤ (q : Int) := by omega
      have hq2 : tr.length - (i + 1) = q := by omega
      have hqi2 : (tr.length : Int) - 1 - ((i + 1 : Nat) : Int) = (q : Int) - 1 := by omega
      have hwq : IntKind.i64.wrap ((q : Int) - 1) = (q : Int) - 1 := wrap_i64 (by omega) (by omega)
      rw [hq] at e4
      have hnx : refSlots ⟨a :: sl, tr⟩ (tr.drop q) = refStep tr[q] l := by
        rw [List.drop_eq_getElem_cons hql, e4]; rfl
      have hci := hid _ (List.getElem_mem hql)
      obtain ⟨c, hcg⟩ : ∃ c, tr[q]'hql = c := ⟨_, rfl⟩
      rw [hcg] at hnx hci
      obtain ⟨ci, co, cn⟩ := c
      simp only at hci
      obtain ⟨w, rfl⟩ := Int.eq_ofNat_of_zero_le hci
      have g1' : sl.length + 1 ≤ 1000 := by simpa using g1
      have hwl : IntKind.i64.wrap ((l.length : Int) - 1) = (l.length : Int) - 1 := wrap_i64 (by omega) (by omega)
      have hnew := fun (st : List Slot × List Slot) (h : st.1.length = sl.length + 1 ∧ st.2.length ≤ st.1.length ∧ st.1.take st.2.length = st.2 ∧ st.2 = refStep ⟨(w : Int), co, cn⟩ l) => hK st ⟨h.1, h.2.1, h.2.2.1, by rw [hq2, hnx]; exact h.2.2.2⟩
      rw [hqi]
      simp only [hqi2] at hnew
      cases cn with
      | true =>
        by_cases d1 : (w : Int) = (l.length : Int) - 1
        · have hst : refStep ⟨(w : Int), co, true⟩ l = l.take w := if_pos ⟨rfl, d1⟩
          rw [hst] at hnew
          have hwl2 : w ≤ l.length := by omega
          have hwl3 : IntKind.i64.wrap ((l.length : Int) - 1) = (w : Int) := by rw [hwl, d1]
          have htl : (l.take w).length = w := by rw [List.length_take]; omega
          have hnew2 := hnew (R, l.take w) ⟨e1, by show (l.take w).length ≤ R.length; rw [htl]; omega, by show R.take (l.take w).length = l.take w; rw [htl]; conv => rhs; rw [← e3, List.take_take, Nat.min_eq_left hwl2], rfl⟩
          simp only [htl] at hnew2
          simp [S_ref16_Rollback_l0, S_ref16_Rollback_r0, S_ref16_Rollback_r1, S_ref16_Rollback_r2, S_ref16_Rollback_r3, S_ref16_Rollback_r4, S_ref16_Rollback_r5, S_ref16_Rollback_r6, S_ref16_Rollback_r7, S_ref16_Rollback_r8, S_ref16_Rollback_r9, S_ref16_Rollback_r10, S_ref16_Rollback_b0, S_ref16_Rollback_b1, S_ref16_Rollback_r11, S_ref16_Rollback_b2, S_ref16_Rollback_r12, S_ref16_Rollback, hE, hqk, hql, hcg, hwl3, hwq, hwl2, sliceJ, sliceOwn, bounds, optJ, isSomeO, orc_some', subCap]
          exact hnew2 _ _ (Less.auto (by simp) (by simp) (by simp) (by simp))
        · have hst : refStep ⟨(w : Int), co, true⟩ l = l := by unfold refStep; rw [if_neg (fun h => d1 h.2), if_neg (fun h => by cases h.1)]
          rw [hst] at hnew
          simp [S_ref16_Rollback_l0, S_ref16_Rollback_r0, S_ref16_Rollback_r1, S_ref16_Rollback_r2, S_ref16_Rollback_r3, S_ref16_Rollback_r4, S_ref16_Rollback_r5, S_ref16_Rollback_r6, S_ref16_Rollback_r7, S_ref16_Rollback_r8, S_ref16_Rollback_r9, S_ref16_Rollback_r10, S_ref16_Rollback_b0, S_ref16_Rollback_b1, S_ref16_Rollback_r11, S_ref16_Rollback_b2, S_ref16_Rollback_r12, S_ref16_Rollback, hE, hqk, hql, hcg, hwl, d1, hwq]
          exact hnew (R, l) ⟨e1, e2, e3, rfl⟩ _ _ (Less.auto (by simp) (by simp) (by simp) (by simp))
      | false =>
        by_cases d1 : w < l.length
        · have hst : refStep ⟨(w : Int), co, false⟩ l = l.set w co := by unfold refStep; rw [if_neg (fun h => by cases h.1), if_pos ⟨rfl, Int.natCast_nonneg _, by simp; exact d1⟩]; rfl
          rw [hst] at hnew
          have hd1 : w * 8 / 8 = w := by omega
          have hd2 : w * 8 % 8 = 0 := by omega
          have hwR : w < R.length := by omega
          have hsl : (l.set w co).length = l.length := List.length_set
          have hnew2 := hnew (R.set w co, l.set w co) ⟨by rw [List.length_set]; exact e1, by rw [hsl, List.length_set]; exact e2, by show (R.set w co).take (l.set w co).length = l.set w co; rw [hsl, List.take_set, e3], rfl⟩
          simp only [hsl] at hnew2
          simp [S_ref16_Rollback_l0, S_ref16_Rollback_r0, S_ref16_Rollback_r1, S_ref16_Rollback_r2, S_ref16_Rollback_r3, S_ref16_Rollback_r4, S_ref16_Rollback_r5, S_ref16_Rollback_r6, S_ref16_Rollback_r7, S_ref16_Rollback_r8, S_ref16_Rollback_r9, S_ref16_Rollback_r10, S_ref16_Rollback_b0, S_ref16_Rollback_b1, S_ref16_Rollback_r11, S_ref16_Rollback_b2, S_ref16_Rollback_r12, S_ref16_Rollback, hE, hqk, hql, hcg, hwl, d1, hwq, hd1, hd2, hwR]
          have hse : (R.map encSlot).set w (encSlot co) = (R.set w co).map encSlot := (List.map_set ..).symm
          simp only [encSlot] at hse
          rw [hse]
          generalize R.set w co = R2 at hnew2
          exact hnew2 _ _ (Less.auto (by simp) (by simp) (by simp) (by simp))
        · have hst : refStep ⟨(w : Int), co, false⟩ l = l := by unfold refStep; rw [if_neg (fun h => by cases h.1), if_neg (fun h => d1 (by have := h.2.2; simp at this; exact this))]
          rw [hst] at hnew
          simp [S_ref16_Rollback_l0, S_ref16_Rollback_r0, S_ref16_Rollback_r1, S_ref16_Rollback_r2, S_ref16_Rollback_r3, S_ref16_Rollback_r4, S_ref16_Rollback_r5, S_ref16_Rollback_r6, S_ref16_Rollback_r7, S_ref16_Rollback_r8, S_ref16_Rollback_r9, S_ref16_Rollback_r10, S_ref16_Rollback_b0, S_ref16_Rollback_b1, S_ref16_Rollback_r11, S_ref16_Rollback_b2, S_ref16_Rollback_r12, S_ref16_Rollback, hE, hqk, hql, hcg, hwl, d1, hwq]
          exact hnew (R, l) ⟨e1, e2, e3, rfl⟩ _ _ (Less.auto (by simp) (by simp) (by simp) (by simp))
  · simp [S_ref16_Rollback_r0, S_ref16_Rollback_r1, S_ref16_Rollback_r2, S_ref16_Rollback_r3, S_ref16_Rollback_r4, S_ref16_Rollback_r5, S_ref16_Rollback_r6, S_ref16_Rollback_r7, S_ref16_Rollback_r8, S_ref16_Rollback_r9, S_ref16_Rollback_r10, S_ref16_Rollback_b0, S_ref16_Rollback_b1, S_ref16_Rollback_r11, S_ref16_Rollback_b2, S_ref16_Rollback_r12, S_ref16_Rollback, hE, h1, h2, h3, k1, k2, k3, k4, hw1, hT, hk0, hk1, sliceJ, sliceSl, bounds, optJ, isSomeO, orc_some', Nat.not_succ_le_self]
    refine lpi hρ hE hcon (tr.length - k) (nn := 5) (fun i (p : List Slot × List Slot) => [(1, .int .i64 (k : Int)), (2, .ptr 0 0 0), (4, .ptr 1 0 0), (6, .ptr 4 0 0), (7, .int .i64 ((tr.length : Int) - 1 - i))])
      (fun i p => [(0, box (encStore ⟨a :: sl, tr⟩)), (1, box [.snil, .snil]), (2, .arr 8 0 (p.1.map encSlot) false false true), (3, .arr 10 0 (pre.map encChange) false false true), (4, box [.own 2 0 0 p.2.length none, .own 3 0 0 pre.length none])])
      (fun i p => p.1.length = sl.length + 1 ∧ p.2.length ≤ p.1.length ∧ p.1.take p.2.length = p.2 ∧ p.2 = refSlots ⟨a :: sl, tr⟩ (tr.drop (tr.length - i))) (a :: sl, a :: sl)
      (Less.auto (by simp) (by simp) (by simp) (by simp)) ⟨by simp, Nat.le_refl _, by simp, by rw [Nat.sub_zero, List.drop_length]; rfl⟩ ?_ ?_
    · rintro ⟨R, l⟩ ⟨e1, e2, e3, e4⟩ K
      simp only at e1 e2 e3 e4
      have hkk : tr.length - (tr.length - k) = k := by omega
      rw [hkk] at e4
      have hlt : ¬ ((k : Int) ≤ (tr.length : Int) - 1 - ((tr.length - k : Nat) : Int)) := by omega
      simp [S_ref16_Rollback_l0, S_ref16_Rollback_r0, S_ref16_Rollback_r1, S_ref16_Rollback_r2, S_ref16_Rollback_r3, S_ref16_Rollback_r4, S_ref16_Rollback_r5, S_ref16_Rollback_r6, S_ref16_Rollback_r7, S_ref16_Rollback_r8, S_ref16_Rollback_r9, S_ref16_Rollback_r10, S_ref16_Rollback_b0, S_ref16_Rollback_b1, S_ref16_Rollback_r11, S_ref16_Rollback_b2, S_ref16_Rollback_r12, S_ref16_Rollback, hE, hlt]
      refine LessQ.mk (Less.auto (TL := [(4, .ptr 1 0 0), (6, .ptr 4 0 0)]) (HL := [(1, box [.snil, .snil]), (2, .arr 8 0 (R.map encSlot) false false true), (3, .arr 10 0 (pre.map encChange) false false true), (4, box [.own 2 0 0 l.length none, .own 3 0 0 pre.length none])]) (n := 5) (by simp) (by simp) (by simp) (by simp)) ?_
      rw [← e4]
      simp [S_ref16_Rollback_r0, S_ref16_Rollback_r1, S_ref16_Rollback_r2, S_ref16_Rollback_r3, S_ref16_Rollback_r4, S_ref16_Rollback_r5, S_ref16_Rollback_r6, S_ref16_Rollback_r7, S_ref16_Rollback_r8, S_ref16_Rollback_r9, S_ref16_Rollback_r10, S_ref16_Rollback_b0, S_ref16_Rollback_b1, S_ref16_Rollback_r11, S_ref16_Rollback_b2, S_ref16_Rollback_r12, S_ref16_Rollback, hE]
      refine ⟨e2, ?_⟩
      rw [← List.map_take, e3, norm_Slot]
    · rintro i ⟨R, l⟩ hi ⟨e1, e2, e3, e4⟩ K hK
      simp only at e1 e2 e3 e4
      obtain ⟨q, hq⟩ : ∃ q, tr.length - i = q + 1 := ⟨tr.length - i - 1, by omega⟩
      have hqi : (tr.length : Int) - 1 - i = (q : Int) := by omega
      have hql : q < tr.length := by omega
      have hqk : (k : Int) ≤ (q : Int) := by omega
      have hq2 : tr.length - (i + 1) = q := by omega
      have hqi2 : (tr.length : Int) - 1 - ((i + 1 : Nat) : Int) = (q : Int) - 1 := by omega
      have hwq : IntKind.i64.wrap ((q : Int) - 1) = (q : Int) - 1 := wrap_i64 (by omega) (by omega)
      rw [hq] at e4
      have hnx : refSlots ⟨a :: sl, tr⟩ (tr.drop q) = refStep tr[q] l := by
        rw [List.drop_eq_getElem_cons hql, e4]; rfl
      have hci := hid _ (List.getElem_mem hql)
      obtain ⟨c, hcg⟩ : ∃ c, tr[q]'hql = c := ⟨_, rfl⟩
      rw [hcg] at hnx hci
      obtain ⟨ci, co, cn⟩ := c
      simp only at hci
      obtain ⟨w, rfl⟩ := Int.eq_ofNat_of_zero_le hci
      have g1' : sl.length + 1 ≤ 1000 := by simpa using g1
      have hwl : IntKind.i64.wrap ((l.length : Int) - 1) = (l.length : Int) - 1 := wrap_i64 (by omega) (by omega)
      have hnew := fun (st : List Slot × List Slot) (h : st.1.length = sl.length + 1 ∧ st.2.length ≤ st.1.length ∧ st.1.take st.2.length = st.2 ∧ st.2 = refStep ⟨(w : Int), co, cn⟩ l) => hK st ⟨h.1, h.2.1, h.2.2.1, by rw [hq2, hnx]; exact h.2.2.2⟩
      rw [hqi]
      simp only [hqi2] at hnew
      cases cn with
      | true =>
        by_cases d1 : (w : Int) = (l.length : Int) - 1
        · have hst : refStep ⟨(w : Int), co, true⟩ l = l.take w := if_pos ⟨rfl, d1⟩
          rw [hst] at hnew
          have hwl2 : w ≤ l.length := by omega
          have hwl3 : IntKind.i64.wrap ((l.length : Int) - 1) = (w : Int) := by rw [hwl, d1]
          have htl : (l.take w).length = w := by rw [List.length_take]; omega
          have hnew2 := hnew (R, l.take w) ⟨e1, by show (l.take w).length ≤ R.length; rw [htl]; omega, by show R.take (l.take w).length = l.take w; rw [htl]; conv => rhs; rw [← e3, List.take_take, Nat.min_eq_left hwl2], rfl⟩
          simp only [htl] at hnew2
          simp [S_ref16_Rollback_l0, S_ref16_Rollback_r0, S_ref16_Rollback_r1, S_ref16_Rollback_r2, S_ref16_Rollback_r3, S_ref16_Rollback_r4, S_ref16_Rollback_r5, S_ref16_Rollback_r6, S_ref16_Rollback_r7, S_ref16_Rollback_r8, S_ref16_Rollback_r9, S_ref16_Rollback_r10, S_ref16_Rollback_b0, S_ref16_Rollback_b1, S_ref16_Rollback_r11, S_ref16_Rollback_b2, S_ref16_Rollback_r12, S_ref16_Rollback, hE, hqk, hql, hcg, hwl3, hwq, hwl2, sliceJ, sliceOwn, bounds, optJ, isSomeO, orc_some', subCap]
          exact hnew2 _ _ (Less.auto (by simp) (by simp) (by simp) (by simp))
        · have hst : refStep ⟨(w : Int), co, true⟩ l = l := by unfold refStep; rw [if_neg (fun h => d1 h.2), if_neg (fun h => by cases h.1)]
          rw [hst] at hnew
          simp [S_ref16_Rollback_l0, S_ref16_Rollback_r0, S_ref16_Rollback_r1, S_ref16_Rollback_r2, S_ref16_Rollback_r3, S_ref16_Rollback_r4, S_ref16_Rollback_r5, S_ref16_Rollback_r6, S_ref16_Rollback_r7, S_ref16_Rollback_r8, S_ref16_Rollback_r9, S_ref16_Rollback_r10, S_ref16_Rollback_b0, S_ref16_Rollback_b1, S_ref16_Rollback_r11, S_ref16_Rollback_b2, S_ref16_Rollback_r12, S_ref16_Rollback, hE, hqk, hql, hcg, hwl, d1, hwq]
          exact hnew (R, l) ⟨e1, e2, e3, rfl⟩ _ _ (Less.auto (by simp) (by simp) (by simp) (by simp))
      | false =>
        by_cases d1 : w < l.length
        · have hst : refStep ⟨(w : Int), co, false⟩ l = l.set w co := by unfold refStep; rw [if_neg (fun h => by cases h.1), if_pos ⟨rfl, Int.natCast_nonneg _, by simp; exact d1⟩]; rfl
          rw [hst] at hnew
          have hd1 : w * 8 / 8 = w := by omega
          have hd2 : w * 8 % 8 = 0 := by omega
          have hwR : w < R.length := by omega
          have hsl : (l.set w co).length = l.length := List.length_set
          have hnew2 := hnew (R.set w co, l.set w co) ⟨by rw [List.length_set]; exact e1, by rw [hsl, List.length_set]; exact e2, by show (R.set w co).take (l.set w co).length = l.set w co; rw [hsl, List.take_set, e3], rfl⟩
          simp only [hsl] at hnew2
          simp [S_ref16_Rollback_l0, S_ref16_Rollback_r0, S_ref16_Rollback_r1, S_ref16_Rollback_r2, S_ref16_Rollback_r3, S_ref16_Rollback_r4, S_ref16_Rollback_r5, S_ref16_Rollback_r6, S_ref16_Rollback_r7, S_ref16_Rollback_r8, S_ref16_Rollback_r9, S_ref16_Rollback_r10, S_ref16_Rollback_b0, S_ref16_Rollback_b1, S_ref16_Rollback_r11, S_ref16_Rollback_b2, S_ref16_Rollback_r12, S_ref16_Rollback, hE, hqk, hql, hcg, hwl, d1, hwq, hd1, hd2, hwR]
          have hse : (R.map encSlot).set w (encSlot co) = (R.set w co).map encSlot := (List.map_set ..).symm
          simp only [encSlot] at hse
          rw [hse]
          generalize R.set w co = R2 at hnew2
          exact hnew2 _ _ (Less.auto (by simp) (by simp) (by simp) (by simp))
        · have hst : refStep ⟨(w : Int), co, false⟩ l = l := by unfold refStep; rw [if_neg (fun h => by cases h.1), if_neg (fun h => d1 (by have := h.2.2; simp at this; exact this))]
          rw [hst] at hnew
          simp [S_ref16_Rollback_l0, S_ref16_Rollback_r0, S_ref16_Rollback_r1, S_ref16_Rollback_r2, S_ref16_Rollback_r3, S_ref16_Rollback_r4, S_ref16_Rollback_r5, S_ref16_Rollback_r6, S_ref16_Rollback_r7, S_ref16_Rollback_r8, S_ref16_Rollback_r9, S_ref16_Rollback_r10, S_ref16_Rollback_b0, S_ref16_Rollback_b1, S_ref16_Rollback_r11, S_ref16_Rollback_b2, S_ref16_Rollback_r12, S_ref16_Rollback, hE, hqk, hql, hcg, hwl, d1, hwq]
          exact hnew (R, l) ⟨e1, e2, e3, rfl⟩ _ _ (Less.auto (by simp) (by simp) (by simp) (by simp))
end
end Go.Proofs.Ythfcfmkdeheicaa
