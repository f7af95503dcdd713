import Derived.Test.YthfcfmkdeheicaaPRB
set_option linter.all false
/- The law StoreRollsBack: what its function computes. -/
set_option linter.all false
namespace Go.Proofs.Ythfcfmkdeheicaa
open Go.J
open Go.J.Enc (enc)
set_option maxRecDepth 100000
set_option maxHeartbeats 4000000
theorem rb_mem (s : Store) (l : List Change) : ∀ y ∈ rbSlots s l, y ∈ s.slots ∨ ∃ c ∈ l, y = c.old := by
  induction l with
  | nil => intro y hy; exact .inl hy
  | cons c l ih =>
    intro y hy
    have up : ∀ y ∈ rbSlots s l, y ∈ s.slots ∨ ∃ d ∈ c :: l, y = d.old := fun y hy => (ih y hy).imp id fun ⟨d, hd, e⟩ => ⟨d, List.mem_cons_of_mem _ hd, e⟩
    have hy' : y ∈ rbStep s c (rbSlots s l) := hy
    unfold rbStep at hy'
    split at hy'
    · exact up y hy'
    · split at hy'
      · exact up y (List.mem_of_mem_take hy')
      · rcases List.mem_or_eq_of_mem_set hy' with h | rfl
        · exact up y h
        · exact .inr ⟨c, List.mem_cons_self .., rfl⟩
theorem roll_all {s : Store} (h : Store.AllOk s) (m : Int) : Store.AllOk (rollM s m).1 := by
  unfold rollM
  split
  · exact h
  · refine ⟨Nat.le_trans (rb_len s _) h.len, fun x hx => ?_, fun x hx => h.olds x (List.mem_of_mem_take hx)⟩
    rcases rb_mem s _ x hx with hx | ⟨c, hc, rfl⟩
    · exact h.tys x hx
    · exact h.olds c (List.mem_of_mem_drop hc)
theorem roll_trail (s : Store) (m : Int) : (rollM s m).1.trail.length ≤ s.trail.length := by
  unfold rollM
  split
  · exact Nat.le_refl _
  · simp only [List.length_take]; omega
theorem same_self {s : Store} (h : Store.AllOk s) (ht : s.trail.length ≤ 1000000) : sameF s s = some true := by
  unfold sameF
  rw [if_pos ⟨by have := h.len; omega, h.tys, ht, h.olds⟩]; simp
def markV (s : Store) : List V := [.int .i64 (s.trail.length : Int)]
/-- the list of states, the list of marks -/
def stV (i : Nat) (L : List Store) : V := match i with
  | 0 => .sl (L.map encStore) true
  | i + 1 => .own 2 i 0 (i + 2) none
def mkVV (i : Nat) (L : List Store) : V := match i with
  | 0 => .sl (L.map markV) true
  | i + 1 => .own 3 i 0 (i + 2) none
def stH (i : Nat) (L : List Store) : List (Nat × J.Obj) := match i with
  | 0 => []
  | i + 1 => [(2, .arr 2 i (L.map encStore) false false true), (3, .arr 1 i (L.map markV) false false true)]
structure RInv (s : Store) (i : Nat) (x : Store) (L : List Store) : Prop where
  len : L.length = i + 1
  ext : ∀ y ∈ L, Store.Ext y x
  all : ∀ y ∈ L, Store.AllOk y
  ok : Store.AllOk x
  first : L[0]? = some s
  slots : 1 ≤ x.slots.length ∧ x.slots.length ≤ 5 + i
  trail : x.trail.length ≤ 225 + i
theorem RInv.next {s : Store} {i : Nat} {x x' : Store} {L : List Store} (h : RInv s i x L) (he : Store.Ext x x') (ha : Store.AllOk x') (hl : x'.slots.length ≤ x.slots.length + 1) (ht : x'.trail.length ≤ x.trail.length + 1) : RInv s (i + 1) x' (L ++ [x']) := by
  refine ⟨by simp [h.len], fun y hy => ?_, fun y hy => ?_, ha, ?_, ⟨Nat.le_trans h.slots.1 he.grow.1, by have := h.slots.2; omega⟩, by have := h.trail; omega⟩
  · rcases List.mem_append.1 hy with hy | hy
    · exact (h.ext y hy).trans he
    · rw [List.mem_singleton.1 hy]; exact .refl _
  · rcases List.mem_append.1 hy with hy | hy
    · exact h.all y hy
    · rw [List.mem_singleton.1 hy]; exact ha
  · rw [List.getElem?_append_left (by have := h.len; omega)]; exact h.first
noncomputable def refRollF (s : Store) (m : Int) : Option (Store × Bool) := by
  classical exact if s.small ∧ s.slots ≠ [] ∧ (∀ c ∈ s.trail, 0 ≤ c.id) then some (refRoll s m) else none
noncomputable def refRollS : J.Spec := fnS (spec2 refRollF)
section
variable {ρ : Nat → Value} (hρ : J.Good ρ) {E : Env} (hE : E.P = Try.prog) (hcon : ConsOk ρ E)
include hρ hE hcon
theorem StoreRollsBack_run (h1 : E.con 10 = yesS) (h2 : E.con 11 = fewS) (h3 : E.con 15 = fnS (spec1 fun bits : Int => some (datasOf bits))) (h4 : E.con 14 = stS (stF1 storeF))
    (h5 : E.con 25 = fnS (spec1 fun s : Store => some (s.trail.length : Int))) (h6 : E.con 22 = modS) (h7 : E.con 16 = freshS) (h8 : E.con 26 = fnS (spec0 tInt)) (h9 : E.con 23 = setS)
    (h10 : E.con 27 = rollS) (h11 : E.con 28 = refRollS) (h12 : E.con 18 = same16S)
    {bits : Int} {codes more : List Int} {mark : Int} (hs : HS) : CallOk ρ Try.prog 4 [enc bits, enc codes, enc more, enc mark] hs (.bool true) hs := by
  refine fn hρ hE hcon Try.func4 BS_law16_StoreRollsBack rfl (by simp) ?_ hs
  by_cases c1 : codes.length ≤ 60
  case neg => simp [S_law16_StoreRollsBack_r0, S_law16_StoreRollsBack_r1, S_law16_StoreRollsBack_r2, S_law16_StoreRollsBack_r3, S_law16_StoreRollsBack_r4, S_law16_StoreRollsBack_r5, S_law16_StoreRollsBack_r6, S_law16_StoreRollsBack_r7, S_law16_StoreRollsBack_r8, S_law16_StoreRollsBack_r9, S_law16_StoreRollsBack_r10, S_law16_StoreRollsBack_r11, S_law16_StoreRollsBack_r12, S_law16_StoreRollsBack_r13, S_law16_StoreRollsBack_r14, S_law16_StoreRollsBack_r15, S_law16_StoreRollsBack_b0, S_law16_StoreRollsBack_r16, S_law16_StoreRollsBack_b1, S_law16_StoreRollsBack_r17, S_law16_StoreRollsBack_r18, S_law16_StoreRollsBack_r19, S_law16_StoreRollsBack_r20, S_law16_StoreRollsBack_r21, S_law16_StoreRollsBack, hE, h1, h2, yesS, fewS, c1]
  by_cases c2 : more.length ≤ 30
  case neg =>
    have c2' : (30 : Int) < more.length := by omega
    simp [S_law16_StoreRollsBack_r0, S_law16_StoreRollsBack_r1, S_law16_StoreRollsBack_r2, S_law16_StoreRollsBack_r3, S_law16_StoreRollsBack_r4, S_law16_StoreRollsBack_r5, S_law16_StoreRollsBack_r6, S_law16_StoreRollsBack_r7, S_law16_StoreRollsBack_r8, S_law16_StoreRollsBack_r9, S_law16_StoreRollsBack_r10, S_law16_StoreRollsBack_r11, S_law16_StoreRollsBack_r12, S_law16_StoreRollsBack_r13, S_law16_StoreRollsBack_r14, S_law16_StoreRollsBack_r15, S_law16_StoreRollsBack_b0, S_law16_StoreRollsBack_r16, S_law16_StoreRollsBack_b1, S_law16_StoreRollsBack_r17, S_law16_StoreRollsBack_r18, S_law16_StoreRollsBack_r19, S_law16_StoreRollsBack_r20, S_law16_StoreRollsBack_r21, S_law16_StoreRollsBack, hE, h1, h2, yesS, fewS, c1, c2']
  have c2' : ¬ (30 : Int) < more.length := by omega
  have htp : (⟨codes, 0⟩ : Tp).ok := ⟨Int.le_refl _, by show codes.length ≤ 100000; omega⟩
  have hF : storeF ⟨codes, 0⟩ (datasOf bits) = some (Store.storeM ⟨codes, 0⟩ (datasOf bits)) := if_pos ⟨htp, datasOf_ok bits, datasOf_ok3 bits⟩
  obtain ⟨s1, s2, s3, s4⟩ := Store.storeM_ok htp (datasOf_ok3 bits)
  have s5 := Store.storeM_all ⟨codes, 0⟩ (datasOf_ok3 bits)
  have s6 := Store.storeN_le ⟨codes, 0⟩
  have s7 := Store.storeM_trail htp (datasOf_ok3 bits)
  have s8 := Store.ext_store ⟨codes, 0⟩ (datasOf bits)
  have hlen := s3.len
  rcases hq : Store.storeM ⟨codes, 0⟩ (datasOf bits) with ⟨t2, s⟩
  rw [hq] at hF
  simp only [hq] at s3 s5 s7 s8 hlen
  simp [S_law16_StoreRollsBack_r0, S_law16_StoreRollsBack_r1, S_law16_StoreRollsBack_r2, S_law16_StoreRollsBack_r3, S_law16_StoreRollsBack_r4, S_law16_StoreRollsBack_r5, S_law16_StoreRollsBack_r6, S_law16_StoreRollsBack_r7, S_law16_StoreRollsBack_r8, S_law16_StoreRollsBack_r9, S_law16_StoreRollsBack_r10, S_law16_StoreRollsBack_r11, S_law16_StoreRollsBack_r12, S_law16_StoreRollsBack_r13, S_law16_StoreRollsBack_r14, S_law16_StoreRollsBack_r15, S_law16_StoreRollsBack_b0, S_law16_StoreRollsBack_r16, S_law16_StoreRollsBack_b1, S_law16_StoreRollsBack_r17, S_law16_StoreRollsBack_r18, S_law16_StoreRollsBack_r19, S_law16_StoreRollsBack_r20, S_law16_StoreRollsBack_r21, S_law16_StoreRollsBack, hE, h1, h2, h3, h4, h5, yesS, fewS, c1, c2', hF]
  refine lpi hρ hE hcon more.length (nn := 4) (fun i (p : Store × List Store) => [(2, .sl (more.map encI) false), (3, .int .i64 mark), (10, .ptr 0 0 0), (13, .ptr 1 0 0), (11, stV i p.2), (12, mkVV i p.2), (14, .int .i64 (i : Int))])
    (fun i p => [(0, box (encStore s)), (1, box (encStore p.1))] ++ stH i p.2) (fun i p => RInv s i p.1 p.2) (s, [s])
    (Less.auto (by simp [stV, mkVV, stH, markV]) (by simp [stH]) (by simp [stH]) (by simp [stH])) ⟨rfl, fun y hy => by rw [List.mem_singleton.1 hy]; exact .refl _, fun y hy => by rw [List.mem_singleton.1 hy]; exact s5, s5, rfl, ⟨by show 1 ≤ s.slots.length; omega, by show s.slots.length ≤ 5 + 0; omega⟩, by show s.trail.length ≤ 225 + 0; omega⟩ ?_ ?_
  · rintro ⟨x, L⟩ hi K
    simp only at hi
    have hLl := hi.len
    have hsm : x.small := ⟨by have := hi.slots.2; omega, by have := hi.trail; omega⟩
    have hmn := modI_nonneg mark ((more.length : Int) + 1)
    have hml := modI_lt (n := mark) (m := (more.length : Int) + 1) (by omega)
    obtain ⟨kk, hkk⟩ := Int.eq_ofNat_of_zero_le hmn
    rw [hkk] at hml
    have hkl : kk < L.length := by omega
    obtain ⟨c, hkc⟩ : ∃ c, L[kk] = c := ⟨_, rfl⟩
    have hcm : c ∈ L := by rw [← hkc]; exact List.getElem_mem hkl
    have hrc := roll_ext (hi.ext c hcm)
    have hca := hi.all c hcm
    have hct := (hi.ext c hcm).len
    have hxt := hi.trail
    have hcs := same_self hca (by omega)
    have hsL : s ∈ L := List.mem_of_getElem? hi.first
    have hss := same_self (hi.all s hsL) (by have := (hi.ext s hsL).len; omega)
    have hza := roll_all hi.ok mark
    have hzt := roll_trail x mark
    have hmade : Made x := s8.trans (hi.ext s hsL)
    have hid := Store.Ext.ids hmade (fun c hc => by cases hc)
    have hne : x.slots ≠ [] := fun h => by have := hi.slots.1; rw [h] at this; simp at this
    have hrr : refRollF x mark = some (rollM x mark) := by rw [roll_ref hmade]; exact if_pos ⟨hsm, hne, hid⟩
    have hzs := same_self hza (by omega)
    generalize hzz : rollM x mark = zz at hrr hzs
    obtain ⟨z, ok⟩ := zz
    simp only at hzs
    have hm1 : (more.length : Int) + 1 ≤ 1000000 := by omega
    have hm2 : -1000000 ≤ (more.length : Int) + 1 := by omega
    have hf0 := hi.first
    generalize hN : more.length = N at *
    rcases N with _ | n
    · obtain ⟨y, rfl⟩ : ∃ y, L = [y] := by
        match L, hLl with
        | [y], _ => exact ⟨y, rfl⟩
      obtain rfl : kk = 0 := by omega
      obtain rfl : y = s := by simpa using hf0
      obtain rfl : y = c := hkc
      have hk0 : modI mark 1 = 0 := hkk
      simp [S_law16_StoreRollsBack_l0, S_law16_StoreRollsBack_r0, S_law16_StoreRollsBack_r1, S_law16_StoreRollsBack_r2, S_law16_StoreRollsBack_r3, S_law16_StoreRollsBack_r4, S_law16_StoreRollsBack_r5, S_law16_StoreRollsBack_r6, S_law16_StoreRollsBack_r7, S_law16_StoreRollsBack_r8, S_law16_StoreRollsBack_r9, S_law16_StoreRollsBack_r10, S_law16_StoreRollsBack_r11, S_law16_StoreRollsBack_r12, S_law16_StoreRollsBack_r13, S_law16_StoreRollsBack_r14, S_law16_StoreRollsBack_r15, S_law16_StoreRollsBack_b0, S_law16_StoreRollsBack_r16, S_law16_StoreRollsBack_b1, S_law16_StoreRollsBack_r17, S_law16_StoreRollsBack_r18, S_law16_StoreRollsBack_r19, S_law16_StoreRollsBack_r20, S_law16_StoreRollsBack_r21, S_law16_StoreRollsBack, hE, stV, mkVV, stH, markV, hN]
      refine LessQ.mk (Less.auto (TL := [(3, .int .i64 mark), (10, .ptr 0 0 0), (13, .ptr 1 0 0), (11, .sl [encStore y] true), (12, .sl [markV y] true)]) (HL := [(0, box (encStore y)), (1, box (encStore x))]) (n := 4) (by simp [markV]) (by simp) (by simp) (by simp)) ?_
      simp [S_law16_StoreRollsBack_r0, S_law16_StoreRollsBack_r1, S_law16_StoreRollsBack_r2, S_law16_StoreRollsBack_r3, S_law16_StoreRollsBack_r4, S_law16_StoreRollsBack_r5, S_law16_StoreRollsBack_r6, S_law16_StoreRollsBack_r7, S_law16_StoreRollsBack_r8, S_law16_StoreRollsBack_r9, S_law16_StoreRollsBack_r10, S_law16_StoreRollsBack_r11, S_law16_StoreRollsBack_r12, S_law16_StoreRollsBack_r13, S_law16_StoreRollsBack_r14, S_law16_StoreRollsBack_r15, S_law16_StoreRollsBack_b0, S_law16_StoreRollsBack_r16, S_law16_StoreRollsBack_b1, S_law16_StoreRollsBack_r17, S_law16_StoreRollsBack_r18, S_law16_StoreRollsBack_r19, S_law16_StoreRollsBack_r20, S_law16_StoreRollsBack_r21, S_law16_StoreRollsBack, hE, markV, h6, h10, h11, h12, modS, rollS, refRollS, same16S, hk0, hsm, hrc, hzz, hrr, hzs, hss]
    · have hkB : modI mark ((n : Int) + 2) = (kk : Int) := by rw [← hkk]; congr 1
      have hkA : modI mark ((n : Int) + 1 + 1) = (kk : Int) := by rw [← hkk]; congr 1
      have hkC : modI mark ((n + 2 : Nat) : Int) = (kk : Int) := by rw [← hkk]; congr 1
      have hn1 : (n : Int) + 2 ≤ 1000000 := by omega
      have hn2 : -1000000 ≤ (n : Int) + 2 := by omega
      have hkn : kk < n + 2 := by omega
      have hkn2 : (kk : Int) < (n : Int) + 2 := by omega
      have hL0 : 0 < L.length := by omega
      have hL : L[0] = s := by
        have := hf0
        rw [List.getElem?_eq_getElem hL0] at this
        exact Option.some.inj this
      have hb1 : n + 2 ≤ L.length := by omega
      have hq1 : kk * 2 / 2 = kk := by omega
      have hq2 : kk * 2 % 2 = 0 := by omega
      simp [S_law16_StoreRollsBack_l0, S_law16_StoreRollsBack_r0, S_law16_StoreRollsBack_r1, S_law16_StoreRollsBack_r2, S_law16_StoreRollsBack_r3, S_law16_StoreRollsBack_r4, S_law16_StoreRollsBack_r5, S_law16_StoreRollsBack_r6, S_law16_StoreRollsBack_r7, S_law16_StoreRollsBack_r8, S_law16_StoreRollsBack_r9, S_law16_StoreRollsBack_r10, S_law16_StoreRollsBack_r11, S_law16_StoreRollsBack_r12, S_law16_StoreRollsBack_r13, S_law16_StoreRollsBack_r14, S_law16_StoreRollsBack_r15, S_law16_StoreRollsBack_b0, S_law16_StoreRollsBack_r16, S_law16_StoreRollsBack_b1, S_law16_StoreRollsBack_r17, S_law16_StoreRollsBack_r18, S_law16_StoreRollsBack_r19, S_law16_StoreRollsBack_r20, S_law16_StoreRollsBack_r21, S_law16_StoreRollsBack, hE, stV, mkVV, stH, hN]
      refine LessQ.mk (Less.auto (TL := [(3, .int .i64 mark), (10, .ptr 0 0 0), (13, .ptr 1 0 0), (11, .own 2 n 0 (n + 2) none), (12, .own 3 n 0 (n + 2) none)]) (HL := [(0, box (encStore s)), (1, box (encStore x)), (2, .arr 2 n (L.map encStore) false false true), (3, .arr 1 n (L.map markV) false false true)]) (n := 4) (by simp [markV]) (by simp [markV]) (by simp) (by simp)) ?_
      simp [S_law16_StoreRollsBack_r0, S_law16_StoreRollsBack_r1, S_law16_StoreRollsBack_r2, S_law16_StoreRollsBack_r3, S_law16_StoreRollsBack_r4, S_law16_StoreRollsBack_r5, S_law16_StoreRollsBack_r6, S_law16_StoreRollsBack_r7, S_law16_StoreRollsBack_r8, S_law16_StoreRollsBack_r9, S_law16_StoreRollsBack_r10, S_law16_StoreRollsBack_r11, S_law16_StoreRollsBack_r12, S_law16_StoreRollsBack_r13, S_law16_StoreRollsBack_r14, S_law16_StoreRollsBack_r15, S_law16_StoreRollsBack_b0, S_law16_StoreRollsBack_r16, S_law16_StoreRollsBack_b1, S_law16_StoreRollsBack_r17, S_law16_StoreRollsBack_r18, S_law16_StoreRollsBack_r19, S_law16_StoreRollsBack_r20, S_law16_StoreRollsBack_r21, S_law16_StoreRollsBack, hE, markV, h6, h10, h11, h12, modS, rollS, refRollS, same16S, hkA, hkB, hkC, hn1, hn2, hkn, hkn2, hkl, hkc, hL0, hL, hb1, Nat.mod_one, hq1, hq2, hsm, hrc, hzz, hrr, hzs, hcs, hss]
  · rintro i ⟨x, L⟩ hil hi K hK
    simp only at hi
    have hi' : (i : Int) < more.length := by omega
    have hsm : x.small := ⟨by have := hi.slots.2; omega, by have := hi.trail; omega⟩
    have hmd : ∀ m : Int, -1000000 ≤ m ∧ m ≤ 1000000 → ∀ n, (if -1000000 ≤ m ∧ m ≤ 1000000 then some (modI n m) else none) = some (modI n m) := fun m h n => if_pos h
    have hw : IntKind.i64.wrap ((i : Int) + 1) = ((i + 1 : Nat) : Int) := wrap_succ (by omega)
    have hsl := hi.slots
    have hx0 : ¬ (x.slots.length : Int) = 0 := by omega
    have hx1 : (x.slots.length : Int) ≤ 1000000 := by omega
    have hx2 : -1000000 ≤ (x.slots.length : Int) := by omega
    have hx3 : ¬ x.slots = [] := fun h => by rw [h] at hsl; simp at hsl
    obtain ⟨v, hv⟩ : ∃ v, more[i] = v := ⟨_, rfl⟩
    have hLl := hi.len
    have key : ∀ x', Store.Ext x x' → Store.AllOk x' → x'.slots.length ≤ x.slots.length + 1 → x'.trail.length ≤ x.trail.length + 1 → _ := fun x' a b c d => hK (x', L ++ [x']) (hi.next a b c d)
    have hw0 : IntKind.i64.wrap 1 = 1 := rfl
    by_cases d1 : modI v 3 = 0
    · have hf := key (x.fresh (modI v 4) false).1 (.fresh _ _ (.refl x)) (hi.ok.fresh (by omega) _ _) (by simp [Store.fresh]) (by simp [Store.fresh])
      rcases hq2 : x.fresh (modI v 4) false with ⟨x', t'⟩
      rw [hq2] at hf
      simp only at hf
      rcases i with _ | i
      · obtain ⟨y, rfl⟩ : ∃ y, L = [y] := by
          match L, hLl with
          | [y], _ => exact ⟨y, rfl⟩
        simp only [stV, mkVV, stH, List.map_append, List.map_cons, List.map_nil, markV] at hf
        simp [S_law16_StoreRollsBack_l0, S_law16_StoreRollsBack_r0, S_law16_StoreRollsBack_r1, S_law16_StoreRollsBack_r2, S_law16_StoreRollsBack_r3, S_law16_StoreRollsBack_r4, S_law16_StoreRollsBack_r5, S_law16_StoreRollsBack_r6, S_law16_StoreRollsBack_r7, S_law16_StoreRollsBack_r8, S_law16_StoreRollsBack_r9, S_law16_StoreRollsBack_r10, S_law16_StoreRollsBack_r11, S_law16_StoreRollsBack_r12, S_law16_StoreRollsBack_r13, S_law16_StoreRollsBack_r14, S_law16_StoreRollsBack_r15, S_law16_StoreRollsBack_b0, S_law16_StoreRollsBack_r16, S_law16_StoreRollsBack_b1, S_law16_StoreRollsBack_r17, S_law16_StoreRollsBack_r18, S_law16_StoreRollsBack_r19, S_law16_StoreRollsBack_r20, S_law16_StoreRollsBack_r21, S_law16_StoreRollsBack, hE, stV, mkVV, stH, markV, h5, h6, h7, modS, freshS, hi', hil, hsm, hv, d1, hq2, hw, hLl, -Int.natCast_add]
        exact hf _ _ (Less.auto (by simp [markV, hw0, -Int.natCast_add]) (by simp [markV]) (by simp) (by simp))
      · have hr1 : ∀ b, b ≤ 200 → (i + 1 + 1 + 1) * b ≤ 1048576 := fun b hb => Nat.le_trans (Nat.mul_le_mul (by omega : i + 1 + 1 + 1 ≤ 40) hb) (by decide)
        have hr2 := hr1 48 (by omega)
        have hr3 := hr1 8 (by omega)
        have hT1 : (L.map encStore).take (i + 1 + 1) = L.map encStore := List.take_of_length_le (by simp [hLl])
        have hT2 : (L.map markV).take (i + 1 + 1) = L.map markV := List.take_of_length_le (by simp [hLl])
        simp only [stV, mkVV, stH, List.map_append, List.map_cons, List.map_nil] at hf
        simp [S_law16_StoreRollsBack_l0, S_law16_StoreRollsBack_r0, S_law16_StoreRollsBack_r1, S_law16_StoreRollsBack_r2, S_law16_StoreRollsBack_r3, S_law16_StoreRollsBack_r4, S_law16_StoreRollsBack_r5, S_law16_StoreRollsBack_r6, S_law16_StoreRollsBack_r7, S_law16_StoreRollsBack_r8, S_law16_StoreRollsBack_r9, S_law16_StoreRollsBack_r10, S_law16_StoreRollsBack_r11, S_law16_StoreRollsBack_r12, S_law16_StoreRollsBack_r13, S_law16_StoreRollsBack_r14, S_law16_StoreRollsBack_r15, S_law16_StoreRollsBack_b0, S_law16_StoreRollsBack_r16, S_law16_StoreRollsBack_b1, S_law16_StoreRollsBack_r17, S_law16_StoreRollsBack_r18, S_law16_StoreRollsBack_r19, S_law16_StoreRollsBack_r20, S_law16_StoreRollsBack_r21, S_law16_StoreRollsBack, hE, stV, mkVV, stH, markV, h5, h6, h7, modS, freshS, hi', hil, hsm, hv, d1, hq2, hw, hLl, hr2, hr3, hT1, hT2, Nat.not_succ_le_self, -Int.natCast_add]
        exact hf _ _ (Less.auto (by simp [markV, -Int.natCast_add]) (by simp [markV]) (by simp) (by simp))
    · have hsx : (x.set (modI v x.slots.length) ⟨true, tInt, (i : Int), false⟩).1.slots.length ≤ x.slots.length + 1 ∧ (x.set (modI v x.slots.length) ⟨true, tInt, (i : Int), false⟩).1.trail.length ≤ x.trail.length + 1 := by
        unfold Store.set
        split
        · exact ⟨by simp, by simp⟩
        · exact ⟨Nat.le_succ _, Nat.le_succ _⟩
      have hf := key _ (Store.Ext.setI (.refl x) (modI v x.slots.length) ⟨true, tInt, (i : Int), false⟩) (hi.ok.set _ rfl) hsx.1 hsx.2
      rcases hq2 : x.set (modI v x.slots.length) ⟨true, tInt, (i : Int), false⟩ with ⟨x', t'⟩
      rw [hq2] at hf
      simp only at hf
      generalize hm : modI v x.slots.length = m at hq2
      rcases i with _ | i
      · obtain ⟨y, rfl⟩ : ∃ y, L = [y] := by
          match L, hLl with
          | [y], _ => exact ⟨y, rfl⟩
        have hq3 : x.set m ⟨true, tInt, 0, false⟩ = (x', t') := hq2
        simp only [stV, mkVV, stH, List.map_append, List.map_cons, List.map_nil, markV] at hf
        simp [S_law16_StoreRollsBack_l0, S_law16_StoreRollsBack_r0, S_law16_StoreRollsBack_r1, S_law16_StoreRollsBack_r2, S_law16_StoreRollsBack_r3, S_law16_StoreRollsBack_r4, S_law16_StoreRollsBack_r5, S_law16_StoreRollsBack_r6, S_law16_StoreRollsBack_r7, S_law16_StoreRollsBack_r8, S_law16_StoreRollsBack_r9, S_law16_StoreRollsBack_r10, S_law16_StoreRollsBack_r11, S_law16_StoreRollsBack_r12, S_law16_StoreRollsBack_r13, S_law16_StoreRollsBack_r14, S_law16_StoreRollsBack_r15, S_law16_StoreRollsBack_b0, S_law16_StoreRollsBack_r16, S_law16_StoreRollsBack_b1, S_law16_StoreRollsBack_r17, S_law16_StoreRollsBack_r18, S_law16_StoreRollsBack_r19, S_law16_StoreRollsBack_r20, S_law16_StoreRollsBack_r21, S_law16_StoreRollsBack, hE, stV, mkVV, stH, markV, h5, h6, h8, h9, modS, setS, hi', hil, hsm, hv, d1, hx0, hx1, hx2, hx3, hm, hq3, hw, hLl, -Int.natCast_add]
        exact hf _ _ (Less.auto (by simp [markV, hw0, -Int.natCast_add]) (by simp [markV]) (by simp) (by simp))
      · have hr1 : ∀ b, b ≤ 200 → (i + 1 + 1 + 1) * b ≤ 1048576 := fun b hb => Nat.le_trans (Nat.mul_le_mul (by omega : i + 1 + 1 + 1 ≤ 40) hb) (by decide)
        have hr2 := hr1 48 (by omega)
        have hr3 := hr1 8 (by omega)
        have hT1 : (L.map encStore).take (i + 1 + 1) = L.map encStore := List.take_of_length_le (by simp [hLl])
        have hT2 : (L.map markV).take (i + 1 + 1) = L.map markV := List.take_of_length_le (by simp [hLl])
        simp only [stV, mkVV, stH, List.map_append, List.map_cons, List.map_nil] at hf
        simp [S_law16_StoreRollsBack_l0, S_law16_StoreRollsBack_r0, S_law16_StoreRollsBack_r1, S_law16_StoreRollsBack_r2, S_law16_StoreRollsBack_r3, S_law16_StoreRollsBack_r4, S_law16_StoreRollsBack_r5, S_law16_StoreRollsBack_r6, S_law16_StoreRollsBack_r7, S_law16_StoreRollsBack_r8, S_law16_StoreRollsBack_r9, S_law16_StoreRollsBack_r10, S_law16_StoreRollsBack_r11, S_law16_StoreRollsBack_r12, S_law16_StoreRollsBack_r13, S_law16_StoreRollsBack_r14, S_law16_StoreRollsBack_r15, S_law16_StoreRollsBack_b0, S_law16_StoreRollsBack_r16, S_law16_StoreRollsBack_b1, S_law16_StoreRollsBack_r17, S_law16_StoreRollsBack_r18, S_law16_StoreRollsBack_r19, S_law16_StoreRollsBack_r20, S_law16_StoreRollsBack_r21, S_law16_StoreRollsBack, hE, stV, mkVV, stH, markV, h5, h6, h8, h9, modS, setS, hi', hil, hsm, hv, d1, hx0, hx1, hx2, hx3, hm, hq2, hw, hLl, hr2, hr3, hT1, hT2, Nat.not_succ_le_self, -Int.natCast_add]
        exact hf _ _ (Less.auto (by simp [markV, -Int.natCast_add]) (by simp [markV]) (by simp) (by simp))
end
end Go.Proofs.Ythfcfmkdeheicaa
