import Derived.Test.YthfcfmkdeheicaaPW2
import Derived.Test.YthfcfmkdeheicaaJEnd
set_option linter.all false
/- Types and stores that were read. -/
set_option linter.all false
namespace Go.Proofs.Ythfcfmkdeheicaa
open Go.J
open Go.J.Enc (enc)
set_option maxRecDepth 100000
theorem vt_zero {P : Program} {t : TypeId} {vs : List V} (h : VT P 0 t vs) : False := h
theorem vt_fields {P : Program} {n : Nat} {vs : List V} {fs : List Field} {L : List (TypeId × Nat)} (hL : fs.map (fun f => (f.type, f.offset)) = L) (h : ∀ f ∈ fs, VT P n f.type ((vs.drop f.offset).take (P.cellsOf f.type))) : ∀ p ∈ L, VT P n p.1 ((vs.drop p.2).take (P.cellsOf p.1)) := by
  intro p hp
  rw [← hL] at hp
  obtain ⟨f, hf, rfl⟩ := List.mem_map.1 hp
  exact h f hf
def fsOf (P : Program) (t : TypeId) : Array Field := match P.underlying t with
  | some (.struct fs) => fs
  | _ => #[]
theorem vt_struct {P : Program} {n : Nat} {t : TypeId} {vs : List V} {L : List (TypeId × Nat)} (ht : P.underlying t = some (.struct (fsOf P t))) (hL : (fsOf P t).toList.map (fun f => (f.type, f.offset)) = L) (h : VT P (n + 1) t vs) :
    vs.length = P.cellsOf t ∧ ∀ p ∈ L, VT P n p.1 ((vs.drop p.2).take (P.cellsOf p.1)) := by
  unfold VT at h
  rw [ht] at h
  exact ⟨h.1, vt_fields hL h.2⟩
theorem vt_int {P : Program} {n : Nat} {t : TypeId} {vs : List V} (ht : P.underlying t = some (.int .i64)) (h : VT P (n + 1) t vs) : ∃ m, vs = [.int .i64 m] := by
  unfold VT at h
  rw [ht] at h
  obtain ⟨m, h, _⟩ := h
  exact ⟨m, h⟩
theorem vt_bool {P : Program} {n : Nat} {t : TypeId} {vs : List V} (ht : P.underlying t = some .bool) (h : VT P (n + 1) t vs) : ∃ b, vs = [.bool b] := by
  unfold VT at h
  rw [ht] at h
  exact h
theorem vt_str {P : Program} {n : Nat} {t : TypeId} {vs : List V} (ht : P.underlying t = some .string) (h : VT P (n + 1) t vs) : ∃ s, vs = [.str s] ∧ s.length < 2^63 := by
  unfold VT at h
  rw [ht] at h
  obtain ⟨s, h, hl, _⟩ := h
  have : maxLen = 2^63 - 1 := rfl
  exact ⟨s, h, by omega⟩
/-- a slice, its elements read one by one -/
theorem vt_slice {P : Program} {n : Nat} {t e : TypeId} {vs : List V} {α : Type} {cells : α → List V} {p : α → Prop} (ht : P.underlying t = some (.slice e)) (hel : ∀ c, VT P n e c → ∃ a, normL c = cells a ∧ p a) (h : VT P (n + 1) t vs) :
    ∃ l : List α, normL vs = [.sl (l.map cells) false] ∧ ∀ a ∈ l, p a := by
  unfold VT at h
  rw [ht] at h
  rcases h with rfl | ⟨es, rfl, _, hes⟩
  · exact ⟨[], by simp [normL, normV], fun a ha => by cases ha⟩
  · have key : ∀ es : List (List V), (∀ c ∈ es, VT P n e c) → ∃ l : List α, normLL es = l.map cells ∧ ∀ a ∈ l, p a := by
      intro es
      induction es with
      | nil => intro _; exact ⟨[], by simp [normLL], fun a ha => by cases ha⟩
      | cons c es ih =>
        intro h
        obtain ⟨l, h1, h2⟩ := ih fun c hc => h c (List.mem_cons_of_mem _ hc)
        obtain ⟨a, h3, h4⟩ := hel c (h c (List.mem_cons_self ..))
        refine ⟨a :: l, by rw [normLL, h1, h3]; rfl, fun b hb => ?_⟩
        rcases List.mem_cons.1 hb with rfl | hb
        · exact h4
        · exact h2 b hb
    obtain ⟨l, h1, h2⟩ := key es hes
    exact ⟨l, by simp [normL, normV, h1], h2⟩
theorem u25 : Try.prog.underlying 25 = some (.struct (fsOf Try.prog 25)) := by kernel_rfl
theorem l25 : (fsOf Try.prog 25).toList.map (fun f => (f.type, f.offset)) = [(3, 0), (9, 1), (3, 2), (3, 3), (23, 4)] := by kernel_rfl
theorem u27 : Try.prog.underlying 27 = some (.struct (fsOf Try.prog 27)) := by kernel_rfl
theorem l27 : (fsOf Try.prog 27).toList.map (fun f => (f.type, f.offset)) = [(4, 0), (25, 1), (3, 6), (4, 7)] := by kernel_rfl
theorem u3 : Try.prog.underlying 3 = some (.int .i64) := by kernel_rfl
theorem u4 : Try.prog.underlying 4 = some .bool := by kernel_rfl
theorem u9 : Try.prog.underlying 9 = some .string := by kernel_rfl
theorem u23 : Try.prog.underlying 23 = some (.slice 25) := by kernel_rfl
theorem cel3 : Try.prog.cellsOf 3 = 1 := by kernel_rfl
theorem cel4 : Try.prog.cellsOf 4 = 1 := by kernel_rfl
theorem cel9 : Try.prog.cellsOf 9 = 1 := by kernel_rfl
theorem cel25 : Try.prog.cellsOf 25 = 5 := by kernel_rfl
theorem cel23 : Try.prog.cellsOf 23 = 1 := by kernel_rfl
theorem cel27 : Try.prog.cellsOf 27 = 8 := by kernel_rfl
theorem vt_ty : ∀ (n : Nat) (c : List V), VT Try.prog n 25 c → ∃ t : Ty, normL c = encTy t ∧ t.short = true := by
  intro n
  induction n using Nat.strongRecOn with
  | _ n ih =>
    intro c h
    cases n with
    | zero => exact (vt_zero h).elim
    | succ n =>
      obtain ⟨hlen, hf⟩ := vt_struct u25 l25 h
      rw [cel25] at hlen
      cases n with
      | zero => exact (vt_zero (hf (3, 0) (by simp))).elim
      | succ n =>
        match c, hlen with
        | [x0, x1, x2, x3, x4], _ =>
          obtain ⟨k, e0⟩ := vt_int u3 (hf (3, 0) (by simp))
          obtain ⟨nm, e1, hs⟩ := vt_str u9 (hf (9, 1) (by simp))
          obtain ⟨i, e2⟩ := vt_int u3 (hf (3, 2) (by simp))
          obtain ⟨hh, e3⟩ := vt_int u3 (hf (3, 3) (by simp))
          obtain ⟨l, e4, hl⟩ := vt_slice (cells := encTy) (p := fun t => t.short = true) u23 (fun c hc => ih n (by omega) c hc) (hf (23, 4) (by simp))
          simp only [cel3, cel9, cel23, List.drop, List.take, List.cons.injEq, and_true] at e0 e1 e2 e3 e4
          subst e0 e1 e2 e3
          rw [normL, normL, List.cons.injEq] at e4
          refine ⟨.mk k nm i hh l, ?_, Ty.short_iff.2 ⟨hs, Ty.shorts_iff.2 hl⟩⟩
          rw [encTy_n]
          simp only [normL, normV, e4.1, Ty.kind_mk, Ty.name_mk, Ty.id_mk, Ty.home_mk, Ty.args_mk]
theorem vt_slot (n : Nat) (c : List V) (h : VT Try.prog n 27 c) : ∃ x : Slot, normL c = encSlot x ∧ x.type.short = true := by
  cases n with
  | zero => exact (vt_zero h).elim
  | succ n =>
    obtain ⟨hlen, hf⟩ := vt_struct u27 l27 h
    rw [cel27] at hlen
    cases n with
    | zero => exact (vt_zero (hf (4, 0) (by simp))).elim
    | succ n =>
      match c, hlen with
      | [x0, x1, x2, x3, x4, x5, x6, x7], _ =>
        obtain ⟨b, e0⟩ := vt_bool u4 (hf (4, 0) (by simp))
        obtain ⟨t, e1, hs⟩ := vt_ty _ _ (hf (25, 1) (by simp))
        obtain ⟨m, e2⟩ := vt_int u3 (hf (3, 6) (by simp))
        obtain ⟨b2, e3⟩ := vt_bool u4 (hf (4, 7) (by simp))
        simp only [cel3, cel4, cel25, List.drop, List.take, List.cons.injEq, and_true] at e0 e1 e2 e3
        subst e0 e2 e3
        refine ⟨⟨b, t, m, b2⟩, ?_, hs⟩
        rw [encTy_n] at e1
        simp only [normL, List.cons.injEq, and_true] at e1
        simp only [normL, e1, normV, encSlot]
theorem agg_val {ρ : Nat → Value} {w : World} {vs : List V} {v : Value} (h : Cells ρ w vs v.cells.toList) (h2 : vs.length ≠ 1) : ∃ cs, v = .agg cs ∧ Val ρ w (.agg vs) v := by
  have hc : ∃ cs, v = .agg cs := by
    have hl := h.1
    cases v <;> first | exact ⟨_, rfl⟩ | (simp [Value.cells] at hl; exact absurd hl h2)
  obtain ⟨cs, rfl⟩ := hc
  refine ⟨cs, rfl, .agg vs cs (by have := h.1; simpa [Value.cells] using this.symm) fun i u hi => ?_⟩
  obtain ⟨c, h3, h4⟩ := h.2 i u hi
  have h5 : cs[i]? = some c := by simpa [Value.cells] using h3
  rw [Array.getD_eq_getD_getElem?, h5]; exact h4
end Go.Proofs.Ythfcfmkdeheicaa
