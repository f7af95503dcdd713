import Derived.Test.YthfcfmkdeheicaaGreatGN4
set_option linter.all false
/- The law LatticeCommon: what its function computes. -/
set_option linter.all false
namespace Go.Proofs.YthfcfmkdeheicaaGreat
open Go.J
open Go.J.Enc (enc)
set_option maxRecDepth 100000
set_option maxHeartbeats 1000000
theorem asgL_look (f : Pair → Ty) : ∀ (L : List Pair) (i j : Nat) (hj : j < L.length), lookA (asgL f L i) ((i + j : Nat) : Int) = some (f L[j]) := by
  intro L
  induction L with
  | nil => intro i j hj; simp at hj
  | cons p L ih =>
    intro i j hj
    rw [asgL, lookA]
    cases j with
    | zero => rw [if_pos (by simp)]; rfl
    | succ j =>
      rw [if_neg (show ¬ (i : Int) = ((i + (j + 1) : Nat) : Int) by omega), show i + (j + 1) = i + 1 + j by omega, ih (i + 1) j (by simpa using hj)]
      rfl
theorem asgL_ok (f : Pair → Ty) (hf : (∀ p, f p = p.a) ∨ (∀ p, f p = p.b)) : ∀ (L : List Pair) (i : Nat), pok L → aok (asgL f L i) := by
  intro L
  induction L with
  | nil => intro i _ a ha; cases ha
  | cons p L ih =>
    intro i hL a ha
    rw [asgL] at ha
    rcases List.mem_cons.1 ha with rfl | ha
    · have := hL p (List.mem_cons_self ..)
      rcases hf with hf | hf
      · rw [show (⟨(i : Int), f p⟩ : Assign).type = p.a from hf p]; exact this.1
      · rw [show (⟨(i : Int), f p⟩ : Assign).type = p.b from hf p]; exact this.2
    · exact ih (i + 1) (fun q hq => hL q (List.mem_cons_of_mem _ hq)) a ha
theorem com_repl {f : Pair → Ty} (hf : (∀ p, f p = p.a) ∨ (∀ p, f p = p.b)) (a b : Ty) : (comM a b).repl (asgL f (comL a b) 0) = f ⟨a, b⟩ := by
  rw [repl_app _ _ (com_plain a b), com_gn]
  refine gn_side hf (fun j hj => ?_) a b (com_cov a b)
  show (lookA _ _).getD _ = _
  have := asgL_look f (comL a b) 0 j hj
  rw [Nat.zero_add] at this
  rw [this]; rfl
section
variable {ρ : Nat → Value} (hρ : J.Good ρ) {E : Env} (hE : E.P = Tryz.prog) (hcon : ConsOk ρ E)
include hρ hE hcon
theorem LatticeCommon_run (h1 : E.con 19 = yesS) (h2 : E.con 10 = fewS) (h3 : E.con 20 = embS madeMM) (h4 : E.con 21 = comS) (h5 : E.con 22 = comS) (h6 : E.con 23 = equalS) (h7 : E.con 24 = same15S) (h8 : E.con 25 = fnS (spec2 (replF 100))) (h9 : E.con 26 = rleqS) (h10 : E.con 27 = leqS)
    {bits : Int} {codes : List Int} (hs : HS) : CallOk ρ Tryz.prog 4 [enc bits, enc codes] hs (.bool true) hs := by
  refine fn hρ hE hcon Tryz.func4 fB4 rfl (by simp) ?_ hs
  by_cases c1 : codes.length ≤ 60
  case neg => simp [fS4r0, fS4r1, fS4r2, fS4r3, fS4r4, fS4r5, fS4r6, fS4r7, fS4r8, fS4, hE, h1, h2, yesS, fewS, c1]
  have htp : (⟨codes, 0⟩ : Tp).ok := ⟨Int.le_refl _, by show codes.length ≤ 100000; omega⟩
  have hmk := madeM_ok htp (datasOf_ok3 bits)
  rcases hm : madeM ⟨codes, 0⟩ (datasOf bits) with ⟨a, b, x, t⟩
  rw [hm] at hmk
  obtain ⟨na, nb, nx, hto⟩ := hmk
  simp only at na nb nx hto
  have hval := fun hs => madeD_val (hs := hs) hm
  have hheap := fun hs => madeD_heap (hs := hs) hm
  have hpk := cm_pok (L := []) na.ok nb.ok (fun p hp => by cases hp)
  have nc : Nc 21 (comM a b) := com_nc na nb.ok hpk.2
  have f2 : topComF a b = some ⟨comM a b, asgL Pair.a (comL a b) 0, asgL Pair.b (comL a b) 0⟩ := if_pos ⟨na.ok, nb.ok, by have := na.sz; omega⟩
  have hle := fun h1 h2 => com_least (a := a) (b := b) (x := x) nx.pl h1 h2
  have hra : (comM a b).repl (asgL Pair.a (comL a b) 0) = a := com_repl (.inl fun _ => rfl) a b
  have hrb : (comM a b).repl (asgL Pair.b (comL a b) 0) = b := com_repl (.inr fun _ => rfl) a b
  have hoa : aok (asgL Pair.a (comL a b) 0) := asgL_ok Pair.a (.inl fun _ => rfl) _ 0 hpk.1
  have hob : aok (asgL Pair.b (comL a b) 0) := asgL_ok Pair.b (.inr fun _ => rfl) _ 0 hpk.1
  have hll : (comL a b).length ≤ 21 := by
    have := (cm_gn (a := a) (b := b) (L := [])).2.2.2
    have h2 := na.sz
    show (cmM a b []).2.length ≤ 21
    simp at this; omega
  have hla := asgL_len Pair.a (comL a b) 0
  have hlb := asgL_len Pair.b (comL a b) 0
  generalize comM a b = c at nc f2 hle hra hrb
  generalize asgL Pair.a (comL a b) 0 = s1 at f2 hra hoa hla
  generalize asgL Pair.b (comL a b) 0 = s2 at f2 hrb hob hlb
  have k1 : s1.length ≤ 100000 := by omega
  have k2 : s2.length ≤ 100000 := by omega
  have g1 : replF 100 c s1 = some a := by rw [← hra]; exact if_pos ⟨nc.ok, by have := nc.sz; omega, k1⟩
  have g2 : replF 100 c s2 = some b := by rw [← hrb]; exact if_pos ⟨nc.ok, by have := nc.sz; omega, k2⟩
  have g3 : rleqF a x = some (leqM a x) := if_pos ⟨nx.ok, na.ok, by have := nx.sz; omega⟩
  have g4 : rleqF b x = some (leqM b x) := if_pos ⟨nx.ok, nb.ok, by have := nx.sz; omega⟩
  have g5 : leqF c x = some (leqM c x) := if_pos ⟨nx.pl, nx.ok, nc.ok, by have := nx.sz; omega⟩
  have nco := nc.ok
  have nao := na.ok
  have nbo := nb.ok
  obtain ⟨ak, an, ai, ah, al⟩ := a
  obtain ⟨bk, bn, bi, bh, bl⟩ := b
  cases p1 : leqM ⟨ak, an, ai, ah, al⟩ x with
  | false =>
    rw [p1] at g3
    simp [fS4r0, fS4r1, fS4r2, fS4r3, fS4r4, fS4r5, fS4r6, fS4r7, fS4r8, fS4, hE, h1, h2, h3, h4, h5, h6, h7, h8, h9, h10, yesS, fewS, c1, hval, hheap, comS, f2, equalS, same15S, g1, g2, g3, rleqS, leqS, nco, nao, nbo, hoa, hob, k1, k2, vacant_eq]
  | true =>
    rw [p1] at g3
    cases p2 : leqM ⟨bk, bn, bi, bh, bl⟩ x with
    | false =>
      rw [p2] at g4
      simp [fS4r0, fS4r1, fS4r2, fS4r3, fS4r4, fS4r5, fS4r6, fS4r7, fS4r8, fS4, hE, h1, h2, h3, h4, h5, h6, h7, h8, h9, h10, yesS, fewS, c1, hval, hheap, comS, f2, equalS, same15S, g1, g2, g3, g4, rleqS, leqS, nco, nao, nbo, hoa, hob, k1, k2, vacant_eq]
    | true =>
      rw [p2] at g4
      rw [hle p1 p2] at g5
      simp [fS4r0, fS4r1, fS4r2, fS4r3, fS4r4, fS4r5, fS4r6, fS4r7, fS4r8, fS4, hE, h1, h2, h3, h4, h5, h6, h7, h8, h9, h10, yesS, fewS, c1, hval, hheap, comS, f2, equalS, same15S, g1, g2, g3, g4, g5, rleqS, leqS, nco, nao, nbo, hoa, hob, k1, k2, vacant_eq]
end
end Go.Proofs.YthfcfmkdeheicaaGreat
