import Derived.Test.YthfcfmkdeheicaaGreatGC4
import Derived.Test.YthfcfmkdeheicaaGreatJL
set_option linter.all false
set_option linter.all false
namespace Go.Proofs.YthfcfmkdeheicaaGreat
open Go.J
open Go.J.Enc (enc)
set_option maxRecDepth 100000
set_option maxHeartbeats 4000000
noncomputable def replF (d : Nat) (t : Ty) (s : List Assign) : Option Ty := if t.ok = true ∧ t.size ≤ d ∧ s.length ≤ 100000 then some (t.repl s) else none
section
variable {ρ : Nat → Value} (hρ : J.Good ρ) {E : Env} (hE : E.P = Tryz.prog) (hcon : ConsOk ρ E)
include hρ hE hcon
theorem ref3_Replace_run {d : Nat} (hc : E.con 25 = fnS (spec2 (replF d))) {t : Ty} {s : List Assign} (ht : t.ok = true) (hd : t.size ≤ d + 1) (hsl : s.length ≤ 100000) (hs : HS) : CallOk ρ Tryz.prog 25 [enc t, enc s] hs (enc (t.repl s)) hs := by
  refine fn hρ hE hcon Tryz.func25 fB25 rfl (by simp) ?_ hs
  rw [repl_eq]
  by_cases hk : t.kind = 1
  · rw [if_pos hk]
    simp [fS25r0, fS25r1, fS25r2, fS25r3, fS25r4, fS25r5, fS25b0, fS25r6, fS25b1, fS25r7, fS25r8, fS25r9, fS25r10, fS25r11, fS25r12, fS25b2, fS25r13, fS25b3, fS25r14, fS25, hE, hk]
    refine lpi hρ hE hcon s.length (nn := 2) (fun i (_ : Unit) => [(1, .sl (s.map encAssign) false), (2, .ptr 0 0 0), (4, .ptr 1 0 0), (5, .int .i64 (i : Int))]) (fun i _ => [(0, box (encTy t)), (1, box [.int .i64 0, .str [], .int .i64 0, .int .i64 0, .snil])]) (fun i _ => lookA (s.take i) t.id = none) ()
      (Less.auto (by simp) (by simp [hk]) rfl rfl) rfl ?_ ?_
    · intro _ hl K
      rw [List.take_length] at hl
      simp [fS25l0, fS25r0, fS25r1, fS25r2, fS25r3, fS25r4, fS25r5, fS25b0, fS25r6, fS25b1, fS25r7, fS25r8, fS25r9, fS25r10, fS25r11, fS25r12, fS25b2, fS25r13, fS25b3, fS25r14, fS25, hE]
      refine LessQ.mk (Less.auto (TL := [(2, .ptr 0 0 0), (4, .ptr 1 0 0)]) (HL := [(0, box (encTy t)), (1, box [.int .i64 0, .str [], .int .i64 0, .int .i64 0, .snil])]) (n := 2) (by simp) (by simp [hk]) rfl rfl) ?_
      simp [fS25r0, fS25r1, fS25r2, fS25r3, fS25r4, fS25r5, fS25b0, fS25r6, fS25b1, fS25r7, fS25r8, fS25r9, fS25r10, fS25r11, fS25r12, fS25b2, fS25r13, fS25b3, fS25r14, fS25, hE, hl, hk]
    · intro i _ hi hl K hK
      have hi' : (i : Int) < s.length := by omega
      have hw2 : IntKind.i64.wrap ((i : Int) + 1) = ((i + 1 : Nat) : Int) := wrap_succ (by omega)
      have hlk : ∀ j, lookA (s.take (i + 1)) j = (lookA (s.take i) j).or (lookA [s[i]] j) := fun j => by
        rw [List.take_add_one, List.getElem?_eq_getElem hi, Option.toList_some, lookA_app]
      by_cases he : s[i].id = t.id
      · have hres : lookA s t.id = some s[i].type := by
          conv => lhs; rw [← List.take_append_drop (i + 1) s]
          rw [lookA_app, hlk, hl]
          simp [lookA, he]
        simp [fS25l0, fS25r0, fS25r1, fS25r2, fS25r3, fS25r4, fS25r5, fS25b0, fS25r6, fS25b1, fS25r7, fS25r8, fS25r9, fS25r10, fS25r11, fS25r12, fS25b2, fS25r13, fS25b3, fS25r14, fS25, hE, hi, hi', he, hk]
        refine LessQ.mk (Less.auto (TL := [(4, .ptr 1 0 0)]) (HL := [(1, box (encTy s[i].type))]) (n := 2) (by simp) (by simp) rfl rfl) ?_
        simp [fS25r0, fS25r1, fS25r2, fS25r3, fS25r4, fS25r5, fS25b0, fS25r6, fS25b1, fS25r7, fS25r8, fS25r9, fS25r10, fS25r11, fS25r12, fS25b2, fS25r13, fS25b3, fS25r14, fS25, hE, hres]
      · have hnew := hK () (by rw [hlk, hl]; simp [lookA, he])
        simp [fS25l0, fS25r0, fS25r1, fS25r2, fS25r3, fS25r4, fS25r5, fS25b0, fS25r6, fS25b1, fS25r7, fS25r8, fS25r9, fS25r10, fS25r11, fS25r12, fS25b2, fS25r13, fS25b3, fS25r14, fS25, hE, hi, hi', he, hk, hw2, -Int.natCast_add]
        exact hnew _ _ (Less.auto (by simp [-Int.natCast_add]) (by simp [hk]) rfl rfl)
  · rw [if_neg hk]
    simp [fS25r0, fS25r1, fS25r2, fS25r3, fS25r4, fS25r5, fS25b0, fS25r6, fS25b1, fS25r7, fS25r8, fS25r9, fS25r10, fS25r11, fS25r12, fS25b2, fS25r13, fS25b3, fS25r14, fS25, hE, hk]
    have hlen := Ty.ok_len ht
    refine lpi hρ hE hcon t.args.length (nn := 4) (fun i (L : List Ty) => [(1, .sl (s.map encAssign) false), (2, .ptr 0 0 0), (4, .ptr 1 0 0), (6, .ptr 2 0 0), (7, .int .i64 (i : Int))])
      (fun i L => [(0, box (encTy t)), (1, box [.int .i64 0, .str [], .int .i64 0, .int .i64 0, .snil]), (2, box [.int .i64 t.kind, .str t.name, .int .i64 t.id, .int .i64 t.home, oV 3 (L.map encTy)])] ++ oH 3 5 (L.map encTy)) (fun i L => L = (t.args.take i).map (Ty.repl s)) []
      (Less.auto (by simp) (by simp) (by simp) (by simp)) rfl ?_ ?_
    · intro L hL K
      rw [List.take_length] at hL
      rw [← hL]
      clear hL
      rcases L with _ | ⟨x, L⟩
      · simp [fS25l1, fS25r0, fS25r1, fS25r2, fS25r3, fS25r4, fS25r5, fS25b0, fS25r6, fS25b1, fS25r7, fS25r8, fS25r9, fS25r10, fS25r11, fS25r12, fS25b2, fS25r13, fS25b3, fS25r14, fS25, hE]
        refine LessQ.mk (Less.auto (TL := [(4, .ptr 1 0 0), (6, .ptr 2 0 0)]) (HL := [(1, box [.int .i64 0, .str [], .int .i64 0, .int .i64 0, .snil]), (2, box [.int .i64 t.kind, .str t.name, .int .i64 t.id, .int .i64 t.home, .snil])]) (n := 4) (by simp) (by simp) (by simp) (by simp)) ?_
        simp [fS25r0, fS25r1, fS25r2, fS25r3, fS25r4, fS25r5, fS25b0, fS25r6, fS25b1, fS25r7, fS25r8, fS25r9, fS25r10, fS25r11, fS25r12, fS25b2, fS25r13, fS25b3, fS25r14, fS25, hE]
      · simp [fS25l1, fS25r0, fS25r1, fS25r2, fS25r3, fS25r4, fS25r5, fS25b0, fS25r6, fS25b1, fS25r7, fS25r8, fS25r9, fS25r10, fS25r11, fS25r12, fS25b2, fS25r13, fS25b3, fS25r14, fS25, hE]
        refine LessQ.mk (Less.auto (TL := [(4, .ptr 1 0 0), (6, .ptr 2 0 0)]) (HL := [(1, box [.int .i64 0, .str [], .int .i64 0, .int .i64 0, .snil]), (2, box [.int .i64 t.kind, .str t.name, .int .i64 t.id, .int .i64 t.home, oV 3 ((x :: L).map encTy)])] ++ oH 3 5 ((x :: L).map encTy)) (n := 4) (by simp) (by simp) (by simp) (by simp)) ?_
        simp [fS25r0, fS25r1, fS25r2, fS25r3, fS25r4, fS25r5, fS25b0, fS25r6, fS25b1, fS25r7, fS25r8, fS25r9, fS25r10, fS25r11, fS25r12, fS25b2, fS25r13, fS25b3, fS25r14, fS25, hE]
    · intro i L hi hL K hK
      have hi' : (i : Int) < t.args.length := by omega
      have hw2 : IntKind.i64.wrap ((i : Int) + 1) = ((i + 1 : Nat) : Int) := wrap_succ (by omega)
      have hm := List.getElem_mem hi
      have hF : replF d t.args[i] s = some (t.args[i].repl s) := by
        unfold replF
        rw [if_pos ⟨Ty.ok_arg ht hm, by have := Ty.size_arg hm; omega, hsl⟩]
      have hnew := hK (L ++ [t.args[i].repl s]) (by rw [List.take_add_one, List.getElem?_eq_getElem hi, Option.toList_some, List.map_append, hL]; rfl)
      have hLl : L.length = i := by rw [hL, List.length_map, List.length_take]; omega
      clear hL
      generalize t.args[i].repl s = y at hF hnew
      rcases L with _ | ⟨x, L⟩
      · simp [fS25l1, fS25r0, fS25r1, fS25r2, fS25r3, fS25r4, fS25r5, fS25b0, fS25r6, fS25b1, fS25r7, fS25r8, fS25r9, fS25r10, fS25r11, fS25r12, fS25b2, fS25r13, fS25b3, fS25r14, fS25, hE, hi, hi', hc, hF, hw2, -Int.natCast_add]
        exact hnew _ _ (Less.auto (by simp [-Int.natCast_add]) (by simp) (by simp) (by simp))
      · have h64 : (L.length + 1 + 1) * 64 ≤ 1048576 := by simp at hLl; omega
        simp [fS25l1, fS25r0, fS25r1, fS25r2, fS25r3, fS25r4, fS25r5, fS25b0, fS25r6, fS25b1, fS25r7, fS25r8, fS25r9, fS25r10, fS25r11, fS25r12, fS25b2, fS25r13, fS25b3, fS25r14, fS25, hE, hi, hi', hc, hF, hw2, h64, Nat.not_succ_le_self, -Int.natCast_add]
        exact hnew _ _ (Less.auto (by simp [-Int.natCast_add]) (by simp) (by simp) (by simp))
end
end Go.Proofs.YthfcfmkdeheicaaGreat
