import Derived.Test.YtjilhkjgejnmpaaGreatDoorDF4
set_option linter.all false
noncomputable section
namespace Go.Proofs.YtjilhkjgejnmpaaGreatDoor
open Go.RowKit Go.Extern.Stop Go.Stop Go.Extern
set_option maxHeartbeats 4000000
set_option maxRecDepth 100000
theorem fault_calls(p q:Int)(w:World)(hg:w.cell? ⟨0,0,none⟩=some (.iface 318 (.agg #[.pointer (some ⟨1,143,none⟩)]))) :
 Calls Tryz.prog 58 #[.iface 272 (.agg #[.int .i64 p,.int .i64 q])] w
  fun ev w'=>ev=.returned (.agg #[.int .i64 q,.int .i64 p])∧(w'.os=w.os∧w'.tape=w.tape∧w'.output=w.output)∧w.heap.size≤w'.heap.size∧∀ b,b<w.heap.size→w'.heap[b]?=w.heap[b]?:=by
 have hgl:0<w.heap.size:=by
  rcases Nat.eq_zero_or_pos w.heap.size with h0|h
  · simp[World.cell?,h0]at hg
  · exact h
 have ac:=as_fault (w.heap.size+1) p q (.int .i64 0) (.int .i64 0) ((w.alloc (.cells #[.int .i64 0,.int .i64 0] 47)).alloc (.cells #[.int .i64 0,.int .i64 0] 216))
  (by rw[World.cell?_alloc_lt _ _ ⟨0,0,none⟩ (by simp),World.cell?_alloc_lt _ _ ⟨0,0,none⟩ hgl];exact hg)
  (by rw[World.cell?_alloc_at _ _ _ _ (by simp)];rfl) (by rw[World.cell?_alloc_at _ _ _ _ (by simp)];rfl) (by simp) (by simp)
 go_enter Tryz.func58,Tryz.ntmps58
 go_wp2_with (go_at_call 148;refine ac.mono ?_;rintro e w' ⟨rfl,rfl⟩)
 have hh:∀ (W:World) (o:Obj) (b:Nat),b<W.heap.size→(W.alloc o).heap[b]?=W.heap[b]?:=fun W o b hb=>by
  show (W.heap.push o)[b]?=_
  rw[Array.getElem?_push,if_neg (Nat.ne_of_lt hb)]
 have hs:∀ (W:World) (o:Obj),(W.alloc o).heap.size=W.heap.size+1:=fun W o=>Array.size_push ..
 refine bodyPost_ret (v:=.agg #[.int .i64 q,.int .i64 p]) ?_ rfl ?_
 · have hres:Tryz.f58.results=#[.cell 2 47]:=by kernel_rfl
   simp only[results,hres]
   go_simp
 · refine⟨rfl,⟨rfl,rfl,rfl⟩,by simp only[hs];omega,fun b hb=>?_⟩
   rw[hh _ _ _ (by simp only[hs];omega),hh _ _ _ (by simp only[hs];omega),hh _ _ _ (by simp only[hs];omega),hh _ _ _ (by simp only[hs];omega),hh _ _ _ (by simp only[hs];omega),hh _ _ _ (by simp only[hs];omega),hh _ _ _ hb]
end Go.Proofs.YtjilhkjgejnmpaaGreatDoor
