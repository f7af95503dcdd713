import Derived.Test.YtjilhkjgejnmpaaGreatDoorOSW
import Derived.Test.YtjilhkjgejnmpaaGreatDoorJOut
import Derived.Test.YtjilhkjgejnmpaaGreatDoorDF5
import Derived.Test.YtjilhkjgejnmpaaGreatDoorDF7
set_option linter.all false
noncomputable section
/- The errors of inference: infer.Fault and errors.Is at them. -/
namespace Go.Proofs.YtjilhkjgejnmpaaGreatDoor
open Go.J
def faultSp(vs:List V):Option V:=match vs with
 | [.iface t (.agg [.int k p,.int l q])]=>gd (et (Nat.beq t 272) (et (kindEq k .i64) (kindEq l .i64))) (some (.agg [.int .i64 q,.int .i64 p]))
 |_=>none
def isSp(vs:List V):Option V:=match vs with
 | [.iface t (.agg [.int k p,.int l q]),.iface u (.int m c)]=>gd (et (et (Nat.beq t 272) (Nat.beq u 214)) (et (kindEq m .i64) (et (kindEq k .i64) (kindEq l .i64)))) (some (.bool (eqI q c)))
 |_=>none
section
variable {ρ:Nat→Value}
theorem err_val{w:World}{F:Nat→Prop}{μ:Nat→Nat→Option MI}{t:TypeId}{p q:Int}{x:Value}(h:Rep ρ w F μ (.iface t (.agg [.int .i64 p,.int .i64 q])) x):x=.iface t (.agg #[.int .i64 p,.int .i64 q]):=by
 obtain⟨y,rfl,hy⟩:=h.iface_inv
 obtain⟨ys,rfl,hs,hc⟩:=hy.agg_inv
 have h0:=(hc 0 _ rfl).int_inv
 have h1:=(hc 1 _ rfl).int_inv
 have:ys=#[.int .i64 p,.int .i64 q]:=by
  refine Array.ext hs fun i h2 h3=>?_
  match i with
  | 0=>simpa [Array.getD,h2]using h0
  | 1=>simpa [Array.getD,h2]using h1
  |i+2=>simp at h3;omega
 rw[this]
theorem vFault(hg:ρ gB=.iface 318 (.agg #[.pointer (some ⟨1,143,none⟩)])):Valid ρ Tryz.prog 58 (outS faultSp):=Valid.out (fnOk Tryz.func58 (by kernel_rfl)) fun vs v hv w F μ xs hA hG=>by
 unfold faultSp at hv
 split at hv
 · rename_i t k p l q
   simp only[gd_eq,et_true,J.beq_true,kindEq_true]at hv
   obtain⟨⟨rfl,rfl,rfl⟩,hv⟩:=hv
   cases hv
   obtain⟨x,hx,hr⟩:=hA.2 0 _ rfl
   have e:=err_val hr
   subst e
   have hxs:xs=#[.iface 272 (.agg #[.int .i64 p,.int .i64 q])]:=by
    refine Array.ext hA.1 fun i h2 h3=>?_
    have h1:xs.size=1:=hA.1
    obtain rfl:i=0:=by omega
    rw[Array.getElem?_eq_getElem h2]at hx
    exact Option.some.inj hx
   subst hxs
   have hgl:=(hG 0 (by show ρ gB≠_;rw[hg];simp)).2
   replace hgl:w.cell? ⟨0,0,none⟩=some (ρ gB):=hgl
   rw[hg]at hgl
   refine(fault_calls p q w hgl).mono fun e w' he=>?_
   obtain⟨rfl,h1,h2,h3⟩:=he
   refine⟨_,rfl,.agg _ _ rfl fun i u hu=>?_,h1,h2,h3⟩
   match i,hu with
   | 0,hu=>cases hu;exact .int _ _
   | 1,hu=>cases hu;exact .int _ _
 · cases hv
theorem vIs:Valid ρ Tryz.prog 182 (outS isSp):=Valid.out (fnOk Tryz.func182 (by kernel_rfl)) fun vs v hv w F μ xs hA hG=>by
 unfold isSp at hv
 split at hv
 · rename_i t k p l q u m c
   simp only[gd_eq,et_true,J.beq_true,kindEq_true]at hv
   obtain⟨⟨⟨rfl,rfl⟩,rfl,rfl,rfl⟩,hv⟩:=hv
   cases hv
   obtain⟨x,hx,hr⟩:=hA.2 0 _ rfl
   obtain⟨y,hy,hs⟩:=hA.2 1 _ rfl
   have e:=err_val hr
   subst e
   obtain⟨z,rfl,hz⟩:=hs.iface_inv
   have e2:=hz.int_inv
   subst e2
   have hxs:xs=#[.iface 272 (.agg #[.int .i64 p,.int .i64 q]),.iface 214 (.int .i64 c)]:=by
    refine Array.ext hA.1 fun i h2 h3=>?_
    have h1:xs.size=2:=hA.1
    match i with
    | 0 =>
      rw[Array.getElem?_eq_getElem h2]at hx
      exact Option.some.inj hx
    | 1 =>
      rw[Array.getElem?_eq_getElem h2]at hy
      exact Option.some.inj hy
    |i+2=>omega
   subst hxs
   refine(is_calls p q c w).mono fun e w' he=>?_
   obtain⟨rfl,rfl⟩:=he
   have hh:∀ (W:World) (o:Go.Obj) (b:Nat),b<W.heap.size→(W.alloc o).heap[b]?=W.heap[b]?:=fun W o b hb=>by
    show (W.heap.push o)[b]?=_
    rw[Array.getElem?_push,if_neg (Nat.ne_of_lt hb)]
   have hsz:∀ (W:World) (o:Go.Obj),(W.alloc o).heap.size=W.heap.size+1:=fun W o=>Array.size_push ..
   refine⟨_,rfl,by rw[eqI_beq];exact .bool _,⟨rfl,rfl,rfl⟩,by simp only[hsz];omega,fun b hb=>?_⟩
   rw[hh _ _ _ (by simp only[hsz];omega),hh _ _ _ hb]
 · cases hv
end
end Go.Proofs.YtjilhkjgejnmpaaGreatDoor
