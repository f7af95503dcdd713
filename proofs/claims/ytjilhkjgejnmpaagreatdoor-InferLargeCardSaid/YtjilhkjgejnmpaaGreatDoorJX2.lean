import Derived.Test.YtjilhkjgejnmpaaGreatDoorJE
import Derived.ChangeArms
import Derived.Test.YtjilhkjgejnmpaaGreatDoorJX1
set_option linter.all false
noncomputable section
/- Arguments that were read,as values of the evaluator: typed values without numbers. -/
namespace Go.J
section
variable (ρ:Nat→Value){H:Type}{enc:TypeId×Value→H}{P:Program}{w:World}{base:Nat}{sp:Nat→Bool}{held:Bool}
def Cells(w:World)(vs:List V)(cs:List Value):Prop:=vs.length=cs.length∧∀ (i:Nat) (v:V),vs[i]?=some v→∃ c,cs[i]?=some c∧Val ρ w v c
theorem Cells.one{v:V}{c:Value}(h:Val ρ w v c):Cells ρ w [v] [c]:=⟨rfl,fun i u hu=>by
 match i,hu with
 | 0,hu=>cases hu;exact⟨c,rfl,h⟩⟩
theorem Cells.append{vs us:List V}{cs ds:List Value}(h:Cells ρ w vs cs)(k:Cells ρ w us ds):Cells ρ w (vs++us) (cs++ds):=by
 refine⟨by rw[List.length_append,List.length_append,h.1,k.1],fun i v hv=>?_⟩
 by_cases hi:i<vs.length
 · rw[List.getElem?_append_left hi]at hv
   obtain⟨c,h1,h2⟩:=h.2 i v hv
   grind
 · rw[List.getElem?_append_right (by omega)]at hv
   obtain⟨c,h1,h2⟩:=k.2 _ v hv
   exact⟨c,by rw[List.getElem?_append_right (by rw[← h.1];omega),← h.1];exact h1,h2⟩
end
end Go.J
/- A call that leaves the memory that is there as it was,and answers with a value that lies in no memory. -/
namespace Go.J
def outS(s:List V→Option V)(vs:List V)(hs:HS):Option (V×HS):=ob (s vs) fun v=>some (v,hs)
section
variable {ρ:Nat→Value}{P:Program}
theorem out_callOk{f:FuncId}{vs:List V}{hs:HS}{v:V}(h:∀ w F μ xs,Args ρ w F μ vs xs→Gl ρ w F→Calls P f xs w fun e w'=>∃ x,e=.returned x∧PRep ρ w' (fun _=>False) v x∧Io w w'∧w.heap.size≤w'.heap.size∧∀ b,b<w.heap.size→w'.heap[b]?=w.heap[b]?):CallOk ρ P f vs hs v hs:=by
 intro X w F μ xs hR hD hO hA
 refine CallsIn.mono (callsIn_wide.2 (h w F μ xs hA hR.gl)) fun e w' he=>?_
 obtain⟨x,rfl,hx,hio,hsz,hk⟩:=he
 obtain⟨g1,g2⟩:=alone hR hio hsz hk
 exact⟨_,μ,g1,.pure (hx.mono ρ (fun _ h=>h.elim) fun _ h=>h.elim),g2⟩
theorem Valid.out{f:FuncId}{s:List V→Option V}(hf:FnOk P f)(h:∀ vs v,s vs=some v→∀ w F μ xs,Args ρ w F μ vs xs→Gl ρ w F→Calls P f xs w fun e w'=>∃ x,e=.returned x∧PRep ρ w' (fun _=>False) v x∧Io w w'∧w.heap.size≤w'.heap.size∧∀ b,b<w.heap.size→w'.heap[b]?=w.heap[b]?):Valid ρ P f (outS s) where
 fn:=hf
 ok:=by
  intro vs hs v hs' hq
  simp only[outS,ob_eq]at hq
  obtain⟨v',hv,hq⟩:=hq
  cases hq
  exact out_callOk fun w F μ xs=>h vs _ hv w F μ xs
 kept:=by
  intro vs hs q hq
  simp only[outS,ob_eq]at hq
  obtain⟨v',hv,hq⟩:=hq
  cases hq
  exact Kept.refl _
end
end Go.J
/- Equality of values by the kernel,and contracts that are tables of calls. -/
namespace Go.J
def optEq(a b:Option Nat):Bool:=match a,b with|none,none=>true|some x,some y=>Nat.beq x y|_,_=>false
def s_bool(b:Bool)(u:V):Bool:=match u with|.bool c=>bi b c (bi c false true)|_=>false
def s_int(k:IntKind)(n:Int)(u:V):Bool:=match u with|.int l m=>et (eqI n m) (kindEq k l)|_=>false
def s_str(s:List Nat)(u:V):Bool:=match u with|.str t=>eqNs s t|_=>false
def s_nilptr(u:V):Bool:=match u with|.nilptr=>true|_=>false
def s_ptr(a b c:Nat)(u:V):Bool:=match u with|.ptr d e f=>et (Nat.beq a d) (et (Nat.beq b e) (Nat.beq c f))|_=>false
def s_ref(_:List V)(ih:List V→Bool)(u:V):Bool:=match u with|.ref cs=>ih cs|_=>false
def s_snil(u:V):Bool:=match u with|.snil=>true|_=>false
def s_sl(_:List (List V))(t:Bool)(ih:List (List V)→Bool)(u:V):Bool:=match u with|.sl es s=>et (ih es) (bi t s (bi s false true))|_=>false
def s_own(a b c d:Nat)(e:Option Nat)(u:V):Bool:=match u with|.own a' b' c' d' e'=>et (Nat.beq a a') (et (Nat.beq b b') (et (Nat.beq c c') (et (Nat.beq d d') (optEq e e'))))|_=>false
def s_nilmap(u:V):Bool:=match u with|.nilmap=>true|_=>false
def s_map(a:Nat)(u:V):Bool:=match u with|.map b=>Nat.beq a b|_=>false
def s_nilFunc(u:V):Bool:=match u with|.nilFunc=>true|_=>false
def s_func(f:FuncId)(_:List V)(ih:List V→Bool)(u:V):Bool:=match u with|.func g cs=>et (Nat.beq f g) (ih cs)|_=>false
def s_yld(a:Nat)(u:V):Bool:=match u with|.yld b=>Nat.beq a b|_=>false
def s_nilIface(u:V):Bool:=match u with|.nilIface=>true|_=>false
def s_iface(t:TypeId)(_:V)(ih:V→Bool)(u:V):Bool:=match u with|.iface s v=>et (Nat.beq t s) (ih v)|_=>false
def s_agg(_:List V)(ih:List V→Bool)(u:V):Bool:=match u with|.agg cs=>ih cs|_=>false
def s_tuple(_:List V)(ih:List V→Bool)(u:V):Bool:=match u with|.tuple cs=>ih cs|_=>false
def s_sym(a:Nat)(u:V):Bool:=match u with|.sym b=>Nat.beq a b|_=>false
def s_n2(m:List V):Bool:=match m with | []=>true|_=>false
def s_c2(_:V)(_:List V)(ih1:V→Bool)(ih2:List V→Bool)(m:List V):Bool:=match m with|b::y=>et (ih1 b) (ih2 y)|_=>false
def s_n3(m:List (List V)):Bool:=match m with | []=>true|_=>false
def s_c3(_:List V)(_:List (List V))(ih1:List V→Bool)(ih2:List (List V)→Bool)(m:List (List V)):Bool:=match m with|b::y=>et (ih1 b) (ih2 y)|_=>false
def samV(v:V):V→Bool:=V.rec (motive_1:=fun _=>V→Bool) (motive_2:=fun _=>List V→Bool) (motive_3:=fun _=>List (List V)→Bool) s_bool s_int s_str s_nilptr s_ptr s_ref s_snil s_sl s_own s_nilmap s_map s_nilFunc s_func s_yld s_nilIface s_iface s_agg s_tuple s_sym s_n2 s_c2 s_n3 s_c3 v
def samL(l:List V):List V→Bool:=V.rec_1 (motive_1:=fun _=>V→Bool) (motive_2:=fun _=>List V→Bool) (motive_3:=fun _=>List (List V)→Bool) s_bool s_int s_str s_nilptr s_ptr s_ref s_snil s_sl s_own s_nilmap s_map s_nilFunc s_func s_yld s_nilIface s_iface s_agg s_tuple s_sym s_n2 s_c2 s_n3 s_c3 l
def samLL(l:List (List V)):List (List V)→Bool:=V.rec_2 (motive_1:=fun _=>V→Bool) (motive_2:=fun _=>List V→Bool) (motive_3:=fun _=>List (List V)→Bool) s_bool s_int s_str s_nilptr s_ptr s_ref s_snil s_sl s_own s_nilmap s_map s_nilFunc s_func s_yld s_nilIface s_iface s_agg s_tuple s_sym s_n2 s_c2 s_n3 s_c3 l
theorem bb_true{b c:Bool}(h:bi b c (bi c false true)=true):b=c:=by cases b<;>cases c<;>first|rfl|cases h
theorem optEq_eq{a b:Option Nat}(h:optEq a b=true):a=b:=by
 cases a<;>cases b<;>first|rfl|(cases h;done)|exact congrArg some (beq_true.1 h)
theorem p_bool:∀ (b:Bool) u,samV (.bool b) u=true→V.bool b=u:=fun b u h=>by
 cases u<;>first|(cases h;done)|exact congrArg V.bool (bb_true h)
theorem p_int:∀ (k:IntKind) (n:Int) u,samV (.int k n) u=true→V.int k n=u:=fun k n u h=>by
 cases u<;>first|(cases h;done)|skip
 rename_i l m
 replace h:et (eqI n m) (kindEq k l)=true:=h
 rw[et_true,eqI_true,kindEq_true]at h
 rw[h.1,h.2]
theorem p_str:∀ (s:List Nat) u,samV (.str s) u=true→V.str s=u:=fun s u h=>by
 cases u<;>first|(cases h;done)|exact congrArg V.str (eqNs_true.1 h)
theorem p_nilptr:∀ u,samV .nilptr u=true→V.nilptr=u:=fun u h=>by cases u<;>first|rfl|cases h
theorem p_ptr:∀ (a b c:Nat) u,samV (.ptr a b c) u=true→V.ptr a b c=u:=fun a b c u h=>by
 cases u<;>first|(cases h;done)|skip
 rename_i d e f
 replace h:et (Nat.beq a d) (et (Nat.beq b e) (Nat.beq c f))=true:=h
 rw[et_true,et_true,beq_true,beq_true,beq_true]at h
 rw[h.1,h.2.1,h.2.2]
theorem p_ref:∀ l,(∀ m,samL l m=true→l=m)→∀ u,samV (.ref l) u=true→V.ref l=u:=fun l ih u h=>by
 cases u<;>first|(cases h;done)|exact congrArg V.ref (ih _ h)
theorem p_snil:∀ u,samV .snil u=true→V.snil=u:=fun u h=>by cases u<;>first|rfl|cases h
theorem p_sl:∀ l t,(∀ m,samLL l m=true→l=m)→∀ u,samV (.sl l t) u=true→V.sl l t=u:=fun l t ih u h=>by
 cases u<;>first|(cases h;done)|skip
 rename_i es s
 replace h:et (samLL l es) (bi t s (bi s false true))=true:=h
 rw[et_true]at h
 rw[ih _ h.1,bb_true h.2]
theorem p_own:∀ (a b c d:Nat) (e:Option Nat) u,samV (.own a b c d e) u=true→V.own a b c d e=u:=fun a b c d e u h=>by
 cases u<;>first|(cases h;done)|skip
 rename_i a' b' c' d' e'
 replace h:et (Nat.beq a a') (et (Nat.beq b b') (et (Nat.beq c c') (et (Nat.beq d d') (optEq e e'))))=true:=h
 rw[et_true,et_true,et_true,et_true,beq_true,beq_true,beq_true,beq_true]at h
 obtain⟨rfl,rfl,rfl,rfl,h⟩:=h
 rw[optEq_eq h]
theorem p_nilmap:∀ u,samV .nilmap u=true→V.nilmap=u:=fun u h=>by cases u<;>first|rfl|cases h
theorem p_map:∀ (a:Nat) u,samV (.map a) u=true→V.map a=u:=fun a u h=>by
 cases u<;>first|(cases h;done)|exact congrArg V.map (beq_true.1 h)
theorem p_nilFunc:∀ u,samV .nilFunc u=true→V.nilFunc=u:=fun u h=>by cases u<;>first|rfl|cases h
theorem p_func:∀ (f:FuncId) l,(∀ m,samL l m=true→l=m)→∀ u,samV (.func f l) u=true→V.func f l=u:=fun f l ih u h=>by
 cases u<;>first|(cases h;done)|skip
 rename_i g cs
 replace h:et (Nat.beq f g) (samL l cs)=true:=h
 rw[et_true,beq_true]at h
 rw[h.1,ih _ h.2]
theorem p_yld:∀ (a:Nat) u,samV (.yld a) u=true→V.yld a=u:=fun a u h=>by
 cases u<;>first|(cases h;done)|exact congrArg V.yld (beq_true.1 h)
theorem p_nilIface:∀ u,samV .nilIface u=true→V.nilIface=u:=fun u h=>by cases u<;>first|rfl|cases h
theorem p_iface:∀ (t:TypeId) v,(∀ u,samV v u=true→v=u)→∀ u,samV (.iface t v) u=true→V.iface t v=u:=fun t v ih u h=>by
 cases u<;>first|(cases h;done)|skip
 rename_i s w
 replace h:et (Nat.beq t s) (samV v w)=true:=h
 rw[et_true,beq_true]at h
 rw[h.1,ih _ h.2]
theorem p_agg:∀ l,(∀ m,samL l m=true→l=m)→∀ u,samV (.agg l) u=true→V.agg l=u:=fun l ih u h=>by
 cases u<;>first|(cases h;done)|exact congrArg V.agg (ih _ h)
theorem p_tuple:∀ l,(∀ m,samL l m=true→l=m)→∀ u,samV (.tuple l) u=true→V.tuple l=u:=fun l ih u h=>by
 cases u<;>first|(cases h;done)|exact congrArg V.tuple (ih _ h)
theorem p_sym:∀ (a:Nat) u,samV (.sym a) u=true→V.sym a=u:=fun a u h=>by
 cases u<;>first|(cases h;done)|exact congrArg V.sym (beq_true.1 h)
theorem p_n2:∀ m,samL [] m=true→([]:List V)=m:=fun m h=>by cases m<;>first|rfl|cases h
theorem p_c2:∀ v l,(∀ u,samV v u=true→v=u)→(∀ m,samL l m=true→l=m)→∀ m,samL (v::l) m=true→v::l=m:=fun v l h1 h2 m h=>by
 cases m<;>first|(cases h;done)|skip
 rename_i u m
 replace h:et (samV v u) (samL l m)=true:=h
 rw[et_true]at h
 rw[h1 _ h.1,h2 _ h.2]
theorem p_n3:∀ m,samLL [] m=true→([]:List (List V))=m:=fun m h=>by cases m<;>first|rfl|cases h
theorem p_c3:∀ v l,(∀ u,samL v u=true→v=u)→(∀ m,samLL l m=true→l=m)→∀ m,samLL (v::l) m=true→v::l=m:=fun v l h1 h2 m h=>by
 cases m<;>first|(cases h;done)|skip
 rename_i u m
 replace h:et (samL v u) (samLL l m)=true:=h
 rw[et_true]at h
 rw[h1 _ h.1,h2 _ h.2]
theorem sam_all:(∀ v,∀ u,samV v u=true→v=u)∧(∀ l,∀ m,samL l m=true→l=m)∧(∀ l,∀ m,samLL l m=true→l=m):=by
 refine⟨fun v=>?a,fun l=>?b,fun l=>?c⟩
 case a=>exact V.rec (motive_1:=fun v=>∀ u,samV v u=true→v=u) (motive_2:=fun l=>∀ m,samL l m=true→l=m) (motive_3:=fun l=>∀ m,samLL l m=true→l=m) p_bool p_int p_str p_nilptr p_ptr p_ref p_snil p_sl p_own p_nilmap p_map p_nilFunc p_func p_yld p_nilIface p_iface p_agg p_tuple p_sym p_n2 p_c2 p_n3 p_c3 v
 case b=>exact V.rec_1 (motive_1:=fun v=>∀ u,samV v u=true→v=u) (motive_2:=fun l=>∀ m,samL l m=true→l=m) (motive_3:=fun l=>∀ m,samLL l m=true→l=m) p_bool p_int p_str p_nilptr p_ptr p_ref p_snil p_sl p_own p_nilmap p_map p_nilFunc p_func p_yld p_nilIface p_iface p_agg p_tuple p_sym p_n2 p_c2 p_n3 p_c3 l
 case c=>exact V.rec_2 (motive_1:=fun v=>∀ u,samV v u=true→v=u) (motive_2:=fun l=>∀ m,samL l m=true→l=m) (motive_3:=fun l=>∀ m,samLL l m=true→l=m) p_bool p_int p_str p_nilptr p_ptr p_ref p_snil p_sl p_own p_nilmap p_map p_nilFunc p_func p_yld p_nilIface p_iface p_agg p_tuple p_sym p_n2 p_c2 p_n3 p_c3 l
theorem samL_eq{l m:List V}(h:samL l m=true):l=m:=sam_all.2.1 _ _ h
section
variable {ρ:Nat→Value}{P:Program}{f:Nat}{T:List (List V×V)}(hρ:Good ρ)(hP:P.follows .mixedOrders=true)(hN:Named P)(hf:FnOk P f)
include hρ hP hN hf
end
end Go.J
/- A call that reads rows and leaves them as they were,shown by a run over these rows alone. -/
namespace Go.J
section
variable {ρ:Nat→Value}{P:Program}
structure Sub(ι:Nat→Nat×Nat)(hs0 hs:HS):Prop where
 row:∀ id o,hs0.H.get id=some o→∃ size es exact,o=.arr size 0 es exact false true∧hs.H.get (ι id).1=some (.arr size (ι id).2 es exact false true)
 inj:∀ id id',hs0.H.get id≠none→hs0.H.get id'≠none→(ι id).1=(ι id').1→id=id'
open Classical in
def subM(ι:Nat→Nat×Nat)(hs0:HS)(μ:Nat→Nat→Option MI)(id g:Nat):Option MI :=
 if hs0.H.get id≠none∧g=0 then μ (ι id).1 (ι id).2 else none
theorem subM_some{ι:Nat→Nat×Nat}{hs0:HS}{μ:Nat→Nat→Option MI}{id g:Nat}{m:MI}(h:subM ι hs0 μ id g=some m):hs0.H.get id≠none∧g=0∧μ (ι id).1 (ι id).2=some m:=by
 unfold subM at h
 split at h
 · rename_i hc
   exact⟨hc.1,hc.2,h⟩
 · cases h
theorem sub_R{ι:Nat→Nat×Nat}{hs0 hs:HS}{w:World}{F:Nat→Prop}{μ:Nat→Nat→Option MI}(hS:Sub ι hs0 hs)(hR:R ρ w F μ P hs):R ρ w F (subM ι hs0 μ) P hs0 where
 lt id g m h:=hR.lt _ _ _ (subM_some h).2.2
 flt:=hR.flt
 obj id o ho:=by
  obtain⟨size,es,exact,rfl,h2⟩:=hS.row id o ho
  intro m hm
  obtain⟨h1,hl,⟨cells,el,hc,ht,hl2,he,hall⟩,h4,h5⟩:=hR.obj _ _ h2 m (subM_some hm).2.2
  refine⟨h1,hl,⟨cells,el,hc,ht,hl2,he,fun k e j v hk hj=>?_⟩,h4,h5⟩
  obtain⟨y,hy,hr,hp⟩:=hall k e j v hk hj
  exact⟨y,hy,.pure (hp rfl),hp⟩
 inj id id' o o' m m' ho ho' hm hm' hb:=by
  obtain⟨size,es,exact,rfl,h2⟩:=hS.row id o ho
  obtain⟨size',es',exact',rfl,h2'⟩:=hS.row id' o' ho'
  exact hS.inj id id' (by rw[ho];simp) (by rw[ho'];simp) (hR.inj _ _ _ _ _ _ h2 h2' (subM_some hm).2.2 (subM_some hm').2.2 hb)
 gens id o ho g hg:=by
  unfold subM
  rw[if_neg]
  rintro ⟨_,rfl⟩
  omega
 gl:=hR.gl
def V.pureT:V→Bool
 |.tuple cs=>allPure cs
 |v=>v.pure
theorem Rep.of_pureT{w:World}{F:Nat→Prop}{μ:Nat→Nat→Option MI}{v:V}{x:Value}(h:Rep ρ w F μ v x)(hp:v.pureT=true):PRep ρ w F v x:=by
 cases v with
 | tuple cs =>
   obtain⟨ys,rfl,hs,hc⟩:=h.tuple_inv
   have hp':allPure cs=true:=hp
   rw[allPure_eq]at hp'
   exact .tuple cs ys hs fun i v hi=>Rep.of_pure ρ (hc i v hi) (hp' v (List.mem_of_getElem? hi))
 |_=>exact Rep.of_pure ρ h hp
theorem local_callOk {ι:Nat→Nat×Nat} {hs0 hs0' hs:HS} {f:FuncId} {vs0 vs:List V} {v:V} (hS:Sub ι hs0 hs) (hcall:CallOk ρ P f vs0 hs0 v hs0')
 (hkeep:∀ id o,hs0.H.get id=some o→hs0'.H.get id=some o) (hp:v.pureT=true) (hlen:vs0.length=vs.length)
 (hA0:∀ (w:World) (F:Nat→Prop) (μ:Nat→Nat→Option MI) (i:Nat) (v0:V),vs0[i]?=some v0→∃ u,vs[i]?=some u∧∀ x,Rep ρ w F μ u x→Rep ρ w F (subM ι hs0 μ) v0 x):CallOk ρ P f vs hs v hs:=by
 intro X w F μ xs hR hD hO hA
 refine(hcall (fun _=>False) w F (subM ι hs0 μ) xs (sub_R hS hR) ⟨fun id g hg=>?_,fun _ _ h=>h⟩ (Off.no _) ⟨by rw[hA.1,hlen],fun i v0 hi=>?_⟩).mono fun e w' he=>?_
 · cases hm:subM ι hs0 μ id g with
   |none=>exact absurd hm hg
   |some m=>exact .inl (subM_some hm).1
 · obtain⟨u,hu,hr⟩:=hA0 w F μ i v0 hi
   obtain⟨x,hx,hxr⟩:=hA.2 i u hu
   exact⟨x,hx,hr x hxr⟩
 cases e with
 |panicked c=>exact he
 |outgrown=>exact he
 | returned x =>
   obtain⟨F1,μ1,g1,g2,g3⟩:=he
   have hown:∀ b,Owned hs0 (subM ι hs0 μ) b→Owned hs μ b:=by
    rintro b ⟨id,o,m,ho,hf,hm,hb⟩
    obtain⟨size,es,exact,rfl,h2⟩:=hS.row id o ho
    exact⟨_,_,m,h2,rfl,(subM_some hm).2.2,hb⟩
   have hFk:∀ b,F b→w'.heap[b]?=w.heap[b]?:=fun b hb=>g3.keep b (hR.flt b hb) fun ⟨id,o,m,ho,hf,hm,hmb⟩=>by
    obtain⟨size,es,exact,rfl,h2⟩:=hS.row id o ho
    exact(hR.obj _ _ h2 m (subM_some hm).2.2).hn rfl (hmb ▸ hb)
   refine⟨F1,μ,⟨fun id g m h=>Nat.lt_of_lt_of_le (hR.lt id g m h) g3.size,g1.flt,fun id o ho=>?_,hR.inj,hR.gens,g1.gl⟩,.pure (g2.of_pureT hp),
    ⟨g3.io,g3.size,fun b hb hn=>g3.keep b hb fun h=>hn (hown b h),g3.fm,fun b hb=>?_,fun _ _ _ h=>h,fun b hb=>.inl hb,fun _ h=>h,fun _ _ _=>rfl,fun _ _ h=>h,fun i g m h=>.inr ⟨i,g,m,h,rfl⟩⟩⟩
   · by_cases hj:∃ j,hs0.H.get j≠none∧(ι j).1=id
     · obtain⟨j,hj0,rfl⟩:=hj
       cases hj1:hs0.H.get j with
       |none=>exact absurd hj1 hj0
       | some o0 =>
         obtain⟨size,es,exact,rfl,h2⟩:=hS.row j o0 hj1
         rw[h2]at ho
         cases ho
         intro m hm
         have hm0:subM ι hs0 μ j 0=some m:=by
          unfold subM
          rw[if_pos ⟨hj0,rfl⟩]
          exact hm
         obtain⟨h1,hl,⟨cells,el,hc,ht,hl2,he,hall⟩,h4,h5⟩:=g1.obj _ _ (hkeep j _ hj1) m (g3.mm _ _ _ hm0)
         refine⟨h1,hl,⟨cells,el,hc,ht,hl2,he,fun k e j v hk hj=>?_⟩,h4,h5⟩
         obtain⟨y,hy,hr,hp⟩:=hall k e j v hk hj
         exact⟨y,hy,.pure (hp rfl),hp⟩
     · have hno:∀ m,μ id o.gen=some m→¬ Owned hs0 (subM ι hs0 μ) m.b:=by
        rintro m hm ⟨j,o0,m',hj1,hf,hm',hb⟩
        obtain⟨size,es,exact,rfl,h2⟩:=hS.row j o0 hj1
        exact hj ⟨j,by rw[hj1];simp,hR.inj _ _ _ _ _ _ h2 ho (subM_some hm').2.2 hm hb⟩
       refine(hR.obj id o ho).mono g3.fm hFk (fun _ _ _ h=>h) (fun _ h=>h) (fun m hm=>g3.keep m.b (hR.lt _ _ _ hm) (hno m hm)) fun m hm _ hn hF1=>?_
       rcases g3.fnew m.b hF1 with h|h|h
       · exact hn h
       · have:=hR.lt _ _ _ hm
         omega
       · exact hno m hm h
   · rcases g3.fnew b hb with h|h|h
     · exact .inl h
     · exact .inr (.inl h)
     · exact .inr (.inr (hown b h))
end
end Go.J
/- Tables of calls that read rows. -/
namespace Go.J
abbrev Row:=Nat×List (List V)×Bool
def row1(hs:HS)(p:Nat×Nat):Option Row:=ob (hs.H.get p.1) fun o=>match o with
 |.arr size g es ex fz row=>gd (et (Nat.beq g p.2) (et (bi fz false true) row)) (some (size,es,ex))
 |_=>none
def rowsOf(hs:HS)(ids:List (Nat×Nat)):Option (List Row):=lr (some []) (fun p _ ih=>ob (row1 hs p) fun r=>ob ih fun rs=>some (r::rs)) ids
def Row.obj(r:Row):Obj:=.arr r.1 0 r.2.1 r.2.2 false true
def mkT(rs:List Row):Nat→PT Obj:=lr (fun _=>.leaf) (fun r _ ih i=>(ih (i+1)).set i (.arr r.1 0 r.2.1 r.2.2 false true)) rs
theorem mkT_get:∀ (rs:List Row) (i j:Nat),(mkT rs i).get j=if i≤j then (rs[j-i]?).map Row.obj else none:=by
 intro rs
 induction rs with
 |nil=>intro i j;simp[mkT,lr_nil,PT.get_leaf]
 | cons r rs ih =>
   intro i j
   show ((mkT rs (i+1)).set i r.obj).get j=_
   rw[PT.set_get,ih]
   by_cases h:j=i
   · subst h;simp
   · rw[if_neg h]
     by_cases h2:i≤j
     · rw[if_pos h2,if_pos (by omega)]
       have e:j-i=(j-(i+1))+1:=by omega
       rw[e,List.getElem?_cons_succ]
     · rw[if_neg h2,if_neg (by omega)]
def mkH(rs:List Row):HS:={ H:=mkT rs 0,n:=lenL rs,log:=[] }
theorem mkH_get(rs:List Row)(j:Nat):(mkH rs).H.get j=(rs[j]?).map Row.obj:=by
 show (mkT rs 0).get j=_
 rw[mkT_get];simp
def noId(id:Nat)(ids:List (Nat×Nat)):Bool:=lr true (fun p _ ih=>bi (Nat.beq id p.1) false ih) ids
theorem noId_eq{id:Nat}{ids:List (Nat×Nat)}(h:noId id ids=true):∀ p∈ids,p.1≠id:=by
 induction ids with
 |nil=>simp
 | cons p ids ih =>
   replace h:bi (Nat.beq id p.1) false (noId id ids)=true:=h
   rw[bi_eq]at h
   split at h
   · cases h
   · rename_i hne
     rw[beq_true]at hne
     intro q hq
     rcases List.mem_cons.1 hq with rfl|hq
     · exact fun e=>hne e.symm
     · exact ih h q hq
abbrev Ids:=List (Nat×Nat)
def can1(v:V)(ids:Ids):Option (V×Ids):=match v with
 |.own id g off len cap=>gd (noId id ids) (some (.own (lenL ids) 0 off len cap,appL ids [(id,g)]))
 |v=>gd v.pure2 (some (v,ids))
def canL(l:List V):Ids→Option (List V×Ids):=lr (fun ids=>some ([],ids)) (fun v _ ih ids=>ob (can1 v ids) fun q=>ob (ih q.2) fun r=>some (q.1::r.1,r.2)) l
def can2(v:V)(ids:Ids):Option (V×Ids):=match v with
 |.agg cs=>ob (canL cs ids) fun q=>some (.agg q.1,q.2)
 |v=>can1 v ids
def canA(l:List V):Ids→Option (List V×Ids):=lr (fun ids=>some ([],ids)) (fun v _ ih ids=>ob (can2 v ids) fun q=>ob (ih q.2) fun r=>some (q.1::r.1,r.2)) l
section
variable (ρ:Nat→Value)
def ReN(J:Ids)(v v0:V):Prop:=∀ (hs0:HS),(∀ k,k<J.length→hs0.H.get k≠none)→∀ (w:World) (F:Nat→Prop) (μ:Nat→Nat→Option MI) x,Rep ρ w F μ v x→Rep ρ w F (subM (fun k=>J.getD k (0,0)) hs0 μ) v0 x
structure Ren(ids ids':Ids)(v v0:V):Prop where
 pre:ids <+: ids'
 nd:(ids.map (·.1)).Nodup→(ids'.map (·.1)).Nodup
 rel:∀ (J:Ids),ids' <+: J→ReN ρ J v v0
structure Rens(ids ids':Ids)(l l0:List V):Prop where
 pre:ids <+: ids'
 nd:(ids.map (·.1)).Nodup→(ids'.map (·.1)).Nodup
 len:l0.length=l.length
 rel:∀ (J:Ids),ids' <+: J→∀ (i:Nat) (v0:V),l0[i]?=some v0→∃ v:V,l[i]?=some v∧ReN ρ J v v0
variable {ρ}
theorem can1_ok{v v0:V}{ids ids':Ids}(h:can1 v ids=some (v0,ids')):Ren ρ ids ids' v v0:=by
 unfold can1 at h
 split at h
 · rename_i id g off len cap
   rw[gd_eq,lenL_eq,appL_eq]at h
   obtain⟨h1,h⟩:=h
   cases h
   refine⟨⟨_,rfl⟩,fun hn=>?_,fun J hJ hs0 hk w F μ x hx=>?_⟩
   · rw[List.map_append,List.nodup_append]
     refine⟨hn,by simp,fun a ha b hb=>?_⟩
     obtain⟨p,hp,rfl⟩:=List.mem_map.1 ha
     simp at hb
     subst hb
     exact noId_eq h1 p hp
   · obtain⟨t,rfl⟩:=hJ
     obtain⟨m,c,hm,rfl,h2,h3,h4,h5⟩:=hx.own_inv
     refine .own _ _ _ _ _ c m ?_ h2 h3 h4 h5
     unfold subM
     rw[if_pos ⟨hk _ (by simp),rfl⟩]
     have e:(ids++[(id,g)]++t).getD ids.length (0,0)=(id,g):=by simp
     simp only[e]
     exact hm
 · rw[gd_eq]at h
   obtain⟨h1,h⟩:=h
   cases h
   exact⟨List.prefix_refl _,fun h=>h,fun J _ hs0 _ w F μ x hx=>.pure (Rep.pure2 ρ hx h1)⟩
theorem rens_nil(ids:Ids):Rens ρ ids ids [] []:=⟨List.prefix_refl _,fun h=>h,rfl,fun _ _ i v0 h=>by simp at h⟩
theorem rens_cons{ids ids1 ids2:Ids}{v v0:V}{l l0:List V}(h:Ren ρ ids ids1 v v0)(k:Rens ρ ids1 ids2 l l0):Rens ρ ids ids2 (v::l) (v0::l0) where
 pre:=h.pre.trans k.pre
 nd hn:=k.nd (h.nd hn)
 len:=by simp[k.len]
 rel J hJ i u hu:=by
  cases i with
  |zero=>cases hu;exact⟨v,rfl,h.rel J (k.pre.trans hJ)⟩
  |succ i=>exact k.rel J hJ i u hu
theorem canL_ok:∀ {l l0:List V} {ids ids':Ids},canL l ids=some (l0,ids')→Rens ρ ids ids' l l0:=by
 intro l
 induction l with
 |nil=>intro l0 ids ids' h;cases h;exact rens_nil _
 | cons v l ih =>
   intro l0 ids ids' h
   replace h:(ob (can1 v ids) fun q=>ob (canL l q.2) fun r=>some (q.1::r.1,r.2))=some (l0,ids'):=h
   simp only[ob_eq]at h
   obtain⟨q,hq,r,hr,h⟩:=h
   cases h
   exact rens_cons (can1_ok hq) (ih hr)
theorem can2_ok{v v0:V}{ids ids':Ids}(h:can2 v ids=some (v0,ids')):Ren ρ ids ids' v v0:=by
 unfold can2 at h
 split at h
 · rename_i cs
   rw[ob_eq]at h
   obtain⟨q,hq,h⟩:=h
   cases h
   have k:=canL_ok (ρ:=ρ) hq
   refine⟨k.pre,k.nd,fun J hJ hs0 hk w F μ x hx=>?_⟩
   obtain⟨ys,rfl,hs,hc⟩:=hx.agg_inv
   refine .agg _ ys (by rw[hs,k.len]) fun i u hu=>?_
   obtain⟨v,hv,hr⟩:=k.rel J hJ i u hu
   exact hr hs0 hk w F μ _ (hc i v hv)
 · exact can1_ok h
theorem canA_ok:∀ {l l0:List V} {ids ids':Ids},canA l ids=some (l0,ids')→Rens ρ ids ids' l l0:=by
 intro l
 induction l with
 |nil=>intro l0 ids ids' h;cases h;exact rens_nil _
 | cons v l ih =>
   intro l0 ids ids' h
   replace h:(ob (can2 v ids) fun q=>ob (canA l q.2) fun r=>some (q.1::r.1,r.2))=some (l0,ids'):=h
   simp only[ob_eq]at h
   obtain⟨q,hq,r,hr,h⟩:=h
   cases h
   exact rens_cons (can2_ok hq) (ih hr)
theorem row1_ok{hs:HS}{p:Nat×Nat}{r:Row}(h:row1 hs p=some r):hs.H.get p.1=some (.arr r.1 p.2 r.2.1 r.2.2 false true):=by
 unfold row1 at h
 rw[ob_eq]at h
 obtain⟨o,ho,h⟩:=h
 cases o with
 | arr size g es ex fz row =>
   simp only[gd_eq,et_true,beq_true]at h
   obtain⟨⟨rfl,h2,rfl⟩,h⟩:=h
   cases h
   cases fz with
   |true=>cases h2
   |false=>exact ho
 |mp es=>cases h
 |lp a b c d e f=>cases h
theorem rowsOf_ok{hs:HS}:∀ {ids:Ids} {rs:List Row},rowsOf hs ids=some rs→rs.length=ids.length∧∀ (k:Nat) (r:Row),rs[k]?=some r→∃ p:Nat×Nat,ids[k]?=some p∧hs.H.get p.1=some (.arr r.1 p.2 r.2.1 r.2.2 false true):=by
 intro ids
 induction ids with
 |nil=>intro rs h;cases h;simp
 | cons p ids ih =>
   intro rs h
   replace h:(ob (row1 hs p) fun r=>ob (rowsOf hs ids) fun rs=>some (r::rs))=some rs:=h
   simp only[ob_eq]at h
   obtain⟨r,hr,rs',hrs,h⟩:=h
   cases h
   obtain⟨h1,h2⟩:=ih hrs
   refine⟨by simp[h1],fun k u hu=>?_⟩
   cases k with
   |zero=>cases hu;exact⟨p,rfl,row1_ok hr⟩
   |succ k=>exact h2 k u hu
def samR(l:List Row):List Row→Bool :=
 lr (fun m=>lr true (fun _ _ _=>false) m) (fun a _ ih m=>lr false (fun b y _=>et (et (Nat.beq a.1 b.1) (et (samLL a.2.1 b.2.1) (bi a.2.2 b.2.2 (bi b.2.2 false true)))) (ih y)) m) l
theorem samR_eq:∀ {l m:List Row},samR l m=true→l=m:=by
 intro l
 induction l with
 | nil=>intro m h;cases m with
   |nil=>rfl
   |cons=>cases h
 | cons a l ih =>
   intro m h
   cases m with
   |nil=>cases h
   | cons b m =>
     replace h:et (et (Nat.beq a.1 b.1) (et (samLL a.2.1 b.2.1) (bi a.2.2 b.2.2 (bi b.2.2 false true)))) (samR l m)=true:=h
     simp only[et_true,beq_true]at h
     obtain⟨⟨h1,h2,h3⟩,h4⟩:=h
     obtain⟨a1,a2,a3⟩:=a
     obtain⟨b1,b2,b3⟩:=b
     simp only at h1 h2 h3
     rw[h1,sam_all.2.2 _ _ h2,bb_true h3,ih h4]
abbrev Tab:=List ((List V×List Row)×V)
def lookP(T:Tab)(vs:List V)(rs:List Row):Option V:=lr none (fun p _ ih=>bi (et (samL p.1.1 vs) (samR p.1.2 rs)) (some p.2) ih) T
theorem lookP_mem{vs:List V}{rs:List Row}{v:V}:∀ {T:Tab},lookP T vs rs=some v→((vs,rs),v)∈T:=by
 intro T
 induction T with
 |nil=>intro h;cases h
 | cons p T ih =>
   intro h
   replace h:bi (et (samL p.1.1 vs) (samR p.1.2 rs)) (some p.2) (lookP T vs rs)=some v:=h
   rw[bi_eq]at h
   split at h
   · rename_i e
     rw[et_true]at e
     cases h
     have h1:=samL_eq e.1
     have h2:=samR_eq e.2
     subst h1 h2
     exact List.mem_cons_self
   · exact List.mem_cons_of_mem _ (ih h)
def peekS(T:Tab):Spec:=fun vs hs=>ob (canA vs []) fun q=>ob (rowsOf hs q.2) fun rs=>ob (lookP T q.1 rs) fun v=>some (v,hs)
def noLog(k:Nat)(l:List Nat):Bool:=lr true (fun x _ ih=>et (Nat.ble k x) ih) l
theorem noLog_eq{k:Nat}{l:List Nat}(h:noLog k l=true):∀ x∈l,k≤x:=by
 have:=(all_lr (fun x=>Nat.ble k x) l).1 h
 exact fun x hx=>Nat.le_of_ble_eq_true (this x hx)
def runP(E:Env)(n:Nat)(f:FuncId)(vs:List V)(rs:List Row):Option V :=
 ob (callBy E (evJ E n) f vs (mkH rs)) fun r=>gd (et r.1.pureT (noLog (lenL rs) r.2.log)) (some r.1)
theorem Valid.peek (hρ:Good ρ) {P:Program} (hP:P.follows .mixedOrders=true) (hN:Named P) {f:Nat} {T:Tab} (hf:FnOk P f)
 (h:∀ p∈T,∃ E n,ConsOk ρ E∧E.P=P∧runP E n f p.1.1 p.1.2=some p.2):Valid ρ P f (peekS T) where
 fn:=hf
 kept:=by
  intro vs hs q hq
  simp only[peekS,ob_eq]at hq
  obtain⟨_,_,_,_,_,_,hq⟩:=hq
  cases hq
  exact .refl _
 ok := by
  intro vs hs v hs' hq
  simp only[peekS,ob_eq]at hq
  obtain⟨⟨vs0,ids⟩,hc,rs,hr,v',hv,hq⟩:=hq
  cases hq
  obtain⟨E,n,hcon,rfl,hrun⟩:=h _ (lookP_mem hv)
  simp only[runP,ob_eq,gd_eq,et_true,lenL_eq]at hrun
  obtain⟨⟨v1,hs1⟩,hcall,⟨hp,hlog⟩,he⟩:=hrun
  cases he
  have hev:=evJ_ok hρ hcon hP hN n
  have k:=canA_ok (ρ:=ρ) hc
  obtain⟨hl0,hrows⟩:=rowsOf_ok hr
  have hl:rs.length=ids.length:=hl0
  have hkept:=callBy_kept hev.kept hcall
  have hnd:=k.nd (by simp)
  refine local_callOk (ι:=fun k=>ids.getD k (0,0)) (hs0:=mkH rs) (hs0':=hs1) (vs0:=vs0) ⟨fun id o ho=>?_,fun id id' h1 h2 he=>?_⟩ (callBy_ok hev.call hcall) (fun id o ho=>hkept.obj id o ho fun hm=>?_) hp k.len fun w F μ i v0 hi=>?_
  · rw[mkH_get]at ho
    obtain⟨r,hr1,rfl⟩:=Option.map_eq_some_iff.1 ho
    obtain⟨p,hp1,hp2⟩:=hrows id r hr1
    have e:ids.getD id (0,0)=p:=by simp[List.getD,hp1]
    exact⟨r.1,r.2.1,r.2.2,rfl,by simp only[e];exact hp2⟩
  · have hlt:∀ j,(mkH rs).H.get j≠none→j<ids.length:=fun j hj=>by
     rw[mkH_get]at hj
     rw[← hl]
     by_cases hjl:j<rs.length
     · exact hjl
     · exact absurd (by rw[List.getElem?_eq_none (by omega)];rfl) hj
    have a1:=hlt id h1
    have a2:=hlt id' h2
    simp only[List.getD,List.getElem?_eq_getElem a1,List.getElem?_eq_getElem a2,Option.getD_some]at he
    have hw:=List.pairwise_iff_getElem.1 hnd
    rcases Nat.lt_trichotomy id id' with hlt|hlt|hlt
    · exact absurd (by rw[List.getElem_map,List.getElem_map];exact he) (hw id id' (by simpa using a1) (by simpa using a2) hlt)
    · exact hlt
    · exact absurd (by rw[List.getElem_map,List.getElem_map];exact he.symm) (hw id' id (by simpa using a2) (by simpa using a1) hlt)
  · rw[mkH_get]at ho
    obtain⟨r,hr1,rfl⟩:=Option.map_eq_some_iff.1 ho
    have:=noLog_eq hlog id hm
    have:=(List.getElem?_eq_some_iff.1 hr1).1
    omega
  · obtain⟨u,hu,hre⟩:=k.rel ids (List.prefix_refl _) i v0 hi
    exact⟨u,hu,hre (mkH rs) (fun j hj=>by rw[mkH_get,List.getElem?_eq_getElem (by omega)];simp) w F μ⟩
end
end Go.J
