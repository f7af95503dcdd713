import Derived.Test.YtjilhkjgejnmpaaGreatDoorJC
import Derived.RangeFuncLeaves
import Derived.OrdersIn
set_option linter.all false
noncomputable section
/- One operation: what the evaluator makes of it,and what the model does. -/
namespace Go.J
section
variable {ρ:Nat→Value}{P:Program}{w w':World}{F:Nat→Prop}{μ:Nat→Nat→Option MI}{hs:HS}{T:PT V}
def NextA(ρ:Nat→Value)(P:Program)(w:World)(F:Nat→Prop)(μ:Nat→Nat→Option MI)(s:Sem Next)(v:V):Prop:=∃ x,s.run P w=.ok (.value x) w∧Rep ρ w F μ v x
def NextB(ρ:Nat→Value)(P:Program)(w:World)(F:Nat→Prop)(μ:Nat→Nat→Option MI)(hs:HS)(s:Sem Next)(v:V)(hs':HS):Prop :=
 ∃ n x w' F' μ',s.run P w=.ok n w'∧(n=.value x∨(n=.skip∧x=undef))∧R ρ w' F' μ' P hs'∧Rep ρ w' F' μ' v x∧Fr w F μ hs w' F' μ' hs'
theorem NextA.toB(hR:R ρ w F μ P hs){s:Sem Next}{v:V}(h:NextA ρ P w F μ s v):NextB ρ P w F μ hs s v hs:=by
 obtain⟨x,h1,h2⟩:=h
 exact⟨_,x,w,F,μ,h1,.inl rfl,hR,h2,Fr.refl ..⟩
theorem ValA.next{s:Sem Value}{v:V}(h:ValA ρ P w F μ s v):NextA ρ P w F μ (do pure (.value (← s))) v:=by
 obtain⟨x,h1,h2⟩:=h
 exact⟨x,by simp[h1],h2⟩
theorem ValB.next{s:Sem Value}{v:V}{hs':HS}(h:ValB ρ P w F μ hs s v hs'):NextB ρ P w F μ hs (do pure (.value (← s))) v hs':=by
 obtain⟨x,w',F',μ',h1,h2,h3,h4⟩:=h
 exact⟨_,x,w',F',μ',by simp[h1],.inl rfl,h2,h3,h4⟩
theorem unit_next{s:Sem Unit}{w':World}{F':Nat→Prop}{hs':HS}(h1:s.run P w=.ok () w')(h2:R ρ w' F' μ P hs')(h3:Fr w F μ hs w' F' μ hs') :
 NextB ρ P w F μ hs (do s;pure .skip) undefV hs' :=
 ⟨.skip,undef,w',F',μ,by simp[h1],.inr ⟨rfl,rfl⟩,h2,.pure (.tuple [] #[] rfl fun i v hi=>by simp at hi),h3⟩
theorem moveJ_eq{T:PT V}{hs:HS}{x:Operand}{v:V}{hs':HS}(h:moveJ T hs x=some (v,hs')):hs'=hs∧evalO T x=some v:=by
 grind [moveJ,ob_eq]
theorem op0_ok (hρ:Good ρ) (hR:R ρ w F μ P hs) {a:Act} (hT:TRel ρ w F μ T a.tmps) {o:Oper} (hc:opClass o.op=0) (hcall:callOf o.op=none) {dr:Bool} {id:Nat} {v:V} {hs':HS}
 (h:opJ P dr T hs id (opR o.op)=some (v,hs')):hs'=hs∧NextA ρ P w F μ (execOp a.eval o) v:=by
 obtain⟨dst,op,ty,pos,after,guard⟩:=o
 dsimp only at *
 cases op<;>first|(cases hc;done)|(cases hcall;done)|(cases h;done)|skip
 case move x =>
  replace h:moveJ T hs x=some (v,hs'):=h
  obtain⟨rfl,hv⟩:=moveJ_eq h
  exact⟨rfl,a.eval x,rfl,evalO_rep hT hv⟩
 case assign x =>
  replace h:moveJ T hs x=some (v,hs'):=h
  obtain⟨rfl,hv⟩:=moveJ_eq h
  exact⟨rfl,a.eval x,rfl,evalO_rep hT hv⟩
 case pick c x y =>
  replace h:pickJ T hs c x y=some (v,hs'):=h
  simp only[pickJ,ob_eq,V.bool?_eq]at h
  obtain⟨_,hc,q,rfl,u,hu,h⟩:=h
  cases h
  have e:=(evalO_rep hT hc).bool_inv
  refine⟨rfl,(if q then a.eval x else a.eval y),?_,?_⟩
  · simp[execOp,e,asBool]
  · cases q with
    |true=>exact evalO_rep hT hu
    |false=>exact evalO_rep hT hu
 case load t x =>
  replace h:loadOpJ P T hs t x=some (v,hs'):=h
  simp only[loadOpJ,ob_eq]at h
  obtain⟨i,hi,p,hp,u,hu,h⟩:=h
  cases h
  exact⟨rfl,(load_ok hR hi (evalO_rep hT hp) hu).next⟩
 case nilCheck x =>
  replace h:nilCheckJ T hs x=some (v,hs'):=h
  simp only[nilCheckJ,ob_eq,gd_eq]at h
  obtain⟨u,hu,hn,h⟩:=h
  cases h
  have hr:=evalO_rep hT hu
  refine⟨rfl,a.eval x,?_,hr⟩
  have key:(∃ b,a.eval x=.pointer (some b))∨∃ f cs ys,a.eval x=.func f cs ys∧∀ m,f≠.method m:=by
   cases v with
   |ptr id g off=>obtain⟨m,_,e⟩:=hr.ptr_inv;exact .inl ⟨_,e⟩
   | ref cs =>
     have h:=hr.ref_inv
     generalize a.eval x=y at h
     cases h;exact .inl ⟨_,rfl⟩
   |func f cs=>obtain⟨ys,e,_⟩:=hr.func_inv;exact .inr ⟨_,_,_,e,fun m h=>by cases h⟩
   |yld id=>obtain⟨m,_,e⟩:=hr.yld_inv;exact .inr ⟨_,_,_,e,fun m h=>by cases h⟩
   |_=>cases hn
  rcases key with⟨b,e⟩|⟨f,cs,ys,e,hne⟩
  · simp[execOp,e]
  · cases f<;>first|exact absurd rfl (hne _)|simp[execOp,e]
 case binOp op t x y u =>
  replace h:binOpJ P T hs op t x y=some (v,hs'):=h
  simp only[binOpJ,ob_eq]at h
  obtain⟨p,hp,q,hq,r,hr,h⟩:=h
  cases h
  rw[bi_eq]at hr
  split at hr
  · rename_i hc
    have hy:y=.const .nilIface:=by
     unfold isNilC at hc
     split at hc
     · rfl
     · cases hc
    subst hy
    exact⟨rfl,(nilJ_ok (evalO_rep hT hp) hr).next⟩
  · exact⟨rfl,(binJ_ok (u:=t) (evalO_rep hT hp) (evalO_rep hT hq) hr).next⟩
 case unOp op t x =>
  replace h:unOpJ T hs op x=some (v,hs'):=h
  unfold unOpJ at h
  split at h
  · simp only[ob_eq,V.bool?_eq]at h
    obtain⟨_,hp,b,rfl,h⟩:=h
    cases h
    have e:=(evalO_rep hT hp).bool_inv
    exact⟨rfl,.bool (!b),by simp[execOp,e,Op.unary],by rw[nt_eq];exact .pure (.bool _)⟩
  · simp only[ob_eq,V.int?_eq]at h
    obtain⟨_,hp,p,rfl,h⟩:=h
    cases h
    have e:=(evalO_rep hT hp).int_inv
    refine⟨rfl,.int p.1 (p.1.wrap (0-p.2)),by simp[execOp,e,Op.unary,Op.intArith],?_⟩
    rw[wrapJ_eq];exact .pure (.int _ _)
  · cases h
 case convert s d x =>
  replace h:convJ P T hs s d x=some (v,hs'):=h
  simp only[convJ,ob_eq]at h
  obtain⟨i,hi,j,hj,p,hp,r,hr,h⟩:=h
  cases h
  exact⟨rfl,(conv_ok hi hj (evalO_rep hT hp) hr).next⟩
 case makeInterface t x =>
  replace h:makeIfaceJ P T hs t x=some (v,hs'):=h
  simp only[makeIfaceJ,ob_eq,gd_eq,nt_true]at h
  obtain⟨i,hi,hn,p,hp,h⟩:=h
  cases h
  refine⟨rfl,.iface t (a.eval x),?_,.iface t p _ (evalO_rep hT hp)⟩
  have:(Instr.makeInterface t (a.eval x)).run P w=.ok (.iface t (a.eval x)) w:=by
   simp only[Instr.makeInterface,Sem.run_bind,run_und hi,Result.andThen_ok]
   cases hd:i.desc<;>first|rfl|(rw[hd]at hn;cases hn)
  simp[execOp,this]
 case makeFunc fn first caps =>
  replace h:makeFuncJ T hs fn first caps=some (v,hs'):=h
  unfold makeFuncJ at h
  split at h
  · rename_i f
    simp only[gd_eq,ob_eq]at h
    obtain⟨hf,l,hl,h⟩:=h
    cases h
    obtain⟨hlen,hl'⟩:=evalL_rep hT hl
    have hfst:first=#[]:=by
     grind
    subst hfst
    refine⟨rfl,.func (.func f) #[] (caps.map a.eval),by simp[execOp,Instr.makeFunc],?_⟩
    refine .func f l _ (by simpa using hlen) fun j u hj=>?_
    obtain⟨o,ho,hr⟩:=hl' j u hj
    simp_all
  · cases h
 case slice t x lo hi mx =>
  replace h:sliceOpJ P T hs t x lo hi mx=some (v,hs'):=h
  simp only[sliceOpJ,ob_eq]at h
  obtain⟨i,hi,p,hp,r,hr,h⟩:=h
  cases h
  exact⟨rfl,(slice_ok hR hT hi (evalO_rep hT hp) hr).next⟩
 case fieldAddr t x f =>
  replace h:fieldAddrJ P T hs t x f=some (v,hs'):=h
  simp only[fieldAddrJ,ob_eq,gd_eq,nt_true,beq_false]at h
  obtain⟨i,hi,fd,hfd,fi,hfi,hne,p,hp,r,hr,h⟩:=h
  cases h
  exact⟨rfl,(fieldAddr_ok hi hfd hfi hne (evalO_rep hT hp) hr).next⟩
 case field t x f =>
  replace h:fieldJ P T hs t x f=some (v,hs'):=h
  simp only[fieldJ,ob_eq,V.agg?_eq]at h
  obtain⟨i,hi,fd,hfd,fi,hfi,_,hp,cs,rfl,r,hr,h⟩:=h
  cases h
  exact⟨rfl,(field_ok hi hfd hfi (evalO_rep hT hp) hr).next⟩
 case indexAddr t x ix =>
  replace h:indexAddrJ P T hs t x ix=some (v,hs'):=h
  simp only[indexAddrJ,ob_eq,V.nat?_eq]at h
  obtain⟨i,hi,el,hd,e,he,p,hp,_,hn,n,⟨k,rfl⟩,r,hr,h⟩:=h
  cases h
  have e1:=(evalO_rep hT hn).int_inv
  have:=(idx_ok (k:=k) hi hd he (evalO_rep hT hp) hr).next
  rw[← e1]at this
  exact⟨rfl,this⟩
 case index t x ix =>
  replace h:indexJ P T hs t x ix=some (v,hs'):=h
  simp only[indexJ,ob_eq,gd_eq,V.nat?_eq,V.str?_eq]at h
  obtain⟨i,hi,hd,_,hp,s,rfl,_,hn,n,⟨k,rfl⟩,b,hb,h⟩:=h
  cases h
  have e1:=(evalO_rep hT hn).int_inv
  have:=(index_ok (k:=k) hi hd (evalO_rep hT hp) hb).next
  rw[← e1]at this
  exact⟨rfl,this⟩
 case lookup t m k ok =>
  replace h:lookupJ P T hs t m k ok=some (v,hs'):=h
  obtain⟨h1,h2⟩:=lookup_ok hR hT h
  exact⟨h1,h2.next⟩
 case extract x k =>
  replace h:extractJ T hs x k=some (v,hs'):=h
  simp only[extractJ,ob_eq,V.tuple?_eq]at h
  obtain⟨_,hp,vs,rfl,r,hr,h⟩:=h
  cases h
  exact⟨rfl,(extract_ok (evalO_rep hT hp) hr).next⟩
 case build t parts =>
  replace h:buildOpJ P T hs t parts=some (v,hs'):=h
  simp only[buildOpJ,ob_eq]at h
  obtain⟨i,hi,cs,hcs,h⟩:=h
  cases h
  cases h2:isStructD i.desc with
  | true =>
    rw[h2]at hcs
    have hcs:gd (fieldsOk P (fieldsOf i.desc)) (buildJ P T i parts.toList i.zero)=some cs:=hcs
    rw[gd_eq]at hcs
    exact⟨rfl,(build_ok hρ hT hi hcs.1 h2 hcs.2).next⟩
  | false =>
    rw[h2]at hcs
    have hcs:(ob (arrOf i.desc) fun el=>ob (ti P el) fun e=>buildAJ T e.size parts.toList i.zero)=some cs:=hcs
    simp only[ob_eq]at hcs
    obtain⟨el,hel,e,he,hcs⟩:=hcs
    exact⟨rfl,(buildA_ok hρ hT hi hel he hcs).next⟩
theorem opJ_ok(hρ:Good ρ)(hR:R ρ w F μ P hs){a:Act}(hT:TRel ρ w F μ T a.tmps){o:Oper}(hcall:callOf o.op=none){dr:Bool}{id:Nat}(hid:opClass o.op≠0→Free μ hs id){v:V}{hs':HS}
 (h:opJ P dr T hs id (opR o.op)=some (v,hs')):NextB ρ P w F μ hs (execOp a.eval o) v hs':=by
 by_cases hc:opClass o.op=0
 · obtain⟨rfl,h1⟩:=op0_ok hρ hR hT hc hcall h
   exact h1.toB hR
 replace hid:=hid hc
 obtain⟨dst,op,ty,pos,after,guard⟩:=o
 dsimp only at *
 cases op<;>first|(exact absurd rfl hc)|(cases hcall;done)|(cases h;done)|skip
 case alloc t =>
  replace h:allocJ P hs id t=some (v,hs'):=h
  exact(alloc_ok hR hid h).next
 case box t x =>
  replace h:boxJ T hs id x=some (v,hs'):=h
  exact(box_ok hρ hR hid hT t h).next
 case buildSlice t n parts =>
  replace h:buildSliceOpJ P dr T hs id t n parts=some (v,hs'):=h
  exact(buildSlice_ok hρ hR hid hT h).next
 case store t x y =>
  replace h:storeOpJ P T hs t x y=some (v,hs'):=h
  simp only[storeOpJ,ob_eq]at h
  obtain⟨i,hi,p,hp,u,hu,hs1,h1,h⟩:=h
  cases h
  obtain⟨w',F',h2,h3,h4⟩:=store_ok hρ hR hi (evalO_rep hT hp) (evalO_rep hT hu) h1
  exact unit_next h2 h3 h4
 case mapUpdate t m k x =>
  replace h:mapUpdateJ P T hs t m k x=some (v,hs'):=h
  obtain⟨w',F',rfl,h2,h3,h4⟩:=mapUpdate_ok hR hT h
  exact unit_next h2 h3 h4
 case insert t m k x =>
  replace h:mapUpdateJ P T hs t m k x=some (v,hs'):=h
  obtain⟨w',F',rfl,h2,h3,h4⟩:=mapUpdate_ok hR hT h
  exact unit_next h2 h3 h4
 case makeMap t r =>
  replace h:makeMapJ hs id r=some (v,hs'):=h
  exact(makeMap_ok hR hid h).next
 case makeSlice t l c =>
  replace h:makeSliceOpJ P T hs id t l c=some (v,hs'):=h
  simp only[makeSliceOpJ,ob_eq]at h
  obtain⟨i,hi,p,hp,q,hq,h⟩:=h
  exact(makeSlice_ok hR hid hi (evalO_rep hT hp) (evalO_rep hT hq) h).next
theorem oneL_eq{l:List V}{x:V}:oneL l=some x↔l=[x]:=by
 match l with
 | []=>simp[oneL,lr]
 | [y]=>simp[oneL,lr]
 |y::z::t=>simp[oneL,lr]
theorem twoL_eq{l:List V}{p:V×V}:twoL l=some p↔l=[p.1,p.2]:=by
 match l with
 | []=>simp[twoL,lr]
 | y::t =>
   have:twoL (y::t)=ob (oneL t) fun z=>some (y,z):=rfl
   grind [ob_eq,oneL_eq,Option.some.injEq]
theorem isSlice2_eq{ts:List TypeId}{u:TypeId}:isSlice2 ts=some u↔∃ t,ts=[t,u]:=by
 match ts with
 | []=>simp[isSlice2]
 | [t]=>simp[isSlice2]
 | [t,u']=>simp[isSlice2]
 |_::_::_::_=>simp[isSlice2]
theorem args_rep{a:Act}(hT:TRel ρ w F μ T a.tmps){xs:Array Operand}{vs:List V}(h:evalL T xs.toList=some vs) :
 (xs.map a.eval).toList.length=vs.length∧∀ (j:Nat) (v:V),vs[j]?=some v→∃ x,(xs.map a.eval)[j]?=some x∧Rep ρ w F μ v x:=by
 obtain⟨h1,h2⟩:=evalL_rep hT h
 grind
theorem args_one{a:Act}(hT:TRel ρ w F μ T a.tmps){xs:Array Operand}{x:V}(h:evalL T xs.toList=some [x]):∃ X,xs.map a.eval=#[X]∧Rep ρ w F μ x X:=by
 obtain⟨h1,h2⟩:=args_rep hT h
 obtain⟨X,hX,hr⟩:=h2 0 x rfl
 grind
theorem args_two{a:Act}(hT:TRel ρ w F μ T a.tmps){xs:Array Operand}{x y:V}(h:evalL T xs.toList=some [x,y]):∃ X Y,xs.map a.eval=#[X,Y]∧Rep ρ w F μ x X∧Rep ρ w F μ y Y:=by
 obtain⟨h1,h2⟩:=args_rep hT h
 obtain⟨X,hX,hr⟩:=h2 0 x rfl
 obtain⟨Y,hY,hs⟩:=h2 1 y rfl
 grind
theorem builtin_ok(hρ:Good ρ)(hR:R ρ w F μ P hs){a:Act}(hT:TRel ρ w F μ T a.tmps){id:Nat}{b:Builtin}(hid:b=.append→Free μ hs id){ts:Array TypeId}{tR:TypeId}{cs:Array Bool}{xs:Array Operand}{vs:List V}{v:V}{hs':HS}
 (hvs:evalL T xs.toList=some vs) (h:builtinJ P hs id b ts.toList vs=some (v,hs')):NextB ρ P w F μ hs (builtin b ts tR cs (xs.map a.eval)) v hs':=by
 unfold builtinJ at h
 split at h
 · unfold lenOpJ at h
   simp only[ob_eq,oneL_eq]at h
   obtain⟨i,hi,x,rfl,n,hn,h⟩:=h
   cases h
   obtain⟨X,hX,hr⟩:=args_one hT hvs
   rw[hX]
   cases hts:ts.toList with
   |nil=>rw[hts]at hi;cases hi
   | cons t l =>
     rw[hts]at hi
     have e:ts=(t::l).toArray:=by rw[← hts]
     rw[e]
     exact(len_ok hR hi hr hn).next.toB hR
 · unfold appendOpJ at h
   simp only[ob_eq,twoL_eq,isSlice2_eq,sliceOf_eq]at h
   obtain⟨p,rfl,e,he,u,⟨t,hts⟩,j,hj,elj,hdj,h⟩:=h
   obtain⟨X,Y,hX,hr,hs⟩:=args_two hT hvs
   have ets:ts=#[t,u]:=by apply Array.ext';rw[hts]
   rw[hts]at he
   replace he:(ob (ti P t) fun i=>ob (sliceOf i.desc) fun el=>ti P el)=some e:=he
   simp only[ob_eq,sliceOf_eq]at he
   obtain⟨i,hi,el,hd,he⟩:=he
   rw[hX,ets]
   exact(append_ok hρ hR (hid rfl) hi hd he hj hdj hr hs h).next
 · unfold copyOpJ at h
   simp only[ob_eq,twoL_eq,isSlice2_eq]at h
   obtain⟨p,rfl,e,he,u,⟨t,hts⟩,h⟩:=h
   obtain⟨X,Y,hX,hr,hs⟩:=args_two hT hvs
   have ets:ts=#[t,u]:=by apply Array.ext';rw[hts]
   rw[hts]at he
   replace he:(ob (ti P t) fun i=>ob (sliceOf i.desc) fun el=>ti P el)=some e:=he
   simp only[ob_eq,sliceOf_eq]at he
   obtain⟨i,hi,el,hd,he⟩:=he
   rw[hX,ets]
   exact(copy_ok hρ hR hi hd he hr hs h).next
 · unfold minmaxJ at h
   simp only[ob_eq,twoL_eq,V.int?_eq]at h
   obtain⟨p,rfl,q,h1,r,h2,h⟩:=h
   cases h
   obtain⟨X,Y,hX,hr,hs⟩:=args_two hT hvs
   rw[h1]at hr;rw[h2]at hs
   rw[hX,hr.int_inv,hs.int_inv]
   exact(ValA.next (minmax_ok true ts tR)).toB hR
 · unfold minmaxJ at h
   simp only[ob_eq,twoL_eq,V.int?_eq]at h
   obtain⟨p,rfl,q,h1,r,h2,h⟩:=h
   cases h
   obtain⟨X,Y,hX,hr,hs⟩:=args_two hT hvs
   rw[h1]at hr;rw[h2]at hs
   rw[hX,hr.int_inv,hs.int_inv]
   exact(ValA.next (minmax_ok false ts tR)).toB hR
 · cases h
end
end Go.J
/- What the evaluator's heap keeps: an object that is not in the log is as it was. -/
namespace Go.J
structure Kept(hs hs':HS):Prop where
 log:∀ k,k∈hs.log→k∈hs'.log
 obj:∀ k o,hs.H.get k=some o→k ∉ hs'.log→hs'.H.get k=some o
 le:hs.n≤hs'.n
 hm:∀ k,hs.H.get k≠none→hs'.H.get k≠none
theorem Kept.refl(hs:HS):Kept hs hs:=⟨fun _ h=>h,fun _ _ h _=>h,Nat.le_refl _,fun _ h=>h⟩
theorem Kept.trans{a b c:HS}(h:Kept a b)(h':Kept b c):Kept a c :=
 ⟨fun k hk=>h'.log k (h.log k hk),fun k o ho hn=>h'.obj k o (h.obj k o ho fun hk=>hn (h'.log k hk)) hn,Nat.le_trans h.le h'.le,fun k hk=>h'.hm k (h.hm k hk)⟩
theorem put_kept{hs:HS}{id:Nat}(o:Obj)(h:hs.H.get id=none):Kept hs (hs.put id o) :=
 ⟨fun _ hk=>hk,fun k o' ho _=>by
   rw[put_get];split
   · rename_i e;subst e;rw[h]at ho;cases ho
   · exact ho,Nat.le_refl _,fun k hk=>by
   rw[put_get];split
   · simp
   · exact hk⟩
theorem wr_kept(hs:HS)(id:Nat)(o:Obj):Kept hs (hs.wr id o) :=
 ⟨fun k hk=>List.mem_cons_of_mem _ hk,fun k o' ho hn=>by
   rw[wr_get];split
   · rename_i e;subst e;exact absurd (List.mem_cons_self ..) hn
   · exact ho,Nat.le_refl _,fun k hk=>by
   rw[wr_get];split
   · simp
   · exact hk⟩
theorem freezeRow_kept(hs:HS)(id:Nat):Kept hs (freezeRow hs id):=by
 unfold freezeRow
 cases hs.H.get id with
 |none=>exact .refl _
 |some o=>cases o<;>first|exact .refl _|exact wr_kept ..
theorem freezeL_kept(hs:HS):∀ l:List V,Kept hs (freezeL hs l):=by
 intro l
 induction l with
 |nil=>exact .refl _
 | cons v l ih =>
   rw[freezeL_cons]
   refine ih.trans ?_
   unfold freeze1
   split
   · exact freezeRow_kept ..
   · exact .refl _
theorem purify_kept{v v':V}{hs hs':HS}(h:purify v hs=some (v',hs')):Kept hs hs':=by
 grind [purify,ob_eq,freezeL_kept]
theorem Kept.none_of {hs:HS} {l:List V} {id:Nat} (h:hs.H.get id=none):(freezeL hs l).H.get id=none:=by
 induction l with
 |nil=>exact h
 | cons v l ih =>
   rw[freezeL_cons];unfold freeze1
   split
   · rename_i i g o len cap
     unfold freezeRow
     cases ho:(freezeL hs l).H.get i with
     |none=>exact ih
     | some o =>
       cases o with
       | arr s g es ex fz row =>
         show ((freezeL hs l).wr i (.arr s g es ex true row)).H.get id=none
         grind [wr_get]
       |_=>exact ih
   · exact ih
section
variable {P:Program}{T:PT V}{hs hs':HS}{id:Nat}{v:V}
theorem storeRow_kept{i:TI}{id g off:Nat}{v:V}(h:storeRow i id g off v hs=some hs'):Kept hs hs':=by
 grind [storeRow,ob_eq,gd_eq,wr_kept]
theorem storeJ_kept{i:TI}{p v:V}(h:storeJ i hs p v=some hs'):Kept hs hs':=by
 unfold storeJ at h
 split at h
 · rw[bi_eq]at h
   split at h
   · simp only[ob_eq]at h
     obtain⟨r,hr,h⟩:=h
     exact(purify_kept hr).trans (storeRow_kept h)
   · exact storeRow_kept h
 · cases h
theorem cleanJ_kept{dr:Bool}{v:V}{r:V×HS}(h:cleanJ dr v hs=some r)(hid:hs.H.get id=none):Kept hs r.2∧r.2.H.get id=none:=by
 unfold cleanJ at h
 rw[bi_eq]at h
 split at h
 · simp only[gd_eq]at h
   obtain⟨_,h⟩:=h
   cases h;exact⟨.refl _,hid⟩
 grind [purify_kept,purify,ob_eq,Kept.none_of]
theorem partsJ_kept{dr:Bool}{e:TI}{len:Nat}:∀ (l:List (Nat×Operand)) {hs:HS} {es:List (List V)} {r:List (List V)×HS},partsJ dr T e len l hs es=some r→hs.H.get id=none→Kept hs r.2∧r.2.H.get id=none:=by
 intro l
 induction l with
 |nil=>intro hs es r h hid;cases h;exact⟨.refl _,hid⟩
 | cons p l ih =>
   intro hs es r h hid
   replace h:(ob (evalO T p.2) fun v=>ob (cleanJ dr v hs) fun r=>gd (et (Nat.beq (lenL r.1.cells) e.size) (Nat.blt p.1 len)) (partsJ dr T e len l r.2 (setL es p.1 r.1.cells)))=some r:=h
   simp only[ob_eq,gd_eq]at h
   obtain⟨v,_,q,hq,_,h⟩:=h
   obtain⟨h1,h2⟩:=cleanJ_kept hq hid
   obtain⟨h3,h4⟩:=ih h h2
   exact⟨h1.trans h3,h4⟩
theorem mkRow_kept{e:TI}{n:Nat}{es:List (List V)}(h:mkRowJ e hs id n es=some (v,hs'))(hid:hs.H.get id=none):Kept hs hs':=by
 cases h;exact put_kept _ hid
theorem appendIn_kept{i g off len:Nat}{cap:Option Nat}{a:Nat×List (List V)×Bool×Bool×Bool}{new:List (List V)}(h:appendIn hs i g off len cap a new=some (v,hs')):Kept hs hs':=by
 grind [appendIn,gd_eq,wr_kept]
theorem appendJ_kept{e:TI}{s x:V}(h:appendJ e hs id s x=some (v,hs'))(hid:hs.H.get id=none):Kept hs hs':=by
 simp only[appendJ,ob_eq,gd_eq]at h
 obtain⟨new,_,_,h⟩:=h
 split at h
 · unfold appendNil at h
   rw[bi_eq]at h
   split at h
   · cases h;exact .refl _
   grind [gd_eq,mkRow_kept]
 · unfold appendSl at h
   rw[bi_eq]at h
   split at h
   · cases h;exact .refl _
   grind [gd_eq,mkRow_kept]
 · rename_i i g off len cap
   simp only[appendOwn,ob_eq,gd_eq]at h
   obtain⟨a,_,_,h⟩:=h
   cases cap with
   | none =>
     grind [orc_none,bi_eq,appendIn_kept,gd_eq,wr_kept]
   | some c =>
     grind [orc_some,bi_eq,appendIn_kept,ob_eq,mkRow_kept]
 · cases h
theorem copyJ_kept{e:TI}{d x:V}(h:copyJ e hs d x=some (v,hs')):Kept hs hs':=by
 simp only[copyJ,ob_eq]at h
 obtain⟨src,_,h⟩:=h
 split at h
 · grind [copyOwn,ob_eq,gd_eq,wr_kept]
 · cases h;exact .refl _
 · cases h
theorem builtin_kept{b:Builtin}{ts:List TypeId}{vs:List V}(h:builtinJ P hs id b ts vs=some (v,hs'))(hid:b=.append→hs.H.get id=none):Kept hs hs':=by
 unfold builtinJ at h
 split at h
 · simp only[lenOpJ,ob_eq]at h
   obtain⟨_,_,_,_,_,_,h⟩:=h
   cases h;exact .refl _
 · grind [appendOpJ,ob_eq,appendJ_kept]
 · grind [copyOpJ,ob_eq,copyJ_kept]
 · simp only[minmaxJ,ob_eq]at h
   obtain⟨_,_,_,_,_,_,h⟩:=h
   cases h;exact .refl _
 · simp only[minmaxJ,ob_eq]at h
   obtain⟨_,_,_,_,_,_,h⟩:=h
   cases h;exact .refl _
 · cases h
theorem op0_same{o:Op}(hc:opClass o=0)(hcall:callOf o=none){dr:Bool}(h:opJ P dr T hs id (opR o)=some (v,hs')):hs'=hs:=by
 cases o<;>first|(cases hc;done)|(cases hcall;done)|(cases h;done)|skip
 case move x=>replace h:moveJ T hs x=some (v,hs'):=h;exact(moveJ_eq h).1
 case assign x=>replace h:moveJ T hs x=some (v,hs'):=h;exact(moveJ_eq h).1
 case pick c x y =>
  replace h:pickJ T hs c x y=some (v,hs'):=h
  grind [pickJ,ob_eq]
 case load t x =>
  replace h:loadOpJ P T hs t x=some (v,hs'):=h
  grind [loadOpJ,ob_eq]
 case nilCheck x =>
  replace h:nilCheckJ T hs x=some (v,hs'):=h
  grind [nilCheckJ,ob_eq,gd_eq]
 case binOp op t x y u =>
  replace h:binOpJ P T hs op t x y=some (v,hs'):=h
  grind [binOpJ,ob_eq]
 case unOp op t x =>
  replace h:unOpJ T hs op x=some (v,hs'):=h
  unfold unOpJ at h
  grind [ob_eq]
 case convert s d x =>
  replace h:convJ P T hs s d x=some (v,hs'):=h
  grind [convJ,ob_eq]
 case makeInterface t x =>
  replace h:makeIfaceJ P T hs t x=some (v,hs'):=h
  grind [makeIfaceJ,ob_eq,gd_eq]
 case makeFunc fn first caps =>
  replace h:makeFuncJ T hs fn first caps=some (v,hs'):=h
  unfold makeFuncJ at h
  grind [gd_eq,ob_eq]
 case slice t x lo hi mx =>
  replace h:sliceOpJ P T hs t x lo hi mx=some (v,hs'):=h
  grind [sliceOpJ,ob_eq]
 case fieldAddr t x f =>
  replace h:fieldAddrJ P T hs t x f=some (v,hs'):=h
  grind [fieldAddrJ,ob_eq,gd_eq]
 case field t x f =>
  replace h:fieldJ P T hs t x f=some (v,hs'):=h
  grind [fieldJ,ob_eq]
 case indexAddr t x ix =>
  replace h:indexAddrJ P T hs t x ix=some (v,hs'):=h
  grind [indexAddrJ,ob_eq]
 case index t x ix =>
  replace h:indexJ P T hs t x ix=some (v,hs'):=h
  grind [indexJ,ob_eq,gd_eq]
 case lookup t m k ok =>
  replace h:lookupJ P T hs t m k ok=some (v,hs'):=h
  simp only[lookupJ,ob_eq,gd_eq]at h
  grind
 case extract x k =>
  replace h:extractJ T hs x k=some (v,hs'):=h
  grind [extractJ,ob_eq]
 case build t parts =>
  replace h:buildOpJ P T hs t parts=some (v,hs'):=h
  grind [buildOpJ,ob_eq]
theorem opJ_kept{o:Op}(hcall:callOf o=none){dr:Bool}(hid:opClass o≠0→hs.H.get id=none)(h:opJ P dr T hs id (opR o)=some (v,hs')):Kept hs hs':=by
 by_cases hc:opClass o=0
 · rw[op0_same hc hcall h];exact .refl _
 replace hid:=hid hc
 cases o<;>first|(exact absurd rfl hc)|(cases hcall;done)|(cases h;done)|skip
 case alloc t =>
  replace h:allocJ P hs id t=some (v,hs'):=h
  grind [allocJ,ob_eq,gd_eq,put_kept]
 case box t x =>
  replace h:boxJ T hs id x=some (v,hs'):=h
  grind [boxJ,ob_eq,put_kept]
 case buildSlice t n parts =>
  replace h:buildSliceOpJ P dr T hs id t n parts=some (v,hs'):=h
  simp only[buildSliceOpJ,ob_eq,gd_eq]at h
  obtain⟨_,_,_,_,_,_,_,r,hr,h⟩:=h
  cases h
  obtain⟨h1,h2⟩:=partsJ_kept _ hr hid
  exact h1.trans (put_kept _ h2)
 case store t x y =>
  replace h:storeOpJ P T hs t x y=some (v,hs'):=h
  grind [storeOpJ,ob_eq,storeJ_kept]
 case mapUpdate t m k x =>
  replace h:mapUpdateJ P T hs t m k x=some (v,hs'):=h
  simp only[mapUpdateJ,ob_eq,gd_eq]at h
  obtain⟨_,_,_,_,_,_,_,_,_,_,_,_,_,h⟩:=h
  split at h
  · simp only[ob_eq]at h
    obtain⟨_,hp,_,_,_,_,_,_,h⟩:=h
    cases h
    exact(purify_kept hp).trans (wr_kept ..)
  · cases h
 case insert t m k x =>
  replace h:mapUpdateJ P T hs t m k x=some (v,hs'):=h
  simp only[mapUpdateJ,ob_eq,gd_eq]at h
  obtain⟨_,_,_,_,_,_,_,_,_,_,_,_,_,h⟩:=h
  split at h
  · simp only[ob_eq]at h
    obtain⟨_,hp,_,_,_,_,_,_,h⟩:=h
    cases h
    exact(purify_kept hp).trans (wr_kept ..)
  · cases h
 case makeMap t r =>
  replace h:makeMapJ hs id r=some (v,hs'):=h
  grind [makeMapJ,gd_eq,put_kept]
 case makeSlice t l c =>
  replace h:makeSliceOpJ P T hs id t l c=some (v,hs'):=h
  simp only[makeSliceOpJ,makeSliceJ,ob_eq,gd_eq]at h
  grind [put_kept]
end
end Go.J
/- What the evaluator's heap keeps: code and calls. -/
namespace Go.J
section
variable {E:Env}{ev:Ev}{T:PT V}{hs hs':HS}{id:Nat}{v:V}
structure EvKept(ev:Ev):Prop where
 code:∀ {rd sz c T hs r},ev.code rd sz c T hs=some r→Kept hs r.2.2
 call:∀ {f args hs r},ev.call f args hs=some r→Kept hs r.2
def ConKept(E:Env):Prop:=∀ {f args hs r},E.con f args hs=some r→Kept hs r.2
theorem purifyA_kept:∀ {l l':List V} {hs hs':HS},purifyA l hs=some (l',hs')→Kept hs hs':=by
 intro l
 induction l with
 |nil=>intro l' hs hs' h;cases h;exact .refl _
 | cons v l ih =>
   intro l' hs hs' h
   replace h:(ob (purify v hs) fun r=>ob (purifyA l r.2) fun q=>some (r.1::q.1,q.2))=some (l',hs'):=h
   simp only[ob_eq]at h
   obtain⟨⟨u,hs1⟩,hu,⟨m,hs2⟩,hm,h⟩:=h
   cases h
   exact(purify_kept hu).trans (ih hm)
theorem purR_kept{r p:V×HS}(h:purR r=some p):Kept r.2 p.2:=by
 grind [purR,ob_eq,purifyA_kept,purify_kept]
theorem callBy_kept (hev:EvKept ev) {f:FuncId} {args:List V} {r:V×HS} (h:callBy E ev f args hs=some r):Kept hs r.2:=by
 have key:∀ args',callScal ev f args' hs=some r→Kept hs r.2:=by
  intro args' h
  simp only[callScal,ob_eq,gd_eq]at h
  obtain⟨_,_,_,h⟩:=h;cases h;exact .refl _
 unfold callBy at h
 cases hp:E.pol f with
 | zero =>
   rw[hp]at h
   replace h:bi (allPure args) (callPure ev f args hs) (ev.call f args hs)=some r:=h
   rw[bi_eq]at h
   split at h
   · simp only[callPure,ob_eq]at h
     obtain⟨_,_,_,_,h⟩:=h;cases h;exact .refl _
   · exact hev.call h
 | succ m =>
   rw[hp]at h
   cases m with
   |zero=>exact hev.call h
   | succ m =>
     cases m with
     | zero =>
       replace h:orc (ev.call f args hs) (fun args'=>callScal ev f args' hs) (stillA hs args)=some r:=h
       cases hs:stillA hs args with
       |none=>rw[hs]at h;exact hev.call h
       |some args'=>rw[hs]at h;exact key _ h
     | succ m =>
       replace h:callPur ev f args hs=some r:=h
       simp only[callPur,ob_eq]at h
       obtain⟨q,hq,h⟩:=h
       cases hp:purR q with
       |none=>rw[hp]at h;cases h;exact hev.call hq
       |some p=>rw[hp]at h;cases h;exact(hev.call hq).trans (purR_kept hp)
theorem callJ_kept(hcon:ConKept E)(hev:EvKept ev){f:FuncId}{args:List V}{r:V×HS}(h:callJ E ev f args hs=some r):Kept hs r.2:=by
 unfold callJ at h
 cases hc:E.con f args hs with
 |none=>rw[hc]at h;exact callBy_kept hev h
 |some q=>rw[hc]at h;cases h;exact hcon hc
theorem roundJ_kept(hev:EvKept ev){vs:List V}{r:V×HS}(h:roundJ ev id vs hs=some r):Kept hs r.2:=by
 simp only[roundJ,ob_eq,gd_eq]at h
 obtain⟨_,_,_,_,_,_,_,q,hq,_,_,_,_,_,_,p,hp,_,_,_,_,h⟩:=h
 cases h
 exact(hev.code hq).trans ((wr_kept ..).trans ((hev.code hp).trans (wr_kept ..)))
theorem stepJ_kept(hcon:ConKept E)(hev:EvKept ev){dr:Bool}{o:Oper}(hid:opClass o.op≠0→hs.H.get id=none){r:V×HS}(h:stepJ E ev dr T hs id o=some r):Kept hs r.2:=by
 unfold stepJ at h
 cases hc:callOf o.op with
 |none=>rw[hc]at h;exact opJ_kept hc hid h
 | some c =>
   rw[hc]at h
   replace h:stepCall E ev T hs id c=some r:=h
   simp only[stepCall,ob_eq]at h
   obtain⟨vs,_,h⟩:=h
   split at h
   · refine builtin_kept (P:=E.P) h fun hb=>hid ?_
     subst hb
     cases ho:o.op<;>rw[ho]at hc<;>first|(cases hc;done)|skip
     cases hc
     grind [opClass]
   · simp only[ob_eq]at h
     obtain⟨u,_,h⟩:=h
     unfold valueJ at h
     grind [callJ_kept,roundJ_kept]
   · cases h
theorem vacant_eq{hs:HS}{id:Nat}:vacant hs id=true↔hs.H.get id=none:=by
 unfold vacant
 cases hs.H.get id<;>simp[nt,isSomeO]
theorem goStep_kept(hcon:ConKept E)(hev:EvKept ev){sz:Nat}{ops:List Oper}{o:Oper}{r:PT V×HS}(h:goStep E ev sz ops o id T hs=some r):Kept hs r.2:=by
 simp only[goStep,ob_eq]at h
 obtain⟨w,_,h⟩:=h
 rw[bi_eq]at h
 split at h
 · simp only[gd_eq,ob_eq]at h
   obtain⟨hv,q,hq,_,_,h⟩:=h
   grind [stepJ_kept,bi_eq,beq_true,vacant_eq]
 · simp only[ob_eq]at h
   obtain⟨_,_,h⟩:=h
   cases h;exact .refl _
theorem regionJ_kept(hcon:ConKept E)(hev:EvKept ev){sz:Nat}{ops:List Oper}:∀ (l:List Oper) {id:Nat} {T:PT V} {hs:HS} {r:PT V×HS},regionJ E ev sz ops l id T hs=some r→Kept hs r.2:=by
 intro l
 induction l with
 |nil=>intro id T hs r h;cases h;exact .refl _
 | cons o l ih =>
   intro id T hs r h
   replace h:(ob (goStep E ev sz ops o id T hs) fun r=>regionJ E ev sz ops l (id+1) r.1 r.2)=some r:=h
   simp only[ob_eq]at h
   obtain⟨q,hq,h⟩:=h
   exact(goStep_kept hcon hev hq).trans (ih h)
theorem drawOp_kept (hcon:ConKept E) (hev:EvKept ev) {o:Oper} {r:V×HS×List Nat×List Nat} (h:drawOp E ev o id T hs=some r) :
 Kept hs r.2.1∧(∀ k o',hs.H.get k=some o'→k ∉ r.2.2.2→r.2.1.H.get k=some o'):=by
 have fin:∀ {k:Nat} (o':Obj),hs.H.get k=none→Kept hs (hs.put k o')∧(∀ i o2,hs.H.get i=some o2→i ∉ ([]:List Nat)→(hs.put k o').H.get i=some o2):=by
  grind [put_kept,put_get]
 unfold drawOp at h
 cases hc:opClass o.op with
 | zero =>
   rw[hc]at h
   replace h:(ob (stepJ E ev true T { H:=pickT hs.H (readsOf T o.op),n:=0,log:=[] } id o) fun r=>some (r.1,hs,readsOf T o.op,[]))=some r:=h
   simp only[ob_eq]at h
   obtain⟨_,_,h⟩:=h
   cases h;exact⟨.refl _,fun _ _ h _=>h⟩
 | succ m =>
   rw[hc]at h
   cases m with
   | zero =>
     replace h:(gd (vacant hs id) (ob (stepJ E ev true T { H:=.leaf,n:=0,log:=[] } id o) fun r=>ob (r.2.H.get id) fun o'=>gd (nt o'.fz) (some (r.1,hs.put id o',[id],[]))))=some r:=h
     grind [ob_eq,gd_eq,vacant_eq]
   | succ m =>
     replace h:(gd (vacant hs id) (ob (stepJ E ev true T { H:=hs.H,n:=hs.n,log:=[] } id o) fun r=>some (r.1,{ H:=r.2.H,n:=r.2.n,log:=appL r.2.log hs.log },[],r.2.log)))=some r:=h
     simp only[ob_eq,gd_eq,vacant_eq]at h
     obtain⟨hv,q,hq,h⟩:=h
     cases h
     have hk:Kept { H:=hs.H,n:=hs.n,log:=[] } q.2:=stepJ_kept (hs:={ H:=hs.H,n:=hs.n,log:=[] }) (id:=id) hcon hev (fun _=>hv) hq
     refine⟨⟨fun k hkl=>?_,fun k o' ho hn=>?_,hk.le,hk.hm⟩,fun k o' ho hn=>hk.obj k o' ho hn⟩
     · grind [appL_eq,List.mem_append_right]
     · dsimp only at hn;rw[appL_eq]at hn
       exact hk.obj k o' ho fun hm=>hn (List.mem_append_left _ hm)
theorem pickT_get{α:Type}(T:PT α):∀ (l:List Nat) (t:Nat),(pickT T l).get t=if t∈l then T.get t else none:=by
 intro l
 induction l with
 |nil=>intro t;rfl
 | cons x l ih =>
   intro t
   have e:pickT T (x::l)=orc (pickT T l) (fun v=>(pickT T l).set x v) (T.get x):=rfl
   rw[e]
   cases hx:T.get x with
   | none =>
     grind [orc_none]
   | some v =>
     rw[orc_some,PT.set_get]
     grind
theorem pickT_some{α:Type}{T:PT α}{l:List Nat}{t:Nat}{v:α}(h:(pickT T l).get t=some v):t∈l∧T.get t=some v:=by
 grind [pickT_get]
theorem putX_get{H H2:PT Obj}:∀ (X:List Nat) (k:Nat),(putX H H2 X).get k=if k∈X∧H2.get k≠none then H2.get k else H.get k:=by
 intro X
 induction X with
 |nil=>intro k;simp[putX,lr]
 | cons x X ih =>
   intro k
   have e:putX H H2 (x::X)=orc (putX H H2 X) (fun o=>(putX H H2 X).set x o) (H2.get x):=rfl
   rw[e]
   cases hx:H2.get x with
   | none =>
     grind [orc_none]
   | some v =>
     rw[orc_some,PT.set_get]
     by_cases h:k=x
     · subst h;simp[hx]
     · rw[if_neg h,ih];simp[h]
theorem purify_none {v v':V} {hs hs':HS} (h:purify v hs=some (v',hs')) {k:Nat} (hk:hs.H.get k=none):hs'.H.get k=none:=by
 have hr:∀ (hs:HS) (i k:Nat),hs.H.get k=none→(freezeRow hs i).H.get k=none:=by
  intro hs i k hk
  unfold freezeRow
  cases ho:hs.H.get i with
  |none=>exact hk
  | some o =>
    rw[orc_some]
    cases o with
    | arr a b c d e f =>
      show (hs.H.set i _).get k=none
      rw[PT.set_get,if_neg]
      · exact hk
      · rintro rfl;rw[hk]at ho;cases ho
    |mp _=>exact hk
    |lp _ _ _ _ _ _=>exact hk
 have h1:∀ (hs:HS) (v:V) (k:Nat),hs.H.get k=none→(freeze1 hs v).H.get k=none:=by
  intro hs v k hk
  unfold freeze1
  split
  · exact hr _ _ _ hk
  · exact hk
 simp only[purify,ob_eq]at h
 obtain⟨u,_,h⟩:=h
 cases h
 generalize v.cells=l
 induction l with
 |nil=>exact hk
 |cons c l ih=>exact h1 _ _ _ ih
theorem store_none{P:Program}{dr:Bool}{t:TypeId}{a x:Operand}{v:V}{hs hs':HS}(h:storeOpJ P T hs t a x=some (v,hs')){k:Nat}(hk:hs.H.get k=none):hs'.H.get k=none:=by
 have hr:∀ {i:TI} {id g off:Nat} {v:V} {hs hs':HS},storeRow i id g off v hs=some hs'→hs.H.get k=none→hs'.H.get k=none:=by
  intro i id g off v hs hs' h hk
  simp only[storeRow,ob_eq,gd_eq]at h
  obtain⟨q,hq,_,_,e,he,h⟩:=h
  cases h
  show (hs.H.set id _).get k=none
  rw[PT.set_get,if_neg]
  · exact hk
  · rintro rfl
    simp only[getRow,ob_eq]at hq
    obtain⟨o,ho,_⟩:=hq
    rw[hk]at ho;cases ho
 simp only[storeOpJ,ob_eq]at h
 obtain⟨i,_,p,_,u,_,h1,h2,h⟩:=h
 cases h
 unfold storeJ at h2
 split at h2
 · rw[bi_eq]at h2
   split at h2
   · simp only[ob_eq]at h2
     obtain⟨q,hp,h2⟩:=h2
     exact hr h2 (purify_none hp hk)
   · exact hr h2 hk
 · cases h2
theorem store_op{o:Oper}(h:isStore o.op=true):∃ t a x,o.op=.store t a x:=by
 unfold isStore at h
 split at h
 · rename_i t a x e;exact⟨t,a,x,e⟩
 · cases h
theorem stepJ_store{E:Env}{ev:Ev}{dr:Bool}{o:Oper}{t:TypeId}{a x:Operand}(h:o.op=.store t a x){T:PT V}{hs:HS}{id:Nat}:stepJ E ev dr T hs id o=storeOpJ E.P T hs t a x:=by
 unfold stepJ
 rw[h];rfl
theorem drawSt_kept(hcon:ConKept E)(hev:EvKept ev){o:Oper}(hs0:isStore o.op=true){r:V×HS×List Nat×List Nat}(h:drawSt E ev o id T hs=some r) :
 Kept hs r.2.1∧(∀ k o',hs.H.get k=some o'→k ∉ r.2.2.2→r.2.1.H.get k=some o')∧(∀ k,hs.H.get k=none→r.2.1.H.get k=none):=by
 obtain⟨t,a,x,hop⟩:=store_op hs0
 simp only[drawSt,ob_eq,gd_eq,stepJ_store hop]at h
 obtain⟨_,q,hq,h⟩:=h
 cases h
 have hq':stepJ E ev true T { H:=pickT hs.H (readsS T hs o.op),n:=0,log:=[] } (id+1) { o with guard:=none }=some q:=by rw[stepJ_store (o:={ o with guard:=none }) hop];exact hq
 have hk:Kept { H:=pickT hs.H (readsS T hs o.op),n:=0,log:=[] } q.2:=by
  have h3:=hq
  simp only[storeOpJ,ob_eq]at h3
  obtain⟨_,_,_,_,_,_,h1,h2,h3⟩:=h3
  cases h3
  exact storeJ_kept h2
 have hn:∀ k,hs.H.get k=none→(putX hs.H q.2.H (readsS T hs o.op)).get k=none:=by
  intro k hk0
  rw[putX_get,store_none (dr:=true) hq (k:=k) (by dsimp only;rw[pickT_get,hk0];split<;>rfl)]
  simp[hk0]
 have hobj:∀ k o',hs.H.get k=some o'→k ∉ q.2.log→(putX hs.H q.2.H (readsS T hs o.op)).get k=some o':=by
  intro k o' ho hnl
  rw[putX_get]
  split
  · rename_i hc
    refine hk.obj k o' ?_ hnl
    dsimp only
    rw[pickT_get,if_pos hc.1];exact ho
  · exact ho
 refine⟨⟨fun k hkl=>?_,fun k o' ho hnl=>?_,Nat.le_refl _,fun k hk0=>?_⟩,hobj,hn⟩
 · dsimp only;rw[appL_eq];exact List.mem_append_right _ hkl
 · dsimp only at hnl;rw[appL_eq]at hnl
   exact hobj k o' ho fun hm=>hnl (List.mem_append_left _ hm)
 · dsimp only
   rw[putX_get]
   split
   · rename_i hc;exact hc.2
   · exact hk0
theorem drawRun_kept(hcon:ConKept E)(hev:EvKept ev){o:Oper}{r:V×HS×List Nat×List Nat}(h:drawRun E ev o id T hs=some r) :
 Kept hs r.2.1∧(∀ k o',hs.H.get k=some o'→k ∉ r.2.2.2→r.2.1.H.get k=some o'):=by
 grind [drawRun,bi_eq,drawSt_kept,drawOp_kept]
theorem drawStep_kept(hcon:ConKept E)(hev:EvKept ev){ops:List Oper}{o:Oper}{r:V×HS×List Nat×List Nat}(h:drawStep E ev ops o id T hs=some r) :
 Kept hs r.2.1∧(∀ k o',hs.H.get k=some o'→k ∉ r.2.2.2→r.2.1.H.get k=some o'):=by
 simp only[drawStep,ob_eq]at h
 obtain⟨w,_,h⟩:=h
 rw[bi_eq]at h
 split at h
 · exact drawRun_kept hcon hev h
 · have e:=Option.some.inj h
   rw[← e];exact⟨.refl _,fun _ _ h _=>h⟩
theorem regionD_kept(hcon:ConKept E)(hev:EvKept ev){sz:Nat}{ops:List Oper}:∀ (l:List Oper) {id:Nat} {T:PT V} {hs:HS} {acc:List (List Nat×List Nat)} {r:(PT V×HS)×List (List Nat×List Nat)},
 regionD E ev sz ops l id T hs acc=some r→Kept hs r.1.2:=by
 intro l
 induction l with
 |nil=>intro id T hs acc r h;cases h;exact .refl _
 | cons o l ih =>
   intro id T hs acc r h
   replace h:(ob (drawStep E ev ops o id (pickT T (looks ops o)) hs) fun r=>ob (putJ sz T o.dst r.1) fun T'=>regionD E ev sz ops l (id+1) T' r.2.1 (appL acc [r.2.2]))=some r:=h
   simp only[ob_eq]at h
   obtain⟨q,hq,T',_,h⟩:=h
   exact(drawStep_kept hcon hev hq).1.trans (ih h)
theorem regJ_kept(hcon:ConKept E)(hev:EvKept ev){sz:Nat}{l:List Oper}{draw:Bool}{r:Ex×PT V×HS}(h:regJ E ev sz l draw T hs=some r):Kept hs r.2.2:=by
 simp only[regJ,ob_eq]at h
 obtain⟨q,hq,h⟩:=h
 cases h
 rw[bi_eq]at hq
 split at hq
 · simp only[drawJ,ob_eq,gd_eq]at hq
   obtain⟨_,_,p,hp,_,h⟩:=hq
   cases h
   have:=regionD_kept hcon hev _ hp
   exact⟨this.log,this.obj,Nat.le_trans (Nat.le_add_right _ _) this.le,this.hm⟩
 · have:=regionJ_kept hcon hev _ hq
   exact⟨this.log,this.obj,Nat.le_trans (Nat.le_add_right _ _) this.le,this.hm⟩
theorem seqJ_kept(hev:EvKept ev){rd:Bool}{sz:Nat}{b:Code}{q r:Ex×PT V×HS}(h:seqJ ev rd sz b q=some r):Kept q.2.2 r.2.2:=by
 unfold seqJ at h
 split at h
 · exact hev.code h
 · cases h;exact .refl _
theorem codeJ_kept(hcon:ConKept E)(hev:EvKept ev){rd:Bool}{sz:Nat}{c:Code}{r:Ex×PT V×HS}(h:codeJ E ev rd sz c T hs=some r):Kept hs r.2.2:=by
 unfold codeJ at h
 split at h
 · cases h;exact .refl _
 · exact regJ_kept hcon hev h
 · simp only[ob_eq]at h
   obtain⟨q,hq,h⟩:=h
   exact(hev.code hq).trans (seqJ_kept hev h)
 · simp only[ob_eq]at h
   obtain⟨_,_,t,_,h⟩:=h
   rw[bi_eq]at h
   split at h<;>exact hev.code h
 · simp only[ob_eq]at h
   obtain⟨q,hq,h⟩:=h
   have:=hev.code hq
   grind [blockJ,bi_eq]
 · simp only[ob_eq]at h
   obtain⟨q,hq,h⟩:=h
   exact(hev.code hq).trans (seqJ_kept hev h)
 · cases h;exact .refl _
 · cases h;exact .refl _
 · rename_i g ps assign body
   simp only[gd_eq,ob_eq]at h
   obtain⟨_,u,_,h⟩:=h
   simp only[rangeJ,ob_eq,gd_eq,vacant_eq]at h
   obtain⟨_,_,hv,q,hq,_,_,_,_,_,_,h⟩:=h
   have e:=Option.some.inj h
   rw[← e]
   have h2:Kept hs (HS.put { H:=hs.H,n:=hs.n+1,log:=hs.log } hs.n (.lp sz T ps.toList assign body 0)):=by
    have:=put_kept (hs:={ H:=hs.H,n:=hs.n+1,log:=hs.log }) (.lp sz T ps.toList assign body 0) hv
    exact⟨this.log,this.obj,Nat.le_succ _,this.hm⟩
   exact(h2.trans (hev.call hq)).trans (wr_kept ..)
 · cases h
theorem bodyJ_kept(hev:EvKept ev){f:FuncId}{args:List V}{r:V×HS}(h:bodyJ E ev f args hs=some r):Kept hs r.2:=by
 simp only[bodyJ,ob_eq]at h
 obtain⟨fn,_,c,_,T,_,q,hq,h⟩:=h
 have:=hev.code hq
 grind [leaveJ,ob_eq,Option.some.inj]
theorem evJ_kept(hcon:ConKept E):∀ n,EvKept (evJ E n):=by
 intro n
 induction n with
 | zero =>
   refine⟨?_,?_⟩
   · intro _ _ _ _ _ _ h;cases h
   · intro _ _ _ _ h;cases h
 | succ n ih =>
   refine⟨?_,?_⟩
   · intro _ _ _ _ _ _ h;exact codeJ_kept hcon ih h
   · intro _ _ _ _ h;exact bodyJ_kept ih h
end
end Go.J
/- A loop's law with a number of rounds that the invariant bears. -/
namespace Go.J
theorem least{p:Nat→Prop}(h:∃ n,p n):∃ n,p n∧∀ m,p m→n≤m:=by
 obtain⟨n,hn⟩:=h
 induction n using Nat.strongRecOn with
 | _ n ih =>
   grind
theorem wpIn_loopN{F:Fence}{n:Nat}{P:Program}{Q:Exit→Act→World→Prop}{a:Act}{w:World}{c:Code}(I:Nat→Act→World→Prop)
 (round:∀ j a w,I j a w→c.wpIn F n P (Exit.then (fun a' w'=>∃ i,i<j∧I i a' w') Q) a w) {j:Nat} (h0:I j a w):(Code.loop c).wpIn F n P Q a w:=by
 classical
 let size:Act→World→Nat:=fun a w=>if h:∃ j,I j a w then Classical.choose (least h)else 0
 have hsz:∀ a w (h:∃ j,I j a w),I (size a w) a w∧∀ m,I m a w→size a w≤m:=by
  intro a w h
  grind
 refine wpIn_loop (fun a w=>∃ j,I j a w) size ⟨j,h0⟩ ?_
 intro a w h
 refine wpIn_mono (round _ a w (hsz a w h).1) ?_
 grind
end Go.J
/- What is kept between operations. -/
namespace Go.J
section
variable {ρ:Nat→Value}{P:Program}{w w':World}{F F':Nat→Prop}{μ μ':Nat→Nat→Option MI}{hs hs':HS}{T:PT V}
def Dom(X:Nat→Prop)(μ:Nat→Nat→Option MI)(hs:HS):Prop:=(∀ id g,μ id g≠none→hs.H.get id≠none∨X id)∧∀ id,hs.n≤id→¬ X id
theorem Fr.dom{X:Nat→Prop}(h:Fr w F μ hs w' F' μ' hs')(hn:hs.n≤hs'.n)(hd:Dom X μ hs):Dom X μ' hs':=by
 refine⟨fun id g hg=>?_,fun id hi=>hd.2 id (Nat.le_trans hn hi)⟩
 by_cases hne:hs'.H.get id=none
 · rw[h.sm id hne g]at hg
   rcases hd.1 id g hg with h1|h1
   · exact absurd hne (h.hm id h1)
   grind
 grind
theorem Dom.free{X:Nat→Prop}(hd:Dom X μ hs){id:Nat}(hx:¬ X id)(h:hs.H.get id=none):Free μ hs id :=
 ⟨h,fun g=>Classical.byContradiction fun hne=>(hd.1 id g hne).elim (fun h1=>h1 h) hx⟩
def Off(X:Nat→Prop)(hs:HS):Prop:=∀ id,X id→hs.H.get id=none
theorem Kept.off{X:Nat→Prop}(h:Kept hs hs')(ho:Off X hs'):Off X hs:=fun id hx=>Classical.byContradiction fun hne=>h.hm id hne (ho id hx)
theorem Off.no(hs:HS):Off (fun _=>False) hs:=fun _ h=>h.elim
theorem Dom.empty:Dom (fun _=>False) (fun _ _=>none) emptyHS:=⟨fun _ _ h=>absurd rfl h,fun _ _ h=>h⟩
theorem Dom.atN{X:Nat→Prop}(hd:Dom X μ hs){n:Nat}(hn:hs.n≤n)(log:List Nat):Dom X μ { H:=hs.H,n:=n,log:=log } :=
 ⟨hd.1,fun id hi=>hd.2 id (Nat.le_trans hn hi)⟩
theorem R.empty(h:∀ b,F b→b<w.heap.size)(hg:Gl ρ w F):R ρ w F (fun _ _=>none) P emptyHS where
 lt _ _ _ h:=by cases h
 flt:=h
 obj _ _ h:=by cases h
 inj _ _ _ _ _ _ h:=by cases h
 gens _ _ h:=by cases h
 gl:=hg
theorem owned_empty(b:Nat)(μ:Nat→Nat→Option MI):¬ Owned emptyHS μ b:=by
 rintro ⟨id,o,m,h,_⟩;cases h
theorem R.atN(h:R ρ w F μ P hs)(n:Nat)(log:List Nat):R ρ w F μ P { H:=hs.H,n:=n,log:=log }:=⟨h.lt,h.flt,h.obj,h.inj,h.gens,h.gl⟩
theorem Fr.atN(w:World)(F:Nat→Prop)(μ:Nat→Nat→Option MI)(hs:HS)(n:Nat)(log:List Nat):Fr w F μ hs w F μ { H:=hs.H,n:=n,log:=log } :=
 ⟨⟨rfl,rfl,rfl⟩,Nat.le_refl _,fun _ _ _=>rfl,fun _ h=>h,fun _ h=>.inl h,fun _ _ _ h=>h,fun _ h=>.inl h,fun _ h=>h,fun _ _ _=>rfl,fun _ _ h=>h,fun i g m h=>.inr ⟨i,g,m,h,rfl⟩⟩
end
end Go.J
/- Calls: in the caller's heap,by themselves,and for results that lie in no memory. -/
namespace Go.J
section
variable {ρ:Nat→Value}{P:Program}{w w':World}{F F':Nat→Prop}{μ μ':Nat→Nat→Option MI}{hs hs':HS}{T:PT V}
def Back(ρ:Nat→Value)(P:Program)(w:World)(F:Nat→Prop)(μ:Nat→Nat→Option MI)(hs:HS)(v:V)(hs':HS):Ending→World→Prop
 |.returned x,w'=>∃ F' μ',R ρ w' F' μ' P hs'∧Rep ρ w' F' μ' v x∧Fr w F μ hs w' F' μ' hs'
 |_,_=>False
def Args(ρ:Nat→Value)(w:World)(F:Nat→Prop)(μ:Nat→Nat→Option MI)(vs:List V)(xs:Array Value):Prop :=
 xs.size=vs.length∧∀ (i:Nat) (v:V),vs[i]?=some v→∃ x,xs[i]?=some x∧Rep ρ w F μ v x
def CallOk(ρ:Nat→Value)(P:Program)(f:FuncId)(vs:List V)(hs:HS)(v:V)(hs':HS):Prop :=
 ∀ X w F μ xs,R ρ w F μ P hs→Dom X μ hs→Off X hs'→Args ρ w F μ vs xs→CallsIn Fence.wide 0 P f xs w (Back ρ P w F μ hs v hs')
theorem allPure_ok:∀ {vs:List V},allPure vs=true→∀ v∈vs,v.pure=true:=by
 intro vs
 induction vs with
 |nil=>intro _ v hv;simp at hv
 | cons u vs ih =>
   intro h v hv
   replace h:et u.pure (allPure vs)=true:=h
   rw[et_true]at h
   rcases List.mem_cons.1 hv with rfl|hv
   · exact h.1
   · exact ih h.2 v hv
theorem alone(hR:R ρ w F μ P hs)(hio:Io w w')(hsz:w.heap.size≤w'.heap.size)(hk:∀ b,b<w.heap.size→w'.heap[b]?=w.heap[b]?) :
 R ρ w' (fun b=>F b∨(w.heap.size≤b∧b<w'.heap.size)) μ P hs∧Fr w F μ hs w' (fun b=>F b∨(w.heap.size≤b∧b<w'.heap.size)) μ hs:=by
 have h:=hR.grow hsz hk
 have hold:∀ id g m,μ id g=some m→¬ (w.heap.size≤m.b∧m.b<w'.heap.size):=fun id g m hm hb=>by have:=hR.lt _ _ _ hm;omega
 refine⟨⟨h.lt,?_,?_,h.inj,h.gens,h.gl.keep (fun _ h=>.inl h) fun _ _=>rfl⟩,⟨hio,hsz,fun b hb _=>hk b hb,fun b hb=>.inl hb,?_,fun _ _ _ h=>h,fun b hb=>.inl hb,fun _ h=>h,fun _ _ _=>rfl,fun _ _ h=>h,fun i g m h=>.inr ⟨i,g,m,h,rfl⟩⟩⟩
 · rintro b (hb|hb)
   · exact h.flt b hb
   · exact hb.2
 · intro id o ho
   refine(h.obj id o ho).mono (fun _ h=>.inl h) (fun _ _=>rfl) (fun _ _ _ h=>h) (fun _ h=>h) (fun _ _=>rfl) ?_
   rintro m hm _ hn (hF|hb)
   · exact hn hF
   · exact hold _ _ _ hm hb
 · rintro b (hb|hb)
   · exact .inl hb
   · exact .inr (.inl hb.1)
theorem callPure_ok{ev:Ev}{f:FuncId}{vs:List V}{v:V}(hp:allPure vs=true)(hc:∀ {v hs'},ev.call f vs emptyHS=some (v,hs')→CallOk ρ P f vs emptyHS v hs')
 (h:callPure ev f vs hs=some (v,hs')):CallOk ρ P f vs hs v hs':=by
 simp only[callPure,ob_eq]at h
 obtain⟨⟨v1,hs1⟩,h1,v',h2,h⟩:=h
 cases h
 intro X w F μ xs hR hD hO hA
 have hA':Args ρ w F (fun _ _=>none) vs xs:=⟨hA.1,fun i u hi=>by
  obtain⟨x,hx,hr⟩:=hA.2 i u hi
  exact⟨x,hx,.pure (hr.of_pure ρ (allPure_ok hp u (List.mem_of_getElem? hi)))⟩⟩
 refine(hc h1 _ w F (fun _ _=>none) xs (R.empty hR.flt hR.gl) Dom.empty (Off.no _) hA').mono fun e w' he=>?_
 cases e with
 | returned x =>
   obtain⟨F1,μ1,g1,g2,g3⟩:=he
   have hkeep:∀ b,b<w.heap.size→w'.heap[b]?=w.heap[b]?:=fun b hb=>g3.keep b hb (owned_empty b _)
   obtain⟨a1,a2⟩:=alone hR g3.io g3.size hkeep
   refine⟨_,μ,a1,.pure (still_all g1 g2 h2 ?_ ?_),a2⟩
   · intro b hb
     have hlt:=g1.flt b hb
     rcases g3.fnew b hb with h|h|h
     · exact .inl h
     · exact .inr ⟨h,hlt⟩
     · exact absurd h (owned_empty b _)
   · intro id g m hm
     rcases g3.mn id g m hm with h|⟨i,j,m0,h,_⟩
     · exact .inr ⟨h,g1.lt _ _ _ hm⟩
     · cases h
 |panicked c=>exact he
 |outgrown=>exact he
theorem scal1_any{v:V}{x:Value}(h:Rep ρ w F μ v x)(hs:v.scal1=true){w2:World}{F2:Nat→Prop}:PRep ρ w2 F2 v x:=by
 cases h with
 |pure h=>cases h<;>first|(cases hs;done)|constructor
 |_=>cases hs
theorem allS_ok:∀ {vs:List V},allS vs=true→∀ v∈vs,v.scal1=true:=by
 intro vs
 induction vs with
 |nil=>intro _ v hv;simp at hv
 | cons u vs ih =>
   intro h v hv
   replace h:et u.scal1 (allS vs)=true:=h
   rw[et_true]at h
   grind
theorem scal_any{v:V}{x:Value}(h:Rep ρ w F μ v x)(hs:v.scal=true){w2:World}{F2:Nat→Prop}:PRep ρ w2 F2 v x:=by
 unfold V.scal at hs
 split at hs
 · obtain⟨ys,rfl,h1,h2⟩:=h.agg_inv
   exact .agg _ ys h1 fun i v hi=>scal1_any (h2 i v hi) (allS_ok hs v (List.mem_of_getElem? hi))
 · obtain⟨ys,rfl,h1,h2⟩:=h.tuple_inv
   exact .tuple _ ys h1 fun i v hi=>scal1_any (h2 i v hi) (allS_ok hs v (List.mem_of_getElem? hi))
 · exact scal1_any h hs
theorem callScal_ok{ev:Ev}{f:FuncId}{vs vs':List V}{v:V}(hp:stillA hs vs=some vs')(hc:∀ {v hs'},ev.call f vs' emptyHS=some (v,hs')→CallOk ρ P f vs' emptyHS v hs')
 (h:callScal ev f vs' hs=some (v,hs')):CallOk ρ P f vs hs v hs':=by
 simp only[callScal,ob_eq,gd_eq]at h
 obtain⟨⟨v1,hs1⟩,h1,h2,h⟩:=h
 cases h
 intro X w F μ xs hR hD hO hA
 obtain⟨hlen,hall⟩:=stillA_ok hR (F':=fun b=>b<w.heap.size) hR.flt hp (fun _ _ _ _ id g off len cap _ m hm=>hR.lt id g m hm)
 have hA':Args ρ w (fun b=>b<w.heap.size) (fun _ _=>none) vs' xs:=⟨hA.1.trans hlen.symm,fun i u hi=>by
  obtain⟨u0,hu0,hr⟩:=hall i u hi
  obtain⟨x,hx,hr0⟩:=hA.2 i u0 hu0
  exact⟨x,hx,.pure (hr x hr0)⟩⟩
 refine(hc h1 _ w _ (fun _ _=>none) xs (R.empty (fun _ h=>h) (hR.gl.keep hR.flt fun _ _=>rfl)) Dom.empty (Off.no _) hA').mono fun e w' he=>?_
 cases e with
 | returned x =>
   obtain⟨F1,μ1,g1,g2,g3⟩:=he
   have hkeep:∀ b,b<w.heap.size→w'.heap[b]?=w.heap[b]?:=fun b hb=>g3.keep b hb (owned_empty b _)
   obtain⟨a1,a2⟩:=alone hR g3.io g3.size hkeep
   exact⟨_,μ,a1,.pure (scal_any g2 h2),a2⟩
 |panicked c=>exact he
 |outgrown=>exact he
theorem purifyA_cons(v:V)(l:List V)(hs:HS):purifyA (v::l) hs=ob (purify v hs) fun r=>ob (purifyA l r.2) fun q=>some (r.1::q.1,q.2):=rfl
theorem purifyA_ok{ρ:Nat→Value}{P:Program}{w:World}{μ:Nat→Nat→Option MI}:∀ {l l':List V} {xs:List Value} {hs hs':HS} {F:Nat→Prop},purifyA l hs=some (l',hs')→R ρ w F μ P hs →
 (∀ (i:Nat) (v:V),l[i]?=some v→∃ x,xs[i]?=some x∧Rep ρ w F μ v x) →
 ∃ F',R ρ w F' μ P hs'∧Fr w F μ hs w F' μ hs'∧Kept hs hs'∧l'.length=l.length∧∀ (i:Nat) (v:V),l'[i]?=some v→∃ x,xs[i]?=some x∧PRep ρ w F' v x:=by
 intro l
 induction l with
 | nil =>
   intro l' xs hs hs' F h hR _
   cases h
   grind [Fr.refl,Kept.refl]
 | cons v l ih =>
   intro l' xs hs hs' F h hR hxs
   rw[purifyA_cons]at h
   simp only[ob_eq]at h
   obtain⟨⟨u,hs1⟩,hu,⟨m,hs2⟩,hm,h⟩:=h
   cases h
   obtain⟨x0,hx0,hr0⟩:=hxs 0 v rfl
   obtain⟨F1,h1,h2,_,h4⟩:=purify_ok hR hr0 hu
   obtain⟨F2,k1,k2,k3,k4,k5⟩:=ih (xs:=xs.drop 1) hm h1 (fun i y hi=>by
    obtain⟨x,hx,hr⟩:=hxs (i+1) y (by simpa using hi)
    exact⟨x,by simpa [Nat.add_comm]using hx,h2.rep hR hr⟩)
   refine⟨F2,k1,h2.trans k2,(purify_kept hu).trans k3,by simp[k4],fun i y hi=>?_⟩
   cases i with
   |zero=>cases hi;exact⟨x0,hx0,k2.prep h1 h4⟩
   | succ i =>
     grind
theorem purR_ok{r:V×HS}{x:Value}{p:V×HS}(hR:R ρ w F μ P r.2)(hx:Rep ρ w F μ r.1 x)(h:purR r=some p) :
 ∃ F',R ρ w F' μ P p.2∧Fr w F μ r.2 w F' μ p.2∧Rep ρ w F' μ p.1 x:=by
 unfold purR at h
 split at h
 · rename_i vs hv
   rw[hv]at hx
   simp only[ob_eq]at h
   obtain⟨q,hq,h⟩:=h
   cases h
   obtain⟨ys,rfl,h1,h2⟩:=hx.tuple_inv
   obtain⟨F',a1,a2,_,a4,a5⟩:=purifyA_ok (xs:=ys.toList) (l':=q.1) (hs':=q.2) hq hR (fun i v hi=>by
    have hlt:i<ys.size:=by rw[h1];exact(List.getElem?_eq_some_iff.1 hi).1
    refine⟨ys[i],by simp[hlt],?_⟩
    have:=h2 i v hi
    rwa [Array.getD_eq_getD_getElem?,Array.getElem?_eq_getElem hlt]at this)
   refine⟨F',a1,a2,.tuple _ ys (by rw[h1,a4]) fun i v hi=>?_⟩
   obtain⟨y,hy,hr⟩:=a5 i v hi
   have hy':ys[i]?=some y:=by simpa using hy
   rw[Array.getD_eq_getD_getElem?,hy']
   exact .pure hr
 · obtain⟨F',a1,a2,_,a4⟩:=purify_ok (v':=p.1) (hs':=p.2) hR hx h
   exact⟨F',a1,a2,.pure a4⟩
theorem callBy_ok {E:Env} {ev:Ev} {f:FuncId} {vs:List V} {v:V} (hc:∀ {vs hs v hs'},ev.call f vs hs=some (v,hs')→CallOk ρ P f vs hs v hs')
 (h:callBy E ev f vs hs=some (v,hs')):CallOk ρ P f vs hs v hs':=by
 unfold callBy at h
 cases hp:E.pol f with
 | zero =>
   rw[hp]at h
   replace h:bi (allPure vs) (callPure ev f vs hs) (ev.call f vs hs)=some (v,hs'):=h
   grind [bi_eq,callPure_ok]
 | succ m =>
   rw[hp]at h
   cases m with
   |zero=>exact hc h
   | succ m =>
     cases m with
     | zero =>
       replace h:orc (ev.call f vs hs) (fun args'=>callScal ev f args' hs) (stillA hs vs)=some (v,hs'):=h
       cases hs1:stillA hs vs with
       |none=>rw[hs1]at h;exact hc h
       |some args'=>rw[hs1]at h;exact callScal_ok hs1 hc h
     | succ m =>
       replace h:callPur ev f vs hs=some (v,hs'):=h
       simp only[callPur,ob_eq]at h
       obtain⟨⟨v1,hs1⟩,hq,h⟩:=h
       cases hp:purR (v1,hs1)with
       |none=>rw[hp]at h;cases h;exact hc hq
       | some p =>
         rw[hp]at h;cases h
         intro X w F μ xs hR hD hO hA
         refine(hc hq X w F μ xs hR hD ((purR_kept hp).off hO) hA).mono fun e w' he=>?_
         cases e with
         | returned x =>
           obtain⟨F1,μ1,g1,g2,g3⟩:=he
           obtain⟨F2,k1,k2,k3⟩:=purR_ok g1 g2 hp
           exact⟨F2,μ1,k1,k3,g3.trans k2⟩
         |panicked c=>exact he
         |outgrown=>exact he
def ConOk(ρ:Nat→Value)(E:Env):Prop:=∀ {f vs hs v hs'},E.con f vs hs=some (v,hs')→CallOk ρ E.P f vs hs v hs'
theorem callJ_ok{E:Env}{ev:Ev}(hcon:ConOk ρ E){f:FuncId}{vs:List V}{v:V}(hc:∀ {vs hs v hs'},ev.call f vs hs=some (v,hs')→CallOk ρ E.P f vs hs v hs')
 (h:callJ E ev f vs hs=some (v,hs')):CallOk ρ E.P f vs hs v hs':=by
 unfold callJ at h
 cases hq:E.con f vs hs with
 |none=>rw[hq]at h;exact callBy_ok hc h
 |some q=>rw[hq]at h;cases h;exact hcon hq
end
end Go.J
/- What is shown of the evaluator of code and calls;and words for it. -/
namespace Go.J
def Wr(r:Option Nat):Fence:={ Fence.wide with round:=r }
theorem callsIn_wr{r:Option Nat}{P:Program}{f:FuncId}{xs:Array Value}{w:World}{Q:Ending→World→Prop}(h:CallsIn Fence.wide 0 P f xs w Q):CallsIn (Wr r) 0 P f xs w Q:=h
structure NB where
 n:Nat
 base:List Deferred
 plain:Bool:=false
def Marks(N:NB)(w:World)(ds:List Deferred):Prop :=
 N.n≤w.heap.size∧∃ rs:List Nat,(rs.Nodup∧(N.plain=true→rs=[]))∧ds=rs.map (fun r=>{ target:=.collected r,args:=#[] })++N.base∧∀ r∈rs,N.n≤r∧w.heap[r]?=some (.deferred (some []))
def exOf:Ex→Exit
 |.normal=>.normal
 |.ret=>.ret
 |.exit id=>.exit id
theorem Marks.nil{N:Nat}{p:Bool}{w:World}(h:N≤w.heap.size):Marks ⟨N,[],p⟩ w []:=⟨h,[],⟨List.nodup_nil,fun _=>rfl⟩,rfl,fun _ h=>by cases h⟩
section
variable {ρ:Nat→Value}{P:Program}{w w':World}{F F':Nat→Prop}{μ μ':Nat→Nat→Option MI}{hs hs':HS}{T:PT V}{a:Act}{Q:Exit→Act→World→Prop}{K:Act→World→Prop}{X:Nat→Prop}
theorem R.deferred(hR:R ρ w F μ P hs){r:Nat}{ds:Option (List Deferred)}(h:w.heap[r]?=some (.deferred ds)):¬ Owned hs μ r:=by
 rintro ⟨id,o,m,ho,_,hm,rfl⟩
 have:=hR.obj id o ho
 cases o with
 | arr size gen es ex fz row =>
   obtain⟨_,_,⟨_,_,h1,_⟩,_⟩:=this m hm
   grind
 | mp es =>
   obtain⟨⟨_,_,h1,_⟩,_⟩:=this m hm
   grind
 | lp a b c d e f =>
   obtain⟨⟨_,h1,_⟩,_⟩:=this m hm
   grind
theorem Marks.keep{N:NB}{ds:List Deferred}(h:Marks N w ds)(hR:R ρ w F μ P hs)(hf:Fr w F μ hs w' F' μ' hs'):Marks N w' ds:=by
 obtain⟨hN,rs,h1,h2,h3⟩:=h
 refine⟨Nat.le_trans hN hf.size,rs,h1,h2,fun r hr=>⟨(h3 r hr).1,?_⟩⟩
 have h4:=(h3 r hr).2
 have hlt:r<w.heap.size:=by
  grind
 rw[hf.keep r hlt (hR.deferred h4)];exact h4
def CodeOk (ρ:Nat→Value) (P:Program) (rd:Bool) (sz:Nat) (c:Code) (T:PT V) (hs:HS) (ex:Ex) (T':PT V) (hs':HS):Prop :=
 ∀ (N:NB) (X:Nat→Prop) (r:Option Nat) (w:World) (F:Nat→Prop) (μ:Nat→Nat→Option MI) (a:Act) (Q:Exit→Act→World→Prop),((rd=false→r=none)∧N.plain=false)→R ρ w F μ P hs→Dom X μ hs→Off X hs'→TRel ρ w F μ T a.tmps→sz≤a.tmps.size→Marks N w a.defers →
   (∀ a' w' F' μ',R ρ w' F' μ' P hs'→TRel ρ w' F' μ' T' a'.tmps→a'.tmps.size=a.tmps.size→Marks N w' a'.defers→Fr w F μ hs w' F' μ' hs'→Q (exOf ex) a' w')→c.wpIn (Wr r) 0 P Q a w
def FnOk (P : Program) (f : FuncId) : Prop := ∃ fn, P.funcs[f]? = some fn ∧ fn.body.isSome = true ∧ fn.name ≠ "runtime.NumGoroutine"
structure EvOk(ρ:Nat→Value)(E:Env)(ev:Ev):Prop where
 code:∀ {rd sz c T hs ex T' hs'},ev.code rd sz c T hs=some (ex,T',hs')→CodeOk ρ E.P rd sz c T hs ex T' hs'
 call:∀ {f vs hs v hs'},ev.call f vs hs=some (v,hs')→CallOk ρ E.P f vs hs v hs'
 body:∀ {f vs hs r},ev.call f vs hs=some r→FnOk E.P f
 kept:EvKept ev
structure ConsOk(ρ:Nat→Value)(E:Env):Prop where
 ok:ConOk ρ E
 kept:ConKept E
 body:∀ {f vs hs r},E.con f vs hs=some r→FnOk E.P f
theorem callJ_body {E:Env} {ev:Ev} (hcon:ConsOk ρ E) (hev:EvOk ρ E ev) {f:FuncId} {vs:List V} {r:V×HS} (h:callJ E ev f vs hs=some r):FnOk E.P f:=by
 unfold callJ at h
 cases hq:E.con f vs hs with
 |some q=>exact hcon.body hq
 | none =>
   rw[hq]at h
   replace h:callBy E ev f vs hs=some r:=h
   unfold callBy at h
   cases hp:E.pol f with
   | zero =>
     rw[hp]at h
     replace h:bi (allPure vs) (callPure ev f vs hs) (ev.call f vs hs)=some r:=h
     rw[bi_eq]at h
     split at h
     · simp only[callPure,ob_eq]at h
       obtain⟨_,h,_⟩:=h;exact hev.body h
     · exact hev.body h
   | succ m =>
     rw[hp]at h
     cases m with
     |zero=>exact hev.body (r:=r) h
     | succ m =>
      cases m with
      |succ m =>
       replace h:callPur ev f vs hs=some r:=h
       simp only[callPur,ob_eq]at h
       obtain⟨_,h,_⟩:=h;exact hev.body h
      |zero =>
       replace h:orc (ev.call f vs hs) (fun args'=>callScal ev f args' hs) (stillA hs vs)=some r:=h
       cases hs1:stillA hs vs with
       |none=>rw[hs1]at h;exact hev.body (r:=r) h
       | some args' =>
         rw[hs1]at h
         replace h:callScal ev f args' hs=some r:=h
         simp only[callScal,ob_eq]at h
         obtain⟨_,h,_⟩:=h;exact hev.body h
theorem Fr.trelT(hf:Fr w F μ hs w' F' μ' hs')(hR:R ρ w F μ P hs){T:PT V}{xs:Array Value}(h:TRel ρ w F μ T xs):TRel ρ w' F' μ' T xs:=by
 intro t v hv
 obtain⟨x,hx,hr⟩:=h t v hv
 exact⟨x,hx,hf.rep hR hr⟩
theorem put_trel{sz:Nat}{d:Option Tmp}{v:V}{x:Value}{T':PT V}(hT:TRel ρ w F μ T a.tmps)(hsz:sz≤a.tmps.size)(hx:Rep ρ w F μ v x)(h:putJ sz T d v=some T') :
 TRel ρ w F μ T' (a.put d x).tmps∧(a.put d x).tmps.size=a.tmps.size∧(a.put d x).defers=a.defers:=by
 unfold putJ at h
 cases d with
 |none=>rw[orc_none]at h;cases h;exact⟨hT,rfl,rfl⟩
 | some d =>
   rw[orc_some]at h
   simp only[gd_eq,blt_true]at h
   obtain⟨hlt,h⟩:=h
   cases h
   refine⟨fun t u hu=>?_,by simp[Act.put],rfl⟩
   rw[PT.set_get]at hu
   by_cases e:t=d
   · subst e
     rw[if_pos rfl]at hu;cases hu
     exact⟨x,by simp[Act.put,Nat.lt_of_lt_of_le hlt hsz],hx⟩
   · rw[if_neg e]at hu
     obtain⟨y,hy,hr⟩:=hT t u hu
     exact⟨y,by simpa [Act.put,Array.getElem?_setIfInBounds,Ne.symm e]using hy,hr⟩
theorem wantJ_ok{ops:Array Oper}{o:Oper}{q:Bool}(hT:TRel ρ w F μ T a.tmps)(h:wantJ ops.toList T o=some q):Region.wanted o (yielded ops a.tmps)=q:=by
 unfold wantJ at h
 unfold Region.wanted
 cases hg:o.guard with
 |none=>rw[hg]at h;cases h;rfl
 | some g =>
   rw[hg,orc_some]at h
   obtain⟨j,want⟩:=g
   simp only[ob_eq,nthL_eq]at h
   obtain⟨p,hp,d,hd,v,hv,h⟩:=h
   obtain⟨x,hx,hr⟩:=hT d v hv
   have hp':ops[j]?=some p:=by simpa using hp
   split at h
   · have e:=hr.bool_inv
     subst e
     cases h
     simp[yielded,hp',hd,hx,boolEq_eq]
     try (cases want<;>rename_i b<;>cases b<;>rfl)
   · obtain⟨ys,rfl,_,_⟩:=hr.tuple_inv
     cases h
     simp[yielded,hp',hd,hx]
   · cases h
end
end Go.J
/- One operation in the calculus of the walk. -/
namespace Go.J
def Post(ρ:Nat→Value)(P:Program)(w:World)(F:Nat→Prop)(μ:Nat→Nat→Option MI)(hs:HS)(v:V)(hs':HS)(K:Value→World→Prop):Prop :=
 ∀ x w' F' μ',R ρ w' F' μ' P hs'→Rep ρ w' F' μ' v x→Fr w F μ hs w' F' μ' hs'→K x w'
section
variable {ρ:Nat→Value}{P:Program}{w w':World}{F:Nat→Prop}{μ:Nat→Nat→Option MI}{hs hs':HS}{T:PT V}{a:Act}{Q:Exit→Act→World→Prop}{K:Act→World→Prop}{X:Nat→Prop}
theorem run_callFunc{f:FuncId}(h:FnOk P f)(xs:Array Value)(w:World):(callFunc f xs).run P w=.ok (.enter f xs) w:=by
 obtain⟨fn,hf,hb,hn⟩:=h
 have hb':fn.body≠none:=by cases h:fn.body<;>simp_all
 have hp:(Sem.program Sem.pure).run P w=.ok P w:=rfl
 simp[callFunc,program,hp,hf,hn,hb']
theorem oper_next{r:Option Nat}{o:Oper}{v:V}(hd:∀ c,o.op≠.defer c)(h:NextB ρ P w F μ hs (execOp a.eval o) v hs')
 (hK:Post ρ P w F μ hs v hs' fun x w'=>K (a.put o.dst x) w'):o.wpIn (Wr r) 0 P a w K Q:=by
 refine⟨fun _ _=>trivial,?_⟩
 obtain⟨n,x,w',F',μ',h1,h2,h3,h4,h5⟩:=h
 rw[Oper.semAt_eq _ _ _ hd,h1]
 rcases h2 with rfl|⟨rfl,rfl⟩
 · exact hK x w' F' μ' h3 h4 h5
 · exact hK _ w' F' μ' h3 h4 h5
theorem oper_call{r:Option Nat}{o:Oper}{v:V}{f:FuncId}{vs:List V}{xs:Array Value}(hd:∀ c,o.op≠.defer c)(he:(execOp a.eval o).run P w=.ok (.enter f xs) w)(hR:R ρ w F μ P hs)(hD:Dom X μ hs)(hO:Off X hs')
 (hA:Args ρ w F μ vs xs) (hc:CallOk ρ P f vs hs v hs') (hK:Post ρ P w F μ hs v hs' fun x w'=>K (a.put o.dst x) w'):o.wpIn (Wr r) 0 P a w K Q:=by
 refine⟨fun _ _=>trivial,?_⟩
 rw[Oper.semAt_eq _ _ _ hd,he,Oper.uponIn_enter]
 refine And.intro (fun h=>(by cases h)) (callsIn_wr ((hc X w F μ xs hR hD hO hA).mono fun e w' he=>?_))
 cases e with
 | returned x =>
   obtain⟨F',μ',h1,h2,h3⟩:=he
   exact hK x w' F' μ' h1 h2 h3
 |panicked c=>exact he.elim
 |outgrown=>exact he.elim
theorem zipPut_ok {sz:Nat}:∀ {ps:List Nat} {vs:List V} {T T':PT V} {tm:Array Value} {xs:List Value},zipPut sz ps vs T=some T'→xs.length=vs.length →
 (∀ (i:Nat) (v:V),vs[i]?=some v→∃ x,xs[i]?=some x∧Rep ρ w F μ v x)→TRel ρ w F μ T tm→sz≤tm.size →
 ps.length=vs.length∧TRel ρ w F μ T' ((ps.zip xs).foldl (fun tm p=>tm.setIfInBounds p.1 p.2) tm)∧((ps.zip xs).foldl (fun tm p=>tm.setIfInBounds p.1 p.2) tm).size=tm.size:=by
 intro ps
 induction ps with
 | nil =>
   intro vs T T' tm xs h hl hx hT hsz
   cases vs with
   |nil=>cases h;exact⟨rfl,hT,rfl⟩
   |cons _ _=>cases h
 | cons p ps ih =>
   intro vs T T' tm xs h hl hx hT hsz
   cases vs with
   |nil=>cases h
   | cons v vs =>
     replace h:gd (Nat.blt p sz) (zipPut sz ps vs (T.set p v))=some T':=h
     simp only[gd_eq,blt_true]at h
     cases xs with
     |nil=>simp at hl
     | cons x xs =>
       obtain⟨x',hx',hr⟩:=hx 0 v rfl
       cases hx'
       have hT1:TRel ρ w F μ (T.set p v) (tm.setIfInBounds p x):=by
        intro t u hu
        rw[PT.set_get]at hu
        by_cases e:t=p
        · grind
        · rw[if_neg e]at hu
          obtain⟨y,hy,hr⟩:=hT t u hu
          grind
       obtain⟨h1,h2,h3⟩:=ih (tm:=tm.setIfInBounds p x) (xs:=xs) h.2 (by simpa using hl) (fun i u hi=>hx (i+1) u hi) hT1 (by simpa using hsz)
       simp_all
theorem run_getLoop{l:Nat}{r:Loop}(h:w.heap[l]?=some (.loop r)):(Instr.getLoop l).run P w=.ok r w:=by
 simp[Instr.getLoop,run_getObj h (fun _ _ _ h=>by cases h)]
theorem run_beginRound{l:Nat}{r:Loop}(h:w.heap[l]?=some (.loop r))(hs:r.state=.ready) :
 (Instr.beginRound l).run P w=.ok () { w with heap:=w.heap.setIfInBounds l (.loop { r with state:=.busy }) }:=by
 simp[Instr.beginRound,run_getLoop h,run_setObj h (fun _ _ _ h=>by cases h),hs]
theorem run_endRound{l:Nat}{r:Loop}(jump:Option Code)(h:w.heap[l]?=some (.loop r)) :
 (Instr.endRound l jump).run P w=.ok (.bool jump.isNone) { w with heap:=w.heap.setIfInBounds l (.loop { r with state:=if jump.isNone then .ready else .done,pending:=jump }) }:=by
 simp[Instr.endRound,run_getLoop h,run_setObj h (fun _ _ _ h=>by cases h)]
theorem run_yield{l:Nat}{r:Loop}{xs:Array Value}(h:w.heap[l]?=some (.loop r))(hn:xs.size=r.params.size) :
 (Instr.yield l xs).run P w=.ok (.round l r.fn ((r.params.zip xs).foldl (fun tmps (t,a)=>tmps.setIfInBounds t a) r.tmps) r.assign r.body) w:=by
 simp[Instr.yield,run_getLoop h,hn]
theorem loop_write(hR:R ρ w F μ P hs){id:Nat}{m:MI}(hm:μ id 0=some m){fn:Nat}{T:PT V}{ps:List Nat}{as bd:Code}{b b':Nat}(hg:hs.H.get id=some (.lp fn T ps as bd b)){l:Loop}
 (hl:w.heap[m.b]?=some (.loop l)) {st:LoopState} {pd:Option Code} (hst:LSt b' { l with state:=st,pending:=pd }) :
 R ρ { w with heap:=w.heap.setIfInBounds m.b (.loop { l with state:=st,pending:=pd }) } F μ P (hs.wr id (.lp fn T ps as bd b')) ∧
 Fr w F μ hs { w with heap:=w.heap.setIfInBounds m.b (.loop { l with state:=st,pending:=pd }) } F μ (hs.wr id (.lp fn T ps as bd b')):=by
 obtain⟨⟨l0,h0,h1,h3,h4,h5,h6,h7⟩,hnF⟩:=hR.obj id _ hg m hm
 rw[hl]at h0;cases h0
 have hlt:m.b<w.heap.size:=hR.lt _ _ _ hm
 have hold:∀ c,c≠m.b→({ w with heap:=w.heap.setIfInBounds m.b (.loop { l with state:=st,pending:=pd }) }:World).heap[c]?=w.heap[c]?:=by
  grind
 refine hR.write (o':=.lp fn T ps as bd b') hg rfl hm rfl rfl (by simp) hold (fun k=>wr_get ..) ?_
 intro m' hm'
 have e:m'=m:=by
  grind
 subst e
 refine⟨⟨{ l with state:=st,pending:=pd },by simp[hlt],hst,h3,h4,h5,fun t v hv=>?_,h7⟩,hnF⟩
 obtain⟨x,hx,hr⟩:=h6 t v hv
 exact⟨x,hx,hr.mono ρ (fun _ h=>h) (fun c hc=>hold c (fun e=>hnF (e ▸ hc))) (fun _ _ _ h=>h)⟩
theorem lp?_eq {o:Obj}{l:FuncId×PT V×List Nat×Code×Code×Nat}:o.lp?=some l↔o=.lp l.1 l.2.1 l.2.2.1 l.2.2.2.1 l.2.2.2.2.1 l.2.2.2.2.2:=by
 cases o with
 | lp a b c d e f =>
   grind [Obj.lp?]
 |_=>simp[Obj.lp?]
theorem isNormal_eq{e:Ex}:isNormal e=true↔e=.normal:=by cases e<;>simp[isNormal]
theorem round_ok{E:Env}{ev:Ev}(hev:EvOk ρ E ev)(hR:R ρ w F μ E.P hs)(hD:Dom X μ hs)(hO:Off X hs'){r:Option Nat}{o:Oper}{id:Nat}{vs:List V}{v:V}{m:MI}{xs:Array Value}(hd:∀ c,o.op≠.defer c)
 (hm:μ id 0=some m) (hA:Args ρ w F μ vs xs) (he:(execOp a.eval o).run E.P w=(Instr.yield m.b xs).run E.P w) (h:roundJ ev id vs hs=some (v,hs'))
 (hK:Post ρ E.P w F μ hs v hs' fun x w'=>K (a.put o.dst x) w'):o.wpIn (Wr r) 0 E.P a w K Q:=by
 simp only[roundJ,ob_eq,gd_eq,beq_true,lp?_eq,isNormal_eq]at h
 obtain⟨_,ho,l,rfl,hb,T1,hT1,⟨ex1,T2,hs1⟩,hq1,hex1,_,ho1,l1,rfl,hb1,⟨ex2,T3,hs2⟩,hq2,_,ho2,l2,rfl,h⟩:=h
 cases h
 dsimp only at *
 subst hex1
 obtain⟨⟨lw,g0,g1,g3,g4,g5,g6,g7⟩,gF⟩:=hR.obj id _ ho m hm
 obtain⟨z1,z2,z3⟩:=zipPut_ok (xs:=xs.toList) (tm:=lw.tmps) hT1 (by simpa using hA.1) (fun i u hi=>by simpa using hA.2 i u hi) g6 g7
 have hfold:(lw.params.zip xs).foldl (fun tmps (t,a)=>tmps.setIfInBounds t a) lw.tmps=(l.2.2.1.zip xs.toList).foldl (fun tm p=>tm.setIfInBounds p.1 p.2) lw.tmps:=by
  rw[← g3,← Array.foldl_toList,Array.toList_zip]
 have hsize:xs.size=lw.params.size:=by
  rw[hA.1,← z1,← g3];simp
 refine⟨fun _ _=>trivial,?_⟩
 rw[Oper.semAt_eq _ _ _ hd,he,run_yield g0 hsize,Oper.uponIn_round]
 refine⟨fun h=>(by cases h),roundIn_of_wpIn trivial ?_⟩
 rw[hfold,g4,g5]
 have hO3:Off X hs2:=(wr_kept ..).off hO
 have hO1:Off X hs1:=((wr_kept ..).trans (hev.kept.code hq2)).off hO3
 have k1:=hev.code hq1
 refine k1 ⟨0,[],false⟩ X (some m.b) w F μ _ _ ⟨fun h=>(by cases h),rfl⟩ hR hD hO1 z2 (by rw[z3];exact g7) (Marks.nil (Nat.zero_le _)) ?_
 intro a1 w1 F1 μ1 hR1 hT1' hsz1 _ hf1
 have hm1:=hf1.mm _ _ _ hm
 obtain⟨⟨lw1,e0,e1,e3,e4,e5,e6,e7⟩,eF⟩:=hR1.obj id _ ho1 m hm1
 rw[hb1]at e1
 have e2:lw1.pending=none:=e1.2
 refine⟨_,run_beginRound e0 e1.1,?_⟩
 have hD1:=hf1.dom (hev.kept.code hq1).le hD
 have eP:({ lw1 with state:=LoopState.busy }:Loop)={ lw1 with state:=.busy,pending:=none }:=by rw[← e2]
 rw[eP]
 obtain⟨hR2,hf2⟩:=loop_write hR1 hm1 (b':=1) ho1 e0 (st:=.busy) (pd:=none) trivial
 have hD2:=hf2.dom (wr_kept ..).le hD1
 have k2:=hev.code hq2
 refine k2 ⟨0,[],false⟩ X (some m.b) _ F1 μ1 a1 _ ⟨fun h=>(by cases h),rfl⟩ hR2 hD2 hO3 (hf2.trelT hR1 hT1') (by rw[hsz1,z3];exact g7) ?_ ?_
 · grind [Marks.keep]
 · intro a2 w3 F3 μ3 hR3 hT3 hsz3 _ hf3
   have hm3:=hf3.mm _ _ _ hm1
   obtain⟨⟨lw3,f0,_⟩,_⟩:=hR3.obj id _ ho2 m hm3
   cases ex2 with
   | normal =>
     refine⟨_,_,run_endRound none f0,?_⟩
     obtain⟨hR4,hf4⟩:=loop_write hR3 hm3 (b':=0) ho2 f0 (st:=.ready) (pd:=none) ⟨rfl,rfl⟩
     exact hK _ _ F3 μ3 hR4 (.pure (.bool true)) (((hf1.trans hf2).trans hf3).trans hf4)
   | ret =>
     refine⟨_,_,run_endRound (some .ret) f0,?_⟩
     obtain⟨hR4,hf4⟩:=loop_write hR3 hm3 (b':=2) ho2 f0 (st:=.done) (pd:=some .ret) ⟨rfl,rfl⟩
     exact hK _ _ F3 μ3 hR4 (.pure (.bool false)) (((hf1.trans hf2).trans hf3).trans hf4)
   | exit i =>
     refine⟨_,_,run_endRound (some (.exit i)) f0,?_⟩
     obtain⟨hR4,hf4⟩:=loop_write hR3 hm3 (b':=i+3) ho2 f0 (st:=.done) (pd:=some (.exit i)) ⟨rfl,rfl⟩
     exact hK _ _ F3 μ3 hR4 (.pure (.bool false)) (((hf1.trans hf2).trans hf3).trans hf4)
theorem callOf_call{o:Op}{c:Call}(h:callOf o=some c):o=.call c:=by
 cases o<;>first|(cases h;rfl)|cases h
theorem step_ok (hρ:Good ρ) {E:Env} {ev:Ev} (hcon:ConsOk ρ E) (hev:EvOk ρ E ev) {r:Option Nat} (hR:R ρ w F μ E.P hs) (hD:Dom X μ hs) (hO:Off X hs') (hT:TRel ρ w F μ T a.tmps) {o:Oper} {dr:Bool} {id:Nat} {v:V}
 (hid:opClass o.op≠0→Free μ hs id) (h:stepJ E ev dr T hs id o=some (v,hs')) (hK:Post ρ E.P w F μ hs v hs' fun x w'=>K (a.put o.dst x) w'):o.wpIn (Wr r) 0 E.P a w K Q:=by
 unfold stepJ at h
 cases hc:callOf o.op with
 | none =>
   rw[hc]at h
   replace h:opJ E.P dr T hs id (opR o.op)=some (v,hs'):=h
   refine oper_next (fun c hd=>?_) (opJ_ok hρ hR hT hc hid h) hK
   rw[hd]at h;cases h
 | some c =>
   have ho:=callOf_call hc
   have hd:∀ c,o.op≠.defer c:=fun c' h'=>by rw[ho]at h';cases h'
   rw[hc]at h
   replace h:stepCall E ev T hs id c=some (v,hs'):=h
   simp only[stepCall,ob_eq]at h
   obtain⟨vs,hvs,h⟩:=h
   split at h
   · rename_i b hb
     obtain⟨cs,he⟩:∃ cs,execOp a.eval o=builtin b c.argTypes o.type cs (c.args.map a.eval) :=
      ⟨c.args.map fun x=>match x with|.const _=>true|_=>false,by simp only[execOp,ho,resolve,hb,invoke];rfl⟩
     refine oper_next hd ?_ hK
     grind [builtin_ok,opClass]
   · rename_i x hx
     simp only[ob_eq]at h
     obtain⟨u,hu,h⟩:=h
     have hr:=evalO_rep hT hu
     have hargs:=args_rep hT hvs
     have hA:Args ρ w F μ vs (c.args.map a.eval):=⟨by simpa using hargs.1,hargs.2⟩
     unfold valueJ at h
     split at h
     · rename_i f caps
       obtain⟨ys,hy,hys,hcap⟩:=hr.func_inv
       have hf:=callJ_body hcon hev h
       have he:(execOp a.eval o).run E.P w=.ok (.enter f (c.args.map a.eval++ys)) w:=by
        simp[execOp,ho,resolve,hx,Deferred.ofValue,hy,invoke,run_callFunc hf]
       refine oper_call hd he hR hD hO ⟨?_,fun i v hi=>?_⟩ (callJ_ok hcon.ok hev.call h) hK
       · grind [appL_eq]
       · rw [appL_eq]at hi
         by_cases hlt:i<vs.length
         · grind
         · rw[List.getElem?_append_right (by omega)]at hi
           have h2:=hcap _ v hi
           have hlt2:i-vs.length<ys.size:=by
            grind
           refine⟨_,?_,h2⟩
           simp_all [Array.getElem?_append_right,Array.getElem?_eq_getElem,Array.getD_eq_getD_getElem?]
     · rename_i l
       obtain⟨m,hm,hy⟩:=hr.yld_inv
       refine round_ok hev hR hD hO hd hm hA ?_ h hK
       simp[execOp,ho,resolve,hx,Deferred.ofValue,hy,invoke]
     · cases h
   · cases h
end
end Go.J
/- Regions in their order: the operations one after another. -/
namespace Go.J
section
variable {ρ:Nat→Value}{w w':World}{F F':Nat→Prop}{μ μ':Nat→Nat→Option MI}{hs hs':HS}{T T':PT V}{a:Act}{Q:Exit→Act→World→Prop}{X:Nat→Prop}{N:NB}
theorem regionJ_ok (hρ:Good ρ) {E:Env} {ev:Ev} (hcon:ConsOk ρ E) (hev:EvOk ρ E ev) {r:Option Nat} {sz:Nat} {ops:Array Oper} {rest:List Nat}:∀ (l:List Oper) {k id:Nat} {T T':PT V} {hs hs':HS} {w:World} {F:Nat→Prop} {μ:Nat→Nat→Option MI} {a:Act},
 (ops.toList.drop k).take l.length=l→regionJ E ev sz ops.toList l id T hs=some (T',hs')→(∀ j,id≤j→¬ X j)→R ρ w F μ E.P hs→Dom X μ hs→Off X hs'→TRel ρ w F μ T a.tmps→sz≤a.tmps.size→Marks N w a.defers →
 (∀ a' w' F' μ',R ρ w' F' μ' E.P hs'→TRel ρ w' F' μ' T' a'.tmps→a'.tmps.size=a.tmps.size→Marks N w' a'.defers→Fr w F μ hs w' F' μ' hs'→wpOpsIn (Wr r) 0 E.P ops Q rest a' w')→wpOpsIn (Wr r) 0 E.P ops Q (List.range' k l.length++rest) a w:=by
 intro l
 induction l with
 | nil =>
   intro k id T T' hs hs' w F μ a hk h hX hR hD hO hT hsz hM hQ
   cases h
   exact hQ a w F μ hR hT rfl hM (Fr.refl ..)
 | cons o l ih =>
   intro k id T T' hs hs' w F μ a hk h hX hR hD hO hT hsz hM hQ
   replace h:(ob (goStep E ev sz ops.toList o id T hs) fun r=>regionJ E ev sz ops.toList l (id+1) r.1 r.2)=some (T',hs'):=h
   simp only[ob_eq]at h
   obtain⟨⟨T1,hs1⟩,hg,h⟩:=h
   have hko:ops[k]?=some o:=by
    have:((ops.toList.drop k).take (o::l).length)[0]?=some o:=by rw[hk];rfl
    grind
   have hk':(ops.toList.drop (k+1)).take l.length=l:=by
    have:((ops.toList.drop k).take (o::l).length).drop 1=l:=by rw[hk];rfl
    grind [List.drop_take,List.drop_drop,Nat.add_comm]
   have hkept:=goStep_kept hcon.kept hev.kept hg
   simp only[goStep,ob_eq]at hg
   obtain⟨q,hq,hg⟩:=hg
   have hwant:=wantJ_ok hT hq
   show wpOpsIn (Wr r) 0 E.P ops Q (k::(List.range' (k+1) l.length++rest)) a w
   simp only[wpOpsIn,hko]
   rw[bi_eq]at hg
   cases q with
   | true =>
     rw[if_pos rfl]at hg
     rw[if_pos hwant]
     simp only[gd_eq,ob_eq]at hg
     obtain⟨hv,⟨v,hs2⟩,hst,T2,hput,hg⟩:=hg
     cases hg
     refine step_ok hρ hcon hev hR hD ((regionJ_kept hcon.kept hev.kept _ h).off hO) hT (fun hne=>?_) hst ?_
     · rw[bi_eq,if_neg (by rw[beq_true];exact hne)]at hv
       exact hD.free (hX id (Nat.le_refl _)) (vacant_eq.1 hv)
     · intro x w1 F1 μ1 hR1 hx hf
       obtain⟨p1,p2,p3⟩:=put_trel (hf.trelT hR hT) hsz hx hput
       refine ih hk' h (fun j hj=>hX j (by omega)) hR1 (hf.dom hkept.le hD) hO p1 (by rw[p2];exact hsz) (by rw[p3];exact hM.keep hR hf) ?_
       intro a' w2 F2 μ2 g1 g2 g3 g4 g5
       exact hQ a' w2 F2 μ2 g1 g2 (by rw[g3,p2]) g4 (hf.trans g5)
   | false =>
     rw[if_neg (by simp)]at hg
     rw[if_neg (by rw[hwant];simp)]
     simp only[ob_eq]at hg
     obtain⟨T2,hput,hg⟩:=hg
     cases hg
     refine⟨fun _ _=>trivial,?_⟩
     obtain⟨p1,p2,p3⟩:=put_trel (v:=undefV) (x:=undef) hT hsz (.pure (.tuple [] #[] rfl fun i v hi=>by simp at hi)) hput
     grind
theorem region_ok(hρ:Good ρ){E:Env}{ev:Ev}(hcon:ConsOk ρ E)(hev:EvOk ρ E ev){r:Option Nat}{sz id:Nat}{ops:Array Oper}
 (h:regionJ E ev sz ops.toList ops.toList hs.n T { H:=hs.H,n:=hs.n+lenL ops.toList,log:=hs.log }=some (T',hs')) (hR:R ρ w F μ E.P hs) (hD:Dom X μ hs) (hO:Off X hs') (hT:TRel ρ w F μ T a.tmps) (hsz:sz≤a.tmps.size) (hM:Marks N w a.defers)
 (hQ:∀ a' w' F' μ',R ρ w' F' μ' E.P hs'→TRel ρ w' F' μ' T' a'.tmps→a'.tmps.size=a.tmps.size→Marks N w' a'.defers→Fr w F μ hs w' F' μ' hs'→Q .normal a' w'):(Code.region id ops false).wpIn (Wr r) 0 E.P Q a w:=by
 refine wpIn_region ?_
 rw[List.range_eq_range',← Array.length_toList,← List.append_nil (List.range' 0 ops.toList.length)]
 refine regionJ_ok hρ hcon hev ops.toList (by rw[List.drop_zero,List.take_length]) h hD.2 (hR.atN _ _) (hD.atN (Nat.le_add_right _ _) _) hO hT hsz hM ?_
 intro a' w' F' μ' g1 g2 g3 g4 g5
 exact hQ a' w' F' μ' g1 g2 g3 g4 ((Fr.atN w F μ hs _ _).trans g5)
end
end Go.J
/- Heaps by their contents alone;and what a step on a part of a heap leaves of the whole. -/
namespace Go.J
section
variable (ρ:Nat→Value)(w:World)(F:Nat→Prop)(μ:Nat→Nat→Option MI)(P:Program)(G:Nat→Option Obj)
structure RG:Prop where
 lt:∀ id g m,μ id g=some m→m.b<w.heap.size
 flt:∀ b,F b→b<w.heap.size
 obj:∀ id o,G id=some o→ORel ρ w F μ P id o
 inj:∀ id id' o o' m m',G id=some o→G id'=some o'→μ id o.gen=some m→μ id' o'.gen=some m'→m.b=m'.b→id=id'
 gens:∀ id o,G id=some o→∀ g,o.gen<g→μ id g=none
 gl:Gl ρ w F
end
def OwnedG(G:Nat→Option Obj)(μ:Nat→Nat→Option MI)(b:Nat):Prop:=∃ id o m,G id=some o∧o.fz=false∧μ id o.gen=some m∧m.b=b
structure FrG(w:World)(F:Nat→Prop)(μ:Nat→Nat→Option MI)(G:Nat→Option Obj)(w':World)(F':Nat→Prop)(μ':Nat→Nat→Option MI)(G':Nat→Option Obj):Prop where
 io:Io w w'
 size:w.heap.size≤w'.heap.size
 keep:∀ b,b<w.heap.size→¬ OwnedG G μ b→w'.heap[b]?=w.heap[b]?
 fm:∀ b,F b→F' b
 fnew:∀ b,F' b→F b∨w.heap.size≤b∨OwnedG G μ b
 mm:∀ id g m,μ id g=some m→μ' id g=some m
 own:∀ b,OwnedG G' μ' b→OwnedG G μ b∨w.heap.size≤b
 hm:∀ id,G id≠none→G' id≠none
 sm:∀ id,G' id=none→∀ g,μ' id g=μ id g
 dm:∀ id,G id≠none→(∀ g,μ id g=none)→∀ g,μ' id g=none
 mn:∀ id g m,μ' id g=some m→w.heap.size≤m.b∨∃ i j m0,μ i j=some m0∧m0.b=m.b
section
variable {ρ:Nat→Value}{P:Program}{w w' w'':World}{F F' F'':Nat→Prop}{μ μ' μ'':Nat→Nat→Option MI}{hs hs':HS}{G G' G'':Nat→Option Obj}
theorem R.toG(h:R ρ w F μ P hs):RG ρ w F μ P hs.H.get:=⟨h.lt,h.flt,h.obj,h.inj,h.gens,h.gl⟩
theorem RG.toR(h:RG ρ w F μ P G)(hsub:∀ id o,hs.H.get id=some o→(∀ g,μ id g=none)∨G id=some o):R ρ w F μ P hs where
 lt:=h.lt
 flt:=h.flt
 gl:=h.gl
 obj id o ho:=by
  rcases hsub id o ho with h1|h1
  · cases o<;>(intro m hm;rw[h1]at hm;cases hm)
  · exact h.obj id o h1
 inj id id' o o' m m' ho ho' hm hm':=by
  rcases hsub id o ho with h1|h1
  · rw[h1]at hm;cases hm
  · rcases hsub id' o' ho' with h2|h2
    · rw[h2]at hm';cases hm'
    · exact h.inj id id' o o' m m' h1 h2 hm hm'
 gens id o ho g hg:=by
  rcases hsub id o ho with h1|h1
  · exact h1 g
  · exact h.gens id o h1 g hg
theorem Fr.toG(h:Fr w F μ hs w' F' μ' hs'):FrG w F μ hs.H.get w' F' μ' hs'.H.get:=⟨h.io,h.size,h.keep,h.fm,h.fnew,h.mm,h.own,h.hm,h.sm,h.dm,h.mn⟩
theorem FrG.toFr(h:FrG w F μ hs.H.get w' F' μ' hs'.H.get):Fr w F μ hs w' F' μ' hs':=⟨h.io,h.size,h.keep,h.fm,h.fnew,h.mm,h.own,h.hm,h.sm,h.dm,h.mn⟩
theorem FrG.trans(h:FrG w F μ G w' F' μ' G')(h':FrG w' F' μ' G' w'' F'' μ'' G''):FrG w F μ G w'' F'' μ'' G'' where
 io:=h.io.trans h'.io
 size:=Nat.le_trans h.size h'.size
 keep b hb hn:=by
  rw[h'.keep b (Nat.lt_of_lt_of_le hb h.size) (fun ho=>(h.own b ho).elim hn (fun hge=>by omega)),h.keep b hb hn]
 fm b hb:=h'.fm b (h.fm b hb)
 fnew b hb:=by
  rcases h'.fnew b hb with h1|h1|h1
  · exact h.fnew b h1
  · exact .inr (.inl (Nat.le_trans h.size h1))
  · rcases h.own b h1 with h2|h2
    · exact .inr (.inr h2)
    · exact .inr (.inl h2)
 mm id g m hm:=h'.mm _ _ _ (h.mm _ _ _ hm)
 own b hb:=by
  rcases h'.own b hb with h1|h1
  · exact h.own b h1
  · exact .inr (Nat.le_trans h.size h1)
 hm id hi:=h'.hm id (h.hm id hi)
 sm id hi g:=by
  have hi':G' id=none:=Classical.byContradiction fun hne=>h'.hm id hne hi
  rw[h'.sm id hi g,h.sm id hi' g]
 dm id hi hg:=h'.dm id (h.hm id hi) (h.dm id hi hg)
 mn id g m hg:=by
  rcases h'.mn id g m hg with h1|⟨i,j,m0,h1,h2⟩
  · exact .inl (Nat.le_trans h.size h1)
  · rcases h.mn i j m0 h1 with h3|⟨i',j',m1,h3,h4⟩
    · exact .inl (h2 ▸ h3)
    · exact .inr ⟨i',j',m1,h3,h4.trans h2⟩
theorem FrG.refl(w:World)(F:Nat→Prop)(μ:Nat→Nat→Option MI)(G:Nat→Option Obj):FrG w F μ G w F μ G :=
 ⟨⟨rfl,rfl,rfl⟩,Nat.le_refl _,fun _ _ _=>rfl,fun _ h=>h,fun _ h=>.inl h,fun _ _ _ h=>h,fun _ h=>.inl h,fun _ h=>h,fun _ _ _=>rfl,fun _ _ h=>h,fun id g m h=>.inr ⟨id,g,m,h,rfl⟩⟩
theorem RG.not_owned(h:RG ρ w F μ P G){b:Nat}(hF:F b):¬ OwnedG G μ b:=by
 rintro ⟨id,o,m,ho,hf,hm,rfl⟩
 have:=h.obj id o ho
 cases o with
 |arr size gen es exact fz row=>exact(this m hm).hn hf hF
 |mp es=>exact(this m hm).hn hF
 |lp fn T ps assign body busy=>exact(this m hm).hn hF
theorem FrG.rep(h:FrG w F μ G w' F' μ' G')(hR:RG ρ w F μ P G){v:V}{x:Value}(hx:Rep ρ w F μ v x):Rep ρ w' F' μ' v x :=
 hx.mono ρ h.fm (fun b hb=>h.keep b (hR.flt b hb) (hR.not_owned hb)) h.mm
theorem ORel.fz_F{id:Nat}{o:Obj}(h:ORel ρ w F μ P id o)(hz:o.fz=true){m:MI}(hm:μ id o.gen=some m):F m.b:=by
 cases o with
 |arr size gen es exact fz row=>exact(h m hm).hf hz
 |mp es=>cases hz
 |lp fn T ps assign body busy=>cases hz
theorem RG.merge (h:RG ρ w F μ P G) (hsub:∀ id o,hs.H.get id=some o→(∀ g,μ id g=none)∨G id=some o) (hR':R ρ w' F' μ' P hs') (hf:Fr w F μ hs w' F' μ' hs')
 (g1:∀ id o,G' id=some o→hs'.H.get id=some o∨(G id=some o∧hs'.H.get id=none)) (g2:∀ id,G id≠none→G' id≠none)
 (g3:∀ id,G' id=none→hs'.H.get id=none∨(hs.H.get id≠none∧∀ g,μ id g=none))
 (g4:(∀ id o,G id=some o→hs'.H.get id=none→o.fz=false)∨(∀ id o,hs'.H.get id=some o→o.fz=false)∨(∀ id o,hs'.H.get id=some o→∀ m,μ' id o.gen=some m→∃ o0,hs.H.get id=some o0∧μ id o0.gen=some m))
 (g5:∀ id,hs.H.get id=none→hs'.H.get id≠none→G id=none):RG ρ w' F' μ' P G'∧FrG w F μ G w' F' μ' G':=by
 have hR:=h.toR hsub
 have hown:∀ b,Owned hs μ b→OwnedG G μ b:=by
  rintro b ⟨id,o,m,ho,hz,hm,rfl⟩
  rcases hsub id o ho with h1|h1
  · rw[h1]at hm;cases hm
  · exact⟨id,o,m,h1,hz,hm,rfl⟩
 have hnone:∀ id,hs'.H.get id=none→hs.H.get id=none:=fun id hi=>Classical.byContradiction fun hne=>hf.hm id hne hi
 -- an object that the part does not hold lies in no block of the part
 have hfree:∀ id o m,G id=some o→hs'.H.get id=none→μ id o.gen=some m→¬ Owned hs μ m.b:=by
  rintro id o m ho hi hm ⟨id2,o2,m2,h2,_,hm2,he⟩
  rcases hsub id2 o2 h2 with h3|h3
  · rw[h3]at hm2;cases hm2
  · have e:=h.inj id2 id o2 o m2 m h3 ho hm2 hm he
    subst e
    rw[hnone _ hi]at h2;cases h2
 have hmix : ∀ i j o o' m m',hs'.H.get i=some o→G j=some o'→hs'.H.get j=none→μ' i o.gen=some m→μ j o'.gen=some m'→m.b≠m'.b:=by
  intro i j o o' m m' hi hj hjn hm hm' he
  have hlt:=h.lt _ _ _ hm'
  have hno:=hfree j o' m' hj hjn hm'
  cases hz:o.fz with
  | false =>
    rcases hf.own m.b ⟨i,o,m,hi,hz,hm,rfl⟩with h1|h1
    · exact hno (he ▸ h1)
    · omega
  | true =>
    have hF':F' m.b:=(hR'.obj i o hi).fz_F hz hm
    rcases hf.fnew m.b hF' with h1|h1|h1
    · rcases g4 with g4|g4|g4
      · exact h.not_owned h1 ⟨j,o',m',hj,g4 j o' hj hjn,hm',he.symm⟩
      · rw[g4 i o hi]at hz;cases hz
      · obtain⟨o0,h2,h3⟩:=g4 i o hi m hm
        rcases hsub i o0 h2 with h4|h4
        · rw[h4]at h3;cases h3
        · have:=h.inj i j o0 o' m m' h4 hj h3 hm' he
          subst this;rw[hjn]at hi;cases hi
    · omega
    · exact hno (he ▸ h1)
 refine⟨⟨hR'.lt,hR'.flt,?_,?_,?_,hR'.gl⟩,⟨hf.io,hf.size,fun b hb hn=>hf.keep b hb (fun ho=>hn (hown b ho)),hf.fm,?_,hf.mm,?_,g2,?_,?_,hf.mn⟩⟩
 · intro id o ho
   rcases g1 id o ho with h1|⟨h1,h2⟩
   · exact hR'.obj id o h1
   · have hsm:=hf.sm id h2
     refine(h.obj id o h1).mono hf.fm (fun b hb=>hf.keep b (h.flt b hb) (hR.not_owned hb)) hf.mm (fun m hm=>by rw[hsm]at hm;exact hm) (fun m hm=>hf.keep _ (h.lt _ _ _ hm) (hfree id o m h1 h2 hm)) ?_
     intro m hm _ hn hF'
     rcases hf.fnew _ hF' with h3|h3|h3
     · exact hn h3
     · have:=h.lt _ _ _ hm;omega
     · exact hfree id o m h1 h2 hm h3
 · intro i j o o' m m' ho ho' hm hm' he
   rcases g1 i o ho with h1|⟨h1,h2⟩
   · rcases g1 j o' ho' with h3|⟨h3,h4⟩
     · exact hR'.inj i j o o' m m' h1 h3 hm hm' he
     · rw[hf.sm j h4]at hm'
       exact absurd he (hmix i j o o' m m' h1 h3 h4 hm hm')
   · rw[hf.sm i h2]at hm
     rcases g1 j o' ho' with h3|⟨h3,h4⟩
     · exact absurd he.symm (hmix j i o' o m' m h3 h1 h2 hm' hm)
     · rw[hf.sm j h4]at hm'
       exact h.inj i j o o' m m' h1 h3 hm hm' he
 · intro id o ho g hg
   rcases g1 id o ho with h1|⟨h1,h2⟩
   · exact hR'.gens id o h1 g hg
   · rw[hf.sm id h2];exact h.gens id o h1 g hg
 · intro b hb
   rcases hf.fnew b hb with h1|h1|h1
   · exact .inl h1
   · exact .inr (.inl h1)
   · exact .inr (.inr (hown b h1))
 · rintro b ⟨id,o,m,ho,hz,hm,rfl⟩
   rcases g1 id o ho with h1|⟨h1,h2⟩
   · rcases hf.own m.b ⟨id,o,m,h1,hz,hm,rfl⟩with h3|h3
     · exact .inl (hown _ h3)
     · exact .inr h3
   · rw[hf.sm id h2]at hm
     exact .inl ⟨id,o,m,h1,hz,hm,rfl⟩
 · intro id hi g
   rcases g3 id hi with h1|⟨h1,h2⟩
   · exact hf.sm id h1 g
   · rw[hf.dm id h1 h2 g,h2 g]
 · intro id hi hg g
   by_cases h1:hs'.H.get id=none
   · rw[hf.sm id h1 g];exact hg g
   · by_cases h2:hs.H.get id=none
     · exact absurd (g5 id h2 h1) hi
     · exact hf.dm id h2 hg g
end
end Go.J
