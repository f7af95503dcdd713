import Derived.Test.YtpcmebclpindjaaGreatJG
import Derived.DefersIn
set_option linter.all false
noncomputable section
/- Functions that defer one call: regions,the region that defers a closure's call,then any code;the closure is one region. -/
namespace Go.J
def zjk:List Oper->Option (List Oper×Oper×Operand)
 | []=>none
 | [o]=>match o.op with
   |.defer ⟨.value g,⟨[]⟩,_⟩=>some ([],o,g)
   |_=>none
 | o::p::l=>match zjk (p::l)with
   |some q=>some (o::q.1,q.2)
   |none=>none
theorem zox:∀ {l:List Oper} {pre:List Oper} {o:Oper} {g:Operand},zjk l=some (pre,o,g)->l=pre++[o]/\∃ ts,o.op=.defer ⟨.value g,#[],ts⟩:=by
 intro l
 induction l with
 |nil=>intro pre o g h;cases h
 | cons x l ih =>
   intro pre o g h
   cases l with
   | nil =>
     unfold zjk at h;split at h
     . rename_i ho;cases h;exact⟨rfl,_,ho⟩
     . cases h
   | cons y l =>
     unfold zjk at h;split at h
     . rename_i q hq;obtain⟨q1,q2,q3⟩:=q;cases h;obtain⟨h1,h2⟩:=ih hq;exact⟨by rw[h1];rfl,h2⟩
     . cases h
def zxv(E:Env)(ev:Ev)(sz:Nat)(ops:List Oper)(pre:List Oper)(o:Oper)(g:Operand)(T:PT V)(hs:HS):Option (PT V×HS×FuncId×List V) :=
 ob (zbp E ev sz ops pre hs.n T { H:=hs.H,n:=hs.n+zC ops,log:=hs.log }) fun q=>ob (zcU ops q.1 o) fun b=>gd b (ob (zi q.1 g) fun v=>ob (funcOf v) fun c=>ob (ziy sz q.1 o.dst undefV) fun T'=>some (T',q.2,c))
def zgG (E:Env) (ev:Ev) (sz:Nat):Nat->Code->PT V->HS->Option ((Ex×PT V×HS)×FuncId×List V)
 | 0,_,_,_=>none
 | n + 1,c,T,hs=>match c with
   | .seq (.region _ ops d) y=>match (if d then none else zjk ops.toList)with
     |some q=>ob (zxv E ev sz ops.toList q.1 q.2.1 q.2.2 T hs) fun r=>ob (ev.code false sz y r.1 r.2.1) fun s=>some (s,r.2.2)
     |none=>ob (zm3 E ev sz ops.toList d T hs) fun r=>zgG E ev sz n y r.2.1 r.2.2
   |_=>none
def zlE (E:Env) (ev:Ev) (f:FuncId) (caps:List V) (hs:HS):Option HS :=
 ob (E.P.funcs[f]?) fun fn=>match fn.body,fn.results.toList with
  | some (.region _ ops d), [] => ob (zba fn.ntmps caps 0 .leaf) fun T => ob (zm3 E ev fn.ntmps ops.toList d T hs) fun r => gd (fn.name != "runtime.NumGoroutine") (some r.2.2)
  |_,_=>none
def zoG (E:Env) (ev:Ev) (m:Nat) (f:FuncId) (args:List V) (hs:HS):Option (V×HS) :=
 ob (E.P.funcs[f]?) fun fn=>ob fn.body fun c=>ob (zba fn.ntmps args 0 .leaf) fun T=>ob (zgG E ev fn.ntmps m c T hs) fun r=>ob (zlE E ev r.2.1 r.2.2 r.1.2.2) fun hs2 =>
  zgY E.P fn (r.1.1,r.1.2.1,hs2)
section
variable {E:Env}{ev:Ev}(hcK:za5 E)(hevK:EvKept ev)
include hcK hevK
theorem zdI {sz:Nat}:∀ (n:Nat) {c:Code} {T:PT V} {hs:HS} {q:(Ex×PT V×HS)×FuncId×List V},zgG E ev sz n c T hs=some q->Kept hs q.1.2.2:=by
 intro n
 induction n with
 |zero=>intro c T hs q h;cases h
 | succ n ih =>
   intro c T hs q h;unfold zgG at h;split at h
   . split at h
     . simp only[za]at h;obtain⟨r,hr,s,hs2,h⟩:=h;cases h;simp only[zxv,za,zk]at hr;obtain⟨⟨T1,hs1⟩,h1,b,hb,rfl,v,hv,cc,hc,T2,hput,hr⟩:=hr;cases hr;have k1:=zcp hcK hevK _ h1;exact(Kept.mk k1.log k1.obj (Nat.le_trans (Nat.le_add_right _ _) k1.le) k1.hm:Kept hs hs1).trans (hevK.code hs2)
     . simp only[za]at h;obtain⟨r,hr,h⟩:=h;exact(zdZ hcK hevK hr).trans (ih h)
   . cases h
theorem zgZ{f:FuncId}{caps:List V}{hs hs':HS}(h:zlE E ev f caps hs=some hs'):Kept hs hs':=by
 simp only[zlE,za]at h;obtain⟨fn,hf,h⟩:=h;split at h
 . simp only[za,zk]at h;obtain⟨T,hT,q,hq,_,h⟩:=h;cases h;exact zdZ hcK hevK hq
 . cases h
theorem zme{m:Nat}{f:FuncId}{args:List V}{hs:HS}{r:V×HS}(h:zoG E ev m f args hs=some r):Kept hs r.2:=by
 simp only[zoG,za]at h;obtain⟨fn,_,c,_,T,_,q,hq,hs2,hl,h⟩:=h;have h1:=zdI hcK hevK m hq;have h2:=zgZ hcK hevK hl;unfold zgY at h;split at h
 . cases h
 . simp only[za]at h;obtain⟨l,_,h⟩:=h;cases h;exact h1.trans h2
end
section
variable {ρ:Nat->Value}{P:Program}{w w':World}{F:Nat->Prop}{μ:Nat->Nat->Option MI}{hs hs':HS}{T T':PT V}{X:Nat->Prop}
theorem Args.cells{vs:List V}{xs:Array Value}(h:Args ρ w F μ vs xs)(hw:∀ b o,w'.cell? ⟨b,o,none⟩=w.cell? ⟨b,o,none⟩):Args ρ w' F μ vs xs :=
 ⟨h.1,fun i v hi=>by obtain⟨x,hx,hr⟩:=h.2 i v hi;exact⟨x,hx,hr.cells hw⟩⟩
theorem Fr.args{F':Nat->Prop}{μ':Nat->Nat->Option MI}(hf:Fr w F μ hs w' F' μ' hs')(hR:R ρ w F μ P hs){vs:List V}{xs:Array Value}(h:Args ρ w F μ vs xs):Args ρ w' F' μ' vs xs :=
 ⟨h.1,fun i v hi=>by obtain⟨x,hx,hr⟩:=h.2 i v hi;exact⟨x,hx,hf.rep hR hr⟩⟩
theorem zlC{w0:World}{F0:Nat->Prop}{μ0:Nat->Nat->Option MI}{hs0:HS}{fn:Func}{tm:Array Value}{Rp:Ending->World->Prop}{N:Nat}{caps:List V}{ys:Array Value}{tail:List Deferred}(hN:w0.heap.size<=N)
 (hfin:∀ w,R ρ w F μ P hs->zaY ρ w F μ T tm->Args ρ w F μ caps ys->Fr w0 F0 μ0 hs0 w F μ hs->LeavesInM (Wr none) 0 P fn tm Rp tail .returning w):∀ (rs:List Nat) (w:World),R ρ w F μ P hs->zaY ρ w F μ T tm->Args ρ w F μ caps ys->Fr w0 F0 μ0 hs0 w F μ hs->rs.Nodup ->
 (∀ r∈rs,N<=r/\w.heap[r]?=some (.deferred (some [])))->LeavesInM (Wr none) 0 P fn tm Rp (rs.map (fun r=>{ target:=.collected r,args:=#[] })++tail) .returning w:=by
 intro rs
 induction rs with
 |nil=>intro w hR hT hA hf _ _;exact hfin w hR hT hA hf
 | cons r rs ih =>
   intro w hR hT hA hf hnd hall;have hr:=hall r (List.mem_cons_self ..);refine⟨by simp,.inl ⟨r,zaL w r,rfl,run_takeDeferred hr.2,?_⟩⟩;have hnd':=List.nodup_cons.1 hnd;refine ih _ (hR.unmark hr.2) (fun t v hv=>?_) (hA.cells (zbD hr.2)) ?_ hnd'.2 (fun s hs=>⟨(hall s (List.mem_cons_of_mem _ hs)).1,?_⟩)
   . obtain⟨x,hx,h⟩:=hT t v hv;exact⟨x,hx,h.cells (zbD hr.2)⟩
   . refine⟨hf.io,by simpa [zaL]using hf.size,fun b hb hn=>?_,hf.fm,hf.fnew,hf.mm,hf.own,hf.hm,hf.sm,hf.dm,hf.mn⟩;rw[zaa (by have:=hr.1;omega)];exact hf.keep b hb hn
   . rw[zaa (fun e=>hnd'.1 (by rw[<- e];exact hs))];exact(hall s (List.mem_cons_of_mem _ hs)).2
variable (hρ:Good ρ){E:Env}{ev:Ev}(hcon:ConsOk ρ E)(hev:EvOk ρ E ev)(hP:E.P.follows .mixedOrders=true)
include hρ hcon hev hP
theorem zr0{r:Option Nat}{sz id:Nat}{ops:Array Oper}{d:Bool}{q:Ex×PT V×HS}{a:Act}{N:NB}{Q:Exit->Act->World->Prop}
 (h:zm3 E ev sz ops.toList d T hs=some q) (hR:R ρ w F μ E.P hs) (hD:Dom X μ hs) (hO:Off X q.2.2) (hT:zaY ρ w F μ T a.tmps) (hsz:sz<=a.tmps.size) (hM:Marks N w a.defers)
 (hQ:∀ a' w' F' μ',R ρ w' F' μ' E.P q.2.2->zaY ρ w' F' μ' q.2.1 a'.tmps->a'.tmps.size=a.tmps.size->Marks N w' a'.defers->Fr w F μ hs w' F' μ' q.2.2->Q .normal a' w'):(Code.region id ops d).wpIn (Wr r) 0 E.P Q a w:=by
 simp only[zm3,za]at h;obtain⟨p,hp,h⟩:=h;cases h;rw[zX]at hp
 cases d with
 |true=>exact zov hρ hcon hev hP hp hR hD hO hT hsz hM hQ
 |false=>exact zio hρ hcon hev hp hR hD hO hT hsz hM hQ
theorem zwB{f:FuncId}{caps:List V}{ys:Array Value}(h:zlE E ev f caps hs=some hs')(hR:R ρ w F μ E.P hs)(hD:Dom X μ hs)(hO:Off X hs')(hA:Args ρ w F μ caps ys) :
 CallsDIn (Wr none) 0 E.P f ys .returning w fun e u' w'=>u'=.returning/\∃ x,e=.returned x/\∃ F' μ',R ρ w' F' μ' E.P hs'/\Fr w F μ hs w' F' μ' hs':=by
 simp only[zlE,za]at h;obtain⟨fn,hf,h⟩:=h;split at h
 . rename_i id ops d hb hres;simp only[za,zk]at h;obtain⟨T,hT,q,hq,_,h⟩:=h;cases h
   have hT0:zaY ρ w F μ T (ys++Array.replicate (fn.ntmps-ys.size) undef):=by
    refine zen hT (fun t u hu=>by cases hu) fun k u hk=>?_
    obtain⟨x,hx,hr⟩:=hA.2 k u hk;exact⟨x,by rw[Nat.zero_add,Array.getElem?_append_left (Array.getElem?_eq_some_iff.1 hx).1];exact hx,hr⟩
   have hsz:fn.ntmps<=(ys++Array.replicate (fn.ntmps-ys.size) undef).size:=by simp;omega
   refine(callsDIn_of_wp (R:=fun e w'=>∃ x,e=.returned x/\∃ F' μ',R ρ w' F' μ' E.P q.2.2/\Fr w F μ hs w' F' μ' q.2.2) hf hb trivial ?_);refine zr0 hρ hcon hev hP (N:=⟨w.heap.size,[],true⟩) hq hR hD hO hT0 hsz (Marks.nil (Nat.le_refl _)) ?_;intro a' w' F' μ' hR' hT' _ hM hf';obtain⟨_,rs,⟨_,r1⟩,r2,_⟩:=hM;refine⟨by rw[r2,r1 rfl];rfl,?_⟩
   have hr0:fn.results=#[]:=by
    cases hfr:fn.results with
    |mk l=>rw[hfr]at hres;exact congrArg Array.mk hres
   exact⟨.tuple #[],by unfold results;rw[hr0,Array.mapM_eq_mapM_toList];simp,_,rfl,F',μ',hR',hf'⟩
 . cases h
theorem zp6 {sz n0:Nat}:∀ (n:Nat) {c:Code} {T:PT V} {hs:HS} {q:(Ex×PT V×HS)×FuncId×List V} {w:World} {F:Nat->Prop} {μ:Nat->Nat->Option MI} {a:Act} {Q:Exit->Act->World->Prop},
 zgG E ev sz n c T hs=some q->R ρ w F μ E.P hs->Dom X μ hs->Off X q.1.2.2->zaY ρ w F μ T a.tmps->sz<=a.tmps.size->Marks ⟨n0,[],true⟩ w a.defers ->
 (∀ a' w' F' μ' ys,R ρ w' F' μ' E.P q.1.2.2->zaY ρ w' F' μ' q.1.2.1 a'.tmps->Args ρ w' F' μ' q.2.2 ys->Marks ⟨n0,[{ target:=.fn (.func q.2.1) ys,args:=#[] }],false⟩ w' a'.defers->Fr w F μ hs w' F' μ' q.1.2.2->Q (zzo q.1.1) a' w')->c.wpIn (Wr none) 0 E.P Q a w:=by
 intro n
 induction n with
 |zero=>intro c T hs q w F μ a Q h;cases h
 | succ n ih =>
   intro c T hs q w F μ a Q h hR hD hO hT hsz hM hQ;unfold zgG at h;split at h
   . rename_i id ops d y;refine wpIn_seq ?_;split at h
     . rename_i p hp
       cases d with
       |true=>cases hp
       |false =>
       obtain⟨pre,o,g⟩:=p;obtain⟨e1,ts,e2⟩:=zox hp;simp only[za]at h;obtain⟨r,hr,s,hs2,h⟩:=h;cases h;simp only[zxv,za,zk]at hr;obtain⟨⟨T1,hs1⟩,h1,b,hb,rfl,v,hv,cc,hc,T2,hput,hr⟩:=hr;cases hr;dsimp only at hs2 hQ hO hb hv hput;have hkB:=hev.kept.code hs2
       have ho1:ops[pre.length]?=some o:=by
        have:ops.toList[pre.length]?=some o:=by rw[e1];simp
        simpa using this
       refine wpIn_region ?_;have hlen:ops.size=pre.length+1:=by rw[<- Array.length_toList,e1];simp
       rw[List.range_eq_range',hlen,List.range'_concat];simp only[Nat.zero_add,Nat.one_mul];refine zgJ hρ hcon hev pre (k:=0) (by rw[List.drop_zero,e1];simp) h1 hD.2 (hR.atN _ _) (hD.atN (Nat.le_add_right _ _) _) (hkB.off hO) hT hsz hM ?_;intro a1 w1 F1 μ1 hR1 hT1 hsz1 hM1 hf1;have hf1':=(Fr.atN w F μ hs _ _).trans hf1;have hvr:=zm (a:=a1) hT1 hv;obtain⟨fid,caps⟩:=cc
       have ev1:v=.func fid caps:=by
        unfold funcOf at hc;split at hc
        . cases hc;rfl
        . cases hc
       subst ev1;obtain⟨ys,hy,hys,hcap0⟩:=hvr.func_inv
       have hcap:∀ (i:Nat) (v:V),caps[i]?=some v->∃ x,ys[i]?=some x/\Rep ρ w1 F1 μ1 v x:=fun i v hi=>by
        have hlt:i<ys.size:=by rw[hys];exact(List.getElem?_eq_some_iff.1 hi).1
        have h2:=hcap0 i v hi;rw[Array.getD_eq_getD_getElem?,Array.getElem?_eq_getElem hlt]at h2;exact⟨ys[i],Array.getElem?_eq_getElem hlt,h2⟩
       obtain⟨p1,p2,p3⟩:=zh5 (a:={ a1 with defers:={ target:=.fn (.func fid) ys,args:=#[] }::a1.defers }) hT1 (show sz<=a1.tmps.size by rw[hsz1];exact hsz) (x:=undef) (.pure (.tuple [] #[] rfl fun i v hi=>by simp at hi)) hput;have hD1:Dom X μ1 hs1:=hf1.dom (zcp hcon.kept hev.kept _ h1).le (hD.atN (Nat.le_add_right _ _) _);simp only[wpOpsIn,ho1];rw[if_pos (zcE hT1 hb)];refine⟨fun f hf=>trivial,?_⟩
       have hsem:(o.semAt (Wr none).round a1.eval).run E.P w1=.ok (.defer { target:=.fn (.func fid) ys,args:=#[] }) w1:=by
        show (execOp a1.eval o).run E.P w1=_;unfold execOp;rw[e2];simp[resolve,hy,Deferred.ofValue]
       rw[hsem,Oper.uponIn_defer];obtain⟨m1,rs,⟨m2,m3⟩,m4,m5⟩:=hM1;have hd0:a1.defers=[]:=by rw[m4,m3 rfl];rfl
       have hk:=hev.code hs2 ⟨n0,[{ target:=.fn (.func fid) ys,args:=#[] }],false⟩ X none w1 F1 μ1 _ Q ⟨fun _=>rfl,rfl⟩ hR1 hD1 hO p1 (by rw[p2];show sz<=a1.tmps.size;rw[hsz1];exact hsz)
        ⟨m1,[],⟨List.nodup_nil,fun h=>by cases h⟩,by rw[p3];show _::a1.defers=_;rw[hd0];rfl,fun r hr=>by cases hr⟩
        (fun a' w' F' μ' g1 g2 g3 g4 g5=>hQ a' w' F' μ' ys g1 g2 (g5.args hR1 ⟨hys,hcap⟩) g4 (hf1'.trans g5))
       exact hk
     . simp only[za]at h;obtain⟨r,hr,h⟩:=h;have hsk:Kept r.2.2 q.1.2.2:=zdI hcon.kept hev.kept n h;refine zr0 hρ hcon hev hP hr hR hD (hsk.off hO) hT hsz hM ?_;intro a1 w1 F1 μ1 hR1 hT1 hsz1 hM1 hf1;refine ih h hR1 (hf1.dom (zdZ hcon.kept hev.kept hr).le hD) hO hT1 (by rw[hsz1];exact hsz) hM1 ?_;intro a' w' F' μ' ys g1 g2 g3 g4 g5;exact hQ a' w' F' μ' ys g1 g2 g3 g4 (hf1.trans g5)
   . cases h
theorem zqU {m:Nat} {f:FuncId} {vs:List V} {v:V} (h:zoG E ev m f vs hs=some (v,hs')):CallOk ρ E.P f vs hs v hs':=by
 simp only[zoG,za]at h;obtain⟨fn,hf,c,hb,T,hT,⟨⟨ex,T1,hs1⟩,fid,caps⟩,hq,hs2,hlate,h⟩:=h;dsimp only at hlate h;intro X w F μ xs hR hD hO hA
 have hsh:∃ l,(∀ i,ex≠.exit i)/\zlv E.P T1 hs2 fn.results.toList=some l/\v=zcN l/\hs'=hs2:=by
  unfold zgY at h;split at h
  . cases h
  . rename_i hne;simp only[za]at h;obtain⟨l,hl,h⟩:=h;cases h;exact⟨l,fun i e=>hne i e,hl,rfl,rfl⟩
 obtain⟨l,hne,hl,rfl,rfl⟩:=hsh;refine callsIn_of_wp_marks hf hb trivial ?_;have hsz:fn.ntmps<=(xs++Array.replicate (fn.ntmps-xs.size) undef).size:=by simp;omega
 have hT0:zaY ρ w F μ T (xs++Array.replicate (fn.ntmps-xs.size) undef):=by
  refine zen hT (fun t u hu=>by cases hu) fun k u hk=>?_
  obtain⟨x,hx,hr⟩:=hA.2 k u hk;exact⟨x,by rw[Nat.zero_add,Array.getElem?_append_left (Array.getElem?_eq_some_iff.1 hx).1];exact hx,hr⟩
 have hkl:=zgZ hcon.kept hev.kept hlate;refine zp6 hρ hcon hev hP (n0:=w.heap.size) m hq hR hD (hkl.off hO) hT0 hsz (Marks.nil (Nat.le_refl _)) ?_;intro a' w' F' μ' ys hR' hT' hA' hM hf';dsimp only at hR' hT' hA' hM hf';have hD':Dom X μ' hs1:=hf'.dom (zdI hcon.kept hev.kept m hq).le hD
 have hleave:LeavesInM (Wr none) 0 E.P fn a'.tmps (zAx ρ E.P w F μ hs (zcN l) hs') a'.defers .returning w':=by
  obtain⟨hN,rs,⟨r1,_⟩,r2,r3⟩:=hM;rw[r2];refine zlC (Nat.le_refl _) (fun w2 hR2 hT2 hA2 hf2=>?_) rs w' hR' hT' hA' hf' r1 r3;have hD2:Dom X μ' hs1:=hD';have hcall:=zwB hρ hcon hev hP hlate hR2 hD2 hO hA2
  have hfn:zdR E.P fid:=by
   simp only[zlE,za]at hlate;obtain⟨fn2,hf2,hlate⟩:=hlate;split at hlate
   . rename_i hb2 _;simp only[za,zk]at hlate;obtain⟨_,_,_,_,hn,_⟩:=hlate;exact⟨fn2,hf2,by rw[hb2];rfl,by simpa using hn⟩
   . cases hlate
  refine⟨by simp,.inr ⟨fun h=>(by cases h),.func fid,ys,fid,#[]++ys,rfl,by simp[invoke,zdd hfn],fun _ _=>trivial,?_⟩⟩;rw[show (#[]:Array Value)++ys=ys by simp];refine hcall.mono ?_;rintro e u' w3 ⟨rfl,x,rfl,F3,μ3,hR3,hf3⟩;obtain⟨zs,h1,h2,h3⟩:=zjD hR3 (hf3.trelT hR2 hT2) hl;refine⟨_,?_,F3,μ3,hR3,zfq (xs:=zs.toArray) (by simpa using h2) (fun i u hi=>by simpa using h3 i u hi),hf2.trans hf3⟩;unfold results;rw[Sem.run_bind,Array.mapM_eq_mapM_toList];rw[Sem.run_map];exact Eq.trans (congrArg (fun z:Result (List Value)=>(z.andThen fun a w'=>Result.ok a.toArray w').andThen fun a w'=>Sem.run E.P (pure (if h:a.size=1 then a[0]else Value.tuple a)) w') h1) rfl
 cases ex with
 |normal=>exact hleave
 |ret=>exact hleave
 |exit i=>exact absurd rfl (hne i)
end
def zvu(E:Env)(n m:Nat)(f:FuncId):Spec:=fun vs hs=>zoG E (evJ E n) m f vs hs
theorem Valid.defer{ρ:Nat->Value}(hρ:Good ρ){E:Env}(hcon:ConsOk ρ E)(hP:E.P.follows .mixedOrders=true)(hN:zcZ E.P){n m:Nat}{f:FuncId}(hf:zdR E.P f):Valid ρ E.P f (zvu E n m f) where
 fn:=hf
 ok:=fun {_ _ _ _} h=>zqU hρ hcon (zhc hρ hcon hP hN n) hP h
 kept:=fun {_ _ _} h=>zme hcon.kept (zhc hρ hcon hP hN n).kept h
end Go.J
