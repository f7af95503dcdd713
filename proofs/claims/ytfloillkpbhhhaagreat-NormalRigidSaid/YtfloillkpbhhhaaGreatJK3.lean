import Derived.Test.YtfloillkpbhhhaaGreatJK2
import Derived.Deep.AppendSrc
import Derived.RangeFuncLeaves
import Derived.OrdersIn
set_option linter.all false
noncomputable section
namespace Go.J
variable {a:Act}{gg:Array Value}{dr:Bool}{b:Builtin}{c:Code}{E:Env}{ev:Ev}{Q:Exit->Act->World->Prop}{q:Ex×PT V×HS}{F:Fence}{f:FuncId}{C a8:HS}{g jx j n dT oA zp:Nat}{F' X p:Nat->Prop}{o:Oper}{m:Operand}{T:PT V}{P:Program}{s:Sem Value}{e i ki:TI}{α:Type}{d:TypeDesc}{el t tR tX tx u zEO:TypeId}{k v v':V}{K x z:Value}{r:V×HS×Z Nat×Z Nat}{w':World}{cU:Z (Z V)}{ts:Z TypeId}{l vs:Z V}{o':_root_.Go.Obj}
theorem zj2(np:Nat):∀ (r c:Nat),256<=c->c<=2*np->Builtin.growBy np r c<=2*np:=by
 intro r
 induction r with
 |zero=>intro c _ h;exact h
 | succ r ih =>
   intro c M O;simp only[Builtin.growBy]
   grind
theorem nextslicecap_le{np Fi:Nat}(h:Fi<np):Builtin.nextslicecap np Fi<=2*np:=by
 unfold Builtin.nextslicecap
 grind [zj2]
section
variable {I:Nat->Value}{w:World}{F:Nat->Prop}{μ:Nat->Nat->Y MI}
def Su(zero:Array Value)(n:Nat):(Builtin.zeroCells zero n).size=n*zero.size:=by simp[Builtin.zeroCells]
def grownCap_ge(w:World)(need gg:Nat)(e:TypeId):need<=grownCap w need gg e:=by simp[grownCap,Question.cut]
theorem LQ (a:Addr):∀ (n i:Nat) (acc r:Array Value),(loadCellsFrom a i n acc).run P w=.ok r w->(loadCellsFrom a i n acc).run P w.drew=.ok r w.drew:=by
 intro n
 induction n with
 |zero=>intro i acc r h;simp[loadCellsFrom]at h ⊢;exact h
 | succ n ih =>
   intro i acc r h;simp only[loadCellsFrom,Sem.run_bind,run_load]at h ⊢;have fc:w.drew.cell? (a.add i)=w.cell? (a.add i):=rfl;rw[fc]
   cases hq:w.cell? (a.add i)with
   |some v=>rw[hq]at h;simp only[Result.andThen_ok]at h ⊢;exact ih _ _ _ h
   | none =>
     rw[hq]at h;simp only at h
     cases hf:w.farLoad P (a.add i) (Mode.plain == Mode.atomic)with
     |error e=>rw[hf]at h;simp at h
     | ok p =>
       rw[hf]at h;have AG:w.drew.farLoad P (a.add i) (Mode.plain == Mode.atomic)=.ok p:=hf
       simp_all
def Hf{size len c:Nat}{base:Y Addr}{arr:Array Value}(h:(Builtin.firstCells size n (.slice base len c)).run P w=.ok arr w) :
 (Builtin.firstCells size n (.slice base len c)).run P w.drew=.ok arr w.drew:=by
 cases base with
 |none=>simp[Builtin.firstCells]at h ⊢;exact h
 |some a=>exact LQ a _ _ _ _ h
def T6(hρ:Good I)(hR:R I w F μ P C)(hu:P.underlying tX=some (.slice zEO)){size:Nat}{x:V}{X:Value}{es:Z (Z V)}(hx:dV I w F μ x X)(h:zW C size x=some es)
 (b8:∀ e∈es,e.length=size) (hc:∀ e∈es,∀ v∈e,v.mM=true):∃ arr,Src P size tX X es.length arr.toList w/\Flat I w F size es arr:=by
 obtain⟨base,c,rfl,arr,M,O⟩:=NH (P:=P) hR hx h b8;exact⟨arr,⟨.inl ⟨zEO,hu⟩,λ_=>rfl,by simpa using M,by simpa using Hf M,by simpa using O.1,O.one hρ b8 hc⟩,O⟩
theorem Qz(hz:z.cells.size=e.size){es new:Z (Z V)}{arr:Array Value}(hold:Flat I w F e.size es gg)(bc:Flat I w F e.size new arr)
  (oY:es.length+new.length<=dT) :
 ((gg.toList++arr.toList).toArray++Builtin.zeroCells z.cells (dT-(es.length+new.length))).size=dT*e.size /\
 ∀ (k:Nat) (c:Z V) (j:Nat) (v:V),(jY es new)[k]?=some c->c[j]?=some v->∃ y,((gg.toList++arr.toList).toArray++Builtin.zeroCells z.cells (dT-(es.length+new.length)))[k*e.size+j]?=some y/\fG I w F v y:=by
 have lx:((gg.toList++arr.toList).toArray++Builtin.zeroCells z.cells (dT-(es.length+new.length))).size=dT*e.size:=by
  simp only[Array.size_append,List.size_toArray,bB,jB,Su,hold.1,bc.1,hz,<- gK]
  congr 1;omega
 refine⟨lx,?_⟩;intro k c j v hk hj;rw[oo]at hk;by_cases nh:k<es.length
 . rw[jW nh]at hk;obtain⟨y,hy,hp⟩:=hold.2 k c j v hk hj
   grind
 . rw[eQ (by omega)]at hk;obtain⟨y,hy,hp⟩:=bc.2 (k-es.length) c j v hk hj;obtain⟨cC,_⟩:=dX.1 hy;have e1:k*e.size=es.length*e.size+(k-es.length)*e.size:=by rw[<- gK];congr 1;omega
   refine⟨y,?_,hp⟩;have ho:=hold.1;rw[mH (by simp;omega),List.getElem?_toArray,eQ (by simp;omega),gy];rw[<- hy];congr 1;simp;omega
def Pj(hR:R I w F μ P C){id:Nat}(hid:H5 μ C id)(hz:z.cells.size=e.size){es new:Z (Z V)}{arr:Array Value}(hold:Flat I w F e.size es gg)(bc:Flat I w F e.size new arr)
 (v5:∀ c∈es,c.length=e.size) (la:∀ c∈new,c.length=e.size)  (oY:es.length+new.length<=dT) :
 ∃ μ',R I (w.drew.alloc (.cells ((gg.toList++arr.toList).toArray++Builtin.zeroCells z.cells (dT-(es.length+new.length))) el)) F μ' P (C.put id (.arr e.size 0 (jY es new) false false true)) /\
   Fr w F μ C (w.drew.alloc (.cells ((gg.toList++arr.toList).toArray++Builtin.zeroCells z.cells (dT-(es.length+new.length))) el)) F μ' (C.put id (.arr e.size 0 (jY es new) false false true)) /\
   dV I (w.drew.alloc (.cells ((gg.toList++arr.toList).toArray++Builtin.zeroCells z.cells (dT-(es.length+new.length))) el)) F μ' (.own id 0 0 (es.length+new.length) none) (.slice (some ⟨w.heap.size,0,none⟩) (es.length+new.length) dT):=by
 obtain⟨lx,b6⟩:=Qz hz hold bc oY
 have h:=Y2 hR hid (w':=w.drew.alloc (.cells ((gg.toList++arr.toList).toArray++Builtin.zeroCells z.cells (dT-(es.length+new.length))) el)) (size:=e.size) (es:=jY es new) (exact:=false) (row:=true)
  (cells:=(gg.toList++arr.toList).toArray++Builtin.zeroCells z.cells (dT-(es.length+new.length))) (el:=el) (nQ w.drew _) (uI w.drew _) (λb hb=>qp w.drew _ hb) (λc hc=>by
    rw[oo]at hc;rcases bA.1 hc with h|h
    . exact v5 c h
    . exact la c h) (by rw[oo,bB,lx];exact aN _ oY) (λh=>by cases h) (λk c j v hk hj=>by
    obtain⟨y,hy,hp⟩:=b6 k c j v hk hj
    exact⟨y,hy,.pure hp,λ_=>hp⟩)
 refine⟨_,h.1,h.2,.own id 0 0 _ none dT ⟨w.heap.size,e.size,_⟩ (cX ..) oY ?_ (λk hk=>by cases hk) (λ_=>?_)⟩
 . simp only[lx];omega
 . simp only[lx];omega
theorem zbG(hR:R I w F μ P C){id:Nat}{a:Nat×Z (Z V)×Bool×Bool×Bool}(ha:mP C id g=some a)(v9:a.2.2.2.1=false){m m':MI}(hm:μ id g=some m){cells:Array Value}
 (b8:w.heap.size<=w'.heap.size) (cC:m'.b<w'.heap.size) (hb:m'.b=m.b\/w.heap.size<=m'.b) (hw:∀ b,b<w.heap.size->b≠m.b->w'.heap[b]?=w.heap[b]?)
 (hc:w'.heap[m'.b]?=some (.cells cells el (0,0))) (ht:cells.size=m'.total) (ON:m'.size=a.1) (hlen:∀ e∈cU,e.length=a.1) (hle:cU.length*a.1<=m'.total)
 (b6:∀ (k:Nat) (e:Z V) (j:Nat) (v:V),cU[k]?=some e->e[j]?=some v->∃ y,cells[k*a.1+j]?=some y/\fG I w F v y) (CH:Io w w':=by exact⟨rfl,rfl,rfl⟩) :
 R I w' F (sA μ id (g+1) m') P (C.wr id (.arr a.1 (g+1) cU false false true))/\Fr w F μ C w' F (sA μ id (g+1) m') (C.wr id (.arr a.1 (g+1) cU false false true)):=by
 obtain⟨de,cb⟩:=qO ha;have ez:=hR.row ha hm;have u5:=ez.hn v9;have hF:∀ b,F b->w'.heap[b]?=w.heap[b]?:=λb hb=>hw b (hR.Bj b hb) (λe=>u5 (e ▸ hb))
 have zJY:¬ F m'.b:=by
  grind
 refine hR.next (a8:=C.wr id (.arr a.1 (g+1) cU false false true)) (o':=.arr a.1 (g+1) cU false false true) de v9 (m:=m) (m':=m') hm rfl rfl b8 cC hb hw (λk=>Ey _ _ _ _) ?_ CH;intro m1 eg;rw[show (Obj.arr a.1 g a.2.1 a.2.2.1 a.2.2.2.1 a.2.2.2.2).gen+1=g+1 from rfl,cX]at eg;cases eg;refine⟨ON,hlen,⟨cells,el,hc,ht,hle,(λh=>by cases h),λk e j v hk hj=>?_⟩,(λh=>by cases h),λ_=>zJY⟩;obtain⟨y,hy,hp⟩:=b6 k e j v hk hj;have s8:=hp.mono I (λ_ h=>h) hF;exact⟨y,hy,.pure s8,λ_=>s8⟩
def Q0{ty e:TypeId}{i:TypeInfo}(ht:P.underlying t=some (.slice e))(hi:P.info? e=some i){a:Addr}{news:Z Value}(C:Src P i.size tx x n news w)
 (eA:zp+n<=oA) (eC:(storeCells (a.add (zp*i.size)) news).run P w=.ok () w') :
 (Builtin.append_ #[t,tx] ty #[.slice (some a) zp oA,x]).run P w=.ok (.slice (some a) (zp+n) oA) w':=by
 rcases C.kind with⟨e',hk⟩|hk<;>simp[Builtin.append_,Go.run_underlying ht,Go.run_underlying hk,sizeOf,typeInfo,hi,C.len,eA,C.cells,eC]
def zc3{ty e:TypeId}{i:TypeInfo}(ht:P.underlying t=some (.slice e))(hi:P.info? e=some i){base:Y Addr}(C:Src P i.size tx x 0 [] w)
 (eA:zp<=oA):(Builtin.append_ #[t,tx] ty #[.slice base zp oA,x]).run P w=.ok (.slice base zp oA) w:=by
 rcases C.kind with⟨e',hk⟩|hk<;>cases base<;>simp[Builtin.append_,Go.run_underlying ht,Go.run_underlying hk,sizeOf,typeInfo,hi,C.len,eA,C.cells,storeCells]
def zkR (hρ:Good I) (hR:R I w F μ P C)  (hid:H5 μ C jx) {tS:TypeId} {j:TI}  (hi:ti P tS=some i) (hd:i.desc=.slice el) (he:ti P el=some e)
 (hj:ti P tX=some j) (hdj:j.desc=.slice zEO) {s x:V} {S X:Value} (hS:dV I w F μ s S) (hX:dV I w F μ x X)  (h:Ck e C jx s x=some (v,a8)) :
 Wo I P w F μ C (Builtin.append_ #[tS,tX] tR #[S,X]) v a8:=by
 simp only[Ck,aA,bE,dx,jN,beq_false,beq_true,dI,lI,Q3]at h;obtain⟨new,bc,⟨la,cQ,cb,ot,D1⟩,h⟩:=h;obtain⟨_,_,_,hu1,_⟩:=DZ hi;obtain⟨_,_,_,hu2,_⟩:=DZ hj;rw[hd]at hu1;rw[hdj]at hu2;obtain⟨info,z,v8,hz,zDR,HH,zG4,b8,hby⟩:=Oq (I:=I) (w:=w) (F:=F) (μ:=μ) he;obtain⟨arr,rm,Qy⟩:=T6 (P:=P) hρ hR hu2 hX bc la cQ;rw[<- b8]at rm;have hzs:z.cells.size=e.size:=by rw[zDR.1,D1]
 have grow:∀ (es:Z (Z V)) (base:Y Addr) (oA:Nat) (gg:Array Value),(Builtin.firstCells e.size es.length (.slice base es.length oA)).run P w=.ok gg w->Flat I w F e.size es gg ->
  (∀ c∈es,c.length=e.size)->oA<es.length+new.length->(es.length+new.length)*e.bytes<=1048576 ->
  ∃ dT,es.length+new.length<=dT/\(Builtin.append_ #[tS,tX] tR #[.slice base es.length oA,X]).run P w=.ok (.slice (some ⟨w.heap.size,0,none⟩) (es.length+new.length) dT)
    (w.drew.alloc (.cells ((gg.toList++arr.toList).toArray++Builtin.zeroCells z.cells (dT-(es.length+new.length))) el)):=by
  intro es base oA gg hold Zo v5 cC eA
  have hle:es.length+new.length<=1048576:=by
   have:(es.length+new.length)*1<=(es.length+new.length)*e.bytes:=kK _ (by omega);omega
  refine⟨grownCap w (es.length+new.length) oA el,grownCap_ge ..,?_⟩;refine run_append_grow_src w tS tX tR el info z hu1 v8 hz base es.length oA gg.toList ?_ X new.length arr.toList rm cC (by omega) ?_
  . rw[b8];simpa using Hf hold
  . rw[hby];have O:=aN e.bytes (nextslicecap_le cC);have h3:2*(es.length+new.length)*e.bytes=2*((es.length+new.length)*e.bytes):=Nat.mul_assoc ..;omega
 have nothing:new.length=0->∀ (base:Y Addr) (len c:Nat),len<=c->(Builtin.append_ #[tS,tX] tR #[.slice base len c,X]).run P w=.ok (.slice base len c) w:=by
  intro h0 base len c hle
  have hnil:arr.toList=[]:=by
   have:=Qy.1;rw[h0]at this;simpa using this
  rw[h0,hnil]at rm;exact zc3 hu1 v8 rm hle
 split at h
 . simp only[FR,dI,xU]at h;have e1:=hS.CO;subst e1;by_cases h0:new.length=0
   . rw[beq_true.2 h0,iL]at h;cases h;exact⟨_,w,F,μ,nothing h0 none 0 0 (af _),hR,.pure .aE,Fr.refl ..⟩
   . rw[beq_false.2 h0,gZ]at h;simp only[bE,gY,Da]at h;obtain⟨eA,h⟩:=h;cases h;have zEg:Flat I w F e.size [] #[]:=⟨by simp,λk c j v hk=>by simp at hk⟩;obtain⟨nc,Ln,db⟩:=grow [] none 0 #[] rfl zEg (λc hc=>by simp at hc) (by simp;omega) (by simpa using eA);obtain⟨μ',g1,g2,g3⟩:=Pj (el:=el) hR hid hzs zEg Qy (λc hc=>by simp at hc) la Ln;simp only[nO,gI]at db g1 g2 g3;exact⟨_,_,F,μ',db,g1,g3,g2⟩
 . rename_i es tight;simp only[Jw,dI,xU]at h;by_cases h0:new.length=0
   . rw[beq_true.2 h0,iL]at h;cases h;have hp:=hS.CR
     have As:∃ base c,S=.slice base es.length c/\es.length<=c:=by
      cases hp with
      |po a c t ht=>exact⟨a,c,rfl,aW _⟩
      |qe _ b off size c t ys hb hl fc iv hle ht=>exact⟨_,c,rfl,hle⟩
     obtain⟨base,c,rfl,hle⟩:=As;exact⟨_,w,F,μ,nothing h0 base _ c hle,hR,.pure hp,Fr.refl ..⟩
   . rw[beq_false.2 h0,gZ]at h;simp only[bE,dx,gY,Da,lI]at h;obtain⟨⟨ht,eA,v5⟩,h⟩:=h;cases h;subst ht;obtain⟨base,c,CD,gg,hold,Zo⟩:=NH (P:=P) hR hS (size:=e.size) (es:=es) rfl v5
     have hc:c=es.length:=by
      have hp:=hS.CR;rw[CD]at hp
      cases hp with
      |po a c t ht=>exact ht rfl
      |qe _ b off size c t ys hb hl fc iv hle ht=>exact ht rfl
     subst CD;obtain⟨nc,Ln,db⟩:=grow es base c gg hold Zo v5 (by omega) eA;obtain⟨μ',g1,g2,g3⟩:=Pj (el:=el) hR hid hzs Zo Qy v5 la Ln;exact⟨_,_,F,μ',db,g1,g3,g2⟩
 . rename_i id g off len cap;simp only[CB,aA,bE,dx,beq_true,dI,xU,gY]at h;obtain⟨a,ha,⟨fN,LW,rp,eA⟩,h⟩:=h;obtain⟨m,c,hm,rfl,g1,g2,g3,g4⟩:=hS.wM;have ez:=hR.row ha hm;obtain⟨de,zKf⟩:=qO ha;have ON:m.size=a.1:=ez.eV;have Pf:Flat I w F a.1 new arr:=by rw[LW];exact Qy
   have zxj:∀ c∈new,c.length=a.1:=by rw[LW];exact la
   have Lk:off=off / a.1*a.1:=by have:=lS off a.1;rw[jV];omega
   obtain⟨cells,elm,AH,htot,hle,hex,b6⟩:=ez.cells
   have zhf:yH C id g off len cap a new=some (v,a8)->len+new.length<=c->Wo I P w F μ C (Builtin.append_ #[tS,tX] tR #[.slice (some ⟨m.b,off,none⟩) len c,X]) v a8:=by
    intro h b4;simp only[yH,bE,dx,jN,gY,dI]at h;obtain⟨⟨v9,eC⟩,h⟩:=h;cases h;obtain⟨w',k1,k2,k3⟩:=P5 hρ hR ha v9 hm Pf zxj cQ eC;have rS:(off / a.1+len)*a.1=off+len*info.size:=by rw[gK,<- Lk,b8,LW]
    rw[rS]at k1;refine⟨_,w',F,μ,Q0 hu1 v8 rm b4 (by rw[eI];exact k1),k2,?_,k3⟩;exact .own id g off _ cap c m hm b4 g2 g3 g4
   cases cap with
   | some k =>
     rw[lJ]at h;have hck:=g3 k rfl;subst hck;by_cases b4:len+new.length<=c
     . rw[gY.2 b4,iL]at h;exact zhf h b4
     . rw[PN.2 (by omega),gZ]at h;simp only[aA,Da]at h;obtain⟨zLO,LI,h⟩:=h;obtain⟨eg,jz,rfl⟩:=Px LI;cases h;have fX:((a.2.1.drop (off / a.1)).take len).length=len:=by simp;omega
       have v5:∀ c∈(a.2.1.drop (off / a.1)).take len,c.length=e.size:=λc hc=>by rw[<- LW];exact ez.hlen c (mU (fK hc))
       obtain⟨base,c',CD,gg,hold,Zo⟩:=NH (P:=P) hR hS (size:=e.size) (es:=(a.2.1.drop (off / a.1)).take len) (by
        show (W (mP C id g) λa=>gd (et a.2.2.2.2 (Nat.beq a.1 e.size)) (Bp a.1 off len a.2.1))=_;rw[ha,dY,fN,LW,<- LW];rw[show et true (Nat.beq a.1 a.1)=true from dx.2 ⟨rfl,beq_true.2 rfl⟩,qY]
        exact LI) v5
       rw[fX]at CD hold;cases CD;have hgrow:=grow ((a.2.1.drop (off / a.1)).take len) (some ⟨m.b,off,none⟩) c gg (by rw[fX];exact hold) Zo v5 (by rw[fX];omega) (by rw[fX];exact eA);obtain⟨nc,Ln,db⟩:=hgrow;obtain⟨μ',k1,k2,k3⟩:=Pj (el:=el) hR hid hzs Zo Qy v5 la Ln;rw[fX]at db k1 k2 k3;exact⟨_,_,F,μ',db,k1,k3,k2⟩
   | none =>
     rw[AB]at h;have Zm:=g4 rfl;have oR:0<a.1:=Nat.pos_of_ne_zero zKf;by_cases b4:off / a.1+len+new.length<=a.2.1.length
     . rw[gY.2 b4,iL]at h;refine zhf h ?_;have M:(off / a.1+len+new.length)*a.1<=a.2.1.length*a.1:=aN _ b4;rw[eD,gK,<- Lk]at M;have O:off+(len+new.length)*a.1<=off+c*a.1:=by rw[ON]at Zm;omega
       exact Nat.le_of_mul_le_mul_right (by omega) oR
     . rw [PN.2 (by omega),gZ]at h;simp only[bE,dx,jN,beq_true,gY]at h;obtain⟨⟨v9,rfl,hlen⟩,h⟩:=h;cases h;rw[xQ];have hzd:(0:Nat) / a.1=0:=Nat.zero_div _;have v5:∀ c∈a.2.1.take len,c.length=a.1:=λc hc=>ez.hlen c (fK hc)
       have fX:(a.2.1.take len).length=len:=by simp;omega
       have cC:m.b<w.heap.size:=hR.lt _ _ _ hm
       have gA:∀ c∈jY (a.2.1.take len) new,c.length=a.1:=by
        intro c hc;rw[oo]at hc;rcases bA.1 hc with h|h
        . exact v5 c h
        . exact zxj c h
       have zEh:(jY (a.2.1.take len) new).length=len+new.length:=by rw[oo,bB,fX]
       by_cases Zj:len+new.length<=c
       . -- in place
         have zoi:len*a.1+arr.size<=cells.size:=by
          rw[Pf.1,<- gK,htot];have:(len+new.length)*a.1<=c*a.1:=aN _ Zj;rw[ON]at Zm;omega
         have eC:=EB (P:=P) (o:=len*a.1) AH (vs:=arr.toList) (by simpa using zoi) (Pf.one hρ zxj cQ)
         have zon:∀ (k:Nat) (c:Z V) (j:Nat) (v:V),(jY (a.2.1.take len) new)[k]?=some c->c[j]?=some v->∃ y,(cover cells (len*a.1) arr.toList)[k*a.1+j]?=some y/\fG I w F v y:=by
          intro k c j v hk hj;rw[J8 (by simpa using zoi)];simp only[jB,Pf.1]
          have kx:j<a.1:=by
           obtain⟨cC,_⟩:=aM.1 hj
           rwa [gA c (aC hk)]at cC
          rw[oo]at hk;by_cases nh:k<len
          . rw[jW (by omega),rT,if_pos nh]at hk;obtain⟨y,hy,_,hp⟩:=b6 k c j v hk hj;have:(k+1)*a.1<=len*a.1:=aN _ nh;rw[gK]at this;rw[if_neg (by omega)];exact⟨y,hy,hp fN⟩
          . rw[eQ (by omega),fX]at hk;obtain⟨y,hy,hp⟩:=Pf.2 (k-len) c j v hk hj;obtain⟨zxd,_⟩:=dX.1 hy;rw[Pf.1]at zxd;have e1:k*a.1=len*a.1+(k-len)*a.1:=by rw[<- gK];congr 1;omega
            rw[if_pos (by omega),show k*a.1+j-len*a.1=(k-len)*a.1+j by omega,gy];exact⟨y,hy,hp⟩
         have hn:=zbG hR ha v9 hm (w':=w.setRow m.b (cover cells (len*a.1) arr.toList)) (m':=m) (cells:=cover cells (len*a.1) arr.toList) (cU:=jY (a.2.1.take len) new) (by simp) (by simpa using cC) (.inl rfl)
          (λb _ hb=>setRow_other w m.b b _ hb) (setRow_heap w m.b _ _ _ _ AH) (by rw[Mc (by simpa using zoi)];exact htot) ON gA (by
            rw[zEh];have:(len+new.length)*a.1<=c*a.1:=aN _ Zj
            rw[ON]at Zm;omega) zon
         refine⟨_,_,F,_,Q0 hu1 v8 rm Zj (by rw[eI,gI,b8,<- LW];exact eC),hn.1,?_,hn.2⟩;exact .own id (g+1) 0 _ none c m (cX ..) Zj (by omega) (λk hk=>by cases hk) (λ_=>Zm)
       . -- a new block
         obtain⟨base,c',CD,gg,hold,Zo⟩:=NH (P:=P) hR hS (size:=e.size) (es:=a.2.1.take len) (by
          show (W (mP C id g) λa=>gd (et a.2.2.2.2 (Nat.beq a.1 e.size)) (Bp a.1 0 len a.2.1))=_;rw[ha,dY,fN,<- LW];rw[show et true (Nat.beq a.1 a.1)=true from dx.2 ⟨rfl,beq_true.2 rfl⟩,qY];unfold Bp
          rw[Nat.zero_mod,hzd,gI,dI,show et (Nat.beq 0 0) (Nat.ble len a.2.1.length)=true from dx.2 ⟨rfl,gY.2 hlen⟩,qY,xQ,yx,sw]) (by rw[<- LW];exact v5)
         rw[fX]at CD hold;cases CD;obtain⟨nc,Ln,db⟩:=grow (a.2.1.take len) (some ⟨m.b,0,none⟩) c gg (by rw[fX];exact hold) Zo (by rw[<- LW];exact v5) (by rw[fX];omega) (by rw[fX];exact eA);obtain⟨lx,zon⟩:=Qz hzs Zo Qy Ln
         have hn:=zbG hR ha v9 hm (w':=w.drew.alloc (.cells ((gg.toList++arr.toList).toArray++Builtin.zeroCells z.cells (nc-((a.2.1.take len).length+new.length))) el)) (m':=⟨w.heap.size,a.1,nc*a.1⟩)
          (cells:=(gg.toList++arr.toList).toArray++Builtin.zeroCells z.cells (nc-((a.2.1.take len).length+new.length))) (el:=el) (cU:=jY (a.2.1.take len) new) (by rw[show (w.drew.alloc _).heap.size=w.heap.size+1 from nQ w.drew _];omega)
          (by rw[show (w.drew.alloc _).heap.size=w.heap.size+1 from nQ w.drew _];exact iZ _) (.inr (af _)) (λb hb _=>qp w.drew _ hb) (uI w.drew _) (by rw[lx,LW]) rfl gA
          (by rw[zEh];exact aN _ (by rw[<- fX];exact Ln)) (by rw[LW];exact zon)
         have iv:∀ h2:World,dV I h2 F (sA μ id (g+1) ⟨w.heap.size,a.1,nc*a.1⟩) (.own id (g+1) 0 (len+new.length) none) (.slice (some ⟨w.heap.size,0,none⟩) ((a.2.1.take len).length+new.length) nc):=by
          intro h2;rw[fX];refine .own id (g+1) 0 _ none nc ⟨w.heap.size,a.1,nc*a.1⟩ (cX ..) (by rw[<- fX];exact Ln) ?_ (λk hk=>by cases hk) (λ_=>?_)
          . show 0+nc*a.1<=nc*a.1;omega
          . show 0+nc*a.1=nc*a.1;omega
         have hrun':(Builtin.append_ #[tS,tX] tR #[.slice (some ⟨m.b,0,none⟩) len c,X]).run P w=.ok (.slice (some ⟨w.heap.size,0,none⟩) ((a.2.1.take len).length+new.length) nc)
          (w.drew.alloc (.cells ((gg.toList++arr.toList).toArray++Builtin.zeroCells z.cells (nc-((a.2.1.take len).length+new.length))) el)):=by
          rw[<- db,fX]
         exact⟨_,_,F,_,hrun',hn.1,iv _,hn.2⟩
 . cases h
theorem zr8(a b:Nat):znD a b=Nat.min a b:=by
 grind [znD,gY,iL,Nat.min_eq_left,PN,gZ,Nat.min_eq_right]
def zs8 (hρ:Good I) (hR:R I w F μ P C) {tD:TypeId}   (hi:ti P tD=some i) (hd:i.desc=.slice el) (he:ti P el=some e)
 {d x:V} {D X:Value} (hD:dV I w F μ d D) (hX:dV I w F μ x X)  (h:zcx e C d x=some (v,a8)) :
 Wo I P w F μ C (Builtin.copy_ #[tD,tX] tR #[D,X]) v a8:=by
 simp only[zcx,aA]at h;obtain⟨src,rm,h⟩:=h
 have head:∀ (base:Y Addr) (dl dc:Nat) (bx:Y Addr) (n c:Nat) (arr:Array Value) (h2:World),D=.slice base dl dc->X=.slice bx n c->(Builtin.firstCells e.size (Nat.min n dl) X).run P w=.ok arr w ->
  (match base with
  |some a=>storeCells a arr.toList
  |none=>pure ():Sem Unit).run P w=.ok () h2->(Builtin.copy_ #[tD,tX] tR #[D,X]).run P w=.ok (.int .i64 (Nat.min n dl:Nat)) h2:=by
  intro base dl dc bx n c arr h2 M O h3 h4;subst M;subst O
  cases base with
  | none =>
    simp only[Sem.run_pure]at h4;cases h4;simp[Builtin.copy_,gP hi,hd,Builtin.lenOf,uf he,h3,goInt]
  | some a =>
    simp only at h4;simp[Builtin.copy_,gP hi,hd,Builtin.lenOf,uf he,h3,goInt,h4]
 split at h
 . rename_i id g off len cap;simp only[ZM,aA,bE,dx,jN,beq_true,lI,Q3,gY,dI,zr8,xQ]at h;obtain⟨a,ha,⟨v9,fN,LW,rp,b9,td,b4⟩,h⟩:=h;cases h;obtain⟨base,c,rfl,D4⟩:=UZ (P:=P) hR hX rm b9;obtain⟨m,cD,hm,rfl,g1,g2,g3,g4⟩:=hD.wM;obtain⟨arr,M,O⟩:=D4 (Nat.min src.length len) (Nat.min_le_left ..);have hlen:(src.take (Nat.min src.length len)).length=Nat.min src.length len:=by simp[Nat.min_def];split<;>omega
   obtain⟨w',k1,k2,k3⟩:=P5 hρ hR ha v9 hm (by rw[LW];exact O) (λc hc=>by rw[LW];exact b9 c (fK hc)) (λc hc=>td c (fK hc)) (st:=off / a.1) (by rw[hlen];exact b4);have Lk:off / a.1*a.1=off:=by have:=lS off a.1;rw[jV];omega
   rw[Lk]at k1;rw[fN]at k2 k3;exact⟨_,w',F,μ,head _ _ _ _ _ _ arr w' rfl rfl M k1,k2,.pure (.int _ _),k3⟩
 . cases h;have e1:=hD.CO;subst e1
   have:∃ bx n c,X=.slice bx n c:=by
    unfold zW at rm;split at rm
    . exact⟨_,_,_,hX.CO⟩
    . have hp:=hX.CR
      cases hp with
      |po a c t ht=>exact⟨_,_,_,rfl⟩
      |qe _ b off size c t ys hb hl fc iv hle ht=>exact⟨_,_,_,rfl⟩
    . obtain⟨m,c,hm,rfl,_⟩:=hX.wM;exact⟨_,_,_,rfl⟩
    . cases rm
   obtain⟨bx,n,c,rfl⟩:=this;refine⟨_,w,F,μ,head none 0 0 bx n c #[] w rfl rfl ?_ rfl,hR,?_,Fr.refl ..⟩
   . rw[show Nat.min n 0=0 from Nat.min_eq_right (aW _)];cases bx<;>simp[Builtin.firstCells,loadCells,loadCellsFrom]
   . rw[show Nat.min n 0=0 from Nat.min_eq_right (aW _)];exact .pure (.int _ _)
 . cases h
theorem zoS(hR:R I w F μ P C)(hx:dV I w F μ v x)(h:Dv dr v C=some (v',a8)) :
 ∃ F',R I w F' μ P a8/\Fr w F μ C w F' μ a8/\pQ C a8/\fG I w F' v' x:=by
 unfold Dv at h
 cases dr with
 | true =>
   grind [iL,bE,Fr.refl,pQ.refl,dV.BZ]
 |false=>rw[gZ]at h;exact zC hR hx h
def zeg(dr:Bool)(e:TI)(len:Nat)(C:HS)(es:Z (Z V)):zF dr T e len [] C es=some (es,C):=rfl
def zbA(dr:Bool)(e:TI)(len:Nat)(p:Nat×Operand)(l:Z (Nat×Operand))(C:HS)(es:Z (Z V)):zF dr T e len (p::l) C es =
 W (bV T p.2) λv=>W (Dv dr v C) λr=>gd (et (Nat.beq (dA r.1.cells) e.size) (Nat.blt p.1 len)) (zF dr T e len l r.2 (VY es p.1 r.1.cells)):=rfl
theorem znc (hρ:Good I)   {len:Nat} :∀ (l:Z (Nat×Operand)) {F:Nat->Prop} {C:HS} {es cU:Z (Z V)} {a8:HS} {cells:Array Value},
 R I w F μ P C->kH I w F μ T a.tmps->zF dr T e len l C es=some (cU,a8)->es.length=len->(∀ c∈es,c.length=e.size)->Flat I w F e.size es cells ->
 ∃ F' cx,Instr.fill (λi=>some (i*e.size,e.size)) cells (l.map λ(i,x)=>(i,a.eval x))=some cx/\R I w F' μ P a8/\Fr w F μ C w F' μ a8/\pQ C a8/\cU.length=len/\(∀ c∈cU,c.length=e.size)/\Flat I w F' e.size cU cx:=by
 intro l
 induction l with
 | nil =>
   intro F C es cU a8 cells hR hT h hl hc hf;rw[zeg]at h;cases h;exact⟨F,cells,rfl,hR,Fr.refl ..,pQ.refl _,hl,hc,hf⟩
 | cons p l ih =>
   intro F C es cU a8 cells hR hT h hl hc hf;rw[zbA]at h;simp only[aA,bE,dx,beq_true,gz,dI,YD]at h;obtain⟨v,hv,⟨v',cm⟩,eb,⟨M,O⟩,h⟩:=h;dsimp only at M h;obtain⟨F1,k1,k2,k3,k4⟩:=zoS hR (dJ hT hv) eb;have hpc:=TH hρ k4;have Bs:(a.eval p.2).cells.size=e.size:=by rw[hpc.1,M]
   have Lz:(p.1+1)*e.size<=es.length*e.size:=aN _ (by omega);rw[gK,Nat.one_mul]at Lz;have rN:=hf.1;obtain⟨q1,q2⟩:=zcd (p.1*e.size) (a.eval p.2).cells cells;have hFm:∀ v y,fG I w F v y->fG I w F1 v y:=λv y h=>h.mono I k2.fm (λ_ _=>rfl)
   have Qy:Flat I w F1 e.size (es.set p.1 v'.cells) ((a.eval p.2).cells.zipIdx.foldl (λcs (q:Value×Nat)=>cs.setIfInBounds (p.1*e.size+q.2) q.1) cells):=by
    refine⟨by rw[q1,List.length_set];exact rN,λk c j u hk hj=>?_⟩;rw[q2,Bs];rw[mG]at hk;by_cases me:p.1=k
    . subst me;rw[if_pos rfl,if_pos (by omega)]at hk;cases hk;obtain⟨kx,_⟩:=aM.1 hj;rw[if_pos (by omega),show p.1*e.size+j-p.1*e.size=j by omega];have cC:j<(a.eval p.2).cells.size:=by omega
      refine⟨(a.eval p.2).cells[j],by simp[cC],?_⟩;have:=hpc.2 j u hj
      rwa [bR,fe cC]at this
    . rw [if_neg me]at hk
      have kx:j<e.size:=by
       grind
      rw[if_neg]
      . obtain⟨y,hy,hp⟩:=hf.2 k c j u hk hj
        grind
      . rintro ⟨h3,h4,_⟩;rcases nY me with cC|cC
        . have:(p.1+1)*e.size<=k*e.size:=aN _ cC
          grind
        . have:(k+1)*e.size<=p.1*e.size:=aN _ cC;rw[gK]at this;omega
   obtain⟨F',cx,r1,r2,r3,r4,r5,r6,r7⟩:=ih k1 (k2.zv1 hR hT) h (by rw[List.length_set];exact hl) (λc vf=>by
    rcases gW vf with h|h
    . exact hc c h
    . rw[h];exact M) Qy
   refine⟨F',cx,?_,r2,k2.trans r3,k3.trans r4,r5,r6,r7⟩;cases p;simp only[aR,Instr.fill];rw[if_neg]
   . exact r1
   . simp only[iJ,decide_eq_true_eq,ne_eq,not_or,Decidable.not_not];dsimp only at Bs Lz;constructor
     . exact Bs
     . omega
def pQ.none{a b:HS}{id:Nat}(h:pQ a b)(hf:a.H.get id=none):b.H.get id=none:=by
 rcases h.2 id with M|⟨_,_,_,_,_,_,M,_⟩
 . rw[M];exact hf
 . rw[hf]at M;cases M
def pQ.free{a b:HS}{id:Nat}(h:pQ a b)(hf:H5 μ a id):H5 μ b id:=⟨h.none hf.1,hf.2⟩
theorem znz(hR:R I w F μ P C){id:Nat}(hid:H5 μ C id)(B:_root_.Go.Obj) :
 R I (qL w B) (λb=>F b\/b=w.heap.size) μ P (C.put id (.mp []))/\Fr w F μ C (qL w B) (λb=>F b\/b=w.heap.size) μ (C.put id (.mp [])):=by
 have hold:∀ b,b<w.heap.size->(qL w B).heap[b]?=w.heap[b]?:=λb hb=>qp _ _ hb
 have de:∀ k,(C.put id (.mp [])).H.get k=if k=id then some (.mp [])else C.H.get k:=λk=>ma _ _ _ _
 have b8:=nQ w B
 refine⟨⟨λi g m hm=>by have:=hR.lt i g m hm;omega,λb hb=>?_,λi o ho=>?_,λi j o o' m m' ho h1 hm eR he=>?_,λi o ho g hg=>?_,hR.gl.bw (λb hb=>.inl hb) λb hb=>hold b (hR.Bj b hb)⟩,
  ⟨⟨rfl,rfl,rfl⟩,by omega,λb hb _=>hold b hb,λb hb=>.inl hb,λb hb=>?_,λ_ _ _ h=>h,?_,λk hk=>?_,λk _ g=>rfl,λk _ h=>h,λi g m hm=>.inr ⟨i,g,m,hm,rfl⟩⟩⟩
 . rcases hb with hb|rfl
   . have:=hR.Bj b hb;omega
   . omega
 . rw[de]at ho;split at ho
   . rename_i e;cases ho;subst e;intro m hm;rw[hid.2]at hm;cases hm
   . refine(hR.obj i o ho).mono (λb hb=>.inl hb) (λb hb=>hold b (hR.Bj b hb)) (λ_ _ _ h=>h) (λ_ h=>h) (λm hm=>hold _ (hR.lt _ _ _ hm)) (λm hm _ hn hF=>?_);rcases hF with hF|hF
     . exact hn hF
     . have:=hR.lt _ _ _ hm;omega
 . rw[de]at ho h1;split at ho
   . rename_i e;cases ho;subst e;rw[hid.2]at hm;cases hm
   . split at h1
     . rename_i e;cases h1;subst e;rw[hid.2]at eR;cases eR
     . exact hR.inj i j o o' m m' ho h1 hm eR he
 . rw[de]at ho;split at ho
   . rename_i e;subst e;exact hid.2 g
   . exact hR.y7 i o ho g hg
 . grind
 . rintro b ⟨i,o,m,ho,hz,hm,rfl⟩;rw[de]at ho;split at ho
   . rename_i e;cases ho;subst e;rw[hid.2]at hm;cases hm
   . exact .inl ⟨i,o,m,ho,hz,hm,rfl⟩
 grind
def Wm (hρ:Good I) (hR:R I w F μ P C) {id:Nat} (hid:H5 μ C id)   (hT:kH I w F μ T a.tmps)  {len:Nat} {parts:Array (Nat×Operand)}  
 (h:jT P dr T C id t len parts=some (v,a8)):Wo I P w F μ C (Instr.buildSlice t len (parts.map λ(i,x)=>(i,a.eval x))) v a8:=by
 simp only[jT,aA,bE,dx,jN,beq_true,beq_false,gY,dI,zy,YI]at h;obtain⟨i,hi,el,hd,e,he,⟨hsmall,cb,D1,hpz⟩,⟨es,cm⟩,Wk,h⟩:=h;cases h;obtain⟨info,z,v8,hz,zDR,HH,zG4,b8,hby⟩:=Oq (I:=I) (w:=w) (F:=F) (μ:=μ) he;have b6:=Ws (w:=w) he D1 zDR len zG4;obtain⟨F',cx,r1,r2,r3,r4,r5,r6,r7⟩:=znc hρ parts.toList hR hT Wk (by simp) (λc hc=>by rw[List.eq_of_mem_replicate hc];exact D1) (cells:=(Array.range (len*e.size)).map (z.cells[· % z.cells.size]!)) ⟨by simp,b6⟩;have zb5:(parts.map λ(i,x)=>(i,a.eval x)).toList=parts.toList.map λ(i,x)=>(i,a.eval x):=by simp
 have db:(Instr.buildSlice t len (parts.map λ(i,x)=>(i,a.eval x))).run P w=.ok (.slice (some ⟨w.heap.size,0,none⟩) len len) (qL w (.cells cx el)):=by
  have hbig:¬ len*e.size>2 ^ 24:=by omega
  simp only[Instr.buildSlice,Sem.run_bind,gP hi,Result.andThen_ok,hd,uf he,if_neg hbig,zb5];by_cases h0:len*e.size=0
  . have tp:(Array.range (len*e.size)).map (z.cells[· % z.cells.size]!)=(Array.range (len*e.size)).map (λx=>(#[]:Array Value)[x % (#[]:Array Value).size]!):=by
     rw[h0];simp[show Array.range 0=#[] from rfl]
    rw[tp]at r1;simp only[if_pos h0,Sem.run_pure,Result.andThen_ok,r1,Go.newRow,Sem.run_bind,run_newObj];rfl
  . simp only[if_neg h0,Sem.run_bind,HH,Sem.run_pure,Result.andThen_ok,r1,Go.newRow,run_newObj];rfl
 cases zN6:Nat.beq e.bytes 128 with
 | true =>
   have fN:=Y2 r2 (r4.free hid) (w':=qL w (.cells cx el)) (size:=e.size) (es:=es) (exact:=true) (row:=true) (cells:=cx) (el:=el) (nQ _ _) (uI _ _) (λb hb=>qp _ _ hb) r6 (Nat.le_of_eq r7.1.symm) (λ_=>r7.1) (λk x j v hk hj=>by
    obtain⟨y,hy,hp⟩:=r7.2 k x j v hk hj
    exact⟨y,hy,.pure hp,λ_=>hp⟩)
   refine⟨.slice (some ⟨w.heap.size,0,none⟩) len len,qL w (.cells cx el),_,_,db,fN.1,?_,r3.trans fN.2⟩;have hc:cx.size=len*e.size:=by rw[r7.1,r5]
   exact .own id 0 0 len (some len) len _ (cX ..) (af _) (by simp[hc]) (λk hk=>by cases hk;rfl) (λh=>by cases h)
 | false =>
   have hg:=znz r2 (r4.free hid) (.cells cx el);refine⟨.slice (some ⟨w.heap.size,0,none⟩) len len,qL w (.cells cx el),_,μ,db,hg.1,.pure ?_,r3.trans hg.2⟩;rw[<- r5]
   have fc:∀ (k:Nat) (c:Z V) (j:Nat) (u:V),es[k]?=some c->c[j]?=some u->∃ y,(qL w (.cells cx el)).cell? ⟨w.heap.size,0+k*e.size+j,none⟩=some y/\fG I (qL w (.cells cx el)) (λb=>F' b\/b=w.heap.size) u y:=by
    intro k c j u hk hj;obtain⟨y,hy,hp⟩:=r7.2 k c j u hk hj;refine⟨y,?_,hp.mono I (λb hb=>.inl hb) (λb hb=>qp _ _ (r2.Bj b hb))⟩;rw[gI];simp only[World.cell?,uI,mE];exact hy
   exact .qe es w.heap.size 0 e.size es.length true (λk j=>((qL w (.cells cx el)).cell? ⟨w.heap.size,0+k*e.size+j,none⟩).getD undef) (.inr rfl) r6 (λk c j u hk hj=>by
    obtain⟨y,hy,_⟩:=fc k c j u hk hj
    rw[hy];rfl) (λk c j u hk hj=>by
    obtain⟨y,hy,hp⟩:=fc k c j u hk hj
    rw[hy];exact hp) (af _) (λ_=>rfl)
def CV{r:Nat}{o:_root_.Go.Obj}(h:w.heap[r]?=some o)(hc:∀ c e f,o≠.cells c e f):(getObj r).run P w=.ok o w:=by
 cases o<;>first|(exact absurd rfl (hc _ _ _))|simp[getObj,Sem.run,h]
def CU{r:Nat}{o:_root_.Go.Obj}(h:w.heap[r]?=some o)(hc:∀ c e f,o≠.cells c e f):(setObj r o').run P w=.ok () { w with heap:=w.heap.setIfInBounds r o' }:=by
 cases o<;>first|(exact absurd rfl (hc _ _ _))|simp[setObj,Sem.run,h]
def R.map(hR:R I w F μ P C){id:Nat}{es:Z (V×V)}(h:C.H.get id=some (.mp es)){m:MI}(hm:μ id 0=some m):zpw I w F m es:=hR.obj id _ h m hm
def zv {o:Obj}{es:Z (V×V)}:o.mp?=some es↔o=.mp es:=by cases o<;>simp[Obj.mp?]
def znM(hR:R I w F μ P C)(hi:ti P t=some i)(hx:dV I w F μ v x)(h:N2 C i.desc v=some n) :
 xJ I P w F μ (Builtin.len_ (t::ts).toArray tR #[x]) (.int .i64 (Int.ofNat n)):=by
 refine⟨.int .i64 (n:Int),?_,.pure (.int _ _)⟩;unfold N2 at h;split at h
 . rename_i hd;simp only[aA,V.lO]at h;obtain⟨s,rfl,h⟩:=h;cases h;obtain⟨s,rfl,rfl⟩:=hx.BU;rw[dI,xD];simp[Builtin.len_,gP hi,hd,goInt]
 . rename_i el hd;split at h
   . cases h;rw[hx.CO];simp[Builtin.len_,gP hi,hd,goInt]
   . cases h;rw[dI];have hp:=hx.CR
     cases hp with
     |po a c t ht=>simp[Builtin.len_,gP hi,hd,goInt]
     |qe _ b off size c t ys hb hl fc iv hle ht=>simp[Builtin.len_,gP hi,hd,goInt]
   . cases h;obtain⟨m,c,hm,rfl,_⟩:=hx.wM;simp[Builtin.len_,gP hi,hd,goInt]
   . cases h
 . rename_i k el hd;split at h
   . cases h;rw[hx.LC];simp[Builtin.len_,gP hi,hd,goInt]
   . simp only[aA,zv]at h;obtain⟨o,ho,es,rfl,h⟩:=h;cases h;obtain⟨m,hm,rfl⟩:=hx.Gm;obtain⟨⟨en,clock,Pe,gA,_⟩,_⟩:=hR.map ho hm;rw[dI];have hg:=CV (P:=P) Pe (λc e f h=>by cases h);simp[Builtin.len_,gP hi,hd,goInt,hg,gA]
   . cases h
 . cases h
theorem Dh(h:uw d k=true)(hk:dV I w F μ k K) :
 (∃ j n,d=.int j/\k=.int j n/\K=.int j n)\/(∃ s,d=.string/\k=.str (bytesOf s)/\K=.string s)\/(∃ b,d=.bool/\k=.bool b/\K=.bool b):=by
 unfold uw at h;split at h
 . split at h
   . rename_i j k' n;rw[Ee]at h;subst h;exact .inl ⟨_,_,rfl,rfl,hk.lG⟩
   . cases h
 . split at h
   . obtain⟨s,rfl,rfl⟩:=hk.BU
     grind
   . cases h
 . split at h
   . exact .inr (.inr ⟨_,rfl,rfl,hk.uE⟩)
   . cases h
 . cases h
theorem zbV{a:V}{A:Value}{b:Bool}(hk:dV I w F μ k K)(ha:fG I w F a A)(er:uw d k=true)(h:KM k a=some b) :
 Instr.sameNow d K A=some b/\(b=true->a=k):=by
 have ha':dV I w F (λ_ _=>none) a A:=.pure ha;rcases Dh er hk with⟨j,n,rfl,rfl,rfl⟩|⟨s,rfl,rfl,rfl⟩|⟨q,rfl,rfl,rfl⟩
 . simp only[KM,aA,bE,V.fp,Ee]at h;obtain⟨⟨k',m⟩,rfl,he,h⟩:=h;dsimp only at he;subst he;cases h;rw[ha'.lG];refine⟨by simp[Instr.sameNow,ZE],λh=>?_⟩;rw[NF]at h;rw[h]
 . simp only[KM,aA,V.lO]at h;obtain⟨t,rfl,h⟩:=h;cases h;obtain⟨t,rfl,rfl⟩:=ha'.BU;refine⟨by simp[Instr.sameNow,zck],λh=>?_⟩;rw[Cz]at h;rw[h]
 . simp only[KM,aA,V.fL]at h;obtain⟨c,rfl,h⟩:=h;cases h;rw[ha'.uE];refine⟨by simp[Instr.sameNow,FN],λh=>?_⟩
   grind [FN]
def zj7(k:V):UL k []=some none:=rfl
def ze1(k:V)(p:V×V)(l:Z (V×V)):UL k (p::l)=W (KM k p.1) λq=>bi q (some (some p.2)) (UL k l):=rfl
def LS    (hk:dV I w F μ k K) (er:uw d k=true):∀ (es:Z (V×V)) (en:Z MapEntry) (i:Nat) {r:Y V},en.length=es.length ->
 (∀ (i:Nat) (k v:V),es[i]?=some (k,v)->∃ e:MapEntry,en[i]?=some e/\fG I w F k e.key/\fG I w F v e.val)->UL k es=some r ->
 (r=none/\Instr.findNow d K en i=some none)\/(∃ v j x,r=some v/\Instr.findNow d K en i=some (some (i+j,x))/\fG I w F v x/\j<es.length):=by
 intro es
 induction es with
 | nil =>
   intro en i r hl _ h;rw[zj7]at h;cases h;have:en=[]:=by simpa using hl
   subst this;exact .inl ⟨rfl,rfl⟩
 | cons p es ih =>
   intro en i r hl b6 h
   cases en with
   |nil=>simp at hl
   | cons e en =>
     rw[ze1]at h;simp only[aA]at h;obtain⟨q,hq,h⟩:=h;obtain⟨e',xF,M,O⟩:=b6 0 p.1 p.2 rfl;simp at xF;subst xF;obtain⟨C,_⟩:=zbV hk M er hq
     cases q with
     | true =>
       rw[iL]at h;cases h;exact .inr ⟨p.2,0,e.val,rfl,by simp[Instr.findNow,C],O,by simp⟩
     | false =>
       rw[gZ]at h;have:=ih en (i+1) (by simpa using hl) (λi k v hi=>b6 (i+1) k v (by simpa using hi)) h;rcases this with⟨h3,h4⟩|⟨v,j,x,h3,h4,h5,h6⟩
       . exact .inl ⟨h3,by simp[Instr.findNow,C,h4]⟩
       . exact .inr ⟨v,j+1,x,h3,by simp[Instr.findNow,C,h4];omega,h5,by simp;omega⟩
def QV(OR:ti P t=some ki)(hk:dV I w F μ k K)(er:uw ki.desc k=true)(b:Bool):(Instr.checkKey b 10000 t K).run P w=.ok () w:=by
 have key:∀ n,(Instr.checkKey b (n+1) t K).run P w=.ok () w:=by
  intro n;simp only[Instr.checkKey,Sem.run_bind,gP OR,Result.andThen_ok];rcases Dh er hk with⟨j,n,hd,rfl,rfl⟩|⟨s,hd,rfl,rfl⟩|⟨q,hd,rfl,rfl⟩<;>rw[hd]<;>rfl
 exact key 9999
def zh2(he:ti P t=some e)(h:zao e=some v):∃ z,(zeroValue t).run P w=.ok z w/\dV I w F μ v z:=by
 have xF:=he;simp only[ti,aA]at xF;obtain⟨info,M,d,O,z,h3,cs,h4,h5⟩:=xF;cases h5;obtain⟨hl,hz⟩:=yf (I:=I) (w:=w) (F:=F) h4;refine⟨z,by simp[zeroValue,typeInfo,M,h3],?_⟩;unfold zao at h;simp only at h
 cases HE:znT z with
 | true =>
   rw[HE,iL]at h;cases h;cases z<;>first|(cases HE;done)|skip
   rename_i cells;refine .agg cs cells (by simpa [Value.cells]using hl) λi u hi=>?_
   obtain⟨x,hx,hr⟩:=hz i u hi;have tj:cells[i]?=some x:=by simpa [Value.cells]using hx
   rw[bR,tj];exact .pure hr
 | false =>
   rw[HE,gZ,sI]at h;obtain⟨x,hx,hr⟩:=hz 0 v h;have hc:z.cells=#[z]:=by cases z<;>first|rfl|(cases HE)
   rw[hc]at hx;simp at hx;subst hx;exact .pure hr
theorem zjA (hR:R I w F μ P C)  (hT:kH I w F μ T a.tmps)  {k:Operand} {ok:Bool}   (h:mq P T C t m k ok=some (v,a8)) :
 a8=C/\xJ I P w F μ (Instr.lookup t (a.eval m) (a.eval k) ok) v:=by
 simp only[mq,aA,bE,zbN]at h;obtain⟨i,hi,⟨kt,el⟩,hd,ki,OR,e,he,mv,hm,kv,hk,er,es,gA,r,hr,u,hu,h⟩:=h;cases h;refine⟨rfl,?_⟩;have hkr:=dJ hT hk;have hmr:=dJ hT hm;have hck:=QV (P:=P) OR hkr er
 have fin:∀ (en:Array MapEntry),((a.eval m=.map none/\en=#[])\/∃ r c,a.eval m=.map (some r)/\(getObj r).run P w=.ok (.map en c) w)->en.size=es.length ->
  (∀ (i:Nat) (k v:V),es[i]?=some (k,v)->∃ e:MapEntry,en[i]?=some e/\fG I w F k e.key/\fG I w F v e.val) ->
  xJ I P w F μ (Instr.lookup t (a.eval m) (a.eval k) ok) (bi ok (.tuple [u,.bool (fV r)]) u):=by
  intro en Pe b8 b6;have hf:=LS hkr er es en.toList 0 (by simpa using b8) (λi k v hi=>by simpa using b6 i k v hi) hr
  have zHb:∀ q,Instr.findNow ki.desc (a.eval k) en.toList 0=some q->(Instr.findKey kt (a.eval k) en.toList).run P w=.ok q w:=by
   intro q hq;simp only[Instr.findKey,Sem.run_bind,gP OR,Result.andThen_ok,hq,Sem.run_pure]
  have kj:∃ x,dV I w F μ u x/\(Instr.lookup t (a.eval m) (a.eval k) ok).run P w=.ok (if ok then .tuple #[x,.bool (fV r)]else x) w:=by
   rcases hf with⟨rfl,hq⟩|⟨v,j,x,rfl,hq,hp,_⟩
   . rw[AB]at hu;obtain⟨z,hz,zDR⟩:=zh2 (I:=I) (w:=w) (F:=F) (μ:=μ) he hu;refine⟨z,zDR,?_⟩;unfold Instr.lookup;rcases Pe with⟨hm,rfl⟩|⟨r,c,hm,hg⟩
     . simp_all [gP,fV]
     . rw[hm];simp[gP hi,hd,hg,hck,zHb _ hq,hz,fV]
       try (split<;>rfl)
   . rw[lJ]at hu;cases hu;refine⟨x,.pure hp,?_⟩;unfold Instr.lookup;rcases Pe with⟨hm,rfl⟩|⟨r,c,hm,hg⟩
     . grind
     . rw[hm];simp[gP hi,hd,hg,hck,zHb _ hq,fV]
       try (split<;>rfl)
  obtain⟨x,hx,db⟩:=kj;refine⟨_,db,?_⟩
  cases ok with
  |false=>exact hx
  | true =>
    refine .tuple _ _ rfl λi c hi=>?_
    match i,hi with
    | 0,hi=>simp at hi;subst hi;exact hx
    | 1,hi=>simp at hi;subst hi;exact .pure (.bool _)
    |i+2,hi=>simp at hi
 unfold nC at gA;split at gA
 . cases gA;have e1:=hmr.LC
   simp_all
 . simp only[aA,zv]at gA;obtain⟨o,ho,rfl⟩:=gA;obtain⟨mi,Mz,e1⟩:=hmr.Gm;obtain⟨⟨en,clock,Pe,b8,b6⟩,_⟩:=hR.map ho Mz
   simp_all [CV]
 . cases gA
def zbu(k v:V):Gg k v []=some [(k,v)]:=rfl
def YQ(k v:V)(p:V×V)(l:Z (V×V)):Gg k v (p::l)=W (KM k p.1) λq=>bi q (some ((p.1,v)::l)) (W (Gg k v l) λr=>some (p::r)):=rfl
def zwt    (hk:dV I w F μ k K) (er:uw d k=true):∀ (es:Z (V×V)) (en:Z MapEntry) (i:Nat) {cU:Z (V×V)},en.length=es.length ->
 (∀ (i:Nat) (k v:V),es[i]?=some (k,v)->∃ e:MapEntry,en[i]?=some e/\fG I w F k e.key/\fG I w F v e.val)->Gg k v es=some cU ->
 (Instr.findNow d K en i=some none/\cU=es++[(k,v)])\/(∃ j x u,Instr.findNow d K en i=some (some (i+j,x))/\es[j]?=some (k,u)/\cU=es.set j (k,v)):=by
 intro es
 induction es with
 | nil =>
   intro en i cU hl _ h;rw[zbu]at h;cases h;have:en=[]:=by simpa using hl
   subst this;exact .inl ⟨rfl,rfl⟩
 | cons p es ih =>
   intro en i cU hl b6 h
   cases en with
   |nil=>simp at hl
   | cons e en =>
     rw[YQ]at h;simp only[aA]at h;obtain⟨q,hq,h⟩:=h;obtain⟨e',xF,M,O⟩:=b6 0 p.1 p.2 rfl;simp at xF;subst xF;obtain⟨C,me⟩:=zbV hk M er hq
     cases q with
     | true =>
       rw[iL]at h;cases h;obtain⟨p1,p2⟩:=p;have:=me rfl;dsimp only at this;subst this;exact .inr ⟨0,e.val,p2,by simp[Instr.findNow,C],rfl,rfl⟩
     | false =>
       rw[gZ]at h;simp only[aA]at h;obtain⟨r,hr,h⟩:=h;cases h;rcases ih en (i+1) (by simpa using hl) (λi k v hi=>b6 (i+1) k v (by simpa using hi)) hr with⟨h3,rfl⟩|⟨j,x,u,h3,h4,rfl⟩
       . exact .inl ⟨by simp[Instr.findNow,C,h3],rfl⟩
       . exact .inr ⟨j+1,x,u,by simp[Instr.findNow,C,h3];omega,by simpa using h4,rfl⟩
def zjC{e:Value}(hk:dV I w F μ k K)(er:uw d k=true)(he:fG I w F k e)(w':World):fG I w F k K/\(Instr.keyThatStays e K).run P w'=.ok K w':=by
 have xF:dV I w F (λ_ _=>none) k e:=.pure he
 have oX:fG I w F k K:=by
  refine hk.BZ I ?_;rcases Dh er hk with⟨j,n,rfl,rfl,rfl⟩|⟨s,rfl,rfl,rfl⟩|⟨q,rfl,rfl,rfl⟩<;>rfl
 refine⟨oX,?_⟩
 have hsb:Instr.sameBits 10000 e K=true:=by
  rcases Dh er hk with⟨j,n,rfl,rfl,rfl⟩|⟨s,rfl,rfl,rfl⟩|⟨q,rfl,rfl,rfl⟩
  . rw[xF.lG];simp[Instr.sameBits]
  . obtain⟨t,rfl,ht⟩:=xF.BU;have:(t == s)=true:=by rw[<- zck,Cz];exact ht
    simpa [Instr.sameBits]using this
  . rw[xF.uE];simp[Instr.sameBits]
 simp[Instr.keyThatStays,hsb]
theorem Ni (hR:R I w F μ P C)  (hT:kH I w F μ T a.tmps)  {k x:Operand}   (h:ik P T C t m k x=some (v,a8)) :
 ∃ w' F',v=oD/\(Instr.mapUpdate t (a.eval m) (a.eval k) (a.eval x)).run P w=.ok () w'/\R I w' F' μ P a8/\Fr w F μ C w' F' μ a8:=by
 simp only[ik,aA,bE,zbN]at h;obtain⟨i,hi,⟨kt,el⟩,hd,ki,OR,mv,hm,kv,hk,xv,hx,er,h⟩:=h;dsimp only at *;split at h
 case h_2=>cases h
 rename_i id;simp only[aA,zv]at h;obtain⟨⟨v',cm⟩,hp,o,ho,es,rfl,cU,mL,h⟩:=h;cases h;have hkr:=dJ hT hk;have hmr:=dJ hT hm;obtain⟨F',F5,m7,_,gE⟩:=zC hR (dJ hT hx) hp;dsimp only at *;have zsy:dV I w F' μ kv (a.eval k):=m7.rep hR hkr;obtain⟨mi,Mz,e1⟩:=(m7.rep hR hmr).Gm;have hck:=QV (P:=P) OR hkr er false;obtain⟨⟨en,clock,Pe,b8,b6⟩,u5⟩:=F5.map ho Mz;have hg:=CV (P:=P) Pe (λc e f h=>by cases h);have cC:=F5.lt _ _ _ Mz
 have hkp:fG I w F' kv (a.eval k):=by
  refine zsy.BZ I ?_;rcases Dh er zsy with⟨j,n,_,h,_⟩|⟨s,_,h,_⟩|⟨q,_,h,_⟩<;>rw[h]<;>rfl
 have fin:∀ (PB:Array MapEntry) (pe:Nat),PB.size=cU.length ->
  (∀ (i:Nat) (k v:V),cU[i]?=some (k,v)->∃ e:MapEntry,PB[i]?=some e/\fG I w F' k e.key/\fG I w F' v e.val) ->
  (Instr.mapUpdate t (a.eval m) (a.eval k) (a.eval x)).run P w=.ok () { w with heap:=w.heap.setIfInBounds mi.b (.map PB pe) } ->
  ∃ w' F',oD=oD/\(Instr.mapUpdate t (a.eval m) (a.eval k) (a.eval x)).run P w=.ok () w'/\R I w' F' μ P (cm.wr id (.mp cU))/\Fr w F μ C w' F' μ (cm.wr id (.mp cU)):=by
  intro PB pe Fm zEr db
  have iS:∀ b,b≠mi.b->({ w with heap:=w.heap.setIfInBounds mi.b (.map PB pe) }:World).heap[b]?=w.heap[b]?:=λb hb=>by
   grind
  have zMn:∀ b,F' b->({ w with heap:=w.heap.setIfInBounds mi.b (.map PB pe) }:World).heap[b]?=w.heap[b]?:=λb hb=>iS b (λe=>u5 (e ▸ hb))
  obtain⟨M,O⟩:=F5.write (w':={ w with heap:=w.heap.setIfInBounds mi.b (.map PB pe) }) (a8:=cm.wr id (.mp cU)) (o':=.mp cU) ho rfl Mz rfl rfl (by simp) iS (λj=>Ey cm id (.mp cU) j) (by
   intro m' eR;rw[show m'=mi from bS (eR.symm.trans Mz)];refine⟨⟨PB,pe,by simp[cC],Fm,λi k v hi=>?_⟩,u5⟩;obtain⟨e,M,O,h3⟩:=zEr i k v hi
   exact⟨e,M,O.mono I (λ_ h=>h) zMn,h3.mono I (λ_ h=>h) zMn⟩)
  exact⟨_,F',rfl,db,M,m7.trans O⟩
 have hset:∀ o',(setObj mi.b o').run P w=.ok () { w with heap:=w.heap.setIfInBounds mi.b o' }:=λo'=>CU Pe (λc e f h=>by cases h)
 rcases zwt zsy er es en.toList 0 (by simpa using b8) (λi k v hi=>by simpa using b6 i k v hi) mL with⟨hq,rfl⟩|⟨j,y,u,hq,hj,rfl⟩
 . have zHb:(Instr.findKey kt (a.eval k) en.toList).run P w=.ok none w:=by
    simp only[Instr.findKey,Sem.run_bind,gP OR,Result.andThen_ok,hq,Sem.run_pure]
   refine fin (en.push { key:=a.eval k,val:=a.eval x,born:=clock }) (clock+1) (by simp[b8]) (λi k v hi=>?_) ?_
   . by_cases e:i<es.length
     . grind
     . rw[eQ (by omega)]at hi
       have:i=es.length:=by
        grind
       subst this;simp at hi;obtain⟨rfl,rfl⟩:=hi;exact⟨_,by rw[nG,if_pos b8.symm],hkp,gE⟩
   . unfold Instr.mapUpdate
     simp_all [gP]
 . have zHb:(Instr.findKey kt (a.eval k) en.toList).run P w=.ok (some (0+j,y)) w:=by
    simp only[Instr.findKey,Sem.run_bind,gP OR,Result.andThen_ok,hq,Sem.run_pure]
   obtain⟨e,he,zN4,_⟩:=b6 j _ _ hj;have eC:=(zjC (P:=P) zsy er zN4 w).2;refine fin (en.modify j λe=>{ e with key:=a.eval k,val:=a.eval x }) clock (by simp[b8]) (λi k v hi=>?_) ?_
   . grind
   . unfold Instr.mapUpdate
     simp_all [gP]
def X8(I:Nat->Value)(P:Program)(w:World)(F:Nat->Prop)(μ:Nat->Nat->Y MI)(s:Sem Next)(v:V):Prop:=∃ x,s.run P w=.ok (.value x) w/\dV I w F μ v x
def X7(I:Nat->Value)(P:Program)(w:World)(F:Nat->Prop)(μ:Nat->Nat->Y MI)(C:HS)(s:Sem Next)(v:V)(a8:HS):Prop :=
 ∃ n x w' F' μ',s.run P w=.ok n w'/\(n=.value x\/(n=.skip/\x=undef))/\R I w' F' μ' P a8/\dV I w' F' μ' v x/\Fr w F μ C w' F' μ' a8
def X8.zFI(hR:R I w F μ P C){s:Sem Next}(h:X8 I P w F μ s v):X7 I P w F μ C s v C:=by
 obtain⟨x,M,O⟩:=h;exact⟨_,x,w,F,μ,M,.inl rfl,hR,O,Fr.refl ..⟩
def xJ.next(h:xJ I P w F μ s v):X8 I P w F μ (do pure (.value (<- s))) v:=by
 obtain⟨x,M,O⟩:=h;exact⟨x,by simp[M],O⟩
def Wo.next(h:Wo I P w F μ C s v a8):X7 I P w F μ C (do pure (.value (<- s))) v a8:=by
 obtain⟨x,w',F',μ',M,O,h3,h4⟩:=h;exact⟨_,x,w',F',μ',by simp[M],.inl rfl,O,h3,h4⟩
def Ov{s:Sem Unit}(M:s.run P w=.ok () w')(O:R I w' F' μ P a8)(h3:Fr w F μ C w' F' μ a8) :
 X7 I P w F μ C (do s;pure .skip) oD a8 :=
 ⟨.skip,undef,w',F',μ,by simp[M],.inr ⟨rfl,rfl⟩,O,.pure (.tuple [] #[] rfl λi v hi=>by simp at hi),h3⟩
theorem Nh{x:Operand}(h:Ud T C x=some (v,a8)):a8=C/\bV T x=some v:=by
 grind [Ud,aA]
theorem znk (hρ:Good I) (hR:R I w F μ P C)  (hT:kH I w F μ T a.tmps)  (hc:dR o.op=0) (ee:qE o.op=none)  {id:Nat}  
 (h:TP P dr T C id (VI o.op)=some (v,a8)):a8=C/\X8 I P w F μ (execOp a.eval o) v:=by
 obtain⟨dst,op,ty,pos,after,guard⟩:=o;dsimp only at *;cases op<;>first|(cases hc;done)|(cases ee;done)|(cases h;done)|skip
 case move x =>
  replace h:Ud T C x=some (v,a8):=h;obtain⟨rfl,hv⟩:=Nh h;exact⟨rfl,a.eval x,rfl,dJ hT hv⟩
 case assign x =>
  replace h:Ud T C x=some (v,a8):=h;obtain⟨rfl,hv⟩:=Nh h;exact⟨rfl,a.eval x,rfl,dJ hT hv⟩
 case pick c x y =>
  replace h:M8 T C c x y=some (v,a8):=h;simp only[M8,aA,V.fL]at h;obtain⟨_,hc,q,rfl,u,hu,h⟩:=h;cases h;have e:=(dJ hT hc).uE;refine⟨rfl,(if q then a.eval x else a.eval y),?_,?_⟩
  . simp[execOp,e,asBool]
  . cases q with
    |true=>exact dJ hT hu
    |false=>exact dJ hT hu
 case load t x =>
  replace h:Cf P T C t x=some (v,a8):=h;simp only[Cf,aA]at h;obtain⟨i,hi,p,hp,u,hu,h⟩:=h;cases h;exact⟨rfl,(zhb hR hi (dJ hT hp) hu).next⟩
 case nilCheck x =>
  replace h:uS T C x=some (v,a8):=h;simp only[uS,aA,bE]at h;obtain⟨u,hu,hn,h⟩:=h;cases h;have hr:=dJ hT hu;refine⟨rfl,a.eval x,?_,hr⟩
  have key:(∃ b,a.eval x=.pointer (some b))\/∃ f cs ys,a.eval x=.func f cs ys/\∀ m,f≠.method m:=by
   cases v with
   |ptr id g off=>obtain⟨m,_,e⟩:=hr.yc;exact .inl ⟨_,e⟩
   | ref cs =>
     have h:=hr.Gd;generalize a.eval x=y at h;cases h;exact .inl ⟨_,rfl⟩
   |func f cs=>obtain⟨ys,e,_⟩:=hr.AP;exact .inr ⟨_,_,_,e,λm h=>by cases h⟩
   |ly id=>obtain⟨m,_,e⟩:=hr.Mt;exact .inr ⟨_,_,_,e,λm h=>by cases h⟩
   |_=>cases hn
  rcases key with⟨b,e⟩|⟨f,cs,ys,e,cb⟩
  . simp[execOp,e]
  . cases f<;>first|exact absurd rfl (cb _)|simp[execOp,e]
 case binOp op t x y u =>
  replace h:GN P T C op t x y=some (v,a8):=h;simp only[GN,aA]at h;obtain⟨p,hp,q,hq,r,hr,h⟩:=h;cases h;rw[iO]at hr;split at hr
  . rename_i hc
    have hy:y=.const .nilIface:=by
     unfold I5 at hc;split at hc
     . rfl
     . cases hc
    subst hy;exact⟨rfl,(zrW (dJ hT hp) hr).next⟩
  . exact⟨rfl,(zts (u:=t) (dJ hT hp) (dJ hT hq) hr).next⟩
 case unOp op t x =>
  replace h:Qe T C op x=some (v,a8):=h;unfold Qe at h;split at h
  . simp only[aA,V.fL]at h;obtain⟨_,hp,b,rfl,h⟩:=h;cases h;have e:=(dJ hT hp).uE;exact⟨rfl,.bool (!b),by simp[execOp,e,Op.unary],by rw[KI];exact .pure (.bool _)⟩
  . simp only[aA,V.fp]at h;obtain⟨_,hp,p,rfl,h⟩:=h;cases h;have e:=(dJ hT hp).lG;refine⟨rfl,.int p.1 (p.1.wrap (0-p.2)),by simp[execOp,e,Op.unary,Op.intArith],?_⟩;rw[H9];exact .pure (.int _ _)
  . cases h
 case convert s d x =>
  replace h:U9 P T C s d x=some (v,a8):=h;simp only[U9,aA]at h;obtain⟨i,hi,j,hj,p,hp,r,hr,h⟩:=h;cases h;exact⟨rfl,(zs9 hi hj (dJ hT hp) hr).next⟩
 case makeInterface t x =>
  replace h:Db P T C t x=some (v,a8):=h;simp only[Db,aA,bE,jN]at h;obtain⟨i,hi,hn,p,hp,h⟩:=h;cases h;refine⟨rfl,.iface t (a.eval x),?_,.iface t p _ (dJ hT hp)⟩
  have:(Instr.makeInterface t (a.eval x)).run P w=.ok (.iface t (a.eval x)) w:=by
   simp only[Instr.makeInterface,Sem.run_bind,gP hi,Result.andThen_ok];cases hd:i.desc<;>first|rfl|(rw[hd]at hn;cases hn)
  simp[execOp,this]
 case makeFunc fn first Bt =>
  replace h:Cw T C fn first Bt=some (v,a8):=h;unfold Cw at h;split at h
  . rename_i f;simp only[bE,aA]at h;obtain⟨hf,l,hl,h⟩:=h;cases h;obtain⟨hlen,AF⟩:=Xm hT hl
    have S0:first=#[]:=by
     grind
    subst S0;refine⟨rfl,.func (.func f) #[] (Bt.map a.eval),by simp[execOp,Instr.makeFunc],?_⟩;refine .func f l _ (by simpa using hlen) λj u hj=>?_
    obtain⟨o,ho,hr⟩:=AF j u hj
    simp_all
  . cases h
 case slice t x lo hi mx =>
  replace h:CQ P T C t x lo hi mx=some (v,a8):=h;simp only[CQ,aA]at h;obtain⟨i,hi,p,hp,r,hr,h⟩:=h;cases h;exact⟨rfl,(zmF hR hT hi (dJ hT hp) hr).next⟩
 case fieldAddr t x f =>
  replace h:qZ P T C t x f=some (v,a8):=h;simp only[qZ,aA,bE,jN,beq_false]at h;obtain⟨i,hi,fd,Zp,fi,s9,cb,p,hp,r,hr,h⟩:=h;cases h;exact⟨rfl,(ZA hi Zp s9 cb (dJ hT hp) hr).next⟩
 case field t x f =>
  replace h:LZ P T C t x f=some (v,a8):=h;simp only[LZ,aA,V.L1]at h;obtain⟨i,hi,fd,Zp,fi,s9,_,hp,cs,rfl,r,hr,h⟩:=h;cases h;exact⟨rfl,(zoA hi Zp s9 (dJ hT hp) hr).next⟩
 case indexAddr t x ix =>
  replace h:qW P T C t x ix=some (v,a8):=h;simp only[qW,aA,V.qq]at h;obtain⟨i,hi,el,hd,e,he,p,hp,_,hn,n,⟨k,rfl⟩,r,hr,h⟩:=h;cases h;have e1:=(dJ hT hn).lG;have:=(zxb (k:=k) hi hd he (dJ hT hp) hr).next;rw[<- e1]at this;exact⟨rfl,this⟩
 case index t x ix =>
  replace h:LU P T C t x ix=some (v,a8):=h;simp only[LU,aA,bE,V.qq,V.lO]at h;obtain⟨i,hi,hd,_,hp,s,rfl,_,hn,n,⟨k,rfl⟩,b,hb,h⟩:=h;cases h;have e1:=(dJ hT hn).lG;have:=(znV (k:=k) hi hd (dJ hT hp) hb).next;rw[<- e1]at this;exact⟨rfl,this⟩
 case lookup t m k ok =>
  replace h:mq P T C t m k ok=some (v,a8):=h;obtain⟨M,O⟩:=zjA hR hT h;exact⟨M,O.next⟩
 case extract x k =>
  replace h:yw T C x k=some (v,a8):=h;simp only[yw,aA,V.C3]at h;obtain⟨_,hp,vs,rfl,r,hr,h⟩:=h;cases h;exact⟨rfl,(ze7 (dJ hT hp) hr).next⟩
 case build t parts =>
  replace h:yD P T C t parts=some (v,a8):=h;simp only[yD,aA]at h;obtain⟨i,hi,cs,lx,h⟩:=h;cases h
  cases O:iX i.desc with
  | true =>
    rw[O]at lx;have lx:gd (jH P (fieldsOf i.desc)) (Bu P T i parts.toList i.zero)=some cs:=lx;rw[bE]at lx;exact⟨rfl,(zo0 hρ hT hi lx.1 O lx.2).next⟩
  | false =>
    rw[O]at lx;have lx:(W (zcX i.desc) λel=>W (ti P el) λe=>Cj T e.size parts.toList i.zero)=some cs:=lx;simp only[aA]at lx;obtain⟨el,D4,e,he,lx⟩:=lx;exact⟨rfl,(zkI hρ hT hi D4 he lx).next⟩
def zng(hρ:Good I)(hR:R I w F μ P C)(hT:kH I w F μ T a.tmps)(ee:qE o.op=none){id:Nat}(hid:dR o.op≠0->H5 μ C id)
 (h:TP P dr T C id (VI o.op)=some (v,a8)):X7 I P w F μ C (execOp a.eval o) v a8:=by
 by_cases hc:dR o.op=0
 . obtain⟨rfl,M⟩:=znk hρ hR hT hc ee h;exact M.zFI hR
 replace hid:=hid hc;obtain⟨dst,op,ty,pos,after,guard⟩:=o;dsimp only at *;cases op<;>first|(exact absurd rfl hc)|(cases ee;done)|(cases h;done)|skip
 case alloc t =>
  replace h:Bv P C id t=some (v,a8):=h;exact(zpp hR hid h).next
 case box t x =>
  replace h:Wn T C id x=some (v,a8):=h;exact(zyk hρ hR hid hT t h).next
 case buildSlice t n parts =>
  replace h:jT P dr T C id t n parts=some (v,a8):=h;exact(Wm hρ hR hid hT h).next
 case store t x y =>
  replace h:nz P T C t x y=some (v,a8):=h;simp only[nz,aA]at h;obtain⟨i,hi,p,hp,u,hu,cm,M,h⟩:=h;cases h;obtain⟨w',F',O,h3,h4⟩:=zaZ hρ hR hi (dJ hT hp) (dJ hT hu) M;exact Ov O h3 h4
 case mapUpdate t m k x =>
  replace h:ik P T C t m k x=some (v,a8):=h;obtain⟨w',F',rfl,O,h3,h4⟩:=Ni hR hT h;exact Ov O h3 h4
 case insert t m k x =>
  replace h:ik P T C t m k x=some (v,a8):=h;obtain⟨w',F',rfl,O,h3,h4⟩:=Ni hR hT h;exact Ov O h3 h4
 case makeMap t r =>
  replace h:AL C id r=some (v,a8):=h;exact(zew hR hid h).next
 case makeSlice t l c =>
  replace h:mo P T C id t l c=some (v,a8):=h;simp only[mo,aA]at h;obtain⟨i,hi,p,hp,q,hq,h⟩:=h;exact(Y6 hR hid hi (dJ hT hp) (dJ hT hq) h).next
theorem YV{x:V}:YW l=some x↔l=[x]:=by
 match l with
 | []=>simp[YW,lr]
 | [y]=>simp[YW,lr]
 |y::z::t=>simp[YW,lr]
theorem JL{p:V×V}:Yo l=some p↔l=[p.1,p.2]:=by
 match l with
 | []=>simp[Yo,lr]
 | y::t =>
   have:Yo (y::t)=W (YW t) λz=>some (y,z):=rfl
   grind [aA,YV,Option.some.injEq]
def Qu:yt ts=some u↔∃ t,ts=[t,u]:=by
 match ts with
 | []=>simp[yt]
 | [t]=>simp[yt]
 | [t,u']=>simp[yt]
 |_::_::_::_=>simp[yt]
theorem Vr(hT:kH I w F μ T a.tmps){xs:Array Operand}(h:ku T xs.toList=some vs) :
 (xs.map a.eval).toList.length=vs.length/\∀ (j:Nat) (v:V),vs[j]?=some v->∃ x,(xs.map a.eval)[j]?=some x/\dV I w F μ v x:=by
 obtain⟨M,O⟩:=Xm hT h
 grind
theorem Jv(hT:kH I w F μ T a.tmps){xs:Array Operand}{x:V}(h:ku T xs.toList=some [x]):∃ X,xs.map a.eval=#[X]/\dV I w F μ x X:=by
 obtain⟨M,O⟩:=Vr hT h;obtain⟨X,hX,hr⟩:=O 0 x rfl
 grind
theorem FQ(hT:kH I w F μ T a.tmps){xs:Array Operand}{x y:V}(h:ku T xs.toList=some [x,y]):∃ X kf,xs.map a.eval=#[X,kf]/\dV I w F μ x X/\dV I w F μ y kf:=by
 obtain⟨M,O⟩:=Vr hT h;obtain⟨X,hX,hr⟩:=O 0 x rfl;obtain⟨kf,hY,C⟩:=O 1 y rfl
 grind
theorem zfw(hρ:Good I)(hR:R I w F μ P C)(hT:kH I w F μ T a.tmps){id:Nat}(hid:b=.append->H5 μ C id){ts:Array TypeId}{cs:Array Bool}{xs:Array Operand}
 (fv:ku T xs.toList=some vs) (h:qF P C id b ts.toList vs=some (v,a8)):X7 I P w F μ C (builtin b ts tR cs (xs.map a.eval)) v a8:=by
 unfold qF at h;split at h
 . unfold IZ at h;simp only[aA,YV]at h;obtain⟨i,hi,x,rfl,n,hn,h⟩:=h;cases h;obtain⟨X,hX,hr⟩:=Jv hT fv;rw[hX]
   cases vy:ts.toList with
   |nil=>rw[vy]at hi;cases hi
   | cons t l =>
     rw[vy]at hi;have e:ts=(t::l).toArray:=by rw[<- vy]
     rw[e];exact(znM hR hi hr hn).next.zFI hR
 . unfold z8 at h;simp only[aA,JL,Qu,zy]at h;obtain⟨p,rfl,e,he,u,⟨t,vy⟩,j,hj,zEO,hdj,h⟩:=h;obtain⟨X,kf,hX,hr,C⟩:=FQ hT fv;have RC:ts=#[t,u]:=by apply Array.ext';rw[vy]
   rw[vy]at he;replace he:(W (ti P t) λi=>W (sH i.desc) λel=>ti P el)=some e:=he;simp only[aA,zy]at he;obtain⟨i,hi,el,hd,he⟩:=he;rw[hX,RC];exact(zkR hρ hR (hid rfl) hi hd he hj hdj hr C h).next
 . unfold ZN at h;simp only[aA,JL,Qu]at h;obtain⟨p,rfl,e,he,u,⟨t,vy⟩,h⟩:=h;obtain⟨X,kf,hX,hr,C⟩:=FQ hT fv;have RC:ts=#[t,u]:=by apply Array.ext';rw[vy]
   rw[vy]at he;replace he:(W (ti P t) λi=>W (sH i.desc) λel=>ti P el)=some e:=he;simp only[aA,zy]at he;obtain⟨i,hi,el,hd,he⟩:=he;rw[hX,RC];exact(zs8 hρ hR hi hd he hr C h).next
 . unfold uT at h;simp only[aA,JL,V.fp]at h;obtain⟨p,rfl,q,M,r,O,h⟩:=h;cases h;obtain⟨X,kf,hX,hr,C⟩:=FQ hT fv;rw[M]at hr;rw[O]at C;rw[hX,hr.lG,C.lG];exact(xJ.next (JV true ts tR)).zFI hR
 . unfold uT at h;simp only[aA,JL,V.fp]at h;obtain⟨p,rfl,q,M,r,O,h⟩:=h;cases h;obtain⟨X,kf,hX,hr,C⟩:=FQ hT fv;rw[M]at hr;rw[O]at C;rw[hX,hr.lG,C.lG];exact(xJ.next (JV false ts tR)).zFI hR
 . cases h
end
structure Kept(C a8:HS):Prop where
 log:∀ k,k∈C.log->k∈a8.log
 obj:∀ k o,C.H.get k=some o->k ∉ a8.log->a8.H.get k=some o
 le:C.n<=a8.n
 hm:∀ k,C.H.get k≠none->a8.H.get k≠none
theorem Kept.refl(C:HS):Kept C C:=⟨λ_ h=>h,λ_ _ h _=>h,af _,λ_ h=>h⟩
def Kept.trans{a b c:HS}(h:Kept a b)(h':Kept b c):Kept a c :=
 ⟨λk hk=>h'.log k (h.log k hk),λk o ho hn=>h'.obj k o (h.obj k o ho λhk=>hn (h'.log k hk)) hn,aO h.le h'.le,λk hk=>h'.hm k (h.hm k hk)⟩
theorem xX{id:Nat}(o:Obj)(h:C.H.get id=none):Kept C (C.put id o) :=
 ⟨λ_ hk=>hk,λk o' ho _=>by
   rw[ma];split
   . rename_i e;subst e;rw[h]at ho;cases ho
   . exact ho,af _,λk hk=>by
   rw[ma];split
   . simp
   . exact hk⟩
theorem oM(C:HS)(id:Nat)(o:Obj):Kept C (C.wr id o) :=
 ⟨λk hk=>aF _ hk,λk o' ho hn=>by
   rw[Ey];split
   . rename_i e;subst e;exact absurd (aD ..) hn
   . exact ho,af _,λk hk=>by
   rw[Ey];split
   . simp
   . exact hk⟩
def UJ(C:HS)(id:Nat):Kept C (iF C id):=by
 unfold iF
 cases C.H.get id with
 |none=>exact .refl _
 |some o=>cases o<;>first|exact .refl _|exact oM ..
theorem Zx(C:HS):∀ l:Z V,Kept C (mr C l):=by
 intro l
 induction l with
 |nil=>exact .refl _
 | cons v l ih =>
   rw[Gx];refine ih.trans ?_;unfold nI;split
   . exact UJ ..
   . exact .refl _
theorem oQ(h:ng v C=some (v',a8)):Kept C a8:=by
 grind [ng,aA,Zx]
theorem Kept.zrR   {id:Nat} (h:C.H.get id=none):(mr C l).H.get id=none:=by
 induction l with
 |nil=>exact h
 | cons v l ih =>
   rw[Gx];unfold nI;split
   . rename_i i g o len cap;unfold iF
     cases ho:(mr C l).H.get i with
     |none=>exact ih
     | some o =>
       cases o with
       | arr s g es ex fz row =>
         show ((mr C l).wr i (.arr s g es ex true row)).H.get id=none
         grind [Ey]
       |_=>exact ih
   . exact ih
section
variable {id:Nat}
theorem KF{id off:Nat}(h:qy i id g off v C=some a8):Kept C a8:=by
 grind [qy,aA,bE,oM]
theorem Qi{p:V}(h:EA i C p v=some a8):Kept C a8:=by
 unfold EA at h;split at h
 . rw[iO]at h;split at h
   . simp only[aA]at h;obtain⟨r,hr,h⟩:=h;exact(oQ hr).trans (KF h)
   . exact KF h
 . cases h
theorem zcD{r:V×HS}(h:Dv dr v C=some r)(hid:C.H.get id=none):Kept C r.2/\r.2.H.get id=none:=by
 unfold Dv at h;rw[iO]at h;split at h
 . simp only[bE]at h;obtain⟨_,h⟩:=h;cases h;exact⟨.refl _,hid⟩
 grind [oQ,ng,aA,Kept.zrR]
def zbz{len:Nat}:∀ (l:Z (Nat×Operand)) {C:HS} {es:Z (Z V)} {r:Z (Z V)×HS},zF dr T e len l C es=some r->C.H.get id=none->Kept C r.2/\r.2.H.get id=none:=by
 intro l
 induction l with
 |nil=>intro C es r h hid;cases h;exact⟨.refl _,hid⟩
 | cons p l ih =>
   intro C es r h hid;replace h:(W (bV T p.2) λv=>W (Dv dr v C) λr=>gd (et (Nat.beq (dA r.1.cells) e.size) (Nat.blt p.1 len)) (zF dr T e len l r.2 (VY es p.1 r.1.cells)))=some r:=h;simp only[aA,bE]at h;obtain⟨v,_,q,hq,_,h⟩:=h;obtain⟨M,O⟩:=zcD hq hid;obtain⟨h3,h4⟩:=ih h O;exact⟨M.trans h3,h4⟩
theorem LH{es:Z (Z V)}(h:Da e C id n es=some (v,a8))(hid:C.H.get id=none):Kept C a8:=by
 cases h;exact xX _ hid
theorem K6{i off len:Nat}{cap:Y Nat}{a:Nat×Z (Z V)×Bool×Bool×Bool}{new:Z (Z V)}(h:yH C i g off len cap a new=some (v,a8)):Kept C a8:=by
 grind [yH,bE,oM]
theorem ZT{s x:V}(h:Ck e C id s x=some (v,a8))(hid:C.H.get id=none):Kept C a8:=by
 simp only[Ck,aA,bE]at h;obtain⟨new,_,_,h⟩:=h;split at h
 . unfold FR at h;rw[iO]at h;split at h
   . cases h;exact .refl _
   grind [bE,LH]
 . unfold Jw at h;rw[iO]at h;split at h
   . cases h;exact .refl _
   grind [bE,LH]
 . rename_i i g off len cap;simp only[CB,aA,bE]at h;obtain⟨a,_,_,h⟩:=h
   cases cap with
   | none =>
     grind [AB,iO,K6,bE,oM]
   | some c =>
     grind [lJ,iO,K6,aA,LH]
 . cases h
theorem zfj{d x:V}(h:zcx e C d x=some (v,a8)):Kept C a8:=by
 simp only[zcx,aA]at h;obtain⟨src,_,h⟩:=h;split at h
 . grind [ZM,aA,bE,oM]
 . cases h;exact .refl _
 . cases h
theorem ZP(h:qF P C id b ts vs=some (v,a8))(hid:b=.append->C.H.get id=none):Kept C a8:=by
 unfold qF at h;split at h
 . simp only[IZ,aA]at h;obtain⟨_,_,_,_,_,_,h⟩:=h;cases h;exact .refl _
 . grind [z8,aA,ZT]
 . grind [ZN,aA,zfj]
 . simp only[uT,aA]at h;obtain⟨_,_,_,_,_,_,h⟩:=h;cases h;exact .refl _
 . simp only[uT,aA]at h;obtain⟨_,_,_,_,_,_,h⟩:=h;cases h;exact .refl _
 . cases h
theorem znj{o:Op}(hc:dR o=0)(ee:qE o=none)(h:TP P dr T C id (VI o)=some (v,a8)):a8=C:=by
 cases o<;>first|(cases hc;done)|(cases ee;done)|(cases h;done)|skip
 case move x=>replace h:Ud T C x=some (v,a8):=h;exact(Nh h).1
 case assign x=>replace h:Ud T C x=some (v,a8):=h;exact(Nh h).1
 case pick c x y =>
  replace h:M8 T C c x y=some (v,a8):=h
  grind [M8,aA]
 case load t x =>
  replace h:Cf P T C t x=some (v,a8):=h
  grind [Cf,aA]
 case nilCheck x =>
  replace h:uS T C x=some (v,a8):=h
  grind [uS,aA,bE]
 case binOp op t x y u =>
  replace h:GN P T C op t x y=some (v,a8):=h
  grind [GN,aA]
 case unOp op t x =>
  replace h:Qe T C op x=some (v,a8):=h;unfold Qe at h
  grind [aA]
 case convert s d x =>
  replace h:U9 P T C s d x=some (v,a8):=h
  grind [U9,aA]
 case makeInterface t x =>
  replace h:Db P T C t x=some (v,a8):=h
  grind [Db,aA,bE]
 case makeFunc fn first Bt =>
  replace h:Cw T C fn first Bt=some (v,a8):=h;unfold Cw at h
  grind [bE,aA]
 case slice t x lo hi mx =>
  replace h:CQ P T C t x lo hi mx=some (v,a8):=h
  grind [CQ,aA]
 case fieldAddr t x f =>
  replace h:qZ P T C t x f=some (v,a8):=h
  grind [qZ,aA,bE]
 case field t x f =>
  replace h:LZ P T C t x f=some (v,a8):=h
  grind [LZ,aA]
 case indexAddr t x ix =>
  replace h:qW P T C t x ix=some (v,a8):=h
  grind [qW,aA]
 case index t x ix =>
  replace h:LU P T C t x ix=some (v,a8):=h
  grind [LU,aA,bE]
 case lookup t m k ok =>
  replace h:mq P T C t m k ok=some (v,a8):=h;simp only[mq,aA,bE]at h
  grind
 case extract x k =>
  replace h:yw T C x k=some (v,a8):=h
  grind [yw,aA]
 case build t parts =>
  replace h:yD P T C t parts=some (v,a8):=h
  grind [yD,aA]
theorem znh{o:Op}(ee:qE o=none)(hid:dR o≠0->C.H.get id=none)(h:TP P dr T C id (VI o)=some (v,a8)):Kept C a8:=by
 by_cases hc:dR o=0
 . rw[znj hc ee h];exact .refl _
 replace hid:=hid hc;cases o<;>first|(exact absurd rfl hc)|(cases ee;done)|(cases h;done)|skip
 case alloc t =>
  replace h:Bv P C id t=some (v,a8):=h
  grind [Bv,aA,bE,xX]
 case box t x =>
  replace h:Wn T C id x=some (v,a8):=h
  grind [Wn,aA,xX]
 case buildSlice t n parts =>
  replace h:jT P dr T C id t n parts=some (v,a8):=h;simp only[jT,aA,bE]at h;obtain⟨_,_,_,_,_,_,_,r,hr,h⟩:=h;cases h;obtain⟨M,O⟩:=zbz _ hr hid;exact M.trans (xX _ O)
 case store t x y =>
  replace h:nz P T C t x y=some (v,a8):=h
  grind [nz,aA,Qi]
 case mapUpdate t m k x =>
  replace h:ik P T C t m k x=some (v,a8):=h;simp only[ik,aA,bE]at h;obtain⟨_,_,_,_,_,_,_,_,_,_,_,_,_,h⟩:=h;split at h
  . simp only[aA]at h;obtain⟨_,hp,_,_,_,_,_,_,h⟩:=h;cases h;exact(oQ hp).trans (oM ..)
  . cases h
 case insert t m k x =>
  replace h:ik P T C t m k x=some (v,a8):=h;simp only[ik,aA,bE]at h;obtain⟨_,_,_,_,_,_,_,_,_,_,_,_,_,h⟩:=h;split at h
  . simp only[aA]at h;obtain⟨_,hp,_,_,_,_,_,_,h⟩:=h;cases h;exact(oQ hp).trans (oM ..)
  . cases h
 case makeMap t r =>
  replace h:AL C id r=some (v,a8):=h
  grind [AL,bE,xX]
 case makeSlice t l c =>
  replace h:mo P T C id t l c=some (v,a8):=h;simp only[mo,wY,aA,bE]at h
  grind [xX]
end
section
variable {id:Nat}
structure ry(ev:Ev):Prop where
 code:∀ {rd sz c T C r},ev.code rd sz c T C=some r->Kept C r.2.2
 call:∀ {f args C r},ev.call f args C=some r->Kept C r.2
def qf(E:Env):Prop:=∀ {f args C r},E.dE f args C=some r->Kept C r.2
theorem xZ:∀ {l l':Z V} {C a8:HS},mf l C=some (l',a8)->Kept C a8:=by
 intro l
 induction l with
 |nil=>intro l' C a8 h;cases h;exact .refl _
 | cons v l ih =>
   intro l' C a8 h;replace h:(W (ng v C) λr=>W (mf l r.2) λq=>some (r.1::q.1,q.2))=some (l',a8):=h;simp only[aA]at h;obtain⟨⟨u,cm⟩,hu,⟨m,dt⟩,hm,h⟩:=h;cases h;exact(oQ hu).trans (ih hm)
theorem WV{r p:V×HS}(h:SW r=some p):Kept r.2 p.2:=by
 grind [SW,aA,xZ,oQ]
def zcI (cE:ry ev)  {args:Z V} {r:V×HS} (h:ET E ev f args C=some r):Kept C r.2:=by
 have key:∀ ey,nT ev f ey C=some r->Kept C r.2:=by
  intro ey h;simp only[nT,aA,bE]at h;obtain⟨_,_,_,h⟩:=h;cases h;exact .refl _
 unfold ET at h
 cases hp:E.wx f with
 | zero =>
   rw[hp]at h;replace h:bi (cu args) (rG ev f args C) (ev.call f args C)=some r:=h;rw[iO]at h;split at h
   . simp only[rG,aA]at h;obtain⟨_,_,_,_,h⟩:=h;cases h;exact .refl _
   . exact cE.call h
 | succ m =>
   rw[hp]at h
   cases m with
   |zero=>exact cE.call h
   | succ m =>
     cases m with
     | zero =>
       replace h:vP (ev.call f args C) (λey=>nT ev f ey C) (lT C args)=some r:=h
       cases C:lT C args with
       |none=>rw[C]at h;exact cE.call h
       |some ey=>rw[C]at h;exact key _ h
     | succ m =>
       replace h:Al ev f args C=some r:=h;simp only[Al,aA]at h;obtain⟨q,hq,h⟩:=h
       cases hp:SW q with
       |none=>rw[hp]at h;cases h;exact cE.call hq
       |some p=>rw[hp]at h;cases h;exact(cE.call hq).trans (WV hp)
theorem zfu(aq:qf E)(cE:ry ev){args:Z V}{r:V×HS}(h:FL E ev f args C=some r):Kept C r.2:=by
 unfold FL at h
 cases hc:E.dE f args C with
 |none=>rw[hc]at h;exact zcI cE h
 |some q=>rw[hc]at h;cases h;exact aq hc
theorem zbl(cE:ry ev){r:V×HS}(h:zA ev id vs C=some r):Kept C r.2:=by
 simp only[zA,aA,bE]at h;obtain⟨_,_,_,_,_,_,_,q,hq,_,_,_,_,_,_,p,hp,_,_,_,_,h⟩:=h;cases h;exact(cE.code hq).trans ((oM ..).trans ((cE.code hp).trans (oM ..)))
theorem Td(aq:qf E)(cE:ry ev)(hid:dR o.op≠0->C.H.get id=none){r:V×HS}(h:cp E ev dr T C id o=some r):Kept C r.2:=by
 unfold cp at h
 cases hc:qE o.op with
 |none=>rw[hc]at h;exact znh hc hid h
 | some c =>
   rw[hc]at h;replace h:wo E ev T C id c=some r:=h;simp only[wo,aA]at h;obtain⟨vs,_,h⟩:=h;split at h
   . refine ZP (P:=E.P) h λhb=>hid ?_
     subst hb;cases ho:o.op<;>rw[ho]at hc<;>first|(cases hc;done)|skip
     cases hc
     grind [dR]
   . simp only[aA]at h;obtain⟨u,_,h⟩:=h;unfold Lf at h
     grind [zfu,zbl]
   . cases h
theorem aJ{id:Nat}:ig C id=true↔C.H.get id=none:=by
 unfold ig;cases C.H.get id<;>simp[nt,fV]
theorem QB(aq:qf E)(cE:ry ev){sz:Nat}{ops:Z Oper}{r:PT V×HS}(h:vT E ev sz ops o id T C=some r):Kept C r.2:=by
 simp only[vT,aA]at h;obtain⟨w,_,h⟩:=h;rw[iO]at h;split at h
 . simp only[bE,aA]at h;obtain⟨hv,q,hq,_,_,h⟩:=h
   grind [Td,iO,beq_true,aJ]
 . simp only[aA]at h;obtain⟨_,_,h⟩:=h;cases h;exact .refl _
def M4(aq:qf E)(cE:ry ev){sz:Nat}{ops:Z Oper}:∀ (l:Z Oper) {id:Nat} {T:PT V} {C:HS} {r:PT V×HS},uO E ev sz ops l id T C=some r->Kept C r.2:=by
 intro l
 induction l with
 |nil=>intro id T C r h;cases h;exact .refl _
 | cons o l ih =>
   intro id T C r h;replace h:(W (vT E ev sz ops o id T C) λr=>uO E ev sz ops l (id+1) r.1 r.2)=some r:=h;simp only[aA]at h;obtain⟨q,hq,h⟩:=h;exact(QB aq cE hq).trans (ih h)
theorem zcs (aq:qf E) (cE:ry ev)   (h:zX E ev o id T C=some r) :
 Kept C r.2.1/\(∀ k o',C.H.get k=some o'->k ∉ r.2.2.2->r.2.1.H.get k=some o'):=by
 have fin:∀ {k:Nat} (o':Obj),C.H.get k=none->Kept C (C.put k o')/\(∀ i o2,C.H.get i=some o2->i ∉ ([]:Z Nat)->(C.put k o').H.get i=some o2):=by
  grind [xX,ma]
 unfold zX at h
 cases hc:dR o.op with
 | zero =>
   rw[hc]at h;replace h:(W (cp E ev true T { H:=iA C.H (cN T o.op),n:=0,log:=[] } id o) λr=>some (r.1,C,cN T o.op,[]))=some r:=h;simp only[aA]at h;obtain⟨_,_,h⟩:=h;cases h;exact⟨.refl _,λ_ _ h _=>h⟩
 | succ m =>
   rw[hc]at h
   cases m with
   | zero =>
     replace h:(gd (ig C id) (W (cp E ev true T { H:=.leaf,n:=0,log:=[] } id o) λr=>W (r.2.H.get id) λo'=>gd (nt o'.fz) (some (r.1,C.put id o',[id],[]))))=some r:=h
     grind [aA,bE,aJ]
   | succ m =>
     replace h:(gd (ig C id) (W (cp E ev true T { H:=C.H,n:=C.n,log:=[] } id o) λr=>some (r.1,{ H:=r.2.H,n:=r.2.n,log:=jY r.2.log C.log },[],r.2.log)))=some r:=h;simp only[aA,bE,aJ]at h;obtain⟨hv,q,hq,h⟩:=h;cases h;have hk:Kept { H:=C.H,n:=C.n,log:=[] } q.2:=Td (C:={ H:=C.H,n:=C.n,log:=[] }) (id:=id) aq cE (λ_=>hv) hq;refine⟨⟨λk nh=>?_,λk o' ho hn=>?_,hk.le,hk.hm⟩,λk o' ho hn=>hk.obj k o' ho hn⟩
     . grind [oo,List.mem_append_right]
     . dsimp only at hn;rw[oo]at hn;exact hk.obj k o' ho λhm=>hn (jo _ hm)
theorem zD(T:PT α):∀ (l:Z Nat) (t:Nat),(iA T l).get t=if t∈l then T.get t else none:=by
 intro l
 induction l with
 |nil=>intro t;rfl
 | cons x l ih =>
   intro t;have e:iA T (x::l)=vP (iA T l) (λv=>(iA T l).set x v) (T.get x):=rfl;rw[e]
   cases hx:T.get x with
   | none =>
     grind [AB]
   | some v =>
     rw[lJ,PT.cK]
     grind
theorem LA{T:PT α}{l:Z Nat}{t:Nat}{v:α}(h:(iA T l).get t=some v):t∈l/\T.get t=some v:=by
 grind [zD]
theorem IG{H H2:PT Obj}:∀ (X:Z Nat) (k:Nat),(II H H2 X).get k=if k∈X/\H2.get k≠none then H2.get k else H.get k:=by
 intro X
 induction X with
 |nil=>intro k;simp[II,lr]
 | cons x X ih =>
   intro k;have e:II H H2 (x::X)=vP (II H H2 X) (λo=>(II H H2 X).set x o) (H2.get x):=rfl;rw[e]
   cases hx:H2.get x with
   | none =>
     grind [AB]
   | some v =>
     rw[lJ,PT.cK];by_cases h:k=x
     . subst h;simp[hx]
     . rw[if_neg h,ih];simp[h]
def zbx   (h:ng v C=some (v',a8)) {k:Nat} (hk:C.H.get k=none):a8.H.get k=none:=by
 have hr:∀ (C:HS) (i k:Nat),C.H.get k=none->(iF C i).H.get k=none:=by
  intro C i k hk;unfold iF
  cases ho:C.H.get i with
  |none=>exact hk
  | some o =>
    rw[lJ]
    cases o with
    | arr a b c d e f =>
      show (C.H.set i _).get k=none;rw[PT.cK,if_neg]
      . exact hk
      . rintro rfl;rw[hk]at ho;cases ho
    |mp _=>exact hk
    |lp _ _ _ _ _ _=>exact hk
 have M:∀ (C:HS) (v:V) (k:Nat),C.H.get k=none->(nI C v).H.get k=none:=by
  intro C v k hk;unfold nI;split
  . exact hr _ _ _ hk
  . exact hk
 simp only[ng,aA]at h;obtain⟨u,_,h⟩:=h;cases h;generalize v.cells=l
 induction l with
 |nil=>exact hk
 |cons c l ih=>exact M _ _ _ ih
def zdN{dr:Bool}{a x:Operand}(h:nz P T C t a x=some (v,a8)){k:Nat}(hk:C.H.get k=none):a8.H.get k=none:=by
 have hr:∀ {i:TI} {id g off:Nat} {v:V} {C a8:HS},qy i id g off v C=some a8->C.H.get k=none->a8.H.get k=none:=by
  intro i id g off v C a8 h hk;simp only[qy,aA,bE]at h;obtain⟨q,hq,_,_,e,he,h⟩:=h;cases h;show (C.H.set id _).get k=none;rw[PT.cK,if_neg]
  . exact hk
  . rintro rfl;simp only[mP,aA]at hq;obtain⟨o,ho,_⟩:=hq;rw[hk]at ho;cases ho
 simp only[nz,aA]at h;obtain⟨i,_,p,_,u,_,M,O,h⟩:=h;cases h;unfold EA at O;split at O
 . rw[iO]at O;split at O
   . simp only[aA]at O;obtain⟨q,hp,O⟩:=O;exact hr O (zbx hp hk)
   . exact hr O hk
 . cases O
def Im(h:lF o.op=true):∃ t a x,o.op=.store t a x:=by
 unfold lF at h;split at h
 . rename_i t a x e;exact⟨t,a,x,e⟩
 . cases h
def Ar{a x:Operand}(h:o.op=.store t a x){id:Nat}:cp E ev dr T C id o=nz E.P T C t a x:=by
 unfold cp;rw[h];rfl
theorem QH(aq:qf E)(cE:ry ev)(eM:lF o.op=true)(h:Pt E ev o id T C=some r) :
 Kept C r.2.1/\(∀ k o',C.H.get k=some o'->k ∉ r.2.2.2->r.2.1.H.get k=some o')/\(∀ k,C.H.get k=none->r.2.1.H.get k=none):=by
 obtain⟨t,a,x,mc⟩:=Im eM;simp only[Pt,aA,bE,Ar mc]at h;obtain⟨_,q,hq,h⟩:=h;cases h;have hq':cp E ev true T { H:=iA C.H (rX T C o.op),n:=0,log:=[] } (id+1) { o with guard:=none }=some q:=by rw[Ar (o:={ o with guard:=none }) mc];exact hq
 have hk:Kept { H:=iA C.H (rX T C o.op),n:=0,log:=[] } q.2:=by
  have h3:=hq;simp only[nz,aA]at h3;obtain⟨_,_,_,_,_,_,M,O,h3⟩:=h3;cases h3;exact Qi O
 have hn:∀ k,C.H.get k=none->(II C.H q.2.H (rX T C o.op)).get k=none:=by
  intro k rK;rw[IG,zdN (dr:=true) hq (k:=k) (by dsimp only;rw[zD,rK];split<;>rfl)];simp[rK]
 have HV:∀ k o',C.H.get k=some o'->k ∉ q.2.log->(II C.H q.2.H (rX T C o.op)).get k=some o':=by
  intro k o' ho ka;rw[IG];split
  . rename_i hc;refine hk.obj k o' ?_ ka;dsimp only;rw[zD,if_pos hc.1];exact ho
  . exact ho
 refine⟨⟨λk nh=>?_,λk o' ho ka=>?_,af _,λk rK=>?_⟩,HV,hn⟩
 . dsimp only;rw[oo];exact l9 _ nh
 . dsimp only at ka;rw[oo]at ka;exact HV k o' ho λhm=>ka (jo _ hm)
 . dsimp only;rw[IG];split
   . rename_i hc;exact hc.2
   . exact rK
theorem ZH(aq:qf E)(cE:ry ev)(h:Aj E ev o id T C=some r) :
 Kept C r.2.1/\(∀ k o',C.H.get k=some o'->k ∉ r.2.2.2->r.2.1.H.get k=some o'):=by
 grind [Aj,iO,QH,zcs]
def KW(aq:qf E)(cE:ry ev){ops:Z Oper}(h:kR E ev ops o id T C=some r) :
 Kept C r.2.1/\(∀ k o',C.H.get k=some o'->k ∉ r.2.2.2->r.2.1.H.get k=some o'):=by
 simp only[kR,aA]at h;obtain⟨w,_,h⟩:=h;rw[iO]at h;split at h
 . exact ZH aq cE h
 . have e:=bS h;rw[<- e];exact⟨.refl _,λ_ _ h _=>h⟩
def YK(aq:qf E)(cE:ry ev){sz:Nat}{ops:Z Oper}:∀ (l:Z Oper) {id:Nat} {T:PT V} {C:HS} {acc:Z (Z Nat×Z Nat)} {r:(PT V×HS)×Z (Z Nat×Z Nat)},
 wL E ev sz ops l id T C acc=some r->Kept C r.1.2:=by
 intro l
 induction l with
 |nil=>intro id T C acc r h;cases h;exact .refl _
 | cons o l ih =>
   intro id T C acc r h;replace h:(W (kR E ev ops o id (iA T (looks ops o)) C) λr=>W (Kj sz T o.dst r.1) λT'=>wL E ev sz ops l (id+1) T' r.2.1 (jY acc [r.2.2]))=some r:=h;simp only[aA]at h;obtain⟨q,hq,T',_,h⟩:=h;exact(KW aq cE hq).1.trans (ih h)
def ziZ(aq:qf E)(cE:ry ev){sz:Nat}{l:Z Oper}{draw:Bool}{r:Ex×PT V×HS}(h:To E ev sz l draw T C=some r):Kept C r.2.2:=by
 simp only[To,aA]at h;obtain⟨q,hq,h⟩:=h;cases h;rw[iO]at hq;split at hq
 . simp only[QI,aA,bE]at hq;obtain⟨_,_,p,hp,_,h⟩:=hq;cases h;have:=YK aq cE _ hp;exact⟨this.log,this.obj,aO (fE _ _) this.le,this.hm⟩
 . have:=M4 aq cE _ hq;exact⟨this.log,this.obj,aO (fE _ _) this.le,this.hm⟩
def WQ(cE:ry ev){rd:Bool}{sz:Nat}{b:Code}{r:Ex×PT V×HS}(h:Ki ev rd sz b q=some r):Kept q.2.2 r.2.2:=by
 unfold Ki at h;split at h
 . exact cE.code h
 . cases h;exact .refl _
theorem zfl(aq:qf E)(cE:ry ev){rd:Bool}{sz:Nat}{r:Ex×PT V×HS}(h:QQ E ev rd sz c T C=some r):Kept C r.2.2:=by
 unfold QQ at h;split at h
 . cases h;exact .refl _
 . exact ziZ aq cE h
 . simp only[aA]at h;obtain⟨q,hq,h⟩:=h;exact(cE.code hq).trans (WQ cE h)
 . simp only[aA]at h;obtain⟨_,_,t,_,h⟩:=h;rw[iO]at h;split at h<;>exact cE.code h
 . simp only[aA]at h;obtain⟨q,hq,h⟩:=h;have:=cE.code hq
   grind [Vn,iO]
 . simp only[aA]at h;obtain⟨q,hq,h⟩:=h;exact(cE.code hq).trans (WQ cE h)
 . cases h;exact .refl _
 . cases h;exact .refl _
 . rename_i g ps assign body;simp only[bE,aA]at h;obtain⟨_,u,_,h⟩:=h;simp only[Gf,aA,bE,aJ]at h;obtain⟨_,_,hv,q,hq,_,_,_,_,_,_,h⟩:=h;have e:=bS h;rw[<- e]
   have O:Kept C (HS.put { H:=C.H,n:=C.n+1,log:=C.log } C.n (.lp sz T ps.toList assign body 0)):=by
    have:=xX (C:={ H:=C.H,n:=C.n+1,log:=C.log }) (.lp sz T ps.toList assign body 0) hv;exact⟨this.log,this.obj,mF _,this.hm⟩
   exact(O.trans (cE.call hq)).trans (oM ..)
 . cases h
theorem zfA(cE:ry ev){args:Z V}{r:V×HS}(h:K4 E ev f args C=some r):Kept C r.2:=by
 simp only[K4,aA]at h;obtain⟨fn,_,c,_,T,_,q,hq,h⟩:=h;have:=cE.code hq
 grind [Uq,aA,Option.some.inj]
def zcj(aq:qf E):∀ n,ry (rF E n):=by
 intro n
 induction n with
 | zero =>
   refine⟨?_,?_⟩
   . intro _ _ _ _ _ _ h;cases h
   . intro _ _ _ _ h;cases h
 | succ n ih =>
   refine⟨?_,?_⟩
   . intro _ _ _ _ _ _ h;exact zfl aq ih h
   . intro _ _ _ _ h;exact zfA ih h
end
theorem least(h:∃ n,p n):∃ n,p n/\∀ m,p m->n<=m:=by
 obtain⟨n,hn⟩:=h
 induction n using Nat.strongRecOn with
 | _ n ih =>
   grind
theorem zdp{w:World}(kO:Nat->Act->World->Prop)
 (round:∀ j a w,kO j a w->c.wpIn F n P (Exit.then (λa' w'=>∃ i,i<j/\kO i a' w') Q) a w)  (h0:kO j a w):(Code.loop c).wpIn F n P Q a w:=by
 classical
 let size:Act->World->Nat:=λa w=>if h:∃ j,kO j a w then Classical.choose (least h)else 0
 have b8:∀ a w (h:∃ j,kO j a w),kO (size a w) a w/\∀ m,kO m a w->size a w<=m:=by
  intro a w h
  grind
 refine wpIn_loop (λa w=>∃ j,kO j a w) size ⟨j,h0⟩ ?_;intro a w h;refine wpIn_mono (round _ a w (b8 a w h).1) ?_
 grind
section
variable {I:Nat->Value}{w:World}{F:Nat->Prop}{μ μ':Nat->Nat->Y MI}
def Ol(X:Nat->Prop)(μ:Nat->Nat->Y MI)(C:HS):Prop:=(∀ id g,μ id g≠none->C.H.get id≠none\/X id)/\∀ id,C.n<=id->¬ X id
theorem Fr.cr(h:Fr w F μ C w' F' μ' a8)(hn:C.n<=a8.n)(hd:Ol X μ C):Ol X μ' a8:=by
 refine⟨λid g hg=>?_,λid hi=>hd.2 id (aO hn hi)⟩;by_cases cb:a8.H.get id=none
 . rw[h.sm id cb g]at hg;rcases hd.1 id g hg with M|M
   . exact absurd cb (h.hm id M)
   grind
 grind
def Ol.free(hd:Ol X μ C){id:Nat}(hx:¬ X id)(h:C.H.get id=none):H5 μ C id :=
 ⟨h,λg=>aV λcb=>(hd.1 id g cb).elim (λM=>M h) hx⟩
def pj(X:Nat->Prop)(C:HS):Prop:=∀ id,X id->C.H.get id=none
def Kept.off(h:Kept C a8)(ho:pj X a8):pj X C:=λid hx=>aV λcb=>h.hm id cb (ho id hx)
def pj.no(C:HS):pj (λ_=>False) C:=λ_ h=>h.elim
def Ol.empty:Ol (λ_=>False) (λ_ _=>none) ji:=⟨λ_ _ h=>absurd rfl h,λ_ _ h=>h⟩
def Ol.zFh(hd:Ol X μ C)(hn:C.n<=n)(log:Z Nat):Ol X μ { H:=C.H,n:=n,log:=log } :=
 ⟨hd.1,λid hi=>hd.2 id (aO hn hi)⟩
def R.empty(h:∀ b,F b->b<w.heap.size)(hg:Gl I w F):R I w F (λ_ _=>none) P ji where
 lt _ _ _ h:=by cases h
 Bj:=h
 obj _ _ h:=by cases h
 inj _ _ _ _ _ _ h:=by cases h
 y7 _ _ h:=by cases h
 gl:=hg
def ug(b:Nat)(μ:Nat->Nat->Y MI):¬ zu ji μ b:=by
 rintro ⟨id,o,m,h,_⟩;cases h
def R.zFh(h:R I w F μ P C)(n:Nat)(log:Z Nat):R I w F μ P { H:=C.H,n:=n,log:=log }:=⟨h.lt,h.Bj,h.obj,h.inj,h.y7,h.gl⟩
def Fr.zFh(w:World)(F:Nat->Prop)(μ:Nat->Nat->Y MI)(C:HS)(n:Nat)(log:Z Nat):Fr w F μ C w F μ { H:=C.H,n:=n,log:=log } :=
 ⟨⟨rfl,rfl,rfl⟩,af _,λ_ _ _=>rfl,λ_ h=>h,λ_ h=>.inl h,λ_ _ _ h=>h,λ_ h=>.inl h,λ_ h=>h,λ_ _ _=>rfl,λ_ _ h=>h,λi g m h=>.inr ⟨i,g,m,h,rfl⟩⟩
end
end Go.J
