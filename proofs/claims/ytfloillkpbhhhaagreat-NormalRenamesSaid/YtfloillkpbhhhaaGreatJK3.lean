import Derived.Test.YtfloillkpbhhhaaGreatJK2
import Derived.Deep.AppendSrc
import Derived.RangeFuncLeaves
import Derived.OrdersIn
set_option linter.all false
noncomputable section
namespace Go.J
variable {a:Act}{cb:Array Value}{dr:Bool}{b:Builtin}{c:Code}{E:Env}{ev:Ev}{Q:Exit->Act->World->Prop}{q:Ex×PT V×HS}{F:Fence}{f:FuncId}{C a9:HS}{g j9 j n eo pe AS:Nat}{F' X p:Nat->Prop}{o:Oper}{m:Operand}{T:PT V}{P:Program}{s:Sem Value}{e i ki:TI}{α:Type}{d:TypeDesc}{el t tR tX tx u zGJ:TypeId}{k v v':V}{K x z:Value}{r:V×HS×Z Nat×Z Nat}{w':World}{cT:Z (Z V)}{ts:Z TypeId}{l vs:Z V}{o':_root_.Go.Obj}
theorem zlf(nB:Nat):∀ (r c:Nat),256<=c->c<=2*nB->Builtin.growBy nB r c<=2*nB:=by
 intro r
 induction r with
 |zero=>intro c _ h;exact h
 | succ r ih =>
   intro c M O;simp only[Builtin.growBy];grind
theorem nextslicecap_le{nB Hv:Nat}(h:Hv<nB):Builtin.nextslicecap nB Hv<=2*nB:=by
 unfold Builtin.nextslicecap;grind [zlf]
section
variable {I:Nat->Value}{w:World}{F:Nat->Prop}{μ:Nat->Nat->Y MI}
theorem Ud(zero:Array Value)(n:Nat):(Builtin.zeroCells zero n).size=n*zero.size:=by simp[Builtin.zeroCells]
theorem grownCap_ge(w:World)(need cb:Nat)(e:TypeId):need<=grownCap w need cb e:=by simp[grownCap,Question.cut]
theorem MM (a:Addr):∀ (n i:Nat) (acc r:Array Value),(loadCellsFrom a i n acc).run P w=.ok r w->(loadCellsFrom a i n acc).run P w.drew=.ok r w.drew:=by
 intro n
 induction n with
 |zero=>intro i acc r h;simp[loadCellsFrom]at h ⊢;exact h
 | succ n ih =>
   intro i acc r h;simp only[loadCellsFrom,Sem.run_bind,run_load]at h ⊢;have fh:w.drew.cell? (a.add i)=w.cell? (a.add i):=rfl;rw[fh]
   cases hq:w.cell? (a.add i)with
   |some v=>rw[hq]at h;simp only[Result.andThen_ok]at h ⊢;exact ih _ _ _ h
   | none =>
     rw[hq]at h;simp only at h
     cases hf:w.farLoad P (a.add i) (Mode.plain == Mode.atomic)with
     |error e=>rw[hf]at h;simp at h
     | ok p =>
       rw[hf]at h;have Bx:w.drew.farLoad P (a.add i) (Mode.plain == Mode.atomic)=.ok p:=hf;simp_all
theorem Il{size len c:Nat}{base:Y Addr}{arr:Array Value}(h:(Builtin.firstCells size n (.slice base len c)).run P w=.ok arr w) :
 (Builtin.firstCells size n (.slice base len c)).run P w.drew=.ok arr w.drew:=by
 cases base with
 |none=>simp[Builtin.firstCells]at h ⊢;exact h
 |some a=>exact MM a _ _ _ _ h
theorem src_ok(hρ:Good I)(hR:R I w F μ P C)(hu:P.underlying tX=some (.slice zGJ)){size:Nat}{x:V}{X:Value}{es:Z (Z V)}(W:dZ I w F μ x X)(h:Av C size x=some es)
 (cd:∀ e∈es,e.length=size) (hc:∀ e∈es,∀ v∈e,v.mY=true):∃ arr,Src P size tX X es.length arr.toList w/\Flat I w F size es arr:=by
 obtain⟨base,c,rfl,arr,M,O⟩:=OJ (P:=P) hR W h cd;exact⟨arr,⟨.inl ⟨zGJ,hu⟩,λ_=>rfl,by simpa using M,by simpa using Il M,by simpa using O.1,O.one hρ cd hc⟩,O⟩
theorem RQ(hz:z.cells.size=e.size){es new:Z (Z V)}{arr:Array Value}(hold:Flat I w F e.size es cb)(aE:Flat I w F e.size new arr)
  (pC:es.length+new.length<=eo) :
 ((cb.toList++arr.toList).toArray++Builtin.zeroCells z.cells (eo-(es.length+new.length))).size=eo*e.size /\
 ∀ (k:Nat) (c:Z V) (j:Nat) (v:V),(kg es new)[k]?=some c->c[j]?=some v->∃ y,((cb.toList++arr.toList).toArray++Builtin.zeroCells z.cells (eo-(es.length+new.length)))[k*e.size+j]?=some y/\fJ I w F v y:=by
 have lj:((cb.toList++arr.toList).toArray++Builtin.zeroCells z.cells (eo-(es.length+new.length))).size=eo*e.size:=by simp only[Array.size_append,List.size_toArray,aR,jE,Ud,hold.1,aE.1,hz,<- gJ];congr 1;omega
 refine⟨lj,?_⟩;intro k c j v hk hj;rw[oN]at hk;by_cases kA:k<es.length;rw[jY kA]at hk;let⟨y,hy,hp⟩:=hold.2 k c j v hk hj;grind;rw[eU (by omega)]at hk;let⟨y,hy,hp⟩:=aE.2 (k-es.length) c j v hk hj;let⟨cG,_⟩:=d9.1 hy;have e1:k*e.size=es.length*e.size+(k-es.length)*e.size:=by rw[<- gJ];congr 1;omega
 refine⟨y,?_,hp⟩;have ho:=hold.1;rw[mU (by simp;omega),List.getElem?_toArray,eU (by simp;omega),gy];rw[<- hy];congr 1;simp;omega
theorem Qs(hR:R I w F μ P C){id:Nat}(hid:IP μ C id)(hz:z.cells.size=e.size){es new:Z (Z V)}{arr:Array Value}(hold:Flat I w F e.size es cb)(aE:Flat I w F e.size new arr)
 (xd:∀ c∈es,c.length=e.size) (kx:∀ c∈new,c.length=e.size)  (pC:es.length+new.length<=eo) :
 ∃ μ',R I (w.drew.alloc (.cells ((cb.toList++arr.toList).toArray++Builtin.zeroCells z.cells (eo-(es.length+new.length))) el)) F μ' P (C.put id (.arr e.size 0 (kg es new) false false true)) /\
   Fr w F μ C (w.drew.alloc (.cells ((cb.toList++arr.toList).toArray++Builtin.zeroCells z.cells (eo-(es.length+new.length))) el)) F μ' (C.put id (.arr e.size 0 (kg es new) false false true)) /\
   dZ I (w.drew.alloc (.cells ((cb.toList++arr.toList).toArray++Builtin.zeroCells z.cells (eo-(es.length+new.length))) el)) F μ' (.own id 0 0 (es.length+new.length) none) (.slice (some ⟨w.heap.size,0,none⟩) (es.length+new.length) eo):=by
 let⟨lj,b7⟩:=RQ hz hold aE pC
 have h:=zal hR hid (w':=w.drew.alloc (.cells ((cb.toList++arr.toList).toArray++Builtin.zeroCells z.cells (eo-(es.length+new.length))) el)) (size:=e.size) (es:=kg es new) (exact:=false) (row:=true)
  (cells:=(cb.toList++arr.toList).toArray++Builtin.zeroCells z.cells (eo-(es.length+new.length))) (el:=el) (ou w.drew _) (uT w.drew _) (λb hb=>qE w.drew _ hb) (λc hc=>by
    rw[oN]at hc;rcases bu.1 hc with h|h;exact xd c h
    exact kx c h) (by rw[oN,aR,lj];exact aQ _ pC) (λh=>by cases h) (λk c j v hk hj=>by
    let⟨y,hy,hp⟩:=b7 k c j v hk hj
    exact⟨y,hy,.pure hp,λ_=>hp⟩)
 refine⟨_,h.1,h.2,.own id 0 0 _ none eo ⟨w.heap.size,e.size,_⟩ (c8 ..) pC ?_ (λk hk=>by cases hk) (λ_=>?_)⟩;simp only[lj];omega;simp only[lj];omega
theorem zcQ(hR:R I w F μ P C){id:Nat}{a:Nat×Z (Z V)×Bool×Bool×Bool}(ha:ng C id g=some a)(xF:a.2.2.2.1=false){m m':MI}(hm:μ id g=some m){cells:Array Value}
 (cd:w.heap.size<=w'.heap.size) (cG:m'.b<w'.heap.size) (hb:m'.b=m.b\/w.heap.size<=m'.b) (hw:∀ b,b<w.heap.size->b≠m.b->w'.heap[b]?=w.heap[b]?)
 (hc:w'.heap[m'.b]?=some (.cells cells el (0,0))) (ht:cells.size=m'.total) (tP:m'.size=a.1) (hlen:∀ e∈cT,e.length=a.1) (hle:cT.length*a.1<=m'.total)
 (b7:∀ (k:Nat) (e:Z V) (j:Nat) (v:V),cT[k]?=some e->e[j]?=some v->∃ y,cells[k*a.1+j]?=some y/\fJ I w F v y) (D0:Io w w':=by exact⟨rfl,rfl,rfl⟩) :
 R I w' F (s6 μ id (g+1) m') P (C.wr id (.arr a.1 (g+1) cT false false true))/\Fr w F μ C w' F (s6 μ id (g+1) m') (C.wr id (.arr a.1 (g+1) cT false false true)):=by
 let⟨dq,cg⟩:=qZ ha;have eJ:=hR.row ha hm;have wg:=eJ.hn xF;have hF:∀ b,F b->w'.heap[b]?=w.heap[b]?:=λb hb=>hw b (hR.BR b hb) (λe=>wg (e ▸ hb));have zL3:¬ F m'.b:=by grind
 refine hR.next (a9:=C.wr id (.arr a.1 (g+1) cT false false true)) (o':=.arr a.1 (g+1) cT false false true) dq xF (m:=m) (m':=m') hm rfl rfl cd cG hb hw (λk=>EZ _ _ _ _) ?_ D0;intro m1 ez;rw[show (Obj.arr a.1 g a.2.1 a.2.2.1 a.2.2.2.1 a.2.2.2.2).gen+1=g+1 from rfl,c8]at ez;cases ez;refine⟨tP,hlen,⟨cells,el,hc,ht,hle,(λh=>by cases h),λk e j v hk hj=>?_⟩,(λh=>by cases h),λ_=>zL3⟩;let⟨y,hy,hp⟩:=b7 k e j v hk hj;have tM:=hp.mono I (λ_ h=>h) hF;exact⟨y,hy,.pure tM,λ_=>tM⟩
theorem Su{ty e:TypeId}{i:TypeInfo}(ht:P.underlying t=some (.slice e))(hi:P.info? e=some i){a:Addr}{news:Z Value}(C:Src P i.size tx x n news w)
 (eA:AS+n<=pe) (eK:(storeCells (a.add (AS*i.size)) news).run P w=.ok () w') :
 (Builtin.append_ #[t,tx] ty #[.slice (some a) AS pe,x]).run P w=.ok (.slice (some a) (AS+n) pe) w':=by
 rcases C.kind with⟨e',hk⟩|hk<;>simp[Builtin.append_,Go.run_underlying ht,Go.run_underlying hk,sizeOf,typeInfo,hi,C.len,eA,C.cells,eK]
theorem zd9{ty e:TypeId}{i:TypeInfo}(ht:P.underlying t=some (.slice e))(hi:P.info? e=some i){base:Y Addr}(C:Src P i.size tx x 0 [] w)
 (eA:AS<=pe):(Builtin.append_ #[t,tx] ty #[.slice base AS pe,x]).run P w=.ok (.slice base AS pe) w:=by
 rcases C.kind with⟨e',hk⟩|hk<;>cases base<;>simp[Builtin.append_,Go.run_underlying ht,Go.run_underlying hk,sizeOf,typeInfo,hi,C.len,eA,C.cells,storeCells]
theorem zl8 (hρ:Good I) (hR:R I w F μ P C)  (hid:IP μ C j9) {tS:TypeId} {j:TI}  (hi:ti P tS=some i) (hd:i.desc=.slice el) (he:ti P el=some e)
 (hj:ti P tX=some j) (hdj:j.desc=.slice zGJ) {s x:V} {S X:Value} (hS:dZ I w F μ s S) (hX:dZ I w F μ x X)  (h:CV e C j9 s x=some (v,a9)) :
 XE I P w F μ C (Builtin.append_ #[tS,tX] tR #[S,X]) v a9:=by
 simp only[CV,aC,bI,dz,jQ,beq_false,beq_true,dH,lV,Sw]at h;obtain⟨new,aE,⟨kx,cR,cg,ot,GF⟩,h⟩:=h;obtain⟨_,_,_,hu1,_⟩:=Es hi;obtain⟨_,_,_,hu2,_⟩:=Es hj;rw[hd]at hu1;rw[hdj]at hu2;obtain⟨info,z,xr,hz,zFI,JT,zI5,cd,hby⟩:=PE (I:=I) (w:=w) (F:=F) (μ:=μ) he;obtain⟨arr,sg,RP⟩:=src_ok (P:=P) hρ hR hu2 hX aE kx cR;rw[<- cd]at sg;have hzs:z.cells.size=e.size:=by rw[zFI.1,GF]
 have grow:∀ (es:Z (Z V)) (base:Y Addr) (pe:Nat) (cb:Array Value),(Builtin.firstCells e.size es.length (.slice base es.length pe)).run P w=.ok cb w->Flat I w F e.size es cb ->
  (∀ c∈es,c.length=e.size)->pe<es.length+new.length->(es.length+new.length)*e.bytes<=1048576 ->
  ∃ eo,es.length+new.length<=eo/\(Builtin.append_ #[tS,tX] tR #[.slice base es.length pe,X]).run P w=.ok (.slice (some ⟨w.heap.size,0,none⟩) (es.length+new.length) eo)
    (w.drew.alloc (.cells ((cb.toList++arr.toList).toArray++Builtin.zeroCells z.cells (eo-(es.length+new.length))) el)):=by
  intro es base pe cb hold NO xd cG eA;have hle:es.length+new.length<=1048576:=by have:(es.length+new.length)*1<=(es.length+new.length)*e.bytes:=kT _ (by omega);omega
  refine⟨grownCap w (es.length+new.length) pe el,grownCap_ge ..,?_⟩;refine run_append_grow_src w tS tX tR el info z hu1 xr hz base es.length pe cb.toList ?_ X new.length arr.toList sg cG (by omega) ?_;rw[cd];simpa using Il hold;rw[hby];have O:=aQ e.bytes (nextslicecap_le cG);have h3:2*(es.length+new.length)*e.bytes=2*((es.length+new.length)*e.bytes):=Nat.mul_assoc ..;omega
 have nothing:new.length=0->∀ (base:Y Addr) (len c:Nat),len<=c->(Builtin.append_ #[tS,tX] tR #[.slice base len c,X]).run P w=.ok (.slice base len c) w:=by
  intro h0 base len c hle;have hnil:arr.toList=[]:=by have:=RP.1;rw[h0]at this;simpa using this
  rw[h0,hnil]at sg;exact zd9 hu1 xr sg hle
 split at h;simp only[Gj,dH,yE]at h;have e1:=hS.Dn;subst e1;by_cases h0:new.length=0;rw[beq_true.2 h0,iR]at h;cases h;exact⟨_,w,F,μ,nothing h0 none 0 0 (af _),hR,.pure .a8,Fr.refl ..⟩;rw[beq_false.2 h0,il]at h;simp only[bI,gM,DD]at h;obtain⟨eA,h⟩:=h;cases h;have zF6:Flat I w F e.size [] #[]:=⟨by simp,λk c j v hk=>by simp at hk⟩;obtain⟨nc,Pd,dg⟩:=grow [] none 0 #[] rfl zF6 (λc hc=>by simp at hc) (by simp;omega) (by simpa using eA);obtain⟨μ',g1,g2,g3⟩:=Qs (el:=el) hR hid hzs zF6 RP (λc hc=>by simp at hc) kx Pd;simp only[ku,fV]at dg g1 g2 g3;exact⟨_,_,F,μ',dg,g1,g3,g2⟩;rename_i es tight;simp only[J8,dH,yE]at h;by_cases h0:new.length=0;rw[beq_true.2 h0,iR]at h;cases h;have hp:=hS.Dq
 have A5:∃ base c,S=.slice base es.length c/\es.length<=c:=by
  cases hp with
  |pT a c t ht=>exact⟨a,c,rfl,aZ _⟩
  |rj _ b off size c t ys hb hl fh iS hle ht=>exact⟨_,c,rfl,hle⟩
 obtain⟨base,c,rfl,hle⟩:=A5;exact⟨_,w,F,μ,nothing h0 base _ c hle,hR,.pure hp,Fr.refl ..⟩;rw[beq_false.2 h0,il]at h;simp only[bI,dz,gM,DD,lV]at h;obtain⟨⟨ht,eA,xd⟩,h⟩:=h;cases h;subst ht;obtain⟨base,c,Dd,cb,hold,NO⟩:=OJ (P:=P) hR hS (size:=e.size) (es:=es) rfl xd
 have hc:c=es.length:=by
  have hp:=hS.Dq;rw[Dd]at hp
  cases hp with
  |pT a c t ht=>exact ht rfl
  |rj _ b off size c t ys hb hl fh iS hle ht=>exact ht rfl
 subst Dd;obtain⟨nc,Pd,dg⟩:=grow es base c cb hold NO xd (by omega) eA;obtain⟨μ',g1,g2,g3⟩:=Qs (el:=el) hR hid hzs NO RP xd kx Pd;exact⟨_,_,F,μ',dg,g1,g3,g2⟩;rename_i id g off len cap;simp only[Di,aC,bI,dz,beq_true,dH,yE,gM]at h;obtain⟨a,ha,⟨fR,MV,sq,eA⟩,h⟩:=h;obtain⟨m,c,hm,rfl,g1,g2,g3,g4⟩:=hS.xe;have eJ:=hR.row ha hm;obtain⟨dq,zMj⟩:=qZ ha;have tP:m.size=a.1:=eJ.fg;have Qp:Flat I w F a.1 new arr:=by rw[MV];exact RP
 have zyX:∀ c∈new,c.length=a.1:=by rw[MV];exact kx
 have Pc:off=off / a.1*a.1:=by have:=ma off a.1;rw[jW];omega
 obtain⟨cells,elm,By,htot,hle,hex,b7⟩:=eJ.cells
 have zil:yY C id g off len cap a new=some (v,a9)->len+new.length<=c->XE I P w F μ C (Builtin.append_ #[tS,tX] tR #[.slice (some ⟨m.b,off,none⟩) len c,X]) v a9:=by
  intro h b4;simp only[yY,bI,dz,jQ,gM,dH]at h;obtain⟨⟨xF,eK⟩,h⟩:=h;cases h;obtain⟨w',k1,k2,k3⟩:=Q6 hρ hR ha xF hm Qp zyX cR eK;have sC:(off / a.1+len)*a.1=off+len*info.size:=by rw[gJ,<- Pc,cd,MV]
  rw[sC]at k1;refine⟨_,w',F,μ,Su hu1 xr sg b4 (by rw[eM];exact k1),k2,?_,k3⟩;exact .own id g off _ cap c m hm b4 g2 g3 g4
 cases cap with
 | some k =>
   rw[kX]at h;have hck:=g3 k rfl;subst hck;by_cases b4:len+new.length<=c;rw[gM.2 b4,iR]at h;exact zil h b4;rw[QR.2 (by omega),il]at h;simp only[aC,DD]at h;obtain⟨zNY,PB,h⟩:=h;obtain⟨ez,kj,rfl⟩:=QF PB;cases h;have fX:((a.2.1.drop (off / a.1)).take len).length=len:=(by simp;omega);have xd:∀ c∈(a.2.1.drop (off / a.1)).take len,c.length=e.size:=λc hc=>by rw[<- MV];exact eJ.hlen c (ni (fQ hc))
   obtain⟨base,c',Dd,cb,hold,NO⟩:=OJ (P:=P) hR hS (size:=e.size) (es:=(a.2.1.drop (off / a.1)).take len) (by
    show (ob (ng C id g) λa=>gd (et a.2.2.2.2 (Nat.beq a.1 e.size)) (BU a.1 off len a.2.1))=_;rw[ha,ed,fR,MV,<- MV];rw[show et true (Nat.beq a.1 a.1)=true from dz.2 ⟨rfl,beq_true.2 rfl⟩,rE]
    exact PB) xd
   rw[fX]at Dd hold;cases Dd;have hgrow:=grow ((a.2.1.drop (off / a.1)).take len) (some ⟨m.b,off,none⟩) c cb (by rw[fX];exact hold) NO xd (by rw[fX];omega) (by rw[fX];exact eA);obtain⟨nc,Pd,dg⟩:=hgrow;obtain⟨μ',k1,k2,k3⟩:=Qs (el:=el) hR hid hzs NO RP xd kx Pd;rw[fX]at dg k1 k2 k3;exact⟨_,_,F,μ',dg,k1,k3,k2⟩
 | none =>
   rw[Bi]at h;have N0:=g4 rfl;have py:0<a.1:=Nat.pos_of_ne_zero zMj;by_cases b4:off / a.1+len+new.length<=a.2.1.length;rw[gM.2 b4,iR]at h;refine zil h ?_;have M:(off / a.1+len+new.length)*a.1<=a.2.1.length*a.1:=aQ _ b4;rw[eH,gJ,<- Pc]at M;have O:off+(len+new.length)*a.1<=off+c*a.1:=(by rw[tP]at N0;omega);exact Nat.le_of_mul_le_mul_right (by omega) py;rw [QR.2 (by omega),il]at h;simp only[bI,dz,jQ,beq_true,gM]at h;obtain⟨⟨xF,rfl,hlen⟩,h⟩:=h;cases h;rw[yA];have hzd:(0:Nat) / a.1=0:=Nat.zero_div _;have xd:∀ c∈a.2.1.take len,c.length=a.1:=λc hc=>eJ.hlen c (fQ hc);have fX:(a.2.1.take len).length=len:=(by simp;omega);have cG:m.b<w.heap.size:=hR.lt _ _ _ hm;have fY:∀ c∈kg (a.2.1.take len) new,c.length=a.1:=(by intro c hc;rw[oN]at hc;rcases bu.1 hc with h|h;exact xd c h;exact zyX c h);have zF7:(kg (a.2.1.take len) new).length=len+new.length:=(by rw[oN,aR,fX]);by_cases zaE:len+new.length<=c
   -- in place
   have zpt:len*a.1+arr.size<=cells.size:=(by rw[Qp.1,<- gJ,htot];have:(len+new.length)*a.1<=c*a.1:=aQ _ zaE;rw[tP]at N0;omega);have eK:=Fa (P:=P) (o:=len*a.1) By (vs:=arr.toList) (by simpa using zpt) (Qp.one hρ zyX cR)
   have zpA:∀ (k:Nat) (c:Z V) (j:Nat) (v:V),(kg (a.2.1.take len) new)[k]?=some c->c[j]?=some v->∃ y,(cover cells (len*a.1) arr.toList)[k*a.1+j]?=some y/\fJ I w F v y:=by
    intro k c j v hk hj;rw[KH (by simpa using zpt)];simp only[jE,Qp.1]
    have ju:j<a.1:=by
     obtain⟨cG,_⟩:=aM.1 hj
     rwa [fY c (aI hk)]at cG
    rw[oN]at hk;by_cases kA:k<len;rw[jY (by omega),r9,if_pos kA]at hk;obtain⟨y,hy,_,hp⟩:=b7 k c j v hk hj;have:(k+1)*a.1<=len*a.1:=aQ _ kA;rw[gJ]at this;rw[if_neg (by omega)];exact⟨y,hy,hp fR⟩;rw[eU (by omega),fX]at hk;obtain⟨y,hy,hp⟩:=Qp.2 (k-len) c j v hk hj;obtain⟨zyQ,_⟩:=d9.1 hy;rw[Qp.1]at zyQ;have e1:k*a.1=len*a.1+(k-len)*a.1:=(by rw[<- gJ];congr 1;omega);rw[if_pos (by omega),show k*a.1+j-len*a.1=(k-len)*a.1+j by omega,gy];exact⟨y,hy,hp⟩
   have hn:=zcQ hR ha xF hm (w':=w.setRow m.b (cover cells (len*a.1) arr.toList)) (m':=m) (cells:=cover cells (len*a.1) arr.toList) (cT:=kg (a.2.1.take len) new) (by simp) (by simpa using cG) (.inl rfl)
    (λb _ hb=>setRow_other w m.b b _ hb) (setRow_heap w m.b _ _ _ _ By) (by rw[M7 (by simpa using zpt)];exact htot) tP fY (by
      rw[zF7];have:(len+new.length)*a.1<=c*a.1:=aQ _ zaE
      rw[tP]at N0;omega) zpA
   refine⟨_,_,F,_,Su hu1 xr sg zaE (by rw[eM,fV,cd,<- MV];exact eK),hn.1,?_,hn.2⟩;exact .own id (g+1) 0 _ none c m (c8 ..) zaE (by omega) (λk hk=>by cases hk) (λ_=>N0)
   -- a new block
   obtain⟨base,c',Dd,cb,hold,NO⟩:=OJ (P:=P) hR hS (size:=e.size) (es:=a.2.1.take len) (by
    show (ob (ng C id g) λa=>gd (et a.2.2.2.2 (Nat.beq a.1 e.size)) (BU a.1 0 len a.2.1))=_;rw[ha,ed,fR,<- MV];rw[show et true (Nat.beq a.1 a.1)=true from dz.2 ⟨rfl,beq_true.2 rfl⟩,rE];unfold BU
    rw[Nat.zero_mod,hzd,fV,dH,show et (Nat.beq 0 0) (Nat.ble len a.2.1.length)=true from dz.2 ⟨rfl,gM.2 hlen⟩,rE,yA,yS,sJ]) (by rw[<- MV];exact xd)
   rw[fX]at Dd hold;cases Dd;obtain⟨nc,Pd,dg⟩:=grow (a.2.1.take len) (some ⟨m.b,0,none⟩) c cb (by rw[fX];exact hold) NO (by rw[<- MV];exact xd) (by rw[fX];omega) (by rw[fX];exact eA);obtain⟨lj,zpA⟩:=RQ hzs NO RP Pd
   have hn:=zcQ hR ha xF hm (w':=w.drew.alloc (.cells ((cb.toList++arr.toList).toArray++Builtin.zeroCells z.cells (nc-((a.2.1.take len).length+new.length))) el)) (m':=⟨w.heap.size,a.1,nc*a.1⟩)
    (cells:=(cb.toList++arr.toList).toArray++Builtin.zeroCells z.cells (nc-((a.2.1.take len).length+new.length))) (el:=el) (cT:=kg (a.2.1.take len) new) (by rw[show (w.drew.alloc _).heap.size=w.heap.size+1 from ou w.drew _];omega)
    (by rw[show (w.drew.alloc _).heap.size=w.heap.size+1 from ou w.drew _];exact ji _) (.inr (af _)) (λb hb _=>qE w.drew _ hb) (uT w.drew _) (by rw[lj,MV]) rfl fY
    (by rw[zF7];exact aQ _ (by rw[<- fX];exact Pd)) (by rw[MV];exact zpA)
   have iS:∀ er:World,dZ I er F (s6 μ id (g+1) ⟨w.heap.size,a.1,nc*a.1⟩) (.own id (g+1) 0 (len+new.length) none) (.slice (some ⟨w.heap.size,0,none⟩) ((a.2.1.take len).length+new.length) nc):=by intro er;rw[fX];refine .own id (g+1) 0 _ none nc ⟨w.heap.size,a.1,nc*a.1⟩ (c8 ..) (by rw[<- fX];exact Pd) ?_ (λk hk=>by cases hk) (λ_=>?_);show 0+nc*a.1<=nc*a.1;omega;show 0+nc*a.1=nc*a.1;omega
   have hrun':(Builtin.append_ #[tS,tX] tR #[.slice (some ⟨m.b,0,none⟩) len c,X]).run P w=.ok (.slice (some ⟨w.heap.size,0,none⟩) ((a.2.1.take len).length+new.length) nc)
    (w.drew.alloc (.cells ((cb.toList++arr.toList).toArray++Builtin.zeroCells z.cells (nc-((a.2.1.take len).length+new.length))) el)):=by
    rw[<- dg,fX]
   exact⟨_,_,F,_,hrun',hn.1,iS _,hn.2⟩
 cases h
theorem zts(a b:Nat):zoJ a b=Nat.min a b:=by
 grind [zoJ,gM,iR,Nat.min_eq_left,QR,il,Nat.min_eq_right]
theorem zuG (hρ:Good I) (hR:R I w F μ P C) {tD:TypeId}   (hi:ti P tD=some i) (hd:i.desc=.slice el) (he:ti P el=some e)
 {d x:V} {D X:Value} (hD:dZ I w F μ d D) (hX:dZ I w F μ x X)  (h:zdE e C d x=some (v,a9)) :
 XE I P w F μ C (Builtin.copy_ #[tD,tX] tR #[D,X]) v a9:=by
 simp only[zdE,aC]at h;obtain⟨src,sg,h⟩:=h
 have head:∀ (base:Y Addr) (dl dc:Nat) (bx:Y Addr) (n c:Nat) (arr:Array Value) (er:World),D=.slice base dl dc->X=.slice bx n c->(Builtin.firstCells e.size (Nat.min n dl) X).run P w=.ok arr w ->
  (match base with
  |some a=>storeCells a arr.toList
  |none=>pure ():Sem Unit).run P w=.ok () er->(Builtin.copy_ #[tD,tX] tR #[D,X]).run P w=.ok (.int .i64 (Nat.min n dl:Nat)) er:=by
  intro base dl dc bx n c arr er M O h3 h4;subst M;subst O
  cases base with
  | none =>simp only[Sem.run_pure]at h4;cases h4;simp[Builtin.copy_,gT hi,hd,Builtin.lenOf,uu he,h3,goInt]
  | some a =>simp only at h4;simp[Builtin.copy_,gT hi,hd,Builtin.lenOf,uu he,h3,goInt,h4]
 split at h;rename_i id g off len cap;simp only[za6,aC,bI,dz,jQ,beq_true,lV,Sw,gM,dH,zts,yA]at h;obtain⟨a,ha,⟨xF,fR,MV,sq,cf,ua,b4⟩,h⟩:=h;cases h;obtain⟨base,c,rfl,GS⟩:=V3 (P:=P) hR hX sg cf;obtain⟨m,cD,hm,rfl,g1,g2,g3,g4⟩:=hD.xe;obtain⟨arr,M,O⟩:=GS (Nat.min src.length len) (Nat.min_le_left ..);have hlen:(src.take (Nat.min src.length len)).length=Nat.min src.length len:=by simp[Nat.min_def];split<;>omega
 obtain⟨w',k1,k2,k3⟩:=Q6 hρ hR ha xF hm (by rw[MV];exact O) (λc hc=>by rw[MV];exact cf c (fQ hc)) (λc hc=>ua c (fQ hc)) (st:=off / a.1) (by rw[hlen];exact b4);have Pc:off / a.1*a.1=off:=by have:=ma off a.1;rw[jW];omega
 rw[Pc]at k1;rw[fR]at k2 k3;exact⟨_,w',F,μ,head _ _ _ _ _ _ arr w' rfl rfl M k1,k2,.pure (.int _ _),k3⟩;cases h;have e1:=hD.Dn;subst e1
 have:∃ bx n c,X=.slice bx n c:=by
  unfold Av at sg;split at sg;exact⟨_,_,_,hX.Dn⟩;have hp:=hX.Dq
  cases hp with
  |pT a c t ht=>exact⟨_,_,_,rfl⟩
  |rj _ b off size c t ys hb hl fh iS hle ht=>exact⟨_,_,_,rfl⟩
  obtain⟨m,c,hm,rfl,_⟩:=hX.xe;exact⟨_,_,_,rfl⟩;cases sg
 obtain⟨bx,n,c,rfl⟩:=this;refine⟨_,w,F,μ,head none 0 0 bx n c #[] w rfl rfl ?_ rfl,hR,?_,Fr.refl ..⟩;rw[show Nat.min n 0=0 from Nat.min_eq_right (aZ _)];cases bx<;>simp[Builtin.firstCells,loadCells,loadCellsFrom]
 rw[show Nat.min n 0=0 from Nat.min_eq_right (aZ _)];exact .pure (.int _ _);cases h
theorem zp9(hR:R I w F μ P C)(W:dZ I w F μ v x)(h:D5 dr v C=some (v',a9)) :
 ∃ F',R I w F' μ P a9/\Fr w F μ C w F' μ a9/\qc C a9/\fJ I w F' v' x:=by
 unfold D5 at h
 cases dr with
 | true =>grind [iR,bI,Fr.refl,qc.refl,dZ.CF]
 |false=>rw[il]at h;exact zY hR W h
def zfl(dr:Bool)(e:TI)(len:Nat)(C:HS)(es:Z (Z V)):Aa dr T e len [] C es=some (es,C):=rfl
def zcK(dr:Bool)(e:TI)(len:Nat)(p:Nat×Operand)(l:Z (Nat×Operand))(C:HS)(es:Z (Z V)):Aa dr T e len (p::l) C es =
 ob (bU T p.2) λv=>ob (D5 dr v C) λr=>gd (et (Nat.beq (dB r.1.cells) e.size) (Nat.blt p.1 len)) (Aa dr T e len l r.2 (Xm es p.1 r.1.cells)):=rfl
theorem zog (hρ:Good I)   {len:Nat} :∀ (l:Z (Nat×Operand)) {F:Nat->Prop} {C:HS} {es cT:Z (Z V)} {a9:HS} {cells:Array Value},
 R I w F μ P C->kR I w F μ T a.tmps->Aa dr T e len l C es=some (cT,a9)->es.length=len->(∀ c∈es,c.length=e.size)->Flat I w F e.size es cells ->
 ∃ F' cA,Instr.fill (λi=>some (i*e.size,e.size)) cells (l.map λ(i,x)=>(i,a.eval x))=some cA/\R I w F' μ P a9/\Fr w F μ C w F' μ a9/\qc C a9/\cT.length=len/\(∀ c∈cT,c.length=e.size)/\Flat I w F' e.size cT cA:=by
 intro l
 induction l with
 | nil =>intro F C es cT a9 cells hR hT h hl hc hf;rw[zfl]at h;cases h;exact⟨F,cells,rfl,hR,Fr.refl ..,qc.refl _,hl,hc,hf⟩
 | cons p l ih =>
   intro F C es cT a9 cells hR hT h hl hc hf;rw[zcK]at h;simp only[aC,bI,dz,beq_true,gz,dH,ZM]at h;let⟨v,hv,⟨v',cp⟩,ew,⟨M,O⟩,h⟩:=h;dsimp only at M h;let⟨F1,k1,k2,k3,k4⟩:=zp9 hR (dM hT hv) ew;have hpc:=UT hρ k4;have CD:(a.eval p.2).cells.size=e.size:=(by rw[hpc.1,M]);have PA:(p.1+1)*e.size<=es.length*e.size:=aQ _ (by omega);rw[gJ,Nat.one_mul]at PA;have sB:=hf.1;let⟨q1,q2⟩:=zdm (p.1*e.size) (a.eval p.2).cells cells;have hFm:∀ v y,fJ I w F v y->fJ I w F1 v y:=λv y h=>h.mono I k2.fm (λ_ _=>rfl)
   have RP:Flat I w F1 e.size (es.set p.1 v'.cells) ((a.eval p.2).cells.zipIdx.foldl (λcs (q:Value×Nat)=>cs.setIfInBounds (p.1*e.size+q.2) q.1) cells):=by
    refine⟨by rw[q1,List.length_set];exact sB,λk c j u hk hj=>?_⟩;rw[q2,CD];rw[mR]at hk;by_cases lR:p.1=k;subst lR;rw[if_pos rfl,if_pos (by omega)]at hk;cases hk;let⟨ju,_⟩:=aM.1 hj;rw[if_pos (by omega),show p.1*e.size+j-p.1*e.size=j by omega];have cG:j<(a.eval p.2).cells.size:=(by omega);refine⟨(a.eval p.2).cells[j],by simp[cG],?_⟩;have:=hpc.2 j u hj
    rwa [bS,fB cG]at this
    rw [if_neg lR]at hk;have ju:j<e.size:=(by grind);rw[if_neg];let⟨y,hy,hp⟩:=hf.2 k c j u hk hj;grind;rintro ⟨h3,h4,_⟩;rcases oK lR with cG|cG;have:(p.1+1)*e.size<=k*e.size:=aQ _ cG;grind;have:(k+1)*e.size<=p.1*e.size:=aQ _ cG;rw[gJ]at this;omega
   let⟨F',cA,r1,r2,r3,r4,r5,r6,r7⟩:=ih k1 (k2.zxB hR hT) h (by rw[List.length_set];exact hl) (λc wq=>by
    rcases iX wq with h|h;exact hc c h
    rw[h];exact M) RP
   refine⟨F',cA,?_,r2,k2.trans r3,k3.trans r4,r5,r6,r7⟩;cases p;simp only[aX,Instr.fill];rw[if_neg];exact r1;simp only[iQ,decide_eq_true_eq,ne_eq,not_or,Decidable.not_not];dsimp only at CD PA;constructor;exact CD;omega
theorem qc.none{a b:HS}{id:Nat}(h:qc a b)(hf:a.H.get id=none):b.H.get id=none:=by
 rcases h.2 id with M|⟨_,_,_,_,_,_,M,_⟩;rw[M];exact hf;rw[hf]at M;cases M
def qc.free{a b:HS}{id:Nat}(h:qc a b)(hf:IP μ a id):IP μ b id:=⟨h.none hf.1,hf.2⟩
theorem zoF(hR:R I w F μ P C){id:Nat}(hid:IP μ C id)(B:_root_.Go.Obj) :
 R I (qW w B) (λb=>F b\/b=w.heap.size) μ P (C.put id (.mp []))/\Fr w F μ C (qW w B) (λb=>F b\/b=w.heap.size) μ (C.put id (.mp [])):=by
 have hold:∀ b,b<w.heap.size->(qW w B).heap[b]?=w.heap[b]?:=λb hb=>qE _ _ hb;have dq:∀ k,(C.put id (.mp [])).H.get k=if k=id then some (.mp [])else C.H.get k:=λk=>mJ _ _ _ _
 have cd:=ou w B
 refine⟨⟨λi g m hm=>by have:=hR.lt i g m hm;omega,λb hb=>?_,λi o ho=>?_,λi j o o' m m' ho im hm eW he=>?_,λi o ho g hg=>?_,hR.gl.bw (λb hb=>.inl hb) λb hb=>hold b (hR.BR b hb)⟩,
  ⟨⟨rfl,rfl,rfl⟩,by omega,λb hb _=>hold b hb,λb hb=>.inl hb,λb hb=>?_,λ_ _ _ h=>h,?_,λk hk=>?_,λk _ g=>rfl,λk _ h=>h,λi g m hm=>.inr ⟨i,g,m,hm,rfl⟩⟩⟩
 rcases hb with hb|rfl;have:=hR.BR b hb;omega;omega;rw[dq]at ho;split at ho;rename_i e;cases ho;subst e;intro m hm;rw[hid.2]at hm;cases hm;refine(hR.obj i o ho).mono (λb hb=>.inl hb) (λb hb=>hold b (hR.BR b hb)) (λ_ _ _ h=>h) (λ_ h=>h) (λm hm=>hold _ (hR.lt _ _ _ hm)) (λm hm _ hn hF=>?_);rcases hF with hF|hF;exact hn hF;have:=hR.lt _ _ _ hm;omega;rw[dq]at ho im;split at ho;rename_i e;cases ho;subst e;rw[hid.2]at hm;cases hm;split at im;rename_i e;cases im;subst e;rw[hid.2]at eW;cases eW;exact hR.inj i j o o' m m' ho im hm eW he;rw[dq]at ho;split at ho;rename_i e;subst e;exact hid.2 g;exact hR.zL i o ho g hg;grind;rintro b ⟨i,o,m,ho,hz,hm,rfl⟩;rw[dq]at ho;split at ho;rename_i e;cases ho;subst e;rw[hid.2]at hm;cases hm;exact .inl ⟨i,o,m,ho,hz,hm,rfl⟩;grind
theorem XB (hρ:Good I) (hR:R I w F μ P C) {id:Nat} (hid:IP μ C id)   (hT:kR I w F μ T a.tmps)  {len:Nat} {parts:Array (Nat×Operand)}  
 (h:jU P dr T C id t len parts=some (v,a9)):XE I P w F μ C (Instr.buildSlice t len (parts.map λ(i,x)=>(i,a.eval x))) v a9:=by
 simp only[jU,aC,bI,dz,jQ,beq_true,beq_false,gM,dH,zU,ZT]at h;let⟨i,hi,el,hd,e,he,⟨hsmall,cg,GF,hpz⟩,⟨es,cp⟩,hparts,h⟩:=h;cases h;let⟨info,z,xr,hz,zFI,JT,zI5,cd,hby⟩:=PE (I:=I) (w:=w) (F:=F) (μ:=μ) he;have b7:=XH (w:=w) he GF zFI len zI5;let⟨F',cA,r1,r2,r3,r4,r5,r6,r7⟩:=zog hρ parts.toList hR hT hparts (by simp) (λc hc=>by rw[List.eq_of_mem_replicate hc];exact GF) (cells:=(Array.range (len*e.size)).map (z.cells[· % z.cells.size]!)) ⟨by simp,b7⟩;have zde:(parts.map λ(i,x)=>(i,a.eval x)).toList=parts.toList.map λ(i,x)=>(i,a.eval x):=by simp
 have dg:(Instr.buildSlice t len (parts.map λ(i,x)=>(i,a.eval x))).run P w=.ok (.slice (some ⟨w.heap.size,0,none⟩) len len) (qW w (.cells cA el)):=by
  have hbig:¬ len*e.size>2 ^ 24:=by omega
  simp only[Instr.buildSlice,Sem.run_bind,gT hi,Result.andThen_ok,hd,uu he,if_neg hbig,zde];by_cases h0:len*e.size=0;have u4:(Array.range (len*e.size)).map (z.cells[· % z.cells.size]!)=(Array.range (len*e.size)).map (λx=>(#[]:Array Value)[x % (#[]:Array Value).size]!):=by rw[h0];simp[show Array.range 0=#[] from rfl]
  rw[u4]at r1;simp only[if_pos h0,Sem.run_pure,Result.andThen_ok,r1,Go.newRow,Sem.run_bind,run_newObj];rfl;simp only[if_neg h0,Sem.run_bind,JT,Sem.run_pure,Result.andThen_ok,r1,Go.newRow,run_newObj];rfl
 cases zQt:Nat.beq e.bytes 128 with
 | true =>
   have fR:=zal r2 (r4.free hid) (w':=qW w (.cells cA el)) (size:=e.size) (es:=es) (exact:=true) (row:=true) (cells:=cA) (el:=el) (ou _ _) (uT _ _) (λb hb=>qE _ _ hb) r6 (Nat.le_of_eq r7.1.symm) (λ_=>r7.1) (λk x j v hk hj=>by
    let⟨y,hy,hp⟩:=r7.2 k x j v hk hj
    exact⟨y,hy,.pure hp,λ_=>hp⟩)
   refine⟨.slice (some ⟨w.heap.size,0,none⟩) len len,qW w (.cells cA el),_,_,dg,fR.1,?_,r3.trans fR.2⟩;have hc:cA.size=len*e.size:=(by rw[r7.1,r5]);exact .own id 0 0 len (some len) len _ (c8 ..) (af _) (by simp[hc]) (λk hk=>by cases hk;rfl) (λh=>by cases h)
 | false =>
   have hg:=zoF r2 (r4.free hid) (.cells cA el);refine⟨.slice (some ⟨w.heap.size,0,none⟩) len len,qW w (.cells cA el),_,μ,dg,hg.1,.pure ?_,r3.trans hg.2⟩;rw[<- r5];have fh:∀ (k:Nat) (c:Z V) (j:Nat) (u:V),es[k]?=some c->c[j]?=some u->∃ y,(qW w (.cells cA el)).cell? ⟨w.heap.size,0+k*e.size+j,none⟩=some y/\fJ I (qW w (.cells cA el)) (λb=>F' b\/b=w.heap.size) u y:=by intro k c j u hk hj;let⟨y,hy,hp⟩:=r7.2 k c j u hk hj;refine⟨y,?_,hp.mono I (λb hb=>.inl hb) (λb hb=>qE _ _ (r2.BR b hb))⟩;rw[fV];simp only[World.cell?,uT,o7];exact hy
   exact .rj es w.heap.size 0 e.size es.length true (λk j=>((qW w (.cells cA el)).cell? ⟨w.heap.size,0+k*e.size+j,none⟩).getD undef) (.inr rfl) r6 (λk c j u hk hj=>by
    let⟨y,hy,_⟩:=fh k c j u hk hj
    rw[hy];rfl) (λk c j u hk hj=>by
    let⟨y,hy,hp⟩:=fh k c j u hk hj
    rw[hy];exact hp) (af _) (λ_=>rfl)
theorem Du{r:Nat}{o:_root_.Go.Obj}(h:w.heap[r]?=some o)(hc:∀ c e f,o≠.cells c e f):(getObj r).run P w=.ok o w:=by
 cases o<;>first|(exact absurd rfl (hc _ _ _))|simp[getObj,Sem.run,h]
theorem Dt{r:Nat}{o:_root_.Go.Obj}(h:w.heap[r]?=some o)(hc:∀ c e f,o≠.cells c e f):(setObj r o').run P w=.ok () { w with heap:=w.heap.setIfInBounds r o' }:=by
 cases o<;>first|(exact absurd rfl (hc _ _ _))|simp[setObj,Sem.run,h]
def R.map(hR:R I w F μ P C){id:Nat}{es:Z (V×V)}(h:C.H.get id=some (.mp es)){m:MI}(hm:μ id 0=some m):zqQ I w F m es:=hR.obj id _ h m hm
theorem A0 {o:Obj}{es:Z (V×V)}:o.mp?=some es↔o=.mp es:=by cases o<;>simp[Obj.mp?]
theorem zoS(hR:R I w F μ P C)(hi:ti P t=some i)(W:dZ I w F μ v x)(h:SU C i.desc v=some n) :
 yc I P w F μ (Builtin.len_ (t::ts).toArray tR #[x]) (.int .i64 (Int.ofNat n)):=by
 refine⟨.int .i64 (n:Int),?_,.pure (.int _ _)⟩;unfold SU at h;split at h;rename_i hd;simp only[aC,V.lB]at h;obtain⟨s,rfl,h⟩:=h;cases h;obtain⟨s,rfl,rfl⟩:=W.Cx;rw[dH,xX];simp[Builtin.len_,gT hi,hd,goInt];rename_i el hd;split at h;cases h;rw[W.Dn];simp[Builtin.len_,gT hi,hd,goInt];cases h;rw[dH];have hp:=W.Dq
 cases hp with
 |pT a c t ht=>simp[Builtin.len_,gT hi,hd,goInt]
 |rj _ b off size c t ys hb hl fh iS hle ht=>simp[Builtin.len_,gT hi,hd,goInt]
 cases h;obtain⟨m,c,hm,rfl,_⟩:=W.xe;simp[Builtin.len_,gT hi,hd,goInt];cases h;rename_i k el hd;split at h;cases h;rw[W.Mw];simp[Builtin.len_,gT hi,hd,goInt];simp only[aC,A0]at h;obtain⟨o,ho,es,rfl,h⟩:=h;cases h;obtain⟨m,hm,rfl⟩:=W.GR;let⟨⟨en,clock,TX,fY,_⟩,_⟩:=hR.map ho hm;rw[dH];have hg:=Du (P:=P) TX (λc e f h=>by cases h);simp[Builtin.len_,gT hi,hd,goInt,hg,fY];cases h;cases h
theorem DL(h:uE d k=true)(hk:dZ I w F μ k K) :
 (∃ j n,d=.int j/\k=.int j n/\K=.int j n)\/(∃ s,d=.string/\k=.str (bytesOf s)/\K=.string s)\/(∃ b,d=.bool/\k=.bool b/\K=.bool b):=by
 unfold uE at h;split at h;split at h;rename_i j k' n;rw[EC]at h;subst h;exact .inl ⟨_,_,rfl,rfl,hk.lT⟩;cases h;split at h;obtain⟨s,rfl,rfl⟩:=hk.Cx;grind;cases h;split at h;exact .inr (.inr ⟨_,rfl,rfl,hk.uL⟩);cases h;cases h
theorem zc6{a:V}{A:Value}{b:Bool}(hk:dZ I w F μ k K)(ha:fJ I w F a A)(eC:uE d k=true)(h:Lp k a=some b) :
 Instr.sameNow d K A=some b/\(b=true->a=k):=by
 have ha':dZ I w F (λ_ _=>none) a A:=.pure ha;rcases DL eC hk with⟨j,n,rfl,rfl,rfl⟩|⟨s,rfl,rfl,rfl⟩|⟨q,rfl,rfl,rfl⟩;simp only[Lp,aC,bI,V.fp,EC]at h;obtain⟨⟨k',m⟩,rfl,he,h⟩:=h;dsimp only at he;subst he;cases h;rw[ha'.lT];refine⟨by simp[Instr.sameNow,zaX],λh=>?_⟩;rw[OH]at h;rw[h];simp only[Lp,aC,V.lB]at h;obtain⟨t,rfl,h⟩:=h;cases h;obtain⟨t,rfl,rfl⟩:=ha'.Cx;refine⟨by simp[Instr.sameNow,zdt],λh=>?_⟩;rw[Df]at h;rw[h];simp only[Lp,aC,V.fv]at h;obtain⟨c,rfl,h⟩:=h;cases h;rw[ha'.uL];refine⟨by simp[Instr.sameNow,Gg],λh=>?_⟩;grind [Gg]
def zll(k:V):VO k []=some none:=rfl
def zf6(k:V)(p:V×V)(l:Z (V×V)):VO k (p::l)=ob (Lp k p.1) λq=>bi q (some (some p.2)) (VO k l):=rfl
theorem P1    (hk:dZ I w F μ k K) (eC:uE d k=true):∀ (es:Z (V×V)) (en:Z MapEntry) (i:Nat) {r:Y V},en.length=es.length ->
 (∀ (i:Nat) (k v:V),es[i]?=some (k,v)->∃ e:MapEntry,en[i]?=some e/\fJ I w F k e.key/\fJ I w F v e.val)->VO k es=some r ->
 (r=none/\Instr.findNow d K en i=some none)\/(∃ v j x,r=some v/\Instr.findNow d K en i=some (some (i+j,x))/\fJ I w F v x/\j<es.length):=by
 intro es
 induction es with
 | nil =>intro en i r hl _ h;rw[zll]at h;cases h;have:en=[]:=(by simpa using hl);subst this;exact .inl ⟨rfl,rfl⟩
 | cons p es ih =>
   intro en i r hl b7 h
   cases en with
   |nil=>simp at hl
   | cons e en =>
     rw[zf6]at h;simp only[aC]at h;let⟨q,hq,h⟩:=h;let⟨e',At,M,O⟩:=b7 0 p.1 p.2 rfl;simp at At;subst At;let⟨C,_⟩:=zc6 hk M eC hq
     cases q with
     | true =>rw[iR]at h;cases h;exact .inr ⟨p.2,0,e.val,rfl,by simp[Instr.findNow,C],O,by simp⟩
     | false =>
       rw[il]at h;have:=ih en (i+1) (by simpa using hl) (λi k v hi=>b7 (i+1) k v (by simpa using hi)) h;rcases this with⟨h3,h4⟩|⟨v,j,x,h3,h4,h5,h6⟩;exact .inl ⟨h3,by simp[Instr.findNow,C,h4]⟩;exact .inr ⟨v,j+1,x,h3,by simp[Instr.findNow,C,h4];omega,h5,by simp;omega⟩
theorem Sl(S8:ti P t=some ki)(hk:dZ I w F μ k K)(eC:uE ki.desc k=true)(b:Bool):(Instr.checkKey b 10000 t K).run P w=.ok () w:=by
 have key:∀ n,(Instr.checkKey b (n+1) t K).run P w=.ok () w:=by intro n;simp only[Instr.checkKey,Sem.run_bind,gT S8,Result.andThen_ok];rcases DL eC hk with⟨j,n,hd,rfl,rfl⟩|⟨s,hd,rfl,rfl⟩|⟨q,hd,rfl,rfl⟩<;>rw[hd]<;>rfl
 exact key 9999
theorem zjf(he:ti P t=some e)(h:zbH e=some v):∃ z,(zeroValue t).run P w=.ok z w/\dZ I w F μ v z:=by
 have At:=he;simp only[ti,aC]at At;let⟨info,M,d,O,z,h3,cs,h4,h5⟩:=At;cases h5;let⟨hl,hz⟩:=yK (I:=I) (w:=w) (F:=F) h4;refine⟨z,by simp[zeroValue,typeInfo,M,h3],?_⟩;unfold zbH at h;simp only at h
 cases I2:zo3 z with
 | true =>
   rw[I2,iR]at h;cases h;cases z<;>first|(cases I2;done)|skip
   rename_i cells;refine .agg cs cells (by simpa [Value.cells]using hl) λi u hi=>?_;let⟨x,W,hr⟩:=hz i u hi;have u3:cells[i]?=some x:=(by simpa [Value.cells]using W);rw[bS,u3];exact .pure hr
 | false =>
   rw[I2,il,sP]at h;let⟨x,W,hr⟩:=hz 0 v h;have hc:z.cells=#[z]:=by cases z<;>first|rfl|(cases I2)
   rw[hc]at W;simp at W;subst W;exact .pure hr
theorem zkL (hR:R I w F μ P C)  (hT:kR I w F μ T a.tmps)  {k:Operand} {ok:Bool}   (h:mM P T C t m k ok=some (v,a9)) :
 a9=C/\yc I P w F μ (Instr.lookup t (a.eval m) (a.eval k) ok) v:=by
 simp only[mM,aC,bI,zcX]at h;let⟨i,hi,⟨kt,el⟩,hd,ki,S8,e,he,mv,hm,kv,hk,eC,es,fY,r,hr,u,hu,h⟩:=h;cases h;refine⟨rfl,?_⟩;have hkr:=dM hT hk;have hmr:=dM hT hm;have hck:=Sl (P:=P) S8 hkr eC
 have fin:∀ (en:Array MapEntry),((a.eval m=.map none/\en=#[])\/∃ r c,a.eval m=.map (some r)/\(getObj r).run P w=.ok (.map en c) w)->en.size=es.length ->
  (∀ (i:Nat) (k v:V),es[i]?=some (k,v)->∃ e:MapEntry,en[i]?=some e/\fJ I w F k e.key/\fJ I w F v e.val) ->
  yc I P w F μ (Instr.lookup t (a.eval m) (a.eval k) ok) (bi ok (.tuple [u,.bool (fE r)]) u):=by
  intro en TX cd b7;have hf:=P1 hkr eC es en.toList 0 (by simpa using cd) (λi k v hi=>by simpa using b7 i k v hi) hr;have zJb:∀ q,Instr.findNow ki.desc (a.eval k) en.toList 0=some q->(Instr.findKey kt (a.eval k) en.toList).run P w=.ok q w:=by intro q hq;simp only[Instr.findKey,Sem.run_bind,gT S8,Result.andThen_ok,hq,Sem.run_pure]
  have me:∃ x,dZ I w F μ u x/\(Instr.lookup t (a.eval m) (a.eval k) ok).run P w=.ok (if ok then .tuple #[x,.bool (fE r)]else x) w:=by
   rcases hf with⟨rfl,hq⟩|⟨v,j,x,rfl,hq,hp,_⟩;rw[Bi]at hu;let⟨z,hz,zFI⟩:=zjf (I:=I) (w:=w) (F:=F) (μ:=μ) he hu;refine⟨z,zFI,?_⟩;unfold Instr.lookup;rcases TX with⟨hm,rfl⟩|⟨r,c,hm,hg⟩;simp_all [gT,fE];rw[hm];simp[gT hi,hd,hg,hck,zJb _ hq,hz,fE]
   try (split<;>rfl)
   rw[kX]at hu;cases hu;refine⟨x,.pure hp,?_⟩;unfold Instr.lookup;rcases TX with⟨hm,rfl⟩|⟨r,c,hm,hg⟩;grind;rw[hm];simp[gT hi,hd,hg,hck,zJb _ hq,fE]
   try (split<;>rfl)
  let⟨x,W,dg⟩:=me;refine⟨_,dg,?_⟩
  cases ok with
  |false=>exact W
  | true =>
    refine .tuple _ _ rfl λi c hi=>?_
    match i,hi with
    | 0,hi=>simp at hi;subst hi;exact W
    | 1,hi=>simp at hi;subst hi;exact .pure (.bool _)
    |i+2,hi=>simp at hi
 unfold nO at fY;split at fY;cases fY;have e1:=hmr.Mw;simp_all;simp only[aC,A0]at fY;obtain⟨o,ho,rfl⟩:=fY;let⟨mi,Rg,e1⟩:=hmr.GR;let⟨⟨en,clock,TX,cd,b7⟩,_⟩:=hR.map ho Rg;simp_all [Du];cases fY
def zcC(k v:V):GJ k v []=some [(k,v)]:=rfl
def Z4(k v:V)(p:V×V)(l:Z (V×V)):GJ k v (p::l)=ob (Lp k p.1) λq=>bi q (some ((p.1,v)::l)) (ob (GJ k v l) λr=>some (p::r)):=rfl
theorem zx1    (hk:dZ I w F μ k K) (eC:uE d k=true):∀ (es:Z (V×V)) (en:Z MapEntry) (i:Nat) {cT:Z (V×V)},en.length=es.length ->
 (∀ (i:Nat) (k v:V),es[i]?=some (k,v)->∃ e:MapEntry,en[i]?=some e/\fJ I w F k e.key/\fJ I w F v e.val)->GJ k v es=some cT ->
 (Instr.findNow d K en i=some none/\cT=es++[(k,v)])\/(∃ j x u,Instr.findNow d K en i=some (some (i+j,x))/\es[j]?=some (k,u)/\cT=es.set j (k,v)):=by
 intro es
 induction es with
 | nil =>intro en i cT hl _ h;rw[zcC]at h;cases h;have:en=[]:=(by simpa using hl);subst this;exact .inl ⟨rfl,rfl⟩
 | cons p es ih =>
   intro en i cT hl b7 h
   cases en with
   |nil=>simp at hl
   | cons e en =>
     rw[Z4]at h;simp only[aC]at h;let⟨q,hq,h⟩:=h;let⟨e',At,M,O⟩:=b7 0 p.1 p.2 rfl;simp at At;subst At;let⟨C,lR⟩:=zc6 hk M eC hq
     cases q with
     | true =>rw[iR]at h;cases h;let⟨p1,p2⟩:=p;have:=lR rfl;dsimp only at this;subst this;exact .inr ⟨0,e.val,p2,by simp[Instr.findNow,C],rfl,rfl⟩
     | false =>
       rw[il]at h;simp only[aC]at h;let⟨r,hr,h⟩:=h;cases h;rcases ih en (i+1) (by simpa using hl) (λi k v hi=>b7 (i+1) k v (by simpa using hi)) hr with⟨h3,rfl⟩|⟨j,x,u,h3,h4,rfl⟩;exact .inl ⟨by simp[Instr.findNow,C,h3],rfl⟩;exact .inr ⟨j+1,x,u,by simp[Instr.findNow,C,h3];omega,by simpa using h4,rfl⟩
theorem zkP{e:Value}(hk:dZ I w F μ k K)(eC:uE d k=true)(he:fJ I w F k e)(w':World):fJ I w F k K/\(Instr.keyThatStays e K).run P w'=.ok K w':=by
 have At:dZ I w F (λ_ _=>none) k e:=.pure he;have np:fJ I w F k K:=by refine hk.CF I ?_;rcases DL eC hk with⟨j,n,rfl,rfl,rfl⟩|⟨s,rfl,rfl,rfl⟩|⟨q,rfl,rfl,rfl⟩<;>rfl
 refine⟨np,?_⟩
 have hsb:Instr.sameBits 10000 e K=true:=by
  rcases DL eC hk with⟨j,n,rfl,rfl,rfl⟩|⟨s,rfl,rfl,rfl⟩|⟨q,rfl,rfl,rfl⟩;rw[At.lT];simp[Instr.sameBits];obtain⟨t,rfl,ht⟩:=At.Cx;have:(t == s)=true:=by rw[<- zdt,Df];exact ht
  simpa [Instr.sameBits]using this;rw[At.uL];simp[Instr.sameBits]
 simp[Instr.keyThatStays,hsb]
theorem Oh (hR:R I w F μ P C)  (hT:kR I w F μ T a.tmps)  {k x:Operand}   (h:iw P T C t m k x=some (v,a9)) :
 ∃ w' F',v=oW/\(Instr.mapUpdate t (a.eval m) (a.eval k) (a.eval x)).run P w=.ok () w'/\R I w' F' μ P a9/\Fr w F μ C w' F' μ a9:=by
 simp only[iw,aC,bI,zcX]at h;let⟨i,hi,⟨kt,el⟩,hd,ki,S8,mv,hm,kv,hk,xv,W,eC,h⟩:=h;dsimp only at *;split at h
 case h_2=>cases h
 rename_i id;simp only[aC,A0]at h;obtain⟨⟨v',cp⟩,hp,o,ho,es,rfl,cT,mj,h⟩:=h;cases h;have hkr:=dM hT hk;have hmr:=dM hT hm;let⟨F',Gv,my,_,hs⟩:=zY hR (dM hT W) hp;dsimp only at *;have ztY:dZ I w F' μ kv (a.eval k):=my.rep hR hkr;let⟨mi,Rg,e1⟩:=(my.rep hR hmr).GR;have hck:=Sl (P:=P) S8 hkr eC false;let⟨⟨en,clock,TX,cd,b7⟩,wg⟩:=Gv.map ho Rg;have hg:=Du (P:=P) TX (λc e f h=>by cases h);have cG:=Gv.lt _ _ _ Rg;have hkp:fJ I w F' kv (a.eval k):=by refine ztY.CF I ?_;rcases DL eC ztY with⟨j,n,_,h,_⟩|⟨s,_,h,_⟩|⟨q,_,h,_⟩<;>rw[h]<;>rfl
 have fin:∀ (T8:Array MapEntry) (pN:Nat),T8.size=cT.length ->
  (∀ (i:Nat) (k v:V),cT[i]?=some (k,v)->∃ e:MapEntry,T8[i]?=some e/\fJ I w F' k e.key/\fJ I w F' v e.val) ->
  (Instr.mapUpdate t (a.eval m) (a.eval k) (a.eval x)).run P w=.ok () { w with heap:=w.heap.setIfInBounds mi.b (.map T8 pN) } ->
  ∃ w' F',oW=oW/\(Instr.mapUpdate t (a.eval m) (a.eval k) (a.eval x)).run P w=.ok () w'/\R I w' F' μ P (cp.wr id (.mp cT))/\Fr w F μ C w' F' μ (cp.wr id (.mp cT)):=by
  intro T8 pN HC zGh dg;have jt:∀ b,b≠mi.b->({ w with heap:=w.heap.setIfInBounds mi.b (.map T8 pN) }:World).heap[b]?=w.heap[b]?:=λb hb=>by grind
  have zOA:∀ b,F' b->({ w with heap:=w.heap.setIfInBounds mi.b (.map T8 pN) }:World).heap[b]?=w.heap[b]?:=λb hb=>jt b (λe=>wg (e ▸ hb))
  let⟨M,O⟩:=Gv.write (w':={ w with heap:=w.heap.setIfInBounds mi.b (.map T8 pN) }) (a9:=cp.wr id (.mp cT)) (o':=.mp cT) ho rfl Rg rfl rfl (by simp) jt (λj=>EZ cp id (.mp cT) j) (by
   intro m' eW;rw[show m'=mi from bT (eW.symm.trans Rg)];refine⟨⟨T8,pN,by simp[cG],HC,λi k v hi=>?_⟩,wg⟩;let⟨e,M,O,h3⟩:=zGh i k v hi
   exact⟨e,M,O.mono I (λ_ h=>h) zOA,h3.mono I (λ_ h=>h) zOA⟩)
  exact⟨_,F',rfl,dg,M,my.trans O⟩
 have hset:∀ o',(setObj mi.b o').run P w=.ok () { w with heap:=w.heap.setIfInBounds mi.b o' }:=λo'=>Dt TX (λc e f h=>by cases h);rcases zx1 ztY eC es en.toList 0 (by simpa using cd) (λi k v hi=>by simpa using b7 i k v hi) mj with⟨hq,rfl⟩|⟨j,y,u,hq,hj,rfl⟩;have zJb:(Instr.findKey kt (a.eval k) en.toList).run P w=.ok none w:=by simp only[Instr.findKey,Sem.run_bind,gT S8,Result.andThen_ok,hq,Sem.run_pure]
 refine fin (en.push { key:=a.eval k,val:=a.eval x,born:=clock }) (clock+1) (by simp[cd]) (λi k v hi=>?_) ?_;by_cases e:i<es.length;grind;rw[eU (by omega)]at hi;have:i=es.length:=by grind
 subst this;simp at hi;obtain⟨rfl,rfl⟩:=hi;exact⟨_,by rw[nQ,if_pos cd.symm],hkp,hs⟩;unfold Instr.mapUpdate;simp_all [gT];have zJb:(Instr.findKey kt (a.eval k) en.toList).run P w=.ok (some (0+j,y)) w:=by simp only[Instr.findKey,Sem.run_bind,gT S8,Result.andThen_ok,hq,Sem.run_pure]
 let⟨e,he,zQr,_⟩:=b7 j _ _ hj;have eK:=(zkP (P:=P) ztY eC zQr w).2;refine fin (en.modify j λe=>{ e with key:=a.eval k,val:=a.eval x }) clock (by simp[cd]) (λi k v hi=>?_) ?_;grind;unfold Instr.mapUpdate;simp_all [gT]
def Zj(I:Nat->Value)(P:Program)(w:World)(F:Nat->Prop)(μ:Nat->Nat->Y MI)(s:Sem Next)(v:V):Prop:=∃ x,s.run P w=.ok (.value x) w/\dZ I w F μ v x
def Zi(I:Nat->Value)(P:Program)(w:World)(F:Nat->Prop)(μ:Nat->Nat->Y MI)(C:HS)(s:Sem Next)(v:V)(a9:HS):Prop :=
 ∃ n x w' F' μ',s.run P w=.ok n w'/\(n=.value x\/(n=.skip/\x=undef))/\R I w' F' μ' P a9/\dZ I w' F' μ' v x/\Fr w F μ C w' F' μ' a9
theorem Zj.zHE(hR:R I w F μ P C){s:Sem Next}(h:Zj I P w F μ s v):Zi I P w F μ C s v C:=by
 let⟨x,M,O⟩:=h;exact⟨_,x,w,F,μ,M,.inl rfl,hR,O,Fr.refl ..⟩
theorem yc.next(h:yc I P w F μ s v):Zj I P w F μ (do pure (.value (<- s))) v:=by
 let⟨x,M,O⟩:=h;exact⟨x,by simp[M],O⟩
theorem XE.next(h:XE I P w F μ C s v a9):Zi I P w F μ C (do pure (.value (<- s))) v a9:=by
 let⟨x,w',F',μ',M,O,h3,h4⟩:=h;exact⟨_,x,w',F',μ',by simp[M],.inl rfl,O,h3,h4⟩
def PI{s:Sem Unit}(M:s.run P w=.ok () w')(O:R I w' F' μ P a9)(h3:Fr w F μ C w' F' μ a9) :
 Zi I P w F μ C (do s;pure .skip) oW a9 :=
 ⟨.skip,undef,w',F',μ,by simp[M],.inr ⟨rfl,rfl⟩,O,.pure (.tuple [] #[] rfl λi v hi=>by simp at hi),h3⟩
theorem Og{x:Operand}(h:Vg T C x=some (v,a9)):a9=C/\bU T x=some v:=by
 grind [Vg,aC]
theorem zoo (hρ:Good I) (hR:R I w F μ P C)  (hT:kR I w F μ T a.tmps)  (hc:dX o.op=0) (ey:qN o.op=none)  {id:Nat}  
 (h:UZ P dr T C id (WY o.op)=some (v,a9)):a9=C/\Zj I P w F μ (execOp a.eval o) v:=by
 let⟨dst,op,ty,pos,after,guard⟩:=o;dsimp only at *;cases op<;>first|(cases hc;done)|(cases ey;done)|(cases h;done)|skip
 case move x =>
  replace h:Vg T C x=some (v,a9):=h;obtain⟨rfl,hv⟩:=Og h;exact⟨rfl,a.eval x,rfl,dM hT hv⟩
 case assign x =>
  replace h:Vg T C x=some (v,a9):=h;obtain⟨rfl,hv⟩:=Og h;exact⟨rfl,a.eval x,rfl,dM hT hv⟩
 case pick c x y =>
  replace h:NY T C c x y=some (v,a9):=h;simp only[NY,aC,V.fv]at h;obtain⟨_,hc,q,rfl,u,hu,h⟩:=h;cases h;have e:=(dM hT hc).uL;refine⟨rfl,(if q then a.eval x else a.eval y),?_,?_⟩;simp[execOp,e,asBool]
  cases q with
  |true=>exact dM hT hu
  |false=>exact dM hT hu
 case load t x =>
  replace h:CK P T C t x=some (v,a9):=h;simp only[CK,aC]at h;let⟨i,hi,p,hp,u,hu,h⟩:=h;cases h;exact⟨rfl,(zih hR hi (dM hT hp) hu).next⟩
 case nilCheck x =>
  replace h:vo T C x=some (v,a9):=h;simp only[vo,aC,bI]at h;let⟨u,hu,hn,h⟩:=h;cases h;have hr:=dM hT hu;refine⟨rfl,a.eval x,?_,hr⟩
  have key:(∃ b,a.eval x=.pointer (some b))\/∃ f cs ys,a.eval x=.func f cs ys/\∀ m,f≠.method m:=by
   cases v with
   |ptr id g off=>let⟨m,_,e⟩:=hr.yI;exact .inl ⟨_,e⟩
   | ref cs =>have h:=hr.GG;generalize a.eval x=y at h;cases h;exact .inl ⟨_,rfl⟩
   |func f cs=>let⟨ys,e,_⟩:=hr.Br;exact .inr ⟨_,_,_,e,λm h=>by cases h⟩
   |lx id=>let⟨m,_,e⟩:=hr.Nn;exact .inr ⟨_,_,_,e,λm h=>by cases h⟩
   |_=>cases hn
  rcases key with⟨b,e⟩|⟨f,cs,ys,e,cg⟩;simp[execOp,e];cases f<;>first|exact absurd rfl (cg _)|simp[execOp,e]
 case binOp op t x y u =>
  replace h:Hu P T C op t x y=some (v,a9):=h;simp only[Hu,aC]at h;let⟨p,hp,q,hq,r,hr,h⟩:=h;cases h;rw[iV]at hr;split at hr;rename_i hc;have hy:y=.const .nilIface:=by unfold JE at hc;split at hc;rfl;cases hc
  subst hy;exact⟨rfl,(ztg (dM hT hp) hr).next⟩;exact⟨rfl,(zu3 (u:=t) (dM hT hp) (dM hT hq) hr).next⟩
 case unOp op t x =>
  replace h:Rj T C op x=some (v,a9):=h;unfold Rj at h;split at h;simp only[aC,V.fv]at h;obtain⟨_,hp,b,rfl,h⟩:=h;cases h;have e:=(dM hT hp).uL;exact⟨rfl,.bool (!b),by simp[execOp,e,Op.unary],by rw[Ll];exact .pure (.bool _)⟩;simp only[aC,V.fp]at h;obtain⟨_,hp,p,rfl,h⟩:=h;cases h;have e:=(dM hT hp).lT;refine⟨rfl,.int p.1 (p.1.wrap (0-p.2)),by simp[execOp,e,Op.unary,Op.intArith],?_⟩;rw[IW];exact .pure (.int _ _);cases h
 case convert s d x =>
  replace h:Wj P T C s d x=some (v,a9):=h;simp only[Wj,aC]at h;let⟨i,hi,j,hj,p,hp,r,hr,h⟩:=h;cases h;exact⟨rfl,(zuH hi hj (dM hT hp) hr).next⟩
 case makeInterface t x =>
  replace h:DF P T C t x=some (v,a9):=h;simp only[DF,aC,bI,jQ]at h;let⟨i,hi,hn,p,hp,h⟩:=h;cases h;refine⟨rfl,.iface t (a.eval x),?_,.iface t p _ (dM hT hp)⟩;have:(Instr.makeInterface t (a.eval x)).run P w=.ok (.iface t (a.eval x)) w:=by simp only[Instr.makeInterface,Sem.run_bind,gT hi,Result.andThen_ok];cases hd:i.desc<;>first|rfl|(rw[hd]at hn;cases hn)
  simp[execOp,this]
 case makeFunc fn first Ca =>
  replace h:Db T C fn first Ca=some (v,a9):=h;unfold Db at h;split at h
  rename_i f;simp only[bI,aC]at h;let⟨hf,l,hl,h⟩:=h;cases h;let⟨hlen,Bs⟩:=Yz hT hl;have zfU:first=#[]:=by grind
  subst zfU;refine⟨rfl,.func (.func f) #[] (Ca.map a.eval),by simp[execOp,Instr.makeFunc],?_⟩;refine .func f l _ (by simpa using hlen) λj u hj=>?_;let⟨o,ho,hr⟩:=Bs j u hj;simp_all;cases h
 case slice t x lo hi mx =>
  replace h:yB P T C t x lo hi mx=some (v,a9):=h;simp only[yB,aC]at h;let⟨i,hi,p,hp,r,hr,h⟩:=h;cases h;exact⟨rfl,(znL hR hT hi (dM hT hp) hr).next⟩
 case fieldAddr t x f =>
  replace h:rF P T C t x f=some (v,a9):=h;simp only[rF,aC,bI,jQ,beq_false]at h;let⟨i,hi,fd,uv,fi,tU,cg,p,hp,r,hr,h⟩:=h;cases h;exact⟨rfl,(zaU hi uv tU cg (dM hT hp) hr).next⟩
 case field t x f =>
  replace h:MZ P T C t x f=some (v,a9):=h;simp only[MZ,aC,V.P3]at h;obtain⟨i,hi,fd,uv,fi,tU,_,hp,cs,rfl,r,hr,h⟩:=h;cases h;exact⟨rfl,(zpQ hi uv tU (dM hT hp) hr).next⟩
 case indexAddr t x ix =>
  replace h:rC P T C t x ix=some (v,a9):=h;simp only[rC,aC,V.rk]at h;obtain⟨i,hi,el,hd,e,he,p,hp,_,hn,n,⟨k,rfl⟩,r,hr,h⟩:=h;cases h;have e1:=(dM hT hn).lT;have:=(zyO (k:=k) hi hd he (dM hT hp) hr).next;rw[<- e1]at this;exact⟨rfl,this⟩
 case index t x ix =>
  replace h:MP P T C t x ix=some (v,a9):=h;simp only[MP,aC,bI,V.rk,V.lB]at h;obtain⟨i,hi,hd,_,hp,s,rfl,_,hn,n,⟨k,rfl⟩,b,hb,h⟩:=h;cases h;have e1:=(dM hT hn).lT;have:=(zo5 (k:=k) hi hd (dM hT hp) hb).next;rw[<- e1]at this;exact⟨rfl,this⟩
 case lookup t m k ok =>
  replace h:mM P T C t m k ok=some (v,a9):=h;let⟨M,O⟩:=zkL hR hT h;exact⟨M,O.next⟩
 case extract x k =>
  replace h:yR T C x k=some (v,a9):=h;simp only[yR,aC,V.D4]at h;obtain⟨_,hp,vs,rfl,r,hr,h⟩:=h;cases h;exact⟨rfl,(zgc (dM hT hp) hr).next⟩
 case build t parts =>
  replace h:yV P T C t parts=some (v,a9):=h;simp only[yV,aC]at h;let⟨i,hi,cs,lj,h⟩:=h;cases h
  cases O:jg i.desc with
  | true =>rw[O]at lj;have lj:gd (jK P (fieldsOf i.desc)) (Cb P T i parts.toList i.zero)=some cs:=lj;rw[bI]at lj;exact⟨rfl,(zqk hρ hT hi lj.1 O lj.2).next⟩
  | false =>
    rw[O]at lj;have lj:(ob (zd5 i.desc) λel=>ob (ti P el) λe=>CU T e.size parts.toList i.zero)=some cs:=lj;simp only[aC]at lj;let⟨el,GS,e,he,lj⟩:=lj;exact⟨rfl,(zlZ hρ hT hi GS he lj).next⟩
theorem zok(hρ:Good I)(hR:R I w F μ P C)(hT:kR I w F μ T a.tmps)(ey:qN o.op=none){id:Nat}(hid:dX o.op≠0->IP μ C id)
 (h:UZ P dr T C id (WY o.op)=some (v,a9)):Zi I P w F μ C (execOp a.eval o) v a9:=by
 by_cases hc:dX o.op=0;obtain⟨rfl,M⟩:=zoo hρ hR hT hc ey h;exact M.zHE hR;replace hid:=hid hc;let⟨dst,op,ty,pos,after,guard⟩:=o;dsimp only at *;cases op<;>first|(exact absurd rfl hc)|(cases ey;done)|(cases h;done)|skip
 case alloc t =>
  replace h:Cc P C id t=some (v,a9):=h;exact(zqK hR hid h).next
 case box t x =>
  replace h:XC T C id x=some (v,a9):=h;exact(zz5 hρ hR hid hT t h).next
 case buildSlice t n parts =>
  replace h:jU P dr T C id t n parts=some (v,a9):=h;exact(XB hρ hR hid hT h).next
 case store t x y =>
  replace h:nL P T C t x y=some (v,a9):=h;simp only[nL,aC]at h;let⟨i,hi,p,hp,u,hu,cp,M,h⟩:=h;cases h;let⟨w',F',O,h3,h4⟩:=zb5 hρ hR hi (dM hT hp) (dM hT hu) M;exact PI O h3 h4
 case mapUpdate t m k x =>
  replace h:iw P T C t m k x=some (v,a9):=h;obtain⟨w',F',rfl,O,h3,h4⟩:=Oh hR hT h;exact PI O h3 h4
 case insert t m k x =>
  replace h:iw P T C t m k x=some (v,a9):=h;obtain⟨w',F',rfl,O,h3,h4⟩:=Oh hR hT h;exact PI O h3 h4
 case makeMap t r =>
  replace h:Bo C id r=some (v,a9):=h;exact(zfB hR hid h).next
 case makeSlice t l c =>
  replace h:mK P T C id t l c=some (v,a9):=h;simp only[mK,aC]at h;let⟨i,hi,p,hp,q,hq,h⟩:=h;exact(zaq hR hid hi (dM hT hp) (dM hT hq) h).next
theorem zaa{x:V}:MT l=some x↔l=[x]:=by
 match l with
 | []=>simp[MT,lr]
 | [y]=>simp[MT,lr]
 |y::z::t=>simp[MT,lr]
theorem Kn{p:V×V}:ZA l=some p↔l=[p.1,p.2]:=by
 match l with
 | []=>simp[ZA,lr]
 | y::t =>
   have:ZA (y::t)=ob (MT t) λz=>some (y,z):=rfl;grind [aC,zaa,Option.some.injEq]
theorem RH:yN ts=some u↔∃ t,ts=[t,u]:=by
 match ts with
 | []=>simp[yN]
 | [t]=>simp[yN]
 | [t,u']=>simp[yN]
 |_::_::_::_=>simp[yN]
theorem WG(hT:kR I w F μ T a.tmps){xs:Array Operand}(h:kG T xs.toList=some vs) :
 (xs.map a.eval).toList.length=vs.length/\∀ (j:Nat) (v:V),vs[j]?=some v->∃ x,(xs.map a.eval)[j]?=some x/\dZ I w F μ v x:=by
 let⟨M,O⟩:=Yz hT h;grind
theorem J7(hT:kR I w F μ T a.tmps){xs:Array Operand}{x:V}(h:kG T xs.toList=some [x]):∃ X,xs.map a.eval=#[X]/\dZ I w F μ x X:=by
 let⟨M,O⟩:=WG hT h;let⟨X,hX,hr⟩:=O 0 x rfl;grind
theorem Gi(hT:kR I w F μ T a.tmps){xs:Array Operand}{x y:V}(h:kG T xs.toList=some [x,y]):∃ X kq,xs.map a.eval=#[X,kq]/\dZ I w F μ x X/\dZ I w F μ y kq:=by
 let⟨M,O⟩:=WG hT h;let⟨X,hX,hr⟩:=O 0 x rfl;let⟨kq,hY,C⟩:=O 1 y rfl;grind
theorem zgC(hρ:Good I)(hR:R I w F μ P C)(hT:kR I w F μ T a.tmps){id:Nat}(hid:b=.append->IP μ C id){ts:Array TypeId}{cs:Array Bool}{xs:Array Operand}
 (fy:kG T xs.toList=some vs) (h:qO P C id b ts.toList vs=some (v,a9)):Zi I P w F μ C (builtin b ts tR cs (xs.map a.eval)) v a9:=by
 unfold qO at h;split at h;unfold JC at h;simp only[aC,zaa]at h;obtain⟨i,hi,x,rfl,n,hn,h⟩:=h;cases h;let⟨X,hX,hr⟩:=J7 hT fy;rw[hX]
 cases xa:ts.toList with
 |nil=>rw[xa]at hi;cases hi
 | cons t l =>rw[xa]at hi;have e:ts=(t::l).toArray:=(by rw[<- xa]);rw[e];exact(zoS hR hi hr hn).next.zHE hR
 unfold AJ at h;simp only[aC,Kn,RH,zU]at h;obtain⟨p,rfl,e,he,u,⟨t,xa⟩,j,hj,zGJ,hdj,h⟩:=h;let⟨X,kq,hX,hr,C⟩:=Gi hT fy;have US:ts=#[t,u]:=by apply Array.ext';rw[xa]
 rw[xa]at he;replace he:(ob (ti P t) λi=>ob (sN i.desc) λel=>ti P el)=some e:=he;simp only[aC,zU]at he;let⟨i,hi,el,hd,he⟩:=he;rw[hX,US];exact(zl8 hρ hR (hid rfl) hi hd he hj hdj hr C h).next;unfold za7 at h;simp only[aC,Kn,RH]at h;obtain⟨p,rfl,e,he,u,⟨t,xa⟩,h⟩:=h;let⟨X,kq,hX,hr,C⟩:=Gi hT fy;have US:ts=#[t,u]:=by apply Array.ext';rw[xa]
 rw[xa]at he;replace he:(ob (ti P t) λi=>ob (sN i.desc) λel=>ti P el)=some e:=he;simp only[aC,zU]at he;let⟨i,hi,el,hd,he⟩:=he;rw[hX,US];exact(zuG hρ hR hi hd he hr C h).next;unfold vz at h;simp only[aC,Kn,V.fp]at h;obtain⟨p,rfl,q,M,r,O,h⟩:=h;cases h;let⟨X,kq,hX,hr,C⟩:=Gi hT fy;rw[M]at hr;rw[O]at C;rw[hX,hr.lT,C.lT];exact(yc.next (Ku true ts tR)).zHE hR;unfold vz at h;simp only[aC,Kn,V.fp]at h;obtain⟨p,rfl,q,M,r,O,h⟩:=h;cases h;let⟨X,kq,hX,hr,C⟩:=Gi hT fy;rw[M]at hr;rw[O]at C;rw[hX,hr.lT,C.lT];exact(yc.next (Ku false ts tR)).zHE hR;cases h
end
structure Kept(C a9:HS):Prop where
 log:∀ k,k∈C.log->k∈a9.log
 obj:∀ k o,C.H.get k=some o->k ∉ a9.log->a9.H.get k=some o
 le:C.n<=a9.n
 hm:∀ k,C.H.get k≠none->a9.H.get k≠none
theorem Kept.refl(C:HS):Kept C C:=⟨λ_ h=>h,λ_ _ h _=>h,af _,λ_ h=>h⟩
def Kept.trans{a b c:HS}(h:Kept a b)(h':Kept b c):Kept a c :=
 ⟨λk hk=>h'.log k (h.log k hk),λk o ho hn=>h'.obj k o (h.obj k o ho λhk=>hn (h'.log k hk)) hn,aO h.le h'.le,λk hk=>h'.hm k (h.hm k hk)⟩
theorem yG{id:Nat}(o:Obj)(h:C.H.get id=none):Kept C (C.put id o) :=
 ⟨λ_ hk=>hk,λk o' ho _=>by
   rw[mJ];split;rename_i e;subst e;rw[h]at ho;cases ho
   exact ho,af _,λk hk=>by
   rw[mJ];split;simp
   exact hk⟩
theorem o9(C:HS)(id:Nat)(o:Obj):Kept C (C.wr id o) :=
 ⟨λk hk=>aD _ hk,λk o' ho hn=>by
   rw[EZ];split;rename_i e;subst e;exact absurd (aB ..) hn
   exact ho,af _,λk hk=>by
   rw[EZ];split;simp
   exact hk⟩
def VM(C:HS)(id:Nat):Kept C (iO C id):=by
 unfold iO
 cases C.H.get id with
 |none=>exact .refl _
 |some o=>cases o<;>first|exact .refl _|exact o9 ..
theorem zaQ(C:HS):∀ l:Z V,Kept C (mO C l):=by
 intro l
 induction l with
 |nil=>exact .refl _
 | cons v l ih =>
   rw[G8];refine ih.trans ?_;unfold nU;split;exact VM ..;exact .refl _
theorem pE(h:nE v C=some (v',a9)):Kept C a9:=by
 grind [nE,aC,zaQ]
theorem Kept.zs9   {id:Nat} (h:C.H.get id=none):(mO C l).H.get id=none:=by
 induction l with
 |nil=>exact h
 | cons v l ih =>
   rw[G8];unfold nU;split;rename_i i g o len cap;unfold iO
   cases ho:(mO C l).H.get i with
   |none=>exact ih
   | some o =>
     cases o with
     | arr s g es ex fz row =>show ((mO C l).wr i (.arr s g es ex true row)).H.get id=none;grind [EZ]
     |_=>exact ih
   exact ih
section
variable {id:Nat}
theorem Lh{id off:Nat}(h:qG i id g off v C=some a9):Kept C a9:=by
 grind [qG,aC,bI,o9]
theorem Rn{p:V}(h:E9 i C p v=some a9):Kept C a9:=by
 unfold E9 at h;split at h;rw[iV]at h;split at h;simp only[aC]at h;let⟨r,hr,h⟩:=h;exact(pE hr).trans (Lh h);exact Lh h;cases h
theorem zdK{r:V×HS}(h:D5 dr v C=some r)(hid:C.H.get id=none):Kept C r.2/\r.2.H.get id=none:=by
 unfold D5 at h;rw[iV]at h;split at h;simp only[bI]at h;let⟨_,h⟩:=h;cases h;exact⟨.refl _,hid⟩;grind [pE,nE,aC,Kept.zs9]
def zcJ{len:Nat}:∀ (l:Z (Nat×Operand)) {C:HS} {es:Z (Z V)} {r:Z (Z V)×HS},Aa dr T e len l C es=some r->C.H.get id=none->Kept C r.2/\r.2.H.get id=none:=by
 intro l
 induction l with
 |nil=>intro C es r h hid;cases h;exact⟨.refl _,hid⟩
 | cons p l ih =>
   intro C es r h hid;replace h:(ob (bU T p.2) λv=>ob (D5 dr v C) λr=>gd (et (Nat.beq (dB r.1.cells) e.size) (Nat.blt p.1 len)) (Aa dr T e len l r.2 (Xm es p.1 r.1.cells)))=some r:=h;simp only[aC,bI]at h;let⟨v,_,q,hq,_,h⟩:=h;let⟨M,O⟩:=zdK hq hid;let⟨h3,h4⟩:=ih h O;exact⟨M.trans h3,h4⟩
theorem ME{es:Z (Z V)}(h:DD e C id n es=some (v,a9))(hid:C.H.get id=none):Kept C a9:=by
 cases h;exact yG _ hid
theorem LM{i off len:Nat}{cap:Y Nat}{a:Nat×Z (Z V)×Bool×Bool×Bool}{new:Z (Z V)}(h:yY C i g off len cap a new=some (v,a9)):Kept C a9:=by
 grind [yY,bI,o9]
theorem zbe{s x:V}(h:CV e C id s x=some (v,a9))(hid:C.H.get id=none):Kept C a9:=by
 simp only[CV,aC,bI]at h;obtain⟨new,_,_,h⟩:=h;split at h;unfold Gj at h;rw[iV]at h;split at h;cases h;exact .refl _;grind [bI,ME];unfold J8 at h;rw[iV]at h;split at h;cases h;exact .refl _;grind [bI,ME];rename_i i g off len cap;simp only[Di,aC,bI]at h;obtain⟨a,_,_,h⟩:=h
 cases cap with
 | none =>grind [Bi,iV,LM,bI,o9]
 | some c =>grind [kX,iV,LM,aC,ME]
 cases h
theorem zgp{d x:V}(h:zdE e C d x=some (v,a9)):Kept C a9:=by
 simp only[zdE,aC]at h;let⟨src,_,h⟩:=h;split at h;grind [za6,aC,bI,o9];cases h;exact .refl _;cases h
theorem zba(h:qO P C id b ts vs=some (v,a9))(hid:b=.append->C.H.get id=none):Kept C a9:=by
 unfold qO at h;split at h;simp only[JC,aC]at h;let⟨_,_,_,_,_,_,h⟩:=h;cases h;exact .refl _;grind [AJ,aC,zbe];grind [za7,aC,zgp];simp only[vz,aC]at h;let⟨_,_,_,_,_,_,h⟩:=h;cases h;exact .refl _;simp only[vz,aC]at h;let⟨_,_,_,_,_,_,h⟩:=h;cases h;exact .refl _;cases h
theorem zon{o:Op}(hc:dX o=0)(ey:qN o=none)(h:UZ P dr T C id (WY o)=some (v,a9)):a9=C:=by
 cases o<;>first|(cases hc;done)|(cases ey;done)|(cases h;done)|skip
 case move x=>replace h:Vg T C x=some (v,a9):=h;exact(Og h).1
 case assign x=>replace h:Vg T C x=some (v,a9):=h;exact(Og h).1
 case pick c x y =>
  replace h:NY T C c x y=some (v,a9):=h;grind [NY,aC]
 case load t x =>
  replace h:CK P T C t x=some (v,a9):=h;grind [CK,aC]
 case nilCheck x =>
  replace h:vo T C x=some (v,a9):=h;grind [vo,aC,bI]
 case binOp op t x y u =>
  replace h:Hu P T C op t x y=some (v,a9):=h;grind [Hu,aC]
 case unOp op t x =>
  replace h:Rj T C op x=some (v,a9):=h;unfold Rj at h;grind [aC]
 case convert s d x =>
  replace h:Wj P T C s d x=some (v,a9):=h;grind [Wj,aC]
 case makeInterface t x =>
  replace h:DF P T C t x=some (v,a9):=h;grind [DF,aC,bI]
 case makeFunc fn first Ca =>
  replace h:Db T C fn first Ca=some (v,a9):=h;unfold Db at h
  grind [bI,aC]
 case slice t x lo hi mx =>
  replace h:yB P T C t x lo hi mx=some (v,a9):=h;grind [yB,aC]
 case fieldAddr t x f =>
  replace h:rF P T C t x f=some (v,a9):=h;grind [rF,aC,bI]
 case field t x f =>
  replace h:MZ P T C t x f=some (v,a9):=h;grind [MZ,aC]
 case indexAddr t x ix =>
  replace h:rC P T C t x ix=some (v,a9):=h;grind [rC,aC]
 case index t x ix =>
  replace h:MP P T C t x ix=some (v,a9):=h;grind [MP,aC,bI]
 case lookup t m k ok =>
  replace h:mM P T C t m k ok=some (v,a9):=h;simp only[mM,aC,bI]at h;grind
 case extract x k =>
  replace h:yR T C x k=some (v,a9):=h;grind [yR,aC]
 case build t parts =>
  replace h:yV P T C t parts=some (v,a9):=h;grind [yV,aC]
theorem zol{o:Op}(ey:qN o=none)(hid:dX o≠0->C.H.get id=none)(h:UZ P dr T C id (WY o)=some (v,a9)):Kept C a9:=by
 by_cases hc:dX o=0;rw[zon hc ey h];exact .refl _;replace hid:=hid hc;cases o<;>first|(exact absurd rfl hc)|(cases ey;done)|(cases h;done)|skip
 case alloc t =>
  replace h:Cc P C id t=some (v,a9):=h;grind [Cc,aC,bI,yG]
 case box t x =>
  replace h:XC T C id x=some (v,a9):=h;grind [XC,aC,yG]
 case buildSlice t n parts =>
  replace h:jU P dr T C id t n parts=some (v,a9):=h;simp only[jU,aC,bI]at h;let⟨_,_,_,_,_,_,_,r,hr,h⟩:=h;cases h;let⟨M,O⟩:=zcJ _ hr hid;exact M.trans (yG _ O)
 case store t x y =>
  replace h:nL P T C t x y=some (v,a9):=h;grind [nL,aC,Rn]
 case mapUpdate t m k x =>
  replace h:iw P T C t m k x=some (v,a9):=h;simp only[iw,aC,bI]at h;let⟨_,_,_,_,_,_,_,_,_,_,_,_,_,h⟩:=h;split at h;simp only[aC]at h;let⟨_,hp,_,_,_,_,_,_,h⟩:=h;cases h;exact(pE hp).trans (o9 ..);cases h
 case insert t m k x =>
  replace h:iw P T C t m k x=some (v,a9):=h;simp only[iw,aC,bI]at h;let⟨_,_,_,_,_,_,_,_,_,_,_,_,_,h⟩:=h;split at h;simp only[aC]at h;let⟨_,hp,_,_,_,_,_,_,h⟩:=h;cases h;exact(pE hp).trans (o9 ..);cases h
 case makeMap t r =>
  replace h:Bo C id r=some (v,a9):=h;grind [Bo,bI,yG]
 case makeSlice t l c =>
  replace h:mK P T C id t l c=some (v,a9):=h;simp only[mK,xK,aC,bI]at h;grind [yG]
end
section
variable {id:Nat}
structure rP(ev:Ev):Prop where
 code:∀ {rd sz c T C r},ev.code rd sz c T C=some r->Kept C r.2.2
 call:∀ {f args C r},ev.call f args C=some r->Kept C r.2
def qz(E:Env):Prop:=∀ {f args C r},E.dA f args C=some r->Kept C r.2
theorem uY:∀ {l l':Z V} {C a9:HS},kK l C=some (l',a9)->Kept C a9:=by
 intro l
 induction l with
 |nil=>intro l' C a9 h;cases h;exact .refl _
 | cons v l ih =>
   intro l' C a9 h;replace h:(ob (nE v C) λr=>ob (kK l r.2) λq=>some (r.1::q.1,q.2))=some (l',a9):=h;simp only[aC]at h;let⟨⟨u,cp⟩,hu,⟨m,ea⟩,hm,h⟩:=h;cases h;exact(pE hu).trans (ih hm)
theorem X6{r p:V×HS}(h:zfg r=some p):Kept r.2 p.2:=by
 grind [zfg,aC,uY,pE]
def zdP (cH:rP ev)  {args:Z V} {r:V×HS} (h:Fy E ev f args C=some r):Kept C r.2:=by
 have key:∀ eI,oD ev f eI C=some r->Kept C r.2:=by intro eI h;simp only[oD,aC,bI]at h;let⟨_,_,_,h⟩:=h;cases h;exact .refl _
 unfold Fy at h
 cases hp:E.zj f with
 | zero =>rw[hp]at h;replace h:bi (bX args) (rW ev f args C) (ev.call f args C)=some r:=h;rw[iV]at h;split at h;simp only[rW,aC]at h;let⟨_,_,_,_,h⟩:=h;cases h;exact .refl _;exact cH.call h
 | succ m =>
   rw[hp]at h
   cases m with
   |zero=>exact cH.call h
   | succ m =>
     cases m with
     | zero =>
       replace h:u6 (ev.call f args C) (λeI=>oD ev f eI C) (mf C args)=some r:=h
       cases C:mf C args with
       |none=>rw[C]at h;exact cH.call h
       |some eI=>rw[C]at h;exact key _ h
     | succ m =>
       replace h:Bc ev f args C=some r:=h;simp only[Bc,aC]at h;let⟨q,hq,h⟩:=h
       cases hp:zfg q with
       |none=>rw[hp]at h;cases h;exact cH.call hq
       |some p=>rw[hp]at h;cases h;exact(cH.call hq).trans (X6 hp)
theorem zgA(aq:qz E)(cH:rP ev){args:Z V}{r:V×HS}(h:Gd E ev f args C=some r):Kept C r.2:=by
 unfold Gd at h
 cases hc:E.dA f args C with
 |none=>rw[hc]at h;exact zdP cH h
 |some q=>rw[hc]at h;cases h;exact aq hc
theorem zcp(cH:rP ev){r:V×HS}(h:zW ev id vs C=some r):Kept C r.2:=by
 simp only[zW,aC,bI]at h;let⟨_,_,_,_,_,_,_,q,hq,_,_,_,_,_,_,p,hp,_,_,_,_,h⟩:=h;cases h;exact(cH.code hq).trans ((o9 ..).trans ((cH.code hp).trans (o9 ..)))
theorem Ut(aq:qz E)(cH:rP ev)(hid:dX o.op≠0->C.H.get id=none){r:V×HS}(h:cy E ev dr T C id o=some r):Kept C r.2:=by
 unfold cy at h
 cases hc:qN o.op with
 |none=>rw[hc]at h;exact zol hc hid h
 | some c =>
   rw[hc]at h;replace h:wL E ev T C id c=some r:=h;simp only[wL,aC]at h;let⟨vs,_,h⟩:=h;split at h
   . refine zba (P:=E.P) h λhb=>hid ?_;subst hb;cases ho:o.op<;>rw[ho]at hc<;>first|(cases hc;done)|skip
     cases hc;grind [dX]
   simp only[aC]at h;let⟨u,_,h⟩:=h;unfold Mc at h;grind [zgA,zcp];cases h
theorem aK{id:Nat}:gW C id=true↔C.H.get id=none:=by
 unfold gW;cases C.H.get id<;>simp[nt,fE]
theorem RS(aq:qz E)(cH:rP ev){sz:Nat}{ops:Z Oper}{r:PT V×HS}(h:wB E ev sz ops o id T C=some r):Kept C r.2:=by
 simp only[wB,aC]at h;let⟨w,_,h⟩:=h;rw[iV]at h;split at h;simp only[bI,aC]at h;let⟨hv,q,hq,_,_,h⟩:=h;grind [Ut,iV,beq_true,aK];simp only[aC]at h;let⟨_,_,h⟩:=h;cases h;exact .refl _
def NQ(aq:qz E)(cH:rP ev){sz:Nat}{ops:Z Oper}:∀ (l:Z Oper) {id:Nat} {T:PT V} {C:HS} {r:PT V×HS},uX E ev sz ops l id T C=some r->Kept C r.2:=by
 intro l
 induction l with
 |nil=>intro id T C r h;cases h;exact .refl _
 | cons o l ih =>
   intro id T C r h;replace h:(ob (wB E ev sz ops o id T C) λr=>uX E ev sz ops l (id+1) r.1 r.2)=some r:=h;simp only[aC]at h;let⟨q,hq,h⟩:=h;exact(RS aq cH hq).trans (ih h)
theorem zdA (aq:qz E) (cH:rP ev)   (h:Aw E ev o id T C=some r) :
 Kept C r.2.1/\(∀ k o',C.H.get k=some o'->k ∉ r.2.2.2->r.2.1.H.get k=some o'):=by
 have fin:∀ {k:Nat} (o':Obj),C.H.get k=none->Kept C (C.put k o')/\(∀ i o2,C.H.get i=some o2->i ∉ ([]:Z Nat)->(C.put k o').H.get i=some o2):=by grind [yG,mJ]
 unfold Aw at h
 cases hc:dX o.op with
 | zero =>rw[hc]at h;replace h:(ob (cy E ev true T { H:=iC C.H (cP T o.op),n:=0,log:=[] } id o) λr=>some (r.1,C,cP T o.op,[]))=some r:=h;simp only[aC]at h;let⟨_,_,h⟩:=h;cases h;exact⟨.refl _,λ_ _ h _=>h⟩
 | succ m =>
   rw[hc]at h
   cases m with
   | zero =>replace h:(gd (gW C id) (ob (cy E ev true T { H:=.leaf,n:=0,log:=[] } id o) λr=>ob (r.2.H.get id) λo'=>gd (nt o'.fz) (some (r.1,C.put id o',[id],[]))))=some r:=h;grind [aC,bI,aK]
   | succ m =>
     replace h:(gd (gW C id) (ob (cy E ev true T { H:=C.H,n:=C.n,log:=[] } id o) λr=>some (r.1,{ H:=r.2.H,n:=r.2.n,log:=kg r.2.log C.log },[],r.2.log)))=some r:=h;simp only[aC,bI,aK]at h;let⟨hv,q,hq,h⟩:=h;cases h;have hk:Kept { H:=C.H,n:=C.n,log:=[] } q.2:=Ut (C:={ H:=C.H,n:=C.n,log:=[] }) (id:=id) aq cH (λ_=>hv) hq;refine⟨⟨λk kA=>?_,λk o' ho hn=>?_,hk.le,hk.hm⟩,λk o' ho hn=>hk.obj k o' ho hn⟩;grind [oN,List.mem_append_right];dsimp only at hn;rw[oN]at hn;exact hk.obj k o' ho λhm=>hn (dQ _ hm)
theorem z8(T:PT α):∀ (l:Z Nat) (t:Nat),(iC T l).get t=if t∈l then T.get t else none:=by
 intro l
 induction l with
 |nil=>intro t;rfl
 | cons x l ih =>
   intro t;have e:iC T (x::l)=u6 (iC T l) (λv=>(iC T l).set x v) (T.get x):=rfl;rw[e]
   cases W:T.get x with
   | none =>grind [Bi]
   | some v =>
     rw[kX,PT.cZ];grind
theorem Ms{T:PT α}{l:Z Nat}{t:Nat}{v:α}(h:(iC T l).get t=some v):t∈l/\T.get t=some v:=by
 grind [z8]
theorem Jo{H H2:PT Obj}:∀ (X:Z Nat) (k:Nat),(Jp H H2 X).get k=if k∈X/\H2.get k≠none then H2.get k else H.get k:=by
 intro X
 induction X with
 |nil=>intro k;simp[Jp,lr]
 | cons x X ih =>
   intro k;have e:Jp H H2 (x::X)=u6 (Jp H H2 X) (λo=>(Jp H H2 X).set x o) (H2.get x):=rfl;rw[e]
   cases W:H2.get x with
   | none =>grind [Bi]
   | some v =>
     rw[kX,PT.cZ];by_cases h:k=x;subst h;simp[W];rw[if_neg h,ih];simp[h]
def zcF   (h:nE v C=some (v',a9)) {k:Nat} (hk:C.H.get k=none):a9.H.get k=none:=by
 have hr:∀ (C:HS) (i k:Nat),C.H.get k=none->(iO C i).H.get k=none:=by
  intro C i k hk;unfold iO
  cases ho:C.H.get i with
  |none=>exact hk
  | some o =>
    rw[kX]
    cases o with
    | arr a b c d e f =>show (C.H.set i _).get k=none;rw[PT.cZ,if_neg];exact hk;rintro rfl;rw[hk]at ho;cases ho
    |mp _=>exact hk
    |lp _ _ _ _ _ _=>exact hk
 have M:∀ (C:HS) (v:V) (k:Nat),C.H.get k=none->(nU C v).H.get k=none:=by intro C v k hk;unfold nU;split;exact hr _ _ _ hk;exact hk
 simp only[nE,aC]at h;let⟨u,_,h⟩:=h;cases h;generalize v.cells=l
 induction l with
 |nil=>exact hk
 |cons c l ih=>exact M _ _ _ ih
def zeR{dr:Bool}{a x:Operand}(h:nL P T C t a x=some (v,a9)){k:Nat}(hk:C.H.get k=none):a9.H.get k=none:=by
 have hr:∀ {i:TI} {id g off:Nat} {v:V} {C a9:HS},qG i id g off v C=some a9->C.H.get k=none->a9.H.get k=none:=by intro i id g off v C a9 h hk;simp only[qG,aC,bI]at h;let⟨q,hq,_,_,e,he,h⟩:=h;cases h;show (C.H.set id _).get k=none;rw[PT.cZ,if_neg];exact hk;rintro rfl;simp only[ng,aC]at hq;let⟨o,ho,_⟩:=hq;rw[hk]at ho;cases ho
 simp only[nL,aC]at h;let⟨i,_,p,_,u,_,M,O,h⟩:=h;cases h;unfold E9 at O;split at O;rw[iV]at O;split at O;simp only[aC]at O;let⟨q,hp,O⟩:=O;exact hr O (zcF hp hk);exact hr O hk;cases O
def Ja(h:lS o.op=true):∃ t a x,o.op=.store t a x:=by
 unfold lS at h;split at h;rename_i t a x e;exact⟨t,a,x,e⟩;cases h
def Be{a x:Operand}(h:o.op=.store t a x){id:Nat}:cy E ev dr T C id o=nL E.P T C t a x:=by
 unfold cy;rw[h];rfl
theorem R3(aq:qz E)(cH:rP ev)(eR:lS o.op=true)(h:QC E ev o id T C=some r) :
 Kept C r.2.1/\(∀ k o',C.H.get k=some o'->k ∉ r.2.2.2->r.2.1.H.get k=some o')/\(∀ k,C.H.get k=none->r.2.1.H.get k=none):=by
 let⟨t,a,x,lP⟩:=Ja eR;simp only[QC,aC,bI,Be lP]at h;let⟨_,q,hq,h⟩:=h;cases h;have hq':cy E ev true T { H:=iC C.H (sD T C o.op),n:=0,log:=[] } (id+1) { o with guard:=none }=some q:=by rw[Be (o:={ o with guard:=none }) lP];exact hq
 have hk:Kept { H:=iC C.H (sD T C o.op),n:=0,log:=[] } q.2:=by have h3:=hq;simp only[nL,aC]at h3;let⟨_,_,_,_,_,_,M,O,h3⟩:=h3;cases h3;exact Rn O
 have hn:∀ k,C.H.get k=none->(Jp C.H q.2.H (sD T C o.op)).get k=none:=by intro k mc;rw[Jo,zeR (dr:=true) hq (k:=k) (by dsimp only;rw[z8,mc];split<;>rfl)];simp[mc]
 have IJ:∀ k o',C.H.get k=some o'->k ∉ q.2.log->(Jp C.H q.2.H (sD T C o.op)).get k=some o':=by intro k o' ho fL;rw[Jo];split;rename_i hc;refine hk.obj k o' ?_ fL;dsimp only;rw[z8,if_pos hc.1];exact ho;exact ho
 refine⟨⟨λk kA=>?_,λk o' ho fL=>?_,af _,λk mc=>?_⟩,IJ,hn⟩;dsimp only;rw[oN];exact eY _ kA;dsimp only at fL;rw[oN]at fL;exact IJ k o' ho λhm=>fL (dQ _ hm);dsimp only;rw[Jo];split;rename_i hc;exact hc.2;exact mc
theorem za1(aq:qz E)(cH:rP ev)(h:A9 E ev o id T C=some r) :
 Kept C r.2.1/\(∀ k o',C.H.get k=some o'->k ∉ r.2.2.2->r.2.1.H.get k=some o'):=by
 grind [A9,iV,R3,zdA]
def LD(aq:qz E)(cH:rP ev){ops:Z Oper}(h:lg E ev ops o id T C=some r) :
 Kept C r.2.1/\(∀ k o',C.H.get k=some o'->k ∉ r.2.2.2->r.2.1.H.get k=some o'):=by
 simp only[lg,aC]at h;let⟨w,_,h⟩:=h;rw[iV]at h;split at h;exact za1 aq cH h;have e:=bT h;rw[<- e];exact⟨.refl _,λ_ _ h _=>h⟩
def ZV(aq:qz E)(cH:rP ev){sz:Nat}{ops:Z Oper}:∀ (l:Z Oper) {id:Nat} {T:PT V} {C:HS} {acc:Z (Z Nat×Z Nat)} {r:(PT V×HS)×Z (Z Nat×Z Nat)},
 xc E ev sz ops l id T C acc=some r->Kept C r.1.2:=by
 intro l
 induction l with
 |nil=>intro id T C acc r h;cases h;exact .refl _
 | cons o l ih =>
   intro id T C acc r h;replace h:(ob (lg E ev ops o id (iC T (looks ops o)) C) λr=>ob (KV sz T o.dst r.1) λT'=>xc E ev sz ops l (id+1) T' r.2.1 (kg acc [r.2.2]))=some r:=h;simp only[aC]at h;let⟨q,hq,T',_,h⟩:=h;exact(LD aq cH hq).1.trans (ih h)
def zj9(aq:qz E)(cH:rP ev){sz:Nat}{l:Z Oper}{draw:Bool}{r:Ex×PT V×HS}(h:zfb E ev sz l draw T C=some r):Kept C r.2.2:=by
 simp only[zfb,aC]at h;let⟨q,hq,h⟩:=h;cases h;rw[iV]at hq;split at hq;simp only[R4,aC,bI]at hq;let⟨_,_,p,hp,_,h⟩:=hq;cases h;have:=ZV aq cH _ hp;exact⟨this.log,this.obj,aO (fG _ _) this.le,this.hm⟩;have:=NQ aq cH _ hq;exact⟨this.log,this.obj,aO (fG _ _) this.le,this.hm⟩
def XX(cH:rP ev){rd:Bool}{sz:Nat}{b:Code}{r:Ex×PT V×HS}(h:KT ev rd sz b q=some r):Kept q.2.2 r.2.2:=by
 unfold KT at h;split at h;exact cH.code h;cases h;exact .refl _
theorem zgr(aq:qz E)(cH:rP ev){rd:Bool}{sz:Nat}{r:Ex×PT V×HS}(h:Sd E ev rd sz c T C=some r):Kept C r.2.2:=by
 unfold Sd at h;split at h;cases h;exact .refl _;exact zj9 aq cH h;simp only[aC]at h;let⟨q,hq,h⟩:=h;exact(cH.code hq).trans (XX cH h);simp only[aC]at h;let⟨_,_,t,_,h⟩:=h;rw[iV]at h;split at h<;>exact cH.code h
 simp only[aC]at h;let⟨q,hq,h⟩:=h;have:=cH.code hq;grind [WA,iV];simp only[aC]at h;let⟨q,hq,h⟩:=h;exact(cH.code hq).trans (XX cH h);cases h;exact .refl _;cases h;exact .refl _;rename_i g ps assign body;simp only[bI,aC]at h;let⟨_,u,_,h⟩:=h;simp only[GI,aC,bI,aK]at h;let⟨_,_,hv,q,hq,_,_,_,_,_,_,h⟩:=h;have e:=bT h;rw[<- e];have O:Kept C (HS.put { H:=C.H,n:=C.n+1,log:=C.log } C.n (.lp sz T ps.toList assign body 0)):=by have:=yG (C:={ H:=C.H,n:=C.n+1,log:=C.log }) (.lp sz T ps.toList assign body 0) hv;exact⟨this.log,this.obj,mQ _,this.hm⟩
 exact(O.trans (cH.call hq)).trans (o9 ..);cases h
theorem zgF(cH:rP ev){args:Z V}{r:V×HS}(h:LK E ev f args C=some r):Kept C r.2:=by
 simp only[LK,aC]at h;let⟨fn,_,c,_,T,_,q,hq,h⟩:=h;have:=cH.code hq;grind [Vu,aC,Option.some.inj]
def zds(aq:qz E):∀ n,rP (rV E n):=by
 intro n
 induction n with
 | zero =>refine⟨?_,?_⟩;intro _ _ _ _ _ _ h;cases h;intro _ _ _ _ h;cases h
 | succ n ih =>
   refine⟨?_,?_⟩;intro _ _ _ _ _ _ h;exact zgr aq ih h;intro _ _ _ _ h;exact zgF ih h
end
theorem least(h:∃ n,p n):∃ n,p n/\∀ m,p m->n<=m:=by
 let⟨n,hn⟩:=h
 induction n using Nat.strongRecOn with
 | _ n ih =>
   grind
theorem zey{w:World}(kO:Nat->Act->World->Prop)
 (round:∀ j a w,kO j a w->c.wpIn F n P (Exit.then (λa' w'=>∃ i,i<j/\kO i a' w') Q) a w)  (h0:kO j a w):(Code.loop c).wpIn F n P Q a w:=by
 classical
 let size:Act->World->Nat:=λa w=>if h:∃ j,kO j a w then Classical.choose (least h)else 0
 have cd:∀ a w (h:∃ j,kO j a w),kO (size a w) a w/\∀ m,kO m a w->size a w<=m:=by intro a w h;grind
 refine wpIn_loop (λa w=>∃ j,kO j a w) size ⟨j,h0⟩ ?_;intro a w h;refine wpIn_mono (round _ a w (cd a w h).1) ?_;grind
section
variable {I:Nat->Value}{w:World}{F:Nat->Prop}{μ μ':Nat->Nat->Y MI}
def Py(X:Nat->Prop)(μ:Nat->Nat->Y MI)(C:HS):Prop:=(∀ id g,μ id g≠none->C.H.get id≠none\/X id)/\∀ id,C.n<=id->¬ X id
theorem Fr.cx(h:Fr w F μ C w' F' μ' a9)(hn:C.n<=a9.n)(hd:Py X μ C):Py X μ' a9:=by
 refine⟨λid g hg=>?_,λid hi=>hd.2 id (aO hn hi)⟩;by_cases cg:a9.H.get id=none;rw[h.sm id cg g]at hg;rcases hd.1 id g hg with M|M;exact absurd cg (h.hm id M);grind;grind
def Py.free(hd:Py X μ C){id:Nat}(W:¬ X id)(h:C.H.get id=none):IP μ C id :=
 ⟨h,λg=>aY λcg=>(hd.1 id g cg).elim (λM=>M h) W⟩
def pP(X:Nat->Prop)(C:HS):Prop:=∀ id,X id->C.H.get id=none
def Kept.off(h:Kept C a9)(ho:pP X a9):pP X C:=λid W=>aY λcg=>h.hm id cg (ho id W)
def pP.no(C:HS):pP (λ_=>False) C:=λ_ h=>h.elim
def Py.empty:Py (λ_=>False) (λ_ _=>none) jv:=⟨λ_ _ h=>absurd rfl h,λ_ _ h=>h⟩
def Py.zHc(hd:Py X μ C)(hn:C.n<=n)(log:Z Nat):Py X μ { H:=C.H,n:=n,log:=log } :=
 ⟨hd.1,λid hi=>hd.2 id (aO hn hi)⟩
theorem R.empty(h:∀ b,F b->b<w.heap.size)(hg:Gl I w F):R I w F (λ_ _=>none) P jv where
 lt _ _ _ h:=by cases h
 BR:=h
 obj _ _ h:=by cases h
 inj _ _ _ _ _ _ h:=by cases h
 zL _ _ h:=by cases h
 gl:=hg
theorem uw(b:Nat)(μ:Nat->Nat->Y MI):¬ zS jv μ b:=by
 rintro ⟨id,o,m,h,_⟩;cases h
def R.zHc(h:R I w F μ P C)(n:Nat)(log:Z Nat):R I w F μ P { H:=C.H,n:=n,log:=log }:=⟨h.lt,h.BR,h.obj,h.inj,h.zL,h.gl⟩
def Fr.zHc(w:World)(F:Nat->Prop)(μ:Nat->Nat->Y MI)(C:HS)(n:Nat)(log:Z Nat):Fr w F μ C w F μ { H:=C.H,n:=n,log:=log } :=
 ⟨⟨rfl,rfl,rfl⟩,af _,λ_ _ _=>rfl,λ_ h=>h,λ_ h=>.inl h,λ_ _ _ h=>h,λ_ h=>.inl h,λ_ h=>h,λ_ _ _=>rfl,λ_ _ h=>h,λi g m h=>.inr ⟨i,g,m,h,rfl⟩⟩
end
end Go.J
