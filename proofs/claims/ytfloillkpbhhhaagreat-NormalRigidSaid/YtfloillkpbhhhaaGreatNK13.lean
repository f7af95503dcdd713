import Derived.Test.YtfloillkpbhhhaaGreatNK12
import Derived.Test.YtfloillkpbhhhaaGreatJK12
import Derived.Test.YtfloillkpbhhhaaGreatJK13
import Derived.Test.YtfloillkpbhhhaaGreatJK11
import Derived.Test.YtfloillkpbhhhaaGreatNK2
set_option linter.all false
noncomputable section
namespace Go.Proofs.YtfloillkpbhhhaaGreat
open Go.J
open Go.J.bo (enc)
set_option maxRecDepth 100000
set_option maxHeartbeats 4000000
variable {s s':CS}{dd:Decl}{fr g t:G}{a b d k m:Nat}{c:Scheme}{α:Type}{e x:Xp}{P:Xp->Prop}{N:Z (Z Nat)}{D:Z Decl}{l:Z Entry}{b5:Z Int}{n:Z Nat}{ks:Z Xp}
structure MD(s:CS):Prop where
 ok:Cd s.1
 zc:∀ x∈s.2,TO s.1 x
structure wj(k:Nat)(s s':CS):Prop where
 nx:Nx k s.1 s'.1
 zc:∀ x∈s'.2,TO s'.1 x
 len:s'.2.length<=s.2.length+k
def wj.ok(h:wj k s s'):MD s':=⟨h.nx.ok,h.zc⟩
theorem wj.refl(h:MD s)(k:Nat):wj k s s:=⟨.refl h.ok k,h.zc,fE _ _⟩
def wj.trans{s2:CS}(h:wj a s s')(k:wj b s' s2):wj (a+b) s s2:=⟨h.nx.trans k.nx,k.zc,by have:=h.len;have:=k.len;omega⟩
def wj.le(h:wj a s s')(LN:a<=b):wj b s s':=⟨h.nx.le LN,h.zc,by have:=h.len;omega⟩
structure DE(D:List Decl):Prop where
 pre:FZ D
 par:∀ d∈D,d.params.length<=2
 ctor:∀ n,(Dt D n).2=true->SO 0 (Dt D n).1
 zOj:∀ d∈D,∀ c∈d.ctors,∀ x∈c.fields,ic 0 7 (G.fW d.params x)
def B4(n:Nat)(ctx:Z Entry):Prop:=∀ e∈ctx,SO n e.scheme
def B4.up{n n':Nat}{ctx:Z Entry}(h:B4 n ctx)(hn:n<=n'):B4 n' ctx:=λe he=>(h e he).up hn
theorem Y0{n:Nat}(h:ic n 7 t):SO n (mono t):=⟨h,by show (min (max (0:Int) 0) (t.size:Int)).toNat<=2;omega⟩
def B4.snoc{n:Nat}{ctx:Z Entry}(h:B4 n ctx)(ht:ic n 7 t)(v:Z Nat):B4 n (ctx++[⟨v,mono t⟩]):=λe he=>by
 rcases bA.1 he with he|he
 . exact h e he
 . rw[ay]at he;subst he;exact Y0 ht
def zbw{n:Nat}:∀ (dn vs:Z (Z Nat)) (fs:Z G) (c c':Z Entry),Aw dn vs fs c=some c'->(∀ x∈fs,ic n 7 x)->B4 n c->B4 n c'/\c'.length<=c.length+vs.length
 |dn,[],fs,c,c',h,hf,hc=>by rw[Aw]at h;cases h;exact⟨hc,af _⟩
 | dn,v::vs,[],c,c',h,hf,hc=>by
   replace h:(if v∈dn then none else some c)=some c':=h;split at h
   . cases h
   . cases h;exact⟨hc,fE _ _⟩
 | dn,v::vs,x::fs,c,c',h,hf,hc=>by
   replace h:(if v∈dn then none else Aw (dn++[v]) vs fs (c++[⟨v,mono x⟩]))=some c':=h;split at h
   . cases h
   . obtain⟨M,O⟩:=zbw (dn++[v]) vs fs _ c' h (λy hy=>hf y (aF _ hy)) (hc.snoc (hf x (aD ..)) v);refine⟨M,?_⟩;rw[bB]at O;simp only[aX,nO]at O ⊢;omega
def Xb:∀ {l:Z Entry} {c:Scheme},Un n l=some c->∃ e∈l,e.scheme=c
 | [],c,h=>by cases h
 | e :: l,c,h=>by
   rw[Un]at h;split at h
   . cases h;exact⟨e,aD ..,rfl⟩
   . obtain⟨x,hx,h⟩:=Xb h;exact⟨x,aF _ hx,h⟩
def Bk{ctx:Z Entry}(h:B4 m ctx)(hf:(rD ctx n).2=true):SO m (rD ctx n).1:=by
 unfold rD at hf ⊢;obtain⟨c,hc⟩:=bN.1 hf;simp only[hc,eu];obtain⟨e,he,rfl⟩:=Xb hc;exact h e (by simpa using he)
def zok(hD:DE D){ctx:Z Entry}(h:B4 m ctx)(hf:(BK D ctx x).2=true):SO m (BK D ctx x).1:=by
 unfold BK at hf ⊢;split at hf
 . rename_i hk;rw[if_pos hk];exact Bk h hf
 . rename_i hk;rw[if_neg hk];split at hf
   . rename_i xo;rw[if_pos xo];exact(hD.ctor _ hf).up (aW _)
   . cases hf
theorem zke(hD:DE D){args:Z G}(ha:∀ x∈args,ic m 1 x)(n:Z Nat):∀ x∈(mV D n args).1,ic m 7 x:=by
 unfold mV;split
 . grind
 . rename_i dd c e;obtain⟨M,O⟩:=GG e;split
   . intro x hx;obtain⟨y,hy,rfl⟩:=aI.1 hx;exact(zbq (zbB (aW _) ha) _ (hD.zOj dd M c O y hy)).1
   grind
def zhg(p:α->Bool):∀ (l:Z α) (i:Int),0<=i->Go.J.gU p l i<i+l.length
 | [],i,h=>by show (-1:Int)<i+0;omega
 | x::l,i,h=>by
   rw[Go.J.gU,aX];split
   . omega
   . have:=zhg p l (i+1) (by omega);omega
def zFr(n0 k:Nat)(rec:Nat->Nat->G->Xp->CS->Y (Bool×CS))(x:Xp):Prop:=∀ g s,n0<=s.1.sl.length->TO s.1 g->MD s->s.1.sl.length+k<=900->s.2.length+k<=5000->∃ b s',Ev (λd f=>rec d f g x s=some (b,s'))/\wj k s s'
def X5{n0:Nat}{rec:Nat->Nat->G->Xp->CS->Y (Bool×CS)}:∀ {xs:Z Xp} {is:Bool} {gs:Z G} {s:CS},(∀ x∈xs,zFr n0 k rec x)->n0<=s.1.sl.length->(is=true->gs.length=xs.length/\∀ g∈gs,TO s.1 g)->MD s->s.1.sl.length+k*xs.length<=900->s.2.length+k*xs.length<=5000->∃ b s',Ev (λd f=>DD (rec d f) is gs xs s=some (b,s'))/\wj (k*xs.length) s s'
 | [],is,gs,s,hr,h0,hg,C,M,O=>⟨is,s,.all λd f=>xG,.refl C _⟩
 |x::xs,false,gs,s,hr,h0,hg,C,M,O=>⟨false,s,.all λd f=>xH,.refl C _⟩
 |x::xs,true,[],s,hr,h0,hg,C,M,O=>by have:=(hg rfl).1;simp at this
 | x::xs,true,g::gs,s,hr,h0,hg,C,M,O=>by
   obtain⟨g1,g2⟩:=hg rfl;rw[aX,wJ]at M O;obtain⟨b,s1,e1,n1⟩:=hr x (aD ..) g s h0 (g2 g (aD ..)) C (by omega) (by omega);have hi:=n1.nx.hi;have hl:=n1.len;obtain⟨b2,s2,e2,n2⟩:=X5 (xs:=xs) (is:=b) (gs:=gs) (s:=s1) (λy hy=>hr y (aF _ hy)) (aO h0 n1.nx.lo) (λ_=>⟨by simpa using g1,λy hy=>n1.nx.to (g2 y (aF _ hy))⟩) n1.ok (by omega) (by omega);refine⟨b2,s2,(e1.and e2).mono λd f hq=>?_,(n1.trans n2).le (by rw[aX,wJ];omega)⟩;rw[DC,hq.1,bU];exact hq.2
def zfL(m k:Nat)(rec:Nat->Nat->Z Entry->G->Xp->CS->Y (Bool×CS))(x:Xp):Prop:=∀ ctx g s,ctx.length<=m->B4 s.1.sl.length ctx->TO s.1 g->MD s->s.1.sl.length+k<=900->s.2.length+k<=5000->∃ b s',Ev (λd f=>rec d f ctx g x s=some (b,s'))/\wj k s s'
def X3  (hD:DE D)  {rec:Nat->Nat->Z Entry->G->Xp->CS->Y (Bool×CS)} {ctx:Z Entry}  {args:Z G} (hc:ctx.length+2<=m):∀ {l:Z Am} {is:Bool} {s:CS},(∀ a∈l,zfL m k rec a.body/\a.vars.length<=2)->B4 s.1.sl.length ctx->(∀ x∈args,ic s.1.sl.length 1 x)->TO s.1 g->MD s->s.1.sl.length+k*l.length<=900->s.2.length+k*l.length<=5000->∃ b s',Ev (λd f=>yG (rec d f) D args ctx g is l s=some (b,s'))/\wj (k*l.length) s s'
 | [],is,s,hr,hx,ha,hg,C,M,O=>⟨is,s,.all λd f=>rfl,.refl C _⟩
 | a :: l,is,s,hr,hx,ha,hg,C,M,O=>by
   by_cases c1:is=false\/(mV D a.dE args).1.length≠a.vars.length
   . exact⟨false,s,.all λd f=>by rw[yG,if_pos c1],.refl C _⟩
   . cases hp:Aw [] a.vars (mV D a.dE args).1 ctx with
     |none=>exact⟨false,s,.all λd f=>by rw[yG,if_neg c1,hp],.refl C _⟩
     | some c =>
       rw[aX,wJ]at M O;obtain⟨r1,r2⟩:=hr a (aD ..);obtain⟨p1,p2⟩:=zbw _ _ _ _ _ hp (zke hD ha a.dE) hx;obtain⟨b,s1,e1,n1⟩:=r1 c g s (by omega) p1 hg C (by omega) (by omega);have hi:=n1.nx.hi;have hl:=n1.len;obtain⟨b2,s2,e2,n2⟩:=X3 hD hc (l:=l) (is:=b) (s:=s1) (λy hy=>hr y (aF _ hy)) (hx.up n1.nx.lo) (λy hy=>(ha y hy).up n1.nx.lo) (n1.nx.to hg) n1.ok (by omega) (by omega);refine⟨b2,s2,(e1.and e2).mono λd f hq=>?_,(n1.trans n2).le (by rw[aX,wJ];omega)⟩;rw[yG,if_neg c1,hp];simp only;rw[hq.1,bU];exact hq.2
theorem zpm  (hD:DE D)  {rec:Nat->Nat->Z Entry->G->Xp->CS->Y (Bool×CS)} {ctx:Z Entry}  {k0:Xp}   (hk:e.kids=k0::ks) (hc:ctx.length+2<=m) (sX:e.cf.length<=2) (hr:∀ a∈e.cf,zfL m k rec a.body/\a.vars.length<=2) (hx:B4 s.1.sl.length ctx) (hg:TO s.1 g) (C:MD s) (M:s.1.sl.length+(2*k+3)<=900) (O:s.2.length+(2*k+3)<=5000):∃ b s',Ev (λd f=>Mj d f D (rec d f) ctx g e s=some (b,s'))/\wj (2*k+3) s s':=by
 by_cases c1:(rD ctx k0.name).2=false\/(En D e.cf).2=false\/(rD ctx k0.name).1.count≠0
 . exact⟨false,s,.all λd f=>by unfold Mj;rw[hk];simp only;rw[if_pos c1],.refl C _⟩
 . have c2:=c1;simp only[not_or,Bool.not_eq_false]at c2;obtain⟨c3,c4,_⟩:=c2;have zJL:=Bk hx c3;obtain⟨b1,s1,e1,n1,z1⟩:=PO C.ok (by omega) hg;have ss:=n1.hi
   cases b1 with
   | false =>
     refine⟨false,(s1,s.2),e1.mono λd f hq=>?_,⟨n1.le (by omega),λx hx=>n1.to (C.zc x hx),fE _ _⟩⟩;unfold Mj;rw[hk];simp only;rw[if_neg c1,hq,bU]
   | true =>
     have j7:0<=K5 D e.cf:=by
      unfold En at c4;simpa using c4
     have cC:=zhg (λd:Decl=>rH d.ctors e.cf) D 0 (fA _);have cC:K5 D e.cf<0+D.length:=cC;obtain⟨i,hi⟩:=bK j7
     have hai:(En D e.cf).1=(i:Int):=by
      unfold En;omega
     have zMb:i<D.length:=by omega
     obtain⟨b2,s2,e2,n2,z2,v2,t2⟩:=ZV (D:=D) hD.pre.1 n1.ok z1 zMb (hD.par _ (az zMb)) (by omega) (l:=s.2) (by omega) (n1.to zJL.ty) (λx hx=>n1.to (C.zc x hx));have pP:=n2.hi;have hmul:k*e.cf.length<=k*2:=kK _ sX;obtain⟨b3,s3,e3,n3⟩:=X3 hD (rec:=rec) (ctx:=ctx) (g:=g) (args:=cz s1.sl.length D[i].params.length) hc (l:=e.cf) (is:=b2) (s:=(s2,s.2++[(rD ctx k0.name).1.type])) hr (hx.up (aO n1.lo n2.lo)) v2 (n2.to (n1.to hg)) ⟨n2.ok,t2⟩ (by show s2.sl.length+_<=_;omega) (by show (s.2++[_]).length+_<=_;rw[bB];show s.2.length+1+_<=_;omega);refine⟨b3,s3,((e1.and e2).and e3).mono λd f hq=>?_,⟨((n1.trans n2).trans n3.nx).le (by omega),n3.zc,?_⟩⟩
     . unfold Mj;rw[hk];simp only;rw[if_neg c1,hq.1.1,bU]
       simp_all
     . have:=n3.len
       grind
def zem(e:Xp):Prop:=e.depth<=1000/\e.cf.length<=1000/\(∀ a∈e.cf,a.vars.length<=2)/\(dQ e).2.length<=1000
inductive A0:Nat->Nat->Xp->Prop
 |lam {m k k':Nat} {e k0:Xp} {ks:List Xp}:zem e->e.kind=4->e.kids=k0::ks->A0 m k k0->k+2<=k'->A0 (m+1) k' e
 |ana {m k k':Nat} {e k0:Xp} {ks:List Xp}:zem e->e.kind=8->e.kids=k0::ks->e.cf.length<=2->(∀ a∈e.cf,A0 m k a.body)->2*k+3<=k'->A0 (m+1) k' e
 |head {m k k':Nat} {e:Xp}:zem e->e.kind≠4->e.kind≠8->(dQ e).2.length<=2->(∀ x∈(dQ e).2,A0 m k x)->2*k+8<=k'->A0 (m+1) k' e
theorem zeJ  (hD:DE D)   (h:A0 m k e):m<=60->zfL (900-2*m) k (λd f=>iR d f D m) e:=by
 induction h with
 | @lam m k k' e k0 ks hn hk oT _ me ih =>
   intro hm ctx g s hc hx hg C M O;have iz:Sp D ctx e:=⟨hD.pre,by omega,hn.1,hn.2.1,λa ha=>by have:=hn.2.2.1 a ha;omega,hn.2.2.2⟩;obtain⟨a,b,r,s1,e1,n1,o1⟩:=KT C.ok (by omega) hg;have ss:=n1.hi
   cases r with
   | false =>
     refine⟨false,(s1,s.2),e1.mono λd f hq=>?_,⟨n1.le (by omega),λx hx=>n1.to (C.zc x hx),fE _ _⟩⟩;show iR d f D (m+1) ctx g e s=_;rw[iR,if_pos iz,if_pos hk,oT]
     simp_all
   | true =>
     obtain⟨oa,zI4⟩:=o1 rfl;obtain⟨b3,s3,e3,n3⟩:=ih (by omega) (ctx++[⟨e.name,mono a⟩]) b (s1,s.2) (by rw[bB];show ctx.length+1<=_;omega) ((hx.up n1.lo).snoc oa _) zI4 ⟨n1.ok,λx hx=>n1.to (C.zc x hx)⟩ (by show s1.sl.length+_<=_;omega) (by show s.2.length+_<=_;omega);refine⟨b3,s3,(e1.and e3).mono λd f hq=>?_,⟨(n1.trans n3.nx).le (by omega),n3.zc,?_⟩⟩
     . show iR d f D (m+1) ctx g e s=_;rw[iR,if_pos iz,if_pos hk,oT]
       simp_all
     . have:s3.2.length<=s.2.length+k:=n3.len;omega
 | @ana m k k' e k0 ks hn hk oT sX _ me ih =>
   intro hm ctx g s hc hx hg C M O;have iz:Sp D ctx e:=⟨hD.pre,by omega,hn.1,hn.2.1,λa ha=>by have:=hn.2.2.1 a ha;omega,hn.2.2.2⟩;obtain⟨b3,s3,e3,n3⟩:=zpm hD (m:=900-2*m) (k:=k) (rec:=λd f=>iR d f D m) (g:=g) oT (by omega) sX (λa ha=>⟨ih a ha (by omega),hn.2.2.1 a ha⟩) hx hg C (by omega) (by omega);refine⟨b3,s3,e3.mono λd f hq=>?_,n3.le me⟩;show iR d f D (m+1) ctx g e s=_;rw[iR,if_pos iz,if_neg (by omega),if_pos hk];exact hq
 | @head m k k' e hn xj VK sf _ me ih =>
   intro hm ctx g s hc hx hg C M O;have iz:Sp D ctx e:=⟨hD.pre,by omega,hn.1,hn.2.1,λa ha=>by have:=hn.2.2.1 a ha;omega,hn.2.2.2⟩;by_cases hh:(BK D ctx (dQ e).1).2=true
   . have hmul:k*(dQ e).2.length<=k*2:=kK _ sf;obtain⟨acc,e0,s1,r0,e1,n1,o1,t1⟩:=zjW (D:=D) C.ok (k:=(dQ e).2.length) (by omega) (l:=s.2) (by omega) (zok hD hx hh) hg C.zc;have ss:=n1.hi;obtain⟨b3,s3,e3,n3⟩:=X5 (k:=k) (rec:=λd f=>iR d f D m ctx) (xs:=(dQ e).2) (is:=e0) (gs:=acc) (s:=(s1,s.2++[r0])) (λx tj g s' h0' Xs a8 vj LO=>ih x tj (by omega) ctx g s' (by omega) (hx.up h0') Xs a8 vj LO) n1.lo o1 ⟨n1.ok,t1⟩ (by show s1.sl.length+_<=_;omega) (by show (s.2++[_]).length+_<=_;rw[bB];show s.2.length+1+_<=_;omega);refine⟨b3,s3,(e1.and e3).mono λd f hq=>?_,⟨(n1.trans n3.nx).le (by omega),n3.zc,?_⟩⟩
     . show iR d f D (m+1) ctx g e s=_;rw[iR,if_pos iz,if_neg xj,if_neg VK,if_pos hh,hq.1,bU]
       simp_all
     . have:=n3.len
       grind
   . refine⟨false,s,.all λd f=>?_,.refl C _⟩;show iR d f D (m+1) ctx g e s=_;rw[iR,if_pos iz,if_neg xj,if_neg VK,if_neg hh]
def Aa:∀ d∈Kw,d.params.length<=2/\d.ctors.length<=2/\d.ctors≠[]/\∀ c∈d.ctors,c.fields.length<=2/\Fc c.name=true/\(su d c.fields).ok=true/\(su d c.fields).closed true=true/\(su d c.fields).size<=7 /\
 ∀ x∈c.fields,x.ok=true/\x.size<=7/\(G.fW d.params x).ok=true/\(G.fW d.params x).closed true=true/\(G.fW d.params x).size<=7/\(G.fW d.params x).o6 3=false:=by decide
def zoJ(bits:Int):DE (bu bits):=by
 have C:=λd (hd:d∈bu bits)=>Aa d (ky hd)
 refine⟨⟨by have:=QM bits;omega,λd hd=>?_⟩,λd hd=>(C d hd).1,λn hn=>?_,λd hd c hc x hx=>?_⟩
 . obtain⟨M,O,_,h3⟩:=C d hd
   exact⟨by omega,by omega,λc hc=>⟨by have:=(h3 c hc).1;omega,λx hx=>by
    obtain⟨g1,g2,_⟩:=(h3 c hc).2.2.2.2.2 x hx
    exact⟨g1,by omega⟩⟩⟩
 . unfold Dt at hn ⊢;split at hn
   . cases hn
   . rename_i dd c e;obtain⟨M,O⟩:=GG e;obtain⟨p1,_,_,p2⟩:=C dd M;obtain⟨_,_,q1,q2,q3,_⟩:=p2 c O;exact⟨(Jp _ q1 q2).le q3,by show (min (max ((dd.params.length:Nat):Int) 0) _).toNat<=2;omega⟩
 . obtain⟨_,_,q1,q2,q3,_⟩:=((C d hd).2.2.2 c hc).2.2.2.2.2 x hx;exact(Jp _ q1 q2).le q3
theorem zq3 {to:G} (H:Rep0 fr to) (t:G) (h:t.o6 3=false):t.th fr to=t:=by
 induction t using G.ind with
 | h t ih =>
   rw[G.JZ,ko,decide_eq_false_iff_not]at h;rw[xz H (λe=>h.1 (by rw[e];exact H.fk))];have O:=h.2;rw[G.zP,oL]at O
   have:t.args.map (G.th · fr to)=t.args:=by
    have:∀ l:Z G,(∀ x∈l,x.th fr to=x)->l.map (G.th · fr to)=l:=by
     intro l
     induction l with
     |nil=>intro _;rfl
     |cons x l tf=>intro hh;rw[aR,hh x (aD ..),tf λy hy=>hh y (aF _ hy)]
    grind
   simp_all
def zoI{to:G}(H:Rep0 fr to)(bits:Int):L4 fr to (bu bits):=λd hd c hc x hx=>zq3 H _ (((Aa d (ky hd)).2.2.2 c hc).2.2.2.2.2 x hx).2.2.2.2.2
def wq:Nat->Nat
 | 0=>8
 |d+1=>2*wq d+8
def Te{k p m:Int}:dQ (.mk k p n m [] [] t)=(.mk k p n m [] [] t,[]):=CK (λh=>by have:=(Xp.Fz.1 h).2;simp at this)
def zdU(f a:Xp):dQ (VO f a)=((dQ f).1,(dQ f).2++[a]):=CL (e:=VO f a) rfl
def Vt(ih:∀ t,P (gJ d t D N).2)(t:Tp)(he:(dQ e).2=[]/\e.cf=[]/\(e.kind=1\/e.kind=2)):∀ i,(dQ (mQ d t D N e i).2).2.length=i/\(∀ x∈(dQ (mQ d t D N e i).2).2,P x)/\(mQ d t D N e i).2.cf=[]/\((mQ d t D N e i).2.kind=1\/(mQ d t D N e i).2.kind=2\/(mQ d t D N e i).2.kind=5)
 | 0=>by
   rw[mQ];simp only;rw[he.1];exact⟨rfl,λx hx=>(by cases hx),he.2.1,by have:=he.2.2;omega⟩
 | i+1=>by
   obtain⟨M,O,h3,h4⟩:=Vt ih t he i;rw[mQ];simp only;rw[zdU];refine⟨by simp only[bB,M];rfl,λx hx=>?_,rfl,.inr (.inr rfl)⟩;rcases bA.1 hx with hx|hx
   . exact O x hx
   . rw[ay]at hx;subst hx;exact ih _
theorem zir  (Z2:MT D) (hD:∀ d∈D,d.ctors.length<=2/\d.ctors≠[]/\∀ c∈d.ctors,c.fields.length<=2):∀ (d:Nat) (t:Tp) (N:Z (Z Nat)),d<=100->A0 (d+1) (wq d) (gJ d t D N).2:=by
 intro d
 induction d using Nat.strongRecOn with
 | _ d ih =>
   intro t N hd;have rL:=SX Z2 d t N;obtain⟨_,Zr,_⟩:=rL;have zJJ:(dQ (gJ d t D N).2).2.length<(gJ d t D N).2.depth:=(oN _).2.2
   have key:(gJ d t D N).2.depth<=1000->A0 (d+1) (wq d) (gJ d t D N).2:=by
    clear Zr zJJ;refine WH (P:=λe=>e.depth<=1000->A0 (d+1) (wq d) e) d t N (λd' t' e hx=>?_) (λd' t' e hN dd ld n hn hx=>?_) λt'=>?_
    . subst e;refine .lam ⟨hx,by show 0<=1000;omega,λa ha=>(by cases ha),by have:=(oN (VN [119] (gJ d' t' D (N++[[119]])).2)).2.2;omega⟩ rfl rfl (ih d' (by omega) _ _ (by omega)) ?_;show wq d'+2<=2*wq d'+8;omega
    . subst e;obtain⟨M,O,h3⟩:=hD dd ld;have sX:(y8 (Ap n) (kz d' t' D N dd.ctors dd.ctors.length).2).cf=(kz d' t' D N dd.ctors dd.ctors.length).2:=rfl
      have we:∀ a∈(kz d' t' D N dd.ctors dd.ctors.length).2,a.vars.length<=2/\A0 (d'+1) (wq d') a.body:=λa ha=>by
       obtain⟨j,hj⟩:=lZ.1 ha;obtain⟨t2,rfl⟩:=Si _ _ _ _ _ _ _ _ hj;refine⟨?_,ih d' (by omega) _ _ (by omega)⟩;show (kE _).length<=2;rw[AX]
       cases hc:dd.ctors[j]? with
       |none=>show 0<=2;omega
       |some c=>exact h3 c (aC hc)
      refine .ana (k:=wq d') ⟨hx,by rw[sX,Dz];omega,λa ha=>(we a ha).1,by have:=(oN (y8 (Ap n) (kz d' t' D N dd.ctors dd.ctors.length).2)).2.2;omega⟩ rfl rfl (by rw[sX,Dz];exact M) (λa ha=>(we a ha).2) ?_;show 2*wq d'+3<=2*wq d'+8;omega
    . refine UA (Q:=λe=>(dQ e).2=[]/\e.cf=[]/\(e.kind=1\/e.kind=2)) (P:=λe=>e.depth<=1000->A0 (d+1) (wq d) e) (λdd ld=>(hD dd ld).2.1) d (λn _=>⟨by unfold Ap;rw[Te],rfl,.inl rfl⟩) (λdd _ c _=>⟨by unfold Q8;rw[Te],rfl,.inr rfl⟩) (λe he hx=>?_) (λd' e t2 e2 i hi he hx=>?_) t'
      . refine .head (k:=0) ⟨hx,by rw[he.2.1];show 0<=1000;omega,(λa ha=>by rw[he.2.1]at ha;cases ha),by rw[he.1];show 0<=1000;omega⟩ (by omega) (by omega) (by rw[he.1];show 0<=2;omega) (λx hx=>by rw[he.1]at hx;cases hx) ?_
        cases d with
        |zero=>exact af _
        |succ d=>show 8<=2*wq d+8;omega
      . subst e;obtain⟨M,O,h3,h4⟩:=Vt (P:=A0 (d'+1) (wq d')) (D:=D) (N:=N) (λt=>ih d' (by omega) t N (by omega)) t2 he i;exact .head (k:=wq d') ⟨hx,by rw[h3];show 0<=1000;omega,(λa ha=>by rw[h3]at ha;cases ha),by rw[M];omega⟩ (by omega) (by omega) (by rw[M];exact hi) O (af _)
   grind
def XK:∀ {cs:Z Ctor} {n:Z Nat} {k:Nat},(∃ c∈cs,c.name=n)->(KZ cs n k).isSome=true
 | [],n,k,h=>by obtain⟨c,hc,_⟩:=h;cases hc
 | c :: l,n,k,h=>by
   rw[KZ];split
   . rfl
   . rename_i cb;obtain⟨x,hx,hn⟩:=h;rcases aB.1 hx with rfl|hx
     . exact absurd (by simpa using hn) cb
     . exact XK ⟨x,hx,hn⟩
def Pm:∀ {D:Z Decl} {n:Z Nat} {i:Nat},(∃ d∈D,∃ c∈d.ctors,c.name=n)->(zq D n i).isSome=true
 | [],n,i,h=>by obtain⟨d,hd,_⟩:=h;cases hd
 | d :: l,n,i,h=>by
   rw[zq];split
   . rfl
   . rename_i cb;obtain⟨x,hx,c,hc,hn⟩:=h;rcases aB.1 hx with rfl|hx
     . have:=XK (k:=0) ⟨c,hc,hn⟩;rw[cb]at this;cases this
     . exact Pm ⟨x,hx,c,hc,hn⟩
def PR:∀ {cs:Z Ctor} {l:Z Am},rH cs l=true↔cs.map (·.name)=l.map (·.dE)
 | [],[]=>by simp[rH]
 | [],a::l=>by simp[rH]
 |c::cs,[]=>by simp[rH]
 |c::cs,a::l=>by simp[rH,PR (cs:=cs) (l:=l)]
def zhh(p:α->Bool):∀ (l:Z α) (i:Int),0<=i->0<=Go.J.gU p l i->∃ (j:Nat) (x:α),Go.J.gU p l i=i+j/\l[j]?=some x/\p x=true
 | [],i,hi,h=>by have h:(0:Int)<=-1:=h;omega
 | x :: l,i,hi,h=>by
   rw[Go.J.gU]at h ⊢;split
   . rename_i hx;exact⟨0,x,by simp,rfl,hx⟩
   . rename_i hx;rw[if_neg hx]at h;obtain⟨j,y,M,O,h3⟩:=zhh p l (i+1) (by omega) h;exact⟨j+1,y,by rw[M];omega,by simpa using O,h3⟩
def zkV:∀ d∈Kw,∀ d'∈Kw,d.ctors.map (·.name)=d'.ctors.map (·.name)->d.ctors.map (·.fields.length)=d'.ctors.map (·.fields.length):=by decide
def EW{n:Nat}(h:n<=2):(kE n).Nodup/\∀ v∈kE n,j6 v=true:=by
 match n,h with
 | 0,_=>exact⟨by decide,by decide⟩
 | 1,_=>exact⟨by decide,by decide⟩
 | 2,_=>exact⟨by decide,by decide⟩
theorem zpg {bits:Int}  {t:Tp}   (hd:dd∈bu bits):zEP (bu bits) (kz d t (bu bits) N dd.ctors dd.ctors.length).2:=by
 obtain⟨l,hl⟩:∃ l,(kz d t (bu bits) N dd.ctors dd.ctors.length).2=l:=⟨_,rfl⟩;have hat:=Si d t (bu bits) N dd.ctors dd.ctors.length;have hlen:=Dz d t (bu bits) N dd.ctors dd.ctors.length;rw[hl]at hat hlen ⊢
 have FF:dd.ctors.map (·.name)=l.map (·.dE):=by
  refine oK λj=>?_
  rw[bC,bC]
  cases hj:l[j]? with
  | none =>
    grind
  | some a =>
    have kx:j<dd.ctors.length:=by
     grind
    obtain⟨t',rfl⟩:=hat j a hj
    simp_all
 have h0:0<=K5 (bu bits) l:=by
  have M:(bu bits).any (λd:Decl=>rH d.ctors l)=true:=di.2 ⟨dd,hd,PR.2 FF⟩;have O:=Go.J.Ah (λd:Decl=>rH d.ctors l) (bu bits) 0 (fA _);rw[M]at O;exact of_decide_eq_true O
 obtain⟨k,d',M,O,h3⟩:=zhh (λd:Decl=>rH d.ctors l) (bu bits) 0 (fA _) h0;have xT:=aC O;have jz:=PR.1 h3;have hfl:=zkV _ (ky hd) _ (ky xT) (FF.trans jz.symm);have zJ7:=(Aa dd (ky hd)).2.2.2;refine⟨k,d',O,by show K5 _ _=_;unfold K5;rw[M];omega,?_,λi a c ha hc=>?_,λa ha=>?_⟩
 . have:=congrArg List.length jz
   grind
 . obtain⟨t',rfl⟩:=hat i a ha;have e:=congrArg (λl:Z Nat=>l[i]?) hfl;simp only[bC,hc,jv]at e
   cases hci:dd.ctors[i]? with
   |none=>rw[hci]at e;cases e
   | some c2 =>
     rw[hci]at e;have e:c2.fields.length=c.fields.length:=by simpa using e
     have vc:=(zJ7 c2 (aC hci)).1;simp only[Am.BR,eu,AX];exact⟨e,(EW vc).1⟩
 . obtain⟨j,hj⟩:=lZ.1 ha
   have kx:j<dd.ctors.length:=by
    grind
   obtain⟨t',rfl⟩:=hat j a hj;rw[ax kx];exact Pm ⟨dd,hd,_,az kx,rfl⟩
section
variable {bits:Int}
def zdq(h:j6 n=true):Wf (bu bits) (Ap n) :=
 .mk ⟨rfl,rfl,rfl,.inl ⟨rfl,h,rfl,rfl⟩,λa ha=>(by cases ha)⟩ ⟨λe=>(by cases e),λe=>(by cases e)⟩ λx hx=>(by cases hx)
def zvz(hd:dd∈bu bits){c:Ctor}(hc:c∈dd.ctors):Wf (bu bits) (Q8 c.name) :=
 .mk ⟨rfl,rfl,rfl,.inr (.inl ⟨rfl,(((Aa dd (ky hd)).2.2.2) c hc).2.1,rfl,rfl⟩),λa ha=>(by cases ha)⟩ ⟨λ_=>Pm ⟨dd,hd,c,hc,rfl⟩,λe=>(by cases e)⟩ λx hx=>(by cases hx)
def zvA{f a:Xp}(hf:Wf (bu bits) f)(ha:Wf (bu bits) a):Wf (bu bits) (VO f a) :=
 .mk ⟨rfl,rfl,rfl,.inr (.inr (.inr (.inl ⟨rfl,rfl,rfl,rfl⟩))),λa ha=>(by cases ha)⟩ ⟨λe=>(by cases e),λe=>(by cases e)⟩ λx hx=>by
  have hx:x∈[f,a]:=hx;simp only[aB,aS,or_false]at hx;rcases hx with rfl|rfl
  . exact hf
  . exact ha
def zhJ(ih:∀ t,Wf (bu bits) (gJ d t (bu bits) N).2)(t:Tp)(he:Wf (bu bits) e):∀ i,Wf (bu bits) (mQ d t (bu bits) N e i).2
 | 0=>by rw[mQ];exact he
 |i+1=>by rw[mQ];exact zvA (zhJ ih t he i) (ih _)
theorem zmf:∀ (d:Nat) (t:Tp) (N:Z (Z Nat)),(∀ n∈N,j6 n=true)->Wf (bu bits) (gJ d t (bu bits) N).2:=by
 intro d
 induction d using Nat.strongRecOn with
 | _ d ih =>
   intro t N hN;have hx:j6 [120]=true:=by decide
   have hw:j6 [119]=true:=by decide
   refine WH (P:=Wf (bu bits)) d t N (λd' t' e=>?_) (λd' t' e cb dd ld n hn=>?_) λt'=>?_
   . refine .mk ⟨rfl,rfl,rfl,.inr (.inr (.inl ⟨rfl,hw,rfl,rfl⟩)),λa ha=>(by cases ha)⟩ ⟨λe=>(by cases e),λe=>(by cases e)⟩ λx hx=>?_
     have hx:x∈[(gJ d' t' (bu bits) (N++[[119]])).2]:=hx
     grind
   . obtain⟨M,O,h3,h4⟩:=Aa dd (ky ld);have hlen:=Dz d' t' (bu bits) N dd.ctors dd.ctors.length;have hdw:=zpg (d:=d') (t:=t') (N:=N) ld
     have we:∀ a∈(kz d' t' (bu bits) N dd.ctors dd.ctors.length).2,(a.pos=0/\Fc a.dE=true/\a.vars.length<=4/\∀ v∈a.vars,j6 v=true)/\Wf (bu bits) a.body:=λa ha=>by
      obtain⟨j,hj⟩:=lZ.1 ha
      have kx:j<dd.ctors.length:=by
       grind
      obtain⟨t2,rfl⟩:=Si _ _ _ _ _ _ _ _ hj;rw[ax kx,eu];obtain⟨g1,g2,_⟩:=h4 _ (az kx);refine⟨⟨rfl,g2,?_,(EW g1).2⟩,ih d' (by omega) _ _ λn hn=>?_⟩
      . show (kE _).length<=4;rw[AX];omega
      . rcases bA.1 hn with hn|hn
        . exact hN n hn
        . exact(EW g1).2 n hn
     refine .mk ⟨rfl,rfl,rfl,.inr (.inr (.inr (.inr ⟨rfl,rfl,rfl,λe=>?_,?_⟩))),λa ha=>(we a ha).1⟩ ⟨λe=>(by cases e),λ_=>hdw⟩ λx hx=>?_
     . have e:(kz d' t' (bu bits) N dd.ctors dd.ctors.length).2=[]:=e
       grind
     . show (kz d' t' (bu bits) N dd.ctors dd.ctors.length).2.length<=100;omega
     . rcases bA.1 hx with hx|hx
       . have hx:x∈[Ap n]:=hx;rw[ay]at hx;subst hx;exact zdq (hN n hn)
       . obtain⟨a,ha,rfl⟩:=aI.1 hx;exact(we a ha).2
   . refine UA (Q:=Wf (bu bits)) (P:=Wf (bu bits)) (λdd ld=>(Aa dd (ky ld)).2.2.1) d (λn hn=>?_) (λdd ld c hc=>zvz ld hc) (λe he=>he) (λd' e t2 e2 i hi he=>?_) t'
     . rcases hn with hn|rfl
       . exact zdq (hN n hn)
       . exact zdq hx
     . subst e;exact zhJ (λt=>ih d' (by omega) t N hN) t2 he i
def Py(t:Tp):∀ (n:Nat),∀ e∈(GD (bu bits) t n).2,j6 e.name=true
 | 0,e,he=>by cases he
 | n + 1,e,he=>by
   have key:∀ u:Tp,j6 (varName u)=true:=λu=>by
    have M:=Af u 8;have O:=Cb u (n:=8) (by decide);have b6:∀ x∈varNames,j6 x=true:=by decide
    unfold varName;obtain⟨j,hj⟩:=bK M;have kx:j<varNames.length:=by show j<8;omega
    rw[hj,bP,ax kx];exact b6 _ (az kx)
   rw[GD]at he;unfold J7 at he;dsimp only at he;split at he
   . rcases bA.1 he with he|he
     . exact Py t n e he
     . rw[ay]at he;subst he;exact key _
   . rcases bA.1 he with he|he
     . exact Py t n e he
     . rw[ay]at he;subst he;exact key _
end
theorem Qm(h:jh c=true):c.type.valid=true:=by
 unfold jh at h
 grind
def zgn(h:t.valid=true)(C:t.size<=10000):tok t=true:=RY.2 ⟨C,zat t h,Qa t h⟩
def zfg(bits:Int)(t:Tp)(n:Nat):∀ e∈(GD (bu bits) t n).2,SO 0 e.scheme/\jh e.scheme=true/\e.scheme.type.closed true=true/\e.scheme.type.size<=7:=λe he=>by
 have h:=QN (Jj bits) (uA bits) t n e he;unfold zcm at h;simp only[aQ,decide_eq_true_eq]at h;obtain⟨⟨⟨M,O⟩,h3⟩,h4⟩:=h;exact⟨⟨(Jp _ (zat _ (Qm M)) O).le h3,by unfold oU;omega⟩,M,O,h3⟩
def zcw(hl:l.length<=3)(h:∀ e∈l,jh e.scheme=true/\e.scheme.type.size<=7)(hg:g.valid=true)(C:g.size<=7):zd l g=true :=
 zaC.2 ⟨by omega,zgn hg (by omega),λe he=>zgn (Qm (h e he).1) (by have:=(h e he).2;omega)⟩
theorem zr9{bits:Int}(hc:b5.length<=60):∃ d f r,Q6 d f 4 (bu bits) (iB b5 (bu bits)).1 (iB b5 (bu bits)).2.1 (iB b5 (bu bits)).2.2.1 r:=by
 obtain⟨t,ht⟩:∃ t:Tp,t=⟨b5,0⟩:=⟨_,rfl⟩;have zJG:t.ok:=by rw[ht];exact⟨fA _,by show b5.length<=100000;omega⟩
 have eb:=KL (Jj bits) (uA bits) b5;have hlen:=(Ej (D:=bu bits) zJG).2;unfold iB at eb ⊢;dsimp only at eb ⊢;rw[<- ht]at eb ⊢;have Wh:∀ e∈(lK t (bu bits)).2.1,SO 0 e.scheme/\jh e.scheme=true/\e.scheme.type.closed true=true/\e.scheme.type.size<=7:=zfg bits _ _;have zJX:∀ e∈(lK t (bu bits)).2.1,j6 e.name=true:=Py _ _;have KP:ic 0 7 (lK t (bu bits)).2.2:=Zv (uA bits) _
 have hgv:(lK t (bu bits)).2.2.valid=true:=by
  unfold yB at eb
  grind
 generalize (lK t (bu bits)).2.1=ctx at *;generalize (lK t (bu bits)).2.2=g at *;generalize (lK t (bu bits)).1=u at *;have hD:=λd (hd:d∈bu bits)=>Aa d (ky hd)
 have zKd:A0 4 (wq 3) (gJ 3 u (bu bits) (ctx.map (·.name))).2:=zir (Jk bits) (λd hd=>⟨(hD d hd).2.1,(hD d hd).2.2.1,λc hc=>((hD d hd).2.2.2 c hc).1⟩) 3 u _ (by decide);have rL:=SX (Jk bits) 3 u (ctx.map (·.name))
 have V0:Wf (bu bits) (gJ 3 u (bu bits) (ctx.map (·.name))).2:=zmf 3 u _ λn hn=>by
  obtain⟨e,he,rfl⟩:=aI.1 hn;exact zJX e he
 have As:=zaS (D:=bu bits) 3 u (ctx.map (·.name));have hde:=zoJ bits;generalize (gJ 3 u (bu bits) (ctx.map (·.name))).2=e at *;have eM:MD ((⟨none,[],[]⟩:MS),[]):=⟨⟨ao.ztq,af _,λ_=>rfl,aW _⟩,λx hx=>(by cases hx)⟩;have hb:wq 3=120:=rfl;obtain⟨b,s',⟨N,hN⟩,hn⟩:=zeJ hde zKd (by decide) ctx g ((⟨none,[],[]⟩:MS),[]) (by omega) (λe he=>(Wh e he).1) KP eM (by rw[hb];decide) (by rw[hb];decide);refine⟨N,N,(b,s'),⟨hde.pre,by omega,zcw hlen (λe he=>⟨(Wh e he).2.1,(Wh e he).2.2.2⟩) hgv KP.size,eb,by have:=rL.2.1;omega,V0,rL.fit (by decide),As,λ_=>hN N N (af _) (af _),λ_=>⟨?_,λx hx=>(hn.zc x hx).ok,?_⟩⟩⟩
 . exact hn.nx.ok.fW.Ez.ll (by have:=hn.nx.ok.PA;omega)
 . have:=hn.len;rw[hb]at this;show s'.2.length<=20000;have h0:((⟨none,[],[]⟩:MS),([]:Z G)).2.length=0:=rfl;omega
def ziQ{to:G}(H:zpv (fD 0 0) to){bits:Int}(hc:b5.length<=60):∃ d f v,Dx d f 4 (bu bits) (iB b5 (bu bits)).1 (iB b5 (bu bits)).2.1 (iB b5 (bu bits)).2.2.1=some v /\
 (v=0->Dx d f 4 (bu bits) ((iB b5 (bu bits)).1.map (xL (fD 0 0) to)) ((iB b5 (bu bits)).2.1.th (fD 0 0) to) (iB b5 (bu bits)).2.2.1=some 0):=by
 obtain⟨d,f,r,h⟩:=zr9 (bits:=bits) hc;refine⟨d,f,_,XQ h,λh0=>?_⟩;have eb:=KL (Jj bits) (uA bits) b5;have hlen:(iB b5 (bu bits)).1.length<=3:=(Ej (D:=bu bits) (t:=⟨b5,0⟩) ⟨fA _,by show b5.length<=100000;omega⟩).2;have Wh:∀ e∈(iB b5 (bu bits)).1,SO 0 e.scheme/\jh e.scheme=true/\e.scheme.type.closed true=true/\e.scheme.type.size<=7:=zfg bits _ _;have KP:ic 0 7 (iB b5 (bu bits)).2.1:=Zv (uA bits) _;generalize (iB b5 (bu bits)).1=ctx at *;generalize (iB b5 (bu bits)).2.1=g at *;unfold yB at eb;simp only[aQ,decide_eq_true_eq]at eb;obtain⟨⟨⟨g1,g2⟩,g3⟩,_⟩:=eb
 have zb9:∀ e∈ctx.map (xL (fD 0 0) to),jh e.scheme=true/\e.scheme.type.closed true=true/\e.scheme.type.size<=7:=λe he=>by
  obtain⟨x,hx,rfl⟩:=aI.1 he;obtain⟨_,M,O,h3⟩:=Wh x hx;exact⟨zdD H M,WG H _ _ O,by show (x.scheme.type.th (fD 0 0) to).size<=7;rw[F8 H.toRep0];exact h3⟩
 have hz:(g.th (fD 0 0) to).size<=7:=by rw[F8 H.toRep0];exact KP.size
 obtain⟨k1,k2⟩:=zmd H.toRep0 (zoI H.toRep0 bits) h h0 (zcw (by rw[aL];exact hlen) (λe he=>⟨(zb9 e he).1,(zb9 e he).2.2⟩) (SH H _ g1) hz) (by
  unfold yB;simp only[aQ,decide_eq_true_eq,aj]
  exact⟨⟨⟨SH H _ g1,WG H _ _ g2⟩,by omega⟩,λe he=>⟨⟨(zb9 e he).1,(zb9 e he).2.1⟩,by have:=(zb9 e he).2.2;omega⟩⟩)
 rw[XQ k1,k2]
def zCb{to:G}(h:fr.args=[])(t:G):t.th fr to=if t=fr then to else .mk t.kind t.name t.id t.home (t.args.map (G.th · fr to)):=by
 by_cases ha:t.args=[]
 . unfold G.th;rw[Fv ha,ha];split
   . rfl
   . obtain⟨k,nm,i,h,l⟩:=t;simp only[G.fC]at ha;subst ha;rfl
 . rw[if_neg (λe=>ha (by rw[e];exact h))];exact Av ha
def IA(d:Nat)(x fr to:G):Y G:=if x.ok=true/\fr.ok=true/\x.size<=d/\fr.args=[]then some (x.th fr to)else none
section
variable {I:Nat->Value}(hρ:J.Good I)
include hρ
section
variable {E:Env}(U:E.P=Pg)(aq:bH I E)
include U aq
def YG  (Pl:E.dE 32=equalS) (hc:E.dE 29=dH (tZ (IA d))) {x to:G} (hx:x.ok=true) (hf:fr.ok=true) (hd:x.size<=d+1) (hfa:fr.args=[]) (C:HS):aT I Pg 29 [enc x,enc fr,enc to] C (enc (x.th fr to)) C:=by
 refine fn hρ U aq Tryz.func29 vo.2 rfl (by simp) ?_ C;have hlen:=G.wW hx;obtain⟨xk,xn,xi,xh,xl⟩:=x;have hth:(G.mk xk xn xi xh xl).th fr to=if G.mk xk xn xi xh xl=fr then to else .mk xk xn xi xh (xl.map (G.th · fr to)):=zCb hfa _
 simp only[G.fC]at hlen;rw[hth];by_cases he:G.mk xk xn xi xh xl=fr
 . subst he;rw[if_pos rfl];obtain⟨tk,tn,ti,th,tl⟩:=to;simp[U,Pl,equalS,hx]
 . rw [if_neg he];have hrec:∀ i (hi:i<xl.length),IA d xl[i] fr to=some (xl[i].th fr to):=λi hi=>if_pos ⟨G.EJ hx (az hi),hf,by have:=G.Au (t:=.mk xk xn xi xh xl) (az hi);omega,hfa⟩
   obtain⟨fk,zHs,fi,fh,fl⟩:=fr;obtain⟨tk,tn,ti,th,tl⟩:=to;simp[U,Pl,equalS,hx,he]
   refine vC hρ U aq xl.length (nn:=5) (λi (L:Z G)=>[(3,.ptr 0 0 0),(4,.ptr 1 0 0),(5,.ptr 2 0 0),(6,.ptr 3 0 0),(7,.ptr 4 0 0),(8,.int .i64 (i:Int))]) (λi L=>[(0,.arr 5 0 [[.int .i64 xk,.str xn,.int .i64 xi,.int .i64 xh,.sl (xl.map au) false]] true false false),(1,.arr 5 0 [[.int .i64 fk,.str zHs,.int .i64 fi,.int .i64 fh,.sl (fl.map au) false]] true false false),(2,.arr 5 0 [[.int .i64 tk,.str tn,.int .i64 ti,.int .i64 th,.sl (tl.map au) false]] true false false),(3,.arr 5 0 [[.int .i64 0,.str [],.int .i64 0,.int .i64 0,.aE]] true false false),(4,.arr 5 0 [[.int .i64 xk,.str xn,.int .i64 xi,.int .i64 xh,oV 5 (L.map au)]] true false false)]++oH 5 5 (L.map au)) (λi L=>L=(xl.take i).map (G.th · (.mk fk zHs fi fh fl) (.mk tk tn ti th tl))) []
    (aw.auto) rfl ?_ ?_
   . intro L hL K;rw[gN]at hL;rw[<- hL];clear hL;rcases L with _|⟨y,L⟩
     . simp[qc,U];refine bO.mk (aw.auto (TL:=[(6,.ptr 3 0 0),(7,.ptr 4 0 0)]) (HL:=[(3,.arr 5 0 [[.int .i64 0,.str [],.int .i64 0,.int .i64 0,.aE]] true false false),(4,.arr 5 0 [[.int .i64 xk,.str xn,.int .i64 xi,.int .i64 xh,.aE]] true false false)]) (n:=5)) ?_;simp[U]
     . simp[qc,U];refine bO.mk (aw.auto (TL:=[(6,.ptr 3 0 0),(7,.ptr 4 0 0)]) (HL:=[(3,.arr 5 0 [[.int .i64 0,.str [],.int .i64 0,.int .i64 0,.aE]] true false false),(4,.arr 5 0 [[.int .i64 xk,.str xn,.int .i64 xi,.int .i64 xh,oV 5 ((y::L).map au)]] true false false)]++oH 5 5 ((y::L).map au)) (n:=5)) ?_;simp[U]
   . intro i L hi hL K hK;have cj:(i:Int)<xl.length:=by omega
     have cy:=bI (i:=i);have m1:i*5 / 5=i:=by omega
     have hr:=hrec i hi;have bc:=hK (L++[xl[i].th (.mk fk zHs fi fh fl) (.mk tk tn ti th tl)]) (by rw[dK,ax hi,fP,dz,hL];rfl);have KR:L.length=i:=by rw[hL,aL,eB];omega
     clear hL;generalize xl[i].th (.mk fk zHs fi fh fl) (.mk tk tn ti th tl)=y at hr bc;generalize sd:xl[i]=zMI at hr;cases zMI;cases y;rcases L with _|⟨z,L⟩
     . simp[qc,U,hi,cj,cy,m1,hc,hr,sd,-Int.natCast_add];exact bc _ _ (aw.auto)
     . have pA:(L.length+1+1)*64<=1048576:=aO (aN 64 (show L.length+1+1<=10001 by simp at KR;omega)) (by decide);simp[qc,U,hi,cj,cy,m1,pA,aY,hc,hr,sd,-Int.natCast_add];exact bc _ _ (aw.auto)
end
def zh8(d:Nat):Valid I Pg 29 (dH (tZ (IA d))):=by
 induction d with
 | zero =>
   refine v3 (fo Tryz.func29 vo.2) λa b c r h C=>?_
   obtain⟨⟨M,O,h3,h4⟩,rfl⟩:=bF h;have:=G.size_eq a;omega
 | succ d ih =>
   refine v3 (fo Tryz.func29 vo.2) λa b c r h C=>?_
   obtain⟨⟨M,O,h3,h4⟩,rfl⟩:=bF h;exact YG hρ (E:=EL [(32,equalS),(29,dH (tZ (IA d)))]) rfl (ag (ae (zlL hρ) (ae ih aG))) rfl rfl M O h3 h4 C
end
def HB(o:Bool):G:=if o=true then fD 0 1 else Ik
section
variable {I:Nat->Value}(hρ:J.Good I)
include hρ
section
variable {E:Env}(U:E.P=Pg)(aq:bH I E)
include U aq
def RP {f:Nat} (M:E.dE 20=Tb) (O:E.dE 8=S6) (h3:E.dE 21=sj Nj) (h4:E.dE 15=dH (Fh Ik)) (h5:E.dE 16=dH (dC λh i:Int=>some (fD h i))) (h6:E.dE 29=dH (tZ (IA 100))) (h7:E.dE 26=ES d f 4)
 {bits:Int}  {other:Bool} (zjU:b5.length<=60->∃ v,Dx d f 4 (bu bits) (iB b5 (bu bits)).1 (iB b5 (bu bits)).2.1 (iB b5 (bu bits)).2.2.1=some v /\
 (v=0->Dx d f 4 (bu bits) ((iB b5 (bu bits)).1.map (xL (fD 0 0) (HB other))) ((iB b5 (bu bits)).2.1.th (fD 0 0) (HB other)) (iB b5 (bu bits)).2.2.1=some 0)) (C:HS):aT I Pg 6 [enc bits,enc b5,enc other] C (enc true) C:=by
 refine fn hρ U aq Tryz.func6 BP.2 rfl (by simp) ?_ C;by_cases hc:b5.length<=60
 case neg=>simp[U,M,Tb,O,S6,hc]
 obtain⟨v,se,lz⟩:=zjU hc;have hlen:(iB b5 (bu bits)).1.length<=3:=(Ej (D:=bu bits) (t:=⟨b5,0⟩) ⟨fA _,by show b5.length<=100000;omega⟩).2;have Wh:∀ e∈(iB b5 (bu bits)).1,SO 0 e.scheme/\jh e.scheme=true/\e.scheme.type.closed true=true/\e.scheme.type.size<=7:=zfg bits _ _;have KP:ic 0 7 (iB b5 (bu bits)).2.1:=Zv (uA bits) _;rcases tz:iB b5 (bu bits)with⟨ctx,goal,e,t⟩;rw[tz]at se lz hlen Wh KP;have kj:=λC=>zbO (C:=C) tz
 have BT:=λC=>Y7 (C:=C) tz
 simp only at se lz hlen Wh KP;generalize bu bits=D at se lz kj BT;have hg:IA 100 goal (fD 0 0) (HB other)=some (goal.th (fD 0 0) (HB other)):=if_pos ⟨KP.ok,rfl,by have:=KP.size;omega,rfl⟩
 have he:∀ i (hi:i<ctx.length),IA 100 ctx[i].scheme.type (fD 0 0) (HB other)=some (ctx[i].scheme.type.th (fD 0 0) (HB other)):=λi hi=>by
  obtain⟨M,_,_,O⟩:=Wh _ (az hi);exact if_pos ⟨M.ty.ok,rfl,by omega,rfl⟩
 clear tz Wh KP zjU;obtain⟨gk,gn,gi,gh,gl⟩:=goal;obtain⟨ek,ep,en,em,cM,eo,⟨mw,mj,my,zxK,mu⟩⟩:=e;by_cases hv:v=0
 case neg=>simp[U,M,Tb,O,S6,hc,h3,kj,BT,aJ,bL,h7,ES,se,hv]
 replace lz:=lz hv;subst hv;rcases zJF:HB other with⟨tk,tn,ti,th,tl⟩;rw[zJF]at lz hg he
 have loop:∀ (T:PT V) (C:HS) (Q:Ex->PT V->HS->Prop),
  aw 0 T C (dW [(7,.sl (D.map aP) false),(8,.sl (ctx.map df) false),(9,.ptr 0 0 0),(10,.ptr 1 0 0),(12,.ptr 2 0 0),(13,.aE),(14,.int .i64 ((0:Nat):Int))]) { H:=dW [(0,.arr 5 0 [[.int .i64 gk,.str gn,.int .i64 gi,.int .i64 gh,.sl (gl.map au) false]] true false false),(1,.arr 11 0 [[.int .i64 ek,.int .i64 ep,.str en,.int .i64 em,.sl (cM.map dL) false,.sl (eo.map gL) false,.int .i64 mw,.str mj,.int .i64 my,.int .i64 zxK,.sl (mu.map au) false]] true false false),(2,.arr 5 0 [[.int .i64 tk,.str tn,.int .i64 ti,.int .i64 th,.sl (tl.map au) false]] true false false)],n:=4,log:=[] } ->
  Q (.exit 0) (dW [(7,.sl (D.map aP) false),(9,.ptr 0 0 0),(10,.ptr 1 0 0),(12,.ptr 2 0 0),(13,oV 3 ((ctx.map (xL (fD 0 0) (.mk tk tn ti th tl))).map df))]) { H:=dW ([(0,.arr 5 0 [[.int .i64 gk,.str gn,.int .i64 gi,.int .i64 gh,.sl (gl.map au) false]] true false false),(1,.arr 11 0 [[.int .i64 ek,.int .i64 ep,.str en,.int .i64 em,.sl (cM.map dL) false,.sl (eo.map gL) false,.int .i64 mw,.str mj,.int .i64 my,.int .i64 zxK,.sl (mu.map au) false]] true false false),(2,.arr 5 0 [[.int .i64 tk,.str tn,.int .i64 ti,.int .i64 th,.sl (tl.map au) false]] true false false)]++oH 3 7 ((ctx.map (xL (fD 0 0) (.mk tk tn ti th tl))).map df)),n:=4,log:=[] } ->
  Ls I E 0 70 (.loop kV) T C Q:=by
  intro T C Q h0 hQ
  refine vC hρ U aq ctx.length (nn:=4) (λi (L:Z Entry)=>[(7,.sl (D.map aP) false),(8,.sl (ctx.map df) false),(9,.ptr 0 0 0),(10,.ptr 1 0 0),(12,.ptr 2 0 0),(13,oV 3 (L.map df)),(14,.int .i64 (i:Int))]) (λi L=>[(0,.arr 5 0 [[.int .i64 gk,.str gn,.int .i64 gi,.int .i64 gh,.sl (gl.map au) false]] true false false),(1,.arr 11 0 [[.int .i64 ek,.int .i64 ep,.str en,.int .i64 em,.sl (cM.map dL) false,.sl (eo.map gL) false,.int .i64 mw,.str mj,.int .i64 my,.int .i64 zxK,.sl (mu.map au) false]] true false false),(2,.arr 5 0 [[.int .i64 tk,.str tn,.int .i64 ti,.int .i64 th,.sl (tl.map au) false]] true false false)]++oH 3 7 (L.map df)) (λi L=>L=(ctx.take i).map (xL (fD 0 0) (.mk tk tn ti th tl))) []
   (by exact h0) rfl ?_ ?_
  . intro L hL K;rw[gN]at hL;rw[<- hL]at hQ;clear hL;rcases L with _|⟨y,L⟩
    . simp[kV,U];exact bO.mk (aw.auto) hQ
    . simp[kV,U];exact bO.mk (aw.auto) hQ
  . intro i L hi hL K hK;have cj:(i:Int)<ctx.length:=by omega
    have cy:=bI (i:=i);have m1:i*7 / 7=i:=by omega
    have hr:=he i hi;have bc:=hK (L++[xL (fD 0 0) (.mk tk tn ti th tl) ctx[i]]) (by rw[dK,ax hi,fP,dz,hL];rfl);have KR:L.length=i:=by rw[hL,aL,eB];omega
    clear hL;generalize sd:ctx[i]=x at hr bc;obtain⟨xn,xc,⟨ak,an,ai,ah,al⟩⟩:=x;rw[show xL (fD 0 0) (.mk tk tn ti th tl) ⟨xn,xc,.mk ak an ai ah al⟩=⟨xn,xc,(G.mk ak an ai ah al).th (fD 0 0) (.mk tk tn ti th tl)⟩ from rfl]at bc;simp only at hr;generalize (G.mk ak an ai ah al).th (fD 0 0) (.mk tk tn ti th tl)=y at hr bc;cases y;rcases L with _|⟨z,L⟩
    . simp[kV,U,hi,cj,cy,m1,h5,h6,hr,sd,df,-Int.natCast_add];exact bc _ _ (aw.auto (by simp[df,-Int.natCast_add]) (by simp[df]))
    . have pA:(L.length+1+1)*88<=1048576:=aO (aN 88 (show L.length+1+1<=10001 by simp at KR;omega)) (by decide);simp[kV,U,hi,cj,cy,m1,pA,aY,h5,h6,hr,sd,df,-Int.natCast_add];exact bc _ _ (aw.auto (by simp[df,-Int.natCast_add]) (by simp[df]))
 generalize fN:ctx.map (xL (fD 0 0) (.mk tk tn ti th tl))=row at loop lz;generalize (G.mk gk gn gi gh gl).th (fD 0 0) (.mk tk tn ti th tl)=g2 at hg lz;cases g2
 cases other with
 | false =>
   simp[U,M,Tb,O,S6,hc,h3,kj,BT,aJ,bL,h7,ES,se,h4];obtain⟨rfl,rfl,rfl,rfl,rfl⟩:tk=4/\tn=[73,110,116]/\ti=0/\th=0/\tl=[]:=by cases zJF;exact⟨rfl,rfl,rfl,rfl,rfl⟩
   refine loop _ _ _ (aw.auto (hH:=by simp[Ik,uM,fD])) ?_;rcases row with _|⟨r0,row⟩
   . simp[U,h5,hg,h6,h7,ES,bL,lz]
   . simp[U,h5,hg,h6,h7,ES,bL,lz]
 | true =>
   simp[U,M,Tb,O,S6,hc,h3,kj,BT,aJ,bL,h7,ES,se,h4,h5];obtain⟨rfl,rfl,rfl,rfl,rfl⟩:tk=3/\tn=[]/\ti=1/\th=0/\tl=[]:=by cases zJF;exact⟨rfl,rfl,rfl,rfl,rfl⟩
   refine loop _ _ _ (aw.auto (hH:=by simp[Ik,uM,fD])) ?_;rcases row with _|⟨r0,row⟩
   . simp[U,h5,hg,h6,h7,ES,bL,lz]
   . simp[U,h5,hg,h6,h7,ES,bL,lz]
end
end
end Go.Proofs.YtfloillkpbhhhaaGreat
