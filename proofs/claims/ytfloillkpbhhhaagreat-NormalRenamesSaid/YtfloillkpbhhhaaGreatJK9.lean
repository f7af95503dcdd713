import Derived.Test.YtfloillkpbhhhaaGreatJK8
import Derived.Test.YtfloillkpbhhhaaGreatJK7
import Derived.Test.YtfloillkpbhhhaaGreatJK6
set_option linter.all false
noncomputable section
namespace Go.J
open bo (enc)
variable {C:HS}{p th tk:Int}{S S' a b c d e g i k m n:Nat}{π:Nat->Nat}{P:Program}{x:Slot}{s:ao}{t:Tp}{D:Z Decl}{tn:Z Nat}{l:Z Slot}
mutual
def G.GH(g:G->G):G->G
 |.mk k n i h []=>g (.mk k n i h [])
 |.mk k n i h (t::l)=>.mk k n i h (G.GH g t::G.zn6 g l)
def G.zn6(g:G->G):Z G->Z G
 | []=>[]
 |t::l=>G.GH g t::G.zn6 g l
end
def zsR(g:G->G)(l:Z G):G.zn6 g l=l.map (G.GH g):=by
 induction l with
 |nil=>simp[G.zn6]
 |cons t l ih=>simp[G.zn6,ih]
theorem zcw{g:G->G}{t:G}(h:t.args=[]):t.GH g=g t:=by
 cases t;simp_all [G.GH]
def NT{g:G->G}{t:G}(h:t.args≠[]):t.GH g=.mk t.kind t.name t.id t.home (t.args.map (G.GH g)):=by
 let⟨k,n,i,hh,l⟩:=t
 cases l with
 |nil=>exact absurd rfl h
 |cons t l=>rw[G.GH,zsR];rfl
abbrev Zl:Z V:=[.int .i64 0,.str [],.int .i64 0,.int .i64 0,.a8]
def nX(l:Z G)(n i:Nat):Z (Z V):=(l.take i).map aA++List.replicate (n-i) Zl
def De{l:Z G}(hl:l.length=n)(hi:i<=n):(nX l n i).length=n:=by
 simp[nX];omega
theorem zln{l:Z G}(hl:l.length=n)(hi:i<n):(nX l n i).set i (aA (l[i]'(by omega)))=nX l n (i+1):=by
 unfold nX;have M:((l.take i).map aA).length=i:=by simp;omega
 rw[je _ _ (by omega),M,iW];obtain⟨m,hm⟩:∃ m,n-i=m+1:=⟨n-i-1,by omega⟩;grind [List.take_add_one,List.getElem?_eq_getElem,Option.toList_some,List.append_assoc]
def Aq{l:Z G}(hl:l.length=n):nX l n n=l.map aA:=by
 simp[nX,<- hl]
def Ao{l:Z G}:nX l n 0=List.replicate n Zl:=by simp[nX]
theorem Qx{l:Z G}{e:Z V}(h:e∈nX l n i):e.length=5/\e.all V.bN=true:=by
 unfold nX at h;rcases bu.1 h with h|h;obtain⟨t,_,rfl⟩:=aF.1 h;simp_all;simp_all
@[simp] def zzo {l:Z G} :((nX l n i).all λe=>e.all V.bN)=true:=au.2 λe he=>(Qx he).2
@[simp] def zB6 {l:Z G}  :((nX l n i).map λe=>e.map (V.jr π))=nX l n i:=AY λx W v hv=>V.jF (au.1 (Qx W).2 v hv)
theorem Ap{l:Z G}(hl:l.length=n)(hi:i<n)(h:i<(nX l n i).length):(nX l n i).set i (kF ((nX l n i)[i]'h) 0 (aA (l[i]'(by omega))))=nX l n (i+1):=by
 have h5:=(Qx (ax h)).1
 have e:kF ((nX l n i)[i]'h) 0 (aA (l[i]'(by omega)))=aA (l[i]'(by omega)):=by
  generalize (nX l n i)[i]'h=r at h5
  match r,h5 with
  | [a,b,c,d,f],_ =>simp_all
 rw[e,zln hl hi]
mutual
def G.zc5:G->Bool
 |.mk k _ _ _ l=>(decide (k≠1)||decide (l.length=0))&&G.GX l
def G.GX:Z G->Bool
 | []=>true
 |t::l=>G.zc5 t&&G.GX l
end
def vD(out:Z Int)(t:G):Z Int:=if t.kind=1/\t.id ∉ out then out++[t.id]else out
mutual
def F7:G->Z Int->Z Int
 |.mk k n i h l,out=>wS l (vD out (.mk k n i h l))
def wS:Z G->Z Int->Z Int
 | [],out=>out
 |t::l,out=>wS l (F7 t out)
end
def zuK(t:G)(out:Z Int):F7 t out=wS t.args (vD out t):=by cases t;rw[F7];rfl
def XA{out:Z Int}{t:G}(h:out.Nodup):(vD out t).Nodup:=by
 unfold vD;split;rename_i hh;rw[ug];exact⟨h,gK.2 ⟨by simp,jP⟩,λa ha b hb e=>by rw[ag]at hb;subst hb;subst e;exact hh.2 ha⟩;exact h
mutual
theorem zgq:∀ (t:G) {out:Z Int},out.Nodup->(F7 t out).Nodup
 |.mk k n i h l,out,ho=>by rw[F7];exact JX l (XA ho)
theorem JX:∀ (l:Z G) {out:Z Int},out.Nodup->(wS l out).Nodup
 | [],out,ho=>by rw[wS];exact ho
 |t::l,out,ho=>by rw[wS];exact JX l (zgq t ho)
end
theorem zaB{t:G}{out:Z G}(hk:t.kind=1):vP (if t∈out then out else out++[t])=vD (vP out) t:=by
 have eN:∀ (a:G) (o:Z Int) (y:Int),y∈o->y∈BB o a:=by grind [BB]
 have hself:∀ (a:G) (o:Z Int),a.id∈BB o a:=by grind [BB]
 have key:∀ (l:Z G) (o:Z Int),(∀ y∈o,y∈l.foldl BB o)/\∀ x∈l,x.id∈l.foldl BB o:=by
  intro l
  induction l with
  |nil=>intro o;exact⟨λy hy=>hy,λx W=>by cases W⟩
  | cons a l ih =>grind
 grind [vP,vD,VA,BB]
mutual
theorem zfE:∀ (t:G),t.zc5=true->∀ out,vP (j5 1 t out)=F7 t (vP out)
 | .mk k n i h l,hl,out=>by
   rw[G.zc5]at hl;simp only[aW,iQ,decide_eq_true_eq]at hl;by_cases hk:k=1;have h0:l=[]:=(by rcases hl.1 with h|h;exact absurd hk h;exact bV h);subst h0;rw[Af,if_pos ⟨hk,rfl⟩,zaB (t:=.mk k n i h []) hk,F7];rfl;rw[Af,if_neg (λhh=>hk hh.1),F7];have:vD (vP out) (.mk k n i h l)=vP out:=if_neg (λhh=>hk hh.1);rw[this];exact GV l hl.2 out
theorem GV:∀ (l:Z G),G.GX l=true->∀ out,vP (eT 1 l out)=wS l (vP out)
 | [],_,out=>by rw[eT,wS]
 | t::l,hl,out=>by
   rw[G.GX,aW]at hl;rw[eT,wS,GV l hl.2,zfE t hl.1]
end
def zjl{l:Z G}(h:G.GX l=true):um l=wS l []:=GV l h []
mutual
def G.pQ:G->Bool
 |.mk k n _ h l=>(decide (k≠1)||(decide (n=[])&&decide (h=0)&&decide (l.length=0)))&&G.Ep l
def G.Ep:Z G->Bool
 | []=>true
 |t::l=>G.pQ t&&G.Ep l
end
def I1{l:Z G}:G.Ep l=true↔∀ t∈l,t.pQ=true:=by
 induction l with
 |nil=>simp[G.Ep]
 |cons t l ih=>simp[G.Ep,ih]
def zT{t:G}(h:t.pQ=true)(hk:t.kind=1):t=fU t.id:=by
 cases t;rw[G.pQ]at h;simp only[aW,iQ,decide_eq_true_eq]at h;simp only[G.fH]at hk;subst hk;rcases h.1 with h|h;omega;obtain⟨⟨rfl,rfl⟩,h3⟩:=h;rw[bV h3];rfl
theorem Ra{t:G}(h:t.pQ=true):G.Ep t.args=true:=by
 cases t;simp_all [G.pQ,aW]
theorem I5{t:G}(hk:t.kind≠1)(h:∀ x∈t.args,x.pQ=true):t.pQ=true:=by
 cases t;simp_all [G.pQ,aW,I1]
def Q9(i:Int):(fU i).pQ=true:=by simp[fU,G.pQ,G.Ep]
structure iA(n S:Nat)(t:G):Prop where
 ok:t.ok=true
 plain:t.pQ=true
 size:t.size<=S
 vars:∀ u,AF u t->0<=u.id/\u.id<n
def iA.arg{n S:Nat}{t x:G}(h:iA n S t)(W:x∈t.args):iA n S x:=by
 have hp:=I1.1 (Ra h.plain) x W;refine⟨G.GL h.ok W,hp,by have:=G.Dr W;have:=h.size;omega,λu hu=>h.vars u (.arg (λhk=>?_) W hu)⟩;have:=zT h.plain hk;rw[this]at W;cases W
def iA.zow{t:G}(h:iA n S t)(hk:t.kind=1):t.args=[]:=by
 have:=zT h.plain hk;rw[this];rfl
def iA.le{t:G}(h:iA n S t)(hS:S<=S'):iA n S' t:=⟨h.ok,h.plain,aO h.size hS,h.vars⟩
theorem iA.var(hi:i<n)(hS:1<=S):iA n S (fU (i:Int)):=by
 refine⟨G.qH.2 ⟨aZ _,λx W=>by cases W⟩,Q9 _,by show (fU (i:Int)).size<=S;rw[G.size_eq];exact hS,λu hu=>?_⟩;rw[hu.var rfl];simp_all [fU]
namespace ao
structure yf(n S:Nat)(s:ao):Prop where
 len:s.bc.length=n
 types:∀ x∈s.bc,if x.bound=true then iA n S x.type else x.type=wI
 fin:∀ i,i<n->s.Fin (fU (i:Int))
def Lg(s:ao):Nat:=s.bc.countP λx=>!x.bound
section
theorem yf.to(h:yf n S s){t:G}(hb:s.bound t=true):iA n S (s.to t):=by
 let⟨_,i,x,_,_,W,A3,wc⟩:=pY hb;have:=h.types x (aI W);grind
def yf.mF(h:yf n S s)(hn:n<=1000):s.mF:=⟨by rw[h.len];exact hn,λx W=>by
 have:=h.types x W;split at this;exact this.ok
 rw[this];rfl⟩
def yf.zlm(h:yf n S s)(t:G):iA n S' t->s.Fin t:=by
 induction t using G.ind with
 | h t ih =>
   intro ht;by_cases hk:t.kind=1;have e:=zT ht.plain hk;let⟨h0,M⟩:=ht.vars t (.self hk);let⟨i,hi⟩:=bE h0;rw[e,hi];exact h.fin i (by omega);refine Fin.zBH ?_ λu hu=>ih u hu (ht.arg hu)
   cases hb:s.bound t with
   |false=>rfl
   |true=>exact absurd (Dh hb) hk
theorem yf.mE(h:yf n S s)(hS:S<=S'):∀ (k:Nat) {t:G},iA n S' t->iA n S' (s.mE k t):=by
 intro k
 induction k with
 |zero=>intro t ht;exact ht
 | succ k ih =>
   intro t ht;unfold ao.mE;split;rename_i hb;exact ih ((h.to hb).le hS);exact ht
def zxw(h:∀ x∈l,x.type.size<=b):∀ m:Z Bool,J.la l m<=l.length*b:=by
 induction l with
 |nil=>intro m;simp[J.la]
 | cons x l ih =>
   intro m
   cases m with
   |nil=>simp[J.la]
   | cons c m =>
     have M:=ih (λx W=>h x (aD _ W)) m;have O:=h x (aB ..);simp only[J.la,aL,Nat.succ_mul];split<;>omega
theorem yf.la(h:yf n S s)(hS:1<=S)(m:Z Bool):J.la s.bc m<=n*S:=by
 have:=zxw (l:=s.bc) (b:=S) (λx W=>by
  have:=h.types x W;split at this;exact this.size
  rw[this];exact hS) m
 rw[h.len]at this;exact this
def yf.vars (h:yf n S s) (hS:1<=S)  {t:G} (ht:iA n S' t) (hb:n*S+S'<=100000) :
 (∀ v∈qX s [t],0<=v/\v<n)/\(qX s [t]).length<=n*S+S'/\∀ id:Int,s.bound (fU id)=false->s.Reach id t->id∈qX s [t]:=by
 have hu:=h.la hS (List.replicate s.bc.length false);have cd:=ht.size
 have key:=zr1 (s:=s) (P:=λv=>0<=v/\v<n) (λx W A3 u hu=>by
  have:=h.types x W;rw[if_pos A3]at this
  exact this.vars u hu) 100000 [] t (([]:Z Int),List.replicate s.bc.length false) ht.vars (by simp only;omega) (by simp) (λi x _ _ hi=>by
   simp only[List.getElem?_replicate]at hi
   split at hi<;>cases hi)
 let⟨r1,r2⟩:=key;have hlen:=(zeA s 100000 t (([]:Z Int),List.replicate s.bc.length false)).2.2.2;unfold qX;simp only[ky,List.foldl_nil];generalize Q8 s 100000 t (([]:Z Int),List.replicate s.bc.length false)=st at r1 r2 hlen;refine⟨λv hv=>?_,?_,λid hid hr=>?_⟩;rcases r1.out v hv with h|h;cases h;exact h;simp only[ku]at hlen;omega
 have walk:∀ u,s.Reach id u->(∃ m,iA n m u)->s.RM st u->id∈st.1:=by
  intro u hu
  induction hu with
  | here hk he =>
    intro _ hc;have:=(hc _ (.self hk)).2;rw[he]at this;refine this ?_
    cases hb:s.bound _ with
    |false=>rfl
    | true =>have:=(zdW hb (u:=fU id) rfl (by rw[he];rfl)).1;rw[hid]at this;cases this
  | to hb _ ih =>intro _ hc;have hk:=Dh hb;have hd:=(hc _ (.self hk)).1 hb;let⟨_,i,x,hi,cF,W,A3,wc⟩:=pY hb;refine ih ⟨S,h.to hb⟩ ?_;rw[wc];exact r1.inv i x W A3 (by rw[hi]at hd;exact hd) (by simp)
  | arg hb W _ ih =>intro hm hc;let⟨m,hm⟩:=hm;have hk:¬ _:=λhk=>(by have:=hm.zow hk;rw[this]at W;cases W);exact ih ⟨m,hm.arg W⟩ λu hu=>hc u (.arg hk W hu)
 exact walk t hr ⟨S',ht⟩ r2
end
def bt(x:Slot):Bool×G:=(x.bound,x.type)
def nV(s s':ao):Prop:=s'.bc.map bt=s.bc.map bt
section
variable {s':ao}
theorem nV.refl:nV s s:=rfl
theorem nV.len(h:nV s s'):s'.bc.length=s.bc.length:=by
 have:=congrArg List.length h;grind
def nV.at(h:nV s s')(i:Nat):(s'.bc[i]?).map bt=(s.bc[i]?).map bt:=by
 have:=congrArg (λl=>l[i]?) h;simpa using this
def nV.slot(h:nV s s')(id:Int):(s'.cE id).map bt=(s.cE id).map bt:=by
 unfold cE;split;exact h.at _;rfl
theorem nV.bound(h:nV s s')(u:G):s'.bound u=s.bound u:=by
 have M:=h.slot u.id;unfold ao.bound;cases O:s'.cE u.id<;>cases h3:s.cE u.id<;>rw[O,h3]at M
 cases M;cases M;have:bt _=bt _:=bT M;unfold bt at this;rw[Prod.mk.injEq]at this;cases decide (u.kind=1)<;>simp[this.1]
theorem nV.to(h:nV s s')(u:G):s'.to u=s.to u:=by
 have M:=h.slot u.id;unfold ao.to;grind [bt,Option.some.inj,Prod.mk.injEq]
def nV.fin(h:nV s s'){u:G}(hu:s.Fin u):s'.Fin u:=by
 refine ao.Fin.ind (p:=s'.Fin) (λt hb ih=>?_) (λt hb ih=>?_) hu;exact .W3 ((h.bound t).trans hb) (by rw[h.to];exact ih);exact .zBH ((h.bound t).trans hb) ih
theorem nV.mem(h:nV s s')(W:x∈s'.bc):∃ y∈s.bc,y.bound=x.bound/\y.type=x.type:=by
 have:bt x∈s.bc.map bt:=by rw[<- h];exact aF.2 ⟨x,W,rfl⟩
 grind [bt,Prod.mk.injEq]
theorem nV.E8(h:nV s s')(ht:yf n S s):yf n S s':=by
 refine⟨h.len.trans ht.len,λx W=>?_,λi hi=>h.fin (ht.fin i hi)⟩;let⟨y,hy,e1,e2⟩:=h.mem W;have:=ht.types y hy;grind
def nV.Lg(h:nV s s'):s'.Lg=s.Lg:=by
 unfold ao.Lg;have e:∀ l:Z Slot,l.countP (λx=>!x.bound)=(l.map bt).countP λp=>!p.1:=λl=>by rw[List.countP_map];rfl
 rw[e,e,h]
end
def yC(hi:i<s.bc.length):s.set (i:Int) x=(⟨s.bc.set i x,s.b9++[⟨(i:Int),s.bc[i],false⟩]⟩,true):=by
 unfold ao.set;rw[fj,az hi];rfl
theorem pq(hi:i<s.bc.length):s.iH (i:Int)=s.bc[i]:=by
 unfold iH;rw[fj,az hi];rfl
theorem znQ(hi:i<s.bc.length)(hb:x.bound=s.bc[i].bound)(ht:x.type=s.bc[i].type):nV s (s.set (i:Int) x).1:=by
 rw[yC hi];show (s.bc.set i x).map bt=_;grind [List.map_set,bt,List.set_getElem_self]
def XW(hi:i<s.bc.length):(s.set (i:Int) x).1.b9.length=s.b9.length+1:=by rw[yC hi];simp
theorem zhF(hi:i<s.bc.length)(hb:x.bound=true):zHk s (s.set (i:Int) x).1 (i:Int) x.type:=by
 rw[yC hi];have C:∀ id:Int,(⟨s.bc.set i x,s.b9++[⟨(i:Int),s.bc[i],false⟩]⟩:ao).cE id=if id=(i:Int)then some x else s.cE id:=by intro id;unfold cE;grind
 constructor;intro u hu;by_cases hk:u.kind=1;have cg:¬ u.id=(i:Int):=λe=>hu ⟨hk,e⟩;refine⟨?_,λ_=>?_⟩;unfold ao.bound;rw[C,if_neg cg];unfold ao.to;rw[C,if_neg cg];grind [Dh];intro u hk hid;refine⟨?_,?_⟩;unfold ao.bound;rw[C,if_pos hid,decide_eq_true hk];exact hb;unfold ao.to;rw[C,if_pos hid]
theorem zsE(hi:i<s.bc.length)(hb:x.bound=true)(h0:s.bc[i].bound=false):(s.set (i:Int) x).1.Lg+1=s.Lg:=by
 rw[yC hi];unfold Lg;grind
theorem znP(h:yf n S s)(hi:i<n)(hb:x.bound=true)(ht:iA n S x.type)(h0:s.bound (fU (i:Int))=false)(hr:¬ s.Reach (i:Int) x.type):yf n S (s.set (i:Int) x).1:=by
 have cF:i<s.bc.length:=by rw[h.len];exact hi
 have hu:=zhF (s:=s) (x:=x) cF hb;refine⟨by rw[yC cF];simp[h.len],λy hy=>?_,λj hj=>hu.fin (h.zlm _ ht) hr (h.fin j hj)⟩;rw[yC cF]at hy;rcases iX hy with hy|rfl;exact h.types y hy;grind
def room(n S:Nat)(s:ao):Nat:=s.b9.length+(n*S+S+2)*s.Lg
section
theorem yf.slot(h:yf n S s){x:G}(W:iA n S x)(C:s.uG x=true)(hb:s.bound x=false):∃ i:Nat,i<n/\x=fU (i:Int)/\x.id=(i:Int)/\s.bound (fU (i:Int))=false/\1<=s.Lg:=by
 unfold uG at C;simp only[aW,decide_eq_true_eq]at C;let⟨h0,M⟩:=W.vars x (.self C.1);let⟨i,hi⟩:=bE h0;have e:=zT W.plain C.1;rw[hi]at e;refine⟨i,by omega,e,hi,by rw[<- e];exact hb,?_⟩;have cF:i<s.bc.length:=by rw[h.len];omega
 have e2:=J5 (s:=s) (t:=x) C.1 (by rw[hi,fj];exact az cF);rw[hb]at e2;unfold Lg;grind
end
end ao
def znM{l:Z G}(h:∀ t∈l,t.size<=b):G.bj l<=l.length*b:=by
 induction l with
 |nil=>simp[G.bj]
 | cons t l ih =>
   have M:=h t (aB ..);have O:=ih λt ht=>h t (aD _ ht);simp only[G.bj,aL,Nat.succ_mul];omega
def L7(D:Z Decl):Prop:=∀ d∈D,d.params.length<=2
def EI(bits:Int):L7 (bA bits):=by
 intro d hd;have key:∀ d∈La,d.params.length<=2:=by decide
 exact key d (kH hd)
theorem Dl  {Lv:Z G} (hD:L7 D) (hl:∀ l∈Lv,l.size<=1):∀ (d:Nat) (t:Tp),(jk d t D Lv).2.size+1<=2 ^ (d+1):=by
 have hint:Un.size=1:=by decide
 intro d
 induction d with
 | zero =>intro t;rw[jk];grind
 | succ d ih =>
   intro t;have hp:2 ^ (d+1+1)=2*2 ^ (d+1):=(by rw[Nat.pow_succ 2 (d+1)];omega);have py:2<=2 ^ (d+1):=(by rw[Nat.pow_succ];have:=Nat.two_pow_pos d;omega);rw[jk]
   try dsimp only
   split;grind;split;grind;split;rename_i h;let⟨j,hj,_,O⟩:=Dz (t.next 7).1 h.2;rw[O];have zFS:=hD _ (ax hj);rw[eD]
   have eg:∀ (q:Tp) (n:Nat) (x:G),x∈(q8 d q D Lv n).2->x.size+1<=2 ^ (d+1):=by
    intro q n
    induction n with
    |zero=>intro x W;rw[q8]at W;cases W
    | succ n zOd =>grind [q8,List.mem_singleton]
   have C:=znM (l:=(q8 d ((t.next 7).1.next (D.length:Int)).1 D Lv D[j].params.length).2) (b:=2 ^ (d+1)-1) λx W=>(by have:=eg _ _ x W;omega);rw[KQ]at C;rw[G.size_eq];have hm:D[j].params.length*(2 ^ (d+1)-1)<=2*(2 ^ (d+1)-1):=aQ _ zFS;show G.bj (q8 d ((t.next 7).1.next (D.length:Int)).1 D Lv D[j].params.length).2+1+1<=_;omega;rw[G.size_eq];simp only[wo,wJ,G.iT,G.bj];grind
theorem Nv{Lv:Z G}(hl:∀ l∈Lv,l.pQ=true)(d:Nat)(t:Tp):(jk d t D Lv).2.pQ=true :=
 C8 (P:=λt=>t.pQ=true) hl (by decide) (λdd _ l _ W=>I5 (by simp[wJ]) W)
  (λa b M O=>I5 (by simp[wo,wJ]) (λx W=>by
    simp only[wo,wJ,G.iT,ay,aU,or_false]at W
    rcases W with rfl|rfl<;>assumption)) d t
theorem Ul{Lv:Z G}(hD:L7 D)(hl:∀ l∈Lv,l.ok=true)(d:Nat)(t:Tp):(jk d t D Lv).2.ok=true :=
 C8 (P:=λt=>t.ok=true) hl (by decide) (λdd jz l hlen W=>G.qH.2 ⟨by have:=hD dd jz;simp[wJ,hlen];omega,W⟩)
  (λa b M O=>G.qH.2 ⟨by simp[wo,wJ],λx W=>by
    simp only[wo,wJ,G.iT,ay,aU,or_false]at W
    rcases W with rfl|rfl<;>assumption⟩) d t
namespace ao
def zvq(n:Nat)(u:G):Prop:=(∃ i:Nat,i<n/\u=fU (i:Int))\/(u.kind≠1/\u.args=[]/\u.pQ=true)
theorem zvq.WZ{x:G}(h:zvq n x){u:G}(hu:AF u x):0<=u.id/\u.id<n:=by
 rcases h with⟨i,hi,rfl⟩|⟨hk,ha,_⟩;rw[hu.var rfl];exact⟨by simp[fU],by simp[fU];omega⟩
 cases hu with
 |self np=>exact absurd np hk
 |arg _ W _=>rw[ha]at W;cases W
theorem zeJ(hD:L7 D){Lv:Z G}(hl:∀ u∈Lv,zvq n u)(d:Nat)(t:Tp)(hS:2 ^ (d+1)<=S+1):iA n S (jk d t D Lv).2:=by
 have eg:∀ u∈Lv,u.args=[]:=λu hu=>by rcases hl u hu with⟨i,_,rfl⟩|⟨_,h,_⟩;rfl;exact h
 have cd:∀ u∈Lv,u.size<=1:=λu hu=>by rw[G.size_eq,eg u hu];exact af _
 have eC:∀ u∈Lv,u.ok=true:=λu hu=>G.qH.2 ⟨by rw[eg u hu];exact aZ _,λx W=>by rw[eg u hu]at W;cases W⟩;have hvp:∀ u∈Lv,u.pQ=true:=λu hu=>by rcases hl u hu with⟨i,_,rfl⟩|⟨_,_,h⟩;exact Q9 _;exact h
 have zpg:∀ {x:G},x.kind≠1->(∀ y∈x.args,∀ u,AF u y->0<=u.id/\u.id<n)->∀ u,AF u x->0<=u.id/\u.id<(n:Int):=by
  intro x hk W u hu
  cases hu with
  |self np=>exact absurd np hk
  |arg _ hy hu=>exact W _ hy u hu
 refine⟨Ul hD eC d t,Nv hvp d t,by have:=Dl hD cd d t;omega,?_⟩;refine C8 (P:=λx=>∀ u,AF u x->0<=u.id/\u.id<(n:Int)) (λu hu v hv=>(hl u hu).WZ hv) (zpg (by decide) λy hy=>by cases hy) (λdd _ l _ W=>zpg (by simp[wJ]) λy hy=>W y hy) (λa b M O=>zpg (by simp[wo,wJ]) λy hy=>?_) d t;simp only[wo,wJ,G.iT,ay,aU,or_false]at hy;rcases hy with rfl|rfl<;>assumption
def zfG{h i:Int}:zvq n (oz h i):=.inr ⟨by show (3:Int)≠1;decide,rfl,by simp[oz,G.pQ,G.Ep]⟩
section
def PH{t:G}(h:s.bound t=false):∀ k,s.mE k t=t:=by
 intro k
 cases k with
 |zero=>rfl
 |succ k=>unfold mE;rw[if_neg (by rw[h];simp)]
def yf.end(h:yf n S s)(t:G):s.bound (s.w16 t)=false/\s.w t=s.w16 t:=by
 cases hb:s.bound t with
 |false=>rw[show s.w16 t=t from PH hb _,show s.w t=t from PH hb _];exact⟨hb,rfl⟩
 |true=>exact(Fin.W3 hb (h.zlm _ (h.to hb))).walk
def yf.zDt(h:yf n S s):s.w=s.w16:=funext λt=>(h.end t).2
theorem Nb{t u:G}(hk:u.kind=t.kind)(hi:u.id=t.id):s.bound u=s.bound t:=by
 unfold ao.bound;rw[hk,hi]
end
abbrev Sv:=Z Int×Z Int
def B7 (rec:G->Sv->Y Sv):Z G->Sv->Y Sv
 | [],st=>some st
 | x::l,st=>match rec x st with
   |some h2=>B7 rec l h2
   |none=>none
def vx (s:ao):Nat->G->Sv->Y Sv
 | 0,_,_=>none
 | f + 1,t,st=>if t.kind=1 then
     (if t.id∈st.1 then some st
       else if s.bound t=false then some (st.1++[t.id],st.2++[t.id])
       else if (s.to t).kind=1 then vx s f (s.to t) (st.1++[t.id],st.2)
       else B7 (vx s f) (s.to t).args (st.1++[t.id],st.2))
   else B7 (vx s f) t.args st
structure Q4(s:ao)(sv:Sv)(st:List Int×List Bool):Prop where
 out:sv.2=st.1
 seen:∀ u:G,u.kind=1->(u.id∈sv.1↔if s.bound u=true then st.2[u.id.toNat]?=some true else u.id∈st.1)
 len:st.2.length=s.bc.length
theorem zeL{F cN:Nat}(ih:∀ x sv st,Q4 s sv st->x.size+J.la s.bc st.2<=F->x.size+J.la s.bc st.2<=cN->∃ RT,vx s cN x sv=some RT/\Q4 s RT (Q8 s F x st)) :
 ∀ (l:Z G) (sv:Sv) (st:Z Int×Z Bool),Q4 s sv st->G.bj l+J.la s.bc st.2<=F->G.bj l+J.la s.bc st.2<=cN->∃ RT,B7 (vx s cN) l sv=some RT/\Q4 s RT (l.foldl (λst x=>Q8 s F x st) st):=by
 intro l
 induction l with
 |nil=>intro sv st h _ _;exact⟨sv,rfl,h⟩
 | cons x l Of =>
   intro sv st h hF hG;simp only[G.bj]at hF hG;let⟨sv1,e1,M⟩:=ih x sv st h (by omega) (by omega);have hv:=(zeA s F x st).2.2.1;grind [Q8,B7]
theorem Q4.mark{sv:Sv}{st:Z Int×Z Bool}(h:Q4 s sv st){t:G}(hk:t.kind=1)(hb:s.bound t=true)(hi:t.id=(i:Int))(cF:i<s.bc.length):Q4 s (sv.1++[t.id],sv.2) (st.1,st.2.set i true):=by
 refine⟨h.out,λu hu=>?_,by simp[h.len]⟩;simp only[bu,ag];rw[h.seen u hu];by_cases e:u.id=t.id;have hub:s.bound u=true:=by rw[Nb (hu.trans hk.symm) e];exact hb
 rw[if_pos hub,if_pos hub,e,hi,bO];simp[h.len,cF]
 cases hub:s.bound u with
 | true =>let⟨_,j,x,hj,ju,_⟩:=pY hub;grind
 | false =>
   grind
theorem Q4.find{sv:Sv}{st:Z Int×Z Bool}(h:Q4 s sv st){t:G}(hk:t.kind=1)(hb:s.bound t=false):Q4 s (sv.1++[t.id],sv.2++[t.id]) (st.1++[t.id],st.2):=by
 refine⟨by simp[h.out],λu hu=>?_,h.len⟩;simp only[bu,ag];rw[h.seen u hu];grind [Nb]
theorem zxG (s:ao):∀ (F:Nat) (t:G) (cN:Nat) (sv:Sv) (st:Z Int×Z Bool),Q4 s sv st->t.size+J.la s.bc st.2<=F->t.size+J.la s.bc st.2<=cN->∃ RT,vx s cN t sv=some RT/\Q4 s RT (Q8 s F t st):=by
 intro F
 induction F using Nat.strongRecOn with
 | _ F ih =>
   intro t cN sv st h hF hG;have hp:=G.size_pos t;have xd:=G.size_eq t;obtain⟨F,rfl⟩:∃ f,F=f+1:=⟨F-1,by omega⟩;obtain⟨cN,rfl⟩:∃ g,cN=g+1:=⟨cN-1,by omega⟩;rw[vx,Q8];by_cases hk:t.kind=1;rw [if_pos hk,if_pos hk];have C:=h.seen t hk
   cases hb:s.bound t with
   | false =>rw[hb]at C;simp only[lU,if_false]at C ⊢;by_cases hm:t.id∈st.1;grind;rw[if_neg (λe=>hm (C.1 e)),if_neg hm,if_pos trivial];exact⟨_,rfl,h.find hk hb⟩
   | true =>
     rw[hb]at C;simp only[if_true]at C ⊢;let⟨_,i,x,hi,cF,W,A3,wc⟩:=pY hb;by_cases hd:st.2[i]?=some false;have hm:¬ t.id∈sv.1:=λe=>(by grind);rw[if_neg hm,if_neg (by simp)];have Ax:st.2[t.id.toNat]?=some false:=(by rw[hi,bO];exact hd);rw[if_pos Ax];have HG:=h.mark hk hb hi cF;have zP7:=Zy W hd;have e:t.id.toNat=i:=(by rw[hi,bO]);rw[e,wc];have b1:x.type.size+J.la s.bc (st.2.set i true)<=F:=(by omega);have b2:x.type.size+J.la s.bc (st.2.set i true)<=cN:=(by omega);by_cases As:x.type.kind=1;simp_all;rw[if_neg As];have hp2:=G.size_pos x.type;have zQa:=G.size_eq x.type;obtain⟨F',rfl⟩:∃ f,F=f+1:=⟨F-1,by omega⟩;rw[Q8,if_neg As];exact zeL (λy sv st h a b=>ih F' (by omega) y cN sv st h a b) x.type.args _ _ HG (by simp only at b1 ⊢;omega) (by simp only at b2 ⊢;omega)
     have hm:t.id∈sv.1:=C.2 (by
      rw[hi,bO];have vc:i<st.2.length:=(by rw[h.len];exact cF);rw[az vc]at hd ⊢
      cases hq:st.2[i]with
      |true=>rfl
      |false=>rw[hq]at hd;exact absurd rfl hd)
     grind
   rw[if_neg hk,if_neg hk];exact zeL (λy sv st h a b=>ih F (by omega) y cN sv st h a b) t.args sv st h (by omega) (by omega)
theorem znv{l:Z G}(h:yw s l):∃ sv,B7 (vx s 100000) l ([],[])=some sv/\sv.2=qX s l:=by
 have h0:Q4 s ([],[]) (([]:Z Int),List.replicate s.bc.length false):=by refine⟨rfl,λu _=>?_,by simp⟩;grind
 let⟨sv,e,hc⟩:=zeL (F:=100000) (cN:=100000) (λx sv st h a b=>zxG s 100000 x 100000 sv st h a b) l _ _ h0 (by have:=h.2.2.2;simp only;omega) (by have:=h.2.2.2;simp only;omega);exact⟨sv,e,hc.out⟩
theorem TK{rec:G->Sv->Y Sv}(ih:∀ x st r,rec x st=some r->st.2.length<=r.2.length):∀ (l:Z G) (st r:Sv),B7 rec l st=some r->st.2.length<=r.2.length:=by
 intro l
 induction l with
 |nil=>intro st r h;cases h;exact af _
 | cons x l Of =>
   grind [B7,Nat.le_trans]
theorem ND (s:ao):∀ (f:Nat) (t:G) (st r:Sv),vx s f t st=some r->st.2.length<=r.2.length:=by
 intro f
 induction f with
 |zero=>intro t st r h;cases h
 | succ f ih =>
   intro t st r h;rw[vx]at h;split at h;split at h;grind;split at h;cases h;simp;split at h;grind;have:=TK ih _ (st.1++[t.id],st.2) _ h;exact this;exact TK ih _ _ _ h
def Fk(d:Nat)(s:ao)(st:Sv)(t:G):Y Sv:=if s.mF/\t.ok=true then (match vx s d t st with
 |some r=>if r.2.length<=100000 then some r else none
 |none=>none)else none
theorem zhA{st r:Sv}{t:G}(h:Fk d s st t=some r):s.mF/\t.ok=true/\vx s d t st=some r/\r.2.length<=100000:=by
 grind [Fk]
theorem zeM{st r:Sv}{t:G}(M:s.mF)(O:t.ok=true)(h3:vx s d t st=some r)(h4:r.2.length<=100000):Fk d s st t=some r:=by
 grind [Fk]
end ao
@[simp] def zK3 {es:Z (V×V)} {o:Obj} {z:Nat}:zBh (.mp es) o k z=z:=by
  cases o<;>rfl
def vN(i:Int):V×V:=(.int .i64 i,.bool true)
def yD:Z (V×V)->Y (Z Int)
 | []=>some []
 |(.int .i64 n,.bool true)::l=>(yD l).map (n::·)
 |_=>none
theorem Mo:∀ {es:Z (V×V)} {l:Z Int},yD es=some l->es=l.map vN:=by
 intro es
 induction es with
 |nil=>intro l h;cases h;rfl
 | cons p es ih =>
   intro l h;unfold yD at h;split at h;grind;rename_i n t e;cases e;rw[bH]at h;obtain⟨m,hm,rfl⟩:=h;rw[ih hm];rfl;cases h
@[simp] theorem ze3 (l:Z Int):yD (l.map vN)=some l:=by
  induction l with
  |nil=>rfl
  | cons n l ih =>
    grind [yD,vN]
@[simp] def zxT (l:Z Int) (n:Int):yD (l.map vN++[vN n])=some (l++[n]):=by
  have:=ze3 (l++[n])
  rwa [fe]at this
@[simp] def zB5 (n:Int) (l:Z Int):VO (.int .i64 n) (l.map vN)=some (if n∈l then some (.bool true)else none):=by
  induction l with
  |nil=>rfl
  | cons m l ih =>
    show ob (Lp (.int .i64 n) (.int .i64 m)) (λq=>bi q (some (some (.bool true))) (VO (.int .i64 n) (l.map vN)))=_;rw[ih];show ob (gd (DK .i64 .i64) (some (ue n m))) _=_;by_cases h:n=m;subst h;have:ue n n=true:=(by simp);rw[this];simp[DK]
    have:ue n m=false:=by
     cases hq:ue n m with
     |false=>rfl
     |true=>exact absurd (by simpa using hq) h
    rw[this];simp[h]
@[simp] theorem zEw {n:Int} {l:Z Int} (h:n ∉ l):GJ (.int .i64 n) (.bool true) (l.map vN)=some ((l++[n]).map vN):=by
  induction l with
  |nil=>rfl
  | cons m l ih =>
    have M:n≠m:=λe=>h (e ▸ aB ..);have O:n ∉ l:=λe=>h (aD _ e);show ob (Lp (.int .i64 n) (.int .i64 m)) (λq=>bi q _ (ob (GJ (.int .i64 n) (.bool true) (l.map vN)) λr=>some (vN m::r)))=_;rw[ih O];show ob (gd (DK .i64 .i64) (some (ue n m))) _=_;simp_all
def lL(g a c b e:Nat):V:=.func g [.ptr a 0 0,.ptr c 0 0,.ptr b 0 0,.ptr e 0 0]
def zce(g a c b e:Nat)(v:V):Bool:=match v with
 |.func g' [.ptr a' 0 0,.ptr c' 0 0,.ptr b' 0 0,.ptr e' 0 0]=>et (Nat.beq g' g) (et (Nat.beq a' a) (et (Nat.beq c' c) (et (Nat.beq b' b) (Nat.beq e' e))))
 |_=>false
def zjM{v:V}(h:zce g a c b e v=true):v=lL g a c b e:=by
 unfold zce at h;split at h;simp only[dz,beq_true]at h;obtain⟨rfl,rfl,rfl,rfl,rfl⟩:=h;rfl;cases h
@[simp] def zHU :zce g a c b e (.func g [.ptr a 0 0,.ptr c 0 0,.ptr b 0 0,.ptr e 0 0])=true:=by
  show et (Nat.beq g g) (et (Nat.beq a a) (et (Nat.beq c c) (et (Nat.beq b b) (Nat.beq e e))))=true;simp
def nF (v:V):Y Nat:=match v with
 |.map i=>some i
 |_=>none
theorem Yh{v:V}(h:nF v=some m):v=.map m:=by
 unfold nF at h;grind
@[simp] def zIE :nF (.map m)=some m:=(rfl)
def Xu(o:Obj):Y (Z (V×V)):=match o with
 |.mp es=>some es
 |_=>none
theorem Vf{o:Obj}{es:Z (V×V)}(h:Xu o=some es):o=.mp es:=by
 unfold Xu at h;grind
@[simp] def zLj {es:Z (V×V)}:Xu (.mp es)=some es:=(rfl)
def rS (o:Obj):Y ao:=match o with
 |.arr 2 0 [[sl,tr]] true false false=>(bo.dec (.agg [sl,tr]):Y ao)
 |_=>none
theorem zjD{o:Obj}(h:rS o=some s):o=box (qJ s):=by
 unfold rS at h;split at h;have:=bo.bB _ _ h;simp_all;cases h
@[simp] theorem zHN :rS (.arr 2 0 [[.sl (s.bc.map dK) false,.sl (s.b9.map bW) false]] true false false)=some s:=by
  show (bo.dec (bo.enc s):Y ao)=some s;simp_all
def gN(g:Nat)(s:ao)(seen out:Z Int):Z (Nat×Obj) :=
 [(0,jw (.map 1)),(1,.mp (seen.map vN)),(2,box (qJ s)),(3,jw (oV 5 (out.map cY))),(4,jw (lL g 0 2 3 4))]++oH 5 1 (out.map cY)
def zny(a m c b e ro:Nat)(i:Nat):Nat:=if i=0 then a else if i=1 then m else if i=2 then c else if i=3 then b else if i=4 then e else ro
def Mi(g:Nat)(s:ao)(tv:V)(a m c b e ro:Nat)(st h2:ao.Sv):EmbD where
 k:=match st.2 with | []=>5|_=>6
 k':=match h2.2 with | []=>5|_=>6
 π:=zny a m c b e ro
 OL:=gN g s st.1 st.2
 cJ:=gN g s h2.1 h2.2
 eb:=[tv,.ptr 0 0 0,.ptr 2 0 0,.ptr 3 0 0,.ptr 4 0 0]
 v0:=.tuple []
def znz(a m c b e:Nat):Bool:=et (nt (Nat.beq a m)) (et (nt (Nat.beq a c)) (et (nt (Nat.beq a b)) (et (nt (Nat.beq a e)) (et (nt (Nat.beq m c)) (et (nt (Nat.beq m b)) (et (nt (Nat.beq m e)) (et (nt (Nat.beq c b)) (et (nt (Nat.beq c e)) (nt (Nat.beq b e))))))))))
def znx(a m c b e ro:Nat):Bool:=et (nt (Nat.beq a ro)) (et (nt (Nat.beq m ro)) (et (nt (Nat.beq c ro)) (et (nt (Nat.beq b ro)) (nt (Nat.beq e ro)))))
def zsv(a m c b e n:Nat):Bool:=et (Nat.blt a n) (et (Nat.blt m n) (et (Nat.blt c n) (et (Nat.blt b n) (Nat.blt e n))))
def LO (g:Nat) (F:ao->ao.Sv->G->Y ao.Sv) (vs:Z V) (C:HS):Y EmbD:=match vs with
 | [tv,.ptr a 0 0,.ptr c 0 0,.ptr b 0 0,.ptr e 0 0]=>ob (bo.dec tv:Y G) λt=>ob (C.H.get a) λoa=>ob (ee oa) λva=>ob (nF va) λm=>ob (C.H.get m) λom=>ob (Xu om) λes=>ob (yD es) λseen =>
  ob (C.H.get c) λoc=>ob (rS oc) λs=>ob (C.H.get b) λo1=>ob (ee o1) λvb=>ob (rowOf 1 C vb) λzBn=>ob (eZ zBn:Y (Z Int)) λout=>ob (C.H.get e) λoe=>ob (ee oe) λve=>ob (F s (seen,out) t) λr =>
   gd (et (zce g a c b e ve) (et (znz a m c b e) (et (bi (Nat.beq (dB zBn) 0) true (znx a m c b e (rT vb))) (et (zsv a m c b e C.n) (et (Nat.ble (dB out) (dB r.2)) (gW C C.n))))))
    (some (Mi g s tv a m c b e (rT vb) (seen,out) r))
 |_=>none
theorem zb2   {t:G} {ro:Nat} {st h2:ao.Sv} (hle:st.2.length<=h2.2.length):(Mi g s (enc t) a m c b e ro st h2).Good:=by
 have h1:∀ (seen out:Z Int) (p:Nat×Obj),p∈gN g s seen out->p.2.in (cx (gN g s seen out))=true/\p.2.fz=false:=by
  intro seen out p hp;unfold gN at hp ⊢;rcases bu.1 hp with hp|hp;simp only[ay,aU,or_false]at hp;rcases hp with rfl|rfl|rfl|rfl|rfl;cases out<;>exact⟨rfl,rfl⟩
  simp_all;cases out<;>exact⟨rfl,rfl⟩
  cases out<;>exact⟨rfl,rfl⟩
  cases out<;>exact⟨rfl,rfl⟩
  cases out with
  |nil=>cases hp
  | cons x l =>simp only[aX,xu,ag]at hp;subst hp;exact⟨KE (x::l),rfl⟩
 let⟨seen,out⟩:=st;let⟨fN,c9⟩:=h2;refine⟨?_,?_,?_,λp hp=>(h1 seen out p hp).1,h1 fN c9,rfl,?_⟩;cases out<;>rfl
 cases c9<;>rfl
 . cases out<;>cases c9<;>first|(simp at hle;done)|exact af _|exact mQ _
 . intro v hv;simp only[Mi,ay,aU,or_false]at hv;rcases hv with rfl|rfl|rfl|rfl|rfl;simp_all
   all_goals (cases out<;>rfl)
theorem zb1{ro:Nat}(hk:k=5\/(k=6/\znx a m c b e ro=true))(h:znz a m c b e=true):∀ i j,i<k->j<k->zny a m c b e ro i=zny a m c b e ro j->i=j:=by
 unfold znz at h;simp at h;cases h;intro i j hi hj eq;rcases hk with rfl|⟨rfl,hr⟩;grind [zny];unfold znx at hr;simp only[dz,jQ,beq_true]at hr;let⟨r1,r2,r3,r4,r5⟩:=hr;have q:∀ x y:Nat,x.beq y=false->x≠y:=λx y h e=>by subst e;simp at h
 replace r1:=q _ _ r1;replace r2:=q _ _ r2;replace r3:=q _ _ r3;replace r4:=q _ _ r4;replace r5:=q _ _ r5
 rcases(show i=0\/i=1\/i=2\/i=3\/i=4\/i=5 by omega)with rfl|rfl|rfl|rfl|rfl|rfl<;>rcases(show j=0\/j=1\/j=2\/j=3\/j=4\/j=5 by omega)with rfl|rfl|rfl|rfl|rfl|rfl <;>
  first|rfl|(simp[zny]at eq;first|omega|(exact absurd eq (by assumption))|(exact absurd eq.symm (by assumption)))
theorem zhy  {F:ao->ao.Sv->G->Y ao.Sv} {vs:Z V}  {D:EmbD} (h:LO g F vs C=some D) :
 ∃ s t st r a m c b e ro,F s st t=some r/\D=Mi g s (enc t) a m c b e ro st r/\st.2.length<=r.2.length/\D.Good/\D.Fits vs C:=by
 unfold LO at h;split at h;rename_i tv a c b e;simp only[aC,bI,dz,jQ,dH,gM,aK]at h;let⟨t,ht,oa,J0,va,OK,m,hm,om,zBX,es,fY,seen,zFN,oc,hoc,s,cp,o1,ho1,vb,hvb,zBn,zLX,out,pA,oe,hoe,ve,zP4,r,hr,⟨g1,g2,g3,g4,g5,g6⟩,h⟩:=h;cases h;have e1:=bo.bB _ _ ht;subst e1;have e2:=uJ OK;have e3:=Yh hm;subst e3;subst e2;have e4:=Vf fY;have e5:=Mo zFN;subst e5;subst e4;have e6:=zjD cp;subst e6;have e7:=uJ hvb;subst e7;have e8:=uJ zP4;have e9:=zjM g1;subst e9;subst e8;have BY:=iZ pA;subst BY;refine⟨s,t,(seen,out),r,a,m,c,b,e,rT vb,hr,rfl,g5,zb2 g5,?_⟩;have D1:∀ π:Nat->Nat,(enc t:V).cw π=enc t:=λπ=>V.jq (V.dU (Au t));unfold zsv at g4;simp only[dz,gz]at g4;let⟨l1,l2,l3,l4,l5⟩:=g4;rcases C9 zLX with⟨f5,f6⟩|⟨ro,f5,f6,h5,h6,_⟩;subst f5;have e7:out=[]:=by cases out with|nil=>rfl|cons x l=>cases f6
 subst e7;refine⟨?_,zb1 (.inl rfl) g2,?_,?_,?_⟩;simp only[Mi,aX,iF];rw[D1];rfl;intro p hp;simp only[Mi,gN,iF,Mv,fq,ay,aU,or_false]at hp;rcases hp with rfl|rfl|rfl|rfl|rfl;exact J0;exact zBX;exact hoc;exact ho1;exact hoe;grind [Mi];intro i hi;simp only[Mi]at hi ⊢;rcases(show i=0\/i=1\/i=2\/i=3\/i=4 by omega)with rfl|rfl|rfl|rfl|rfl<;>assumption
 subst f5
 cases out with
 |nil=>exact absurd rfl f6
 | cons x l =>
   have hro:rT (oV ro ((x::l).map iI.cells))=ro:=rfl;rw[hro]at g3 ⊢
   have qS:∃ y q,r.2=y::q:=by
    cases qS:r.2 with
    |nil=>rw[qS]at g5;simp at g5
    |cons y q=>exact⟨y,q,rfl⟩
   let⟨y,q,qS⟩:=qS;refine⟨?_,zb1 (.inr ⟨rfl,g3⟩) g2,?_,?_,?_⟩;simp only[Mi,aX,iF];rw[D1];rfl;intro p hp;simp only[Mi,gN,aX,xu,dx,gL,ay,aU,or_false]at hp;rcases hp with rfl|rfl|rfl|rfl|rfl|rfl;exact J0;exact zBX;exact hoc;exact ho1;exact hoe;show C.H.get ro=_;simp_all;grind [Mi];intro i hi;simp only[Mi]at hi ⊢;rcases(show i=0\/i=1\/i=2\/i=3\/i=4\/i=5 by omega)with rfl|rfl|rfl|rfl|rfl|rfl<;>assumption
 cases h
section
variable {tv:V}{ro:Nat}{seen fN out c9:Z Int}{x y:Int}{st h2:ao.Sv}
@[simp] def zHK:(Mi g s tv a m c b e ro st h2).val C=.tuple []:=(rfl)
theorem zeP:(Mi g s tv a m c b e ro (seen,[]) (fN,[])).heap C={ H:=((((C.H.set e (jw (lL g a c b e))).set b (jw .a8)).set c (box (qJ s))).set m (.mp (fN.map vN))).set a (jw (.map m)),n:=C.n,log:=a::m::c::b::e::C.log }:=by
 show ({ H:=((((C.H.set e _).set b _).set c _).set m _).set a _,n:=C.n+0,log:=_ }:HS)=_;rfl
theorem zeO:(Mi g s tv a m c b e ro (seen,[]) (fN,x::c9)).heap C={ H:=(((((C.H.set C.n (oO 1 ((x::c9).map cY))).set e (jw (lL g a c b e))).set b (jw (oV C.n ((x::c9).map cY)))).set c (box (qJ s))).set m (.mp (fN.map vN))).set a (jw (.map m)),n:=C.n+1,log:=a::m::c::b::e::C.n::C.log }:=by
 show ({ H:=(((((C.H.set (C.n+0) ((oO 1 ((x::c9).map cY)).cw _)).set e _).set b _).set c _).set m _).set a _,n:=C.n+1,log:=_ }:HS)=_;rw[Dx (KE (x::c9))];rfl
theorem zeN:(Mi g s tv a m c b e ro (seen,y::out) (fN,x::c9)).heap C={ H:=(((((C.H.set ro (oO 1 ((x::c9).map cY))).set e (jw (lL g a c b e))).set b (jw (oV ro ((x::c9).map cY)))).set c (box (qJ s))).set m (.mp (fN.map vN))).set a (jw (.map m)),n:=C.n,log:=a::m::c::b::e::ro::C.log }:=by
 show ({ H:=(((((C.H.set ro ((oO 1 ((x::c9).map cY)).cw _)).set e _).set b _).set c _).set m _).set a _,n:=C.n+0,log:=_ }:HS)=_;rw[Dx (KE (x::c9))];rfl
attribute [simp] zeP zeO zeN
@[simp] def zNR {F:ao→ao.Sv→G→Y ao.Sv}:LO g F [tv,.ptr a 0 0,.ptr c 0 0,.ptr b 0 0,.ptr e 0 0] C=ob (bo.dec tv:Y G) fun t=>ob (C.H.get a) fun oa=>ob (ee oa) fun va=>ob (nF va) fun m=>ob (C.H.get m) fun om=>ob (Xu om) fun es=>ob (yD es) fun seen =>
      ob (C.H.get c) λoc=>ob (rS oc) λs=>ob (C.H.get b) λo1=>ob (ee o1) λvb=>ob (rowOf 1 C vb) λzBn=>ob (eZ zBn:Y (Z Int)) λout=>ob (C.H.get e) λoe=>ob (ee oe) λve=>ob (F s (seen,out) t) λr =>
       gd (et (zce g a c b e ve) (et (znz a m c b e) (et (bi (Nat.beq (dB zBn) 0) true (znx a m c b e (rT vb))) (et (zsv a m c b e C.n) (et (Nat.ble (dB out) (dB r.2)) (gW C C.n))))))
        (some (Mi g s tv a m c b e (rT vb) (seen,out) r)):=(rfl)
@[simp] def zKK:znz a m c b e=et (nt (Nat.beq a m)) (et (nt (Nat.beq a c)) (et (nt (Nat.beq a b)) (et (nt (Nat.beq a e)) (et (nt (Nat.beq m c)) (et (nt (Nat.beq m b)) (et (nt (Nat.beq m e)) (et (nt (Nat.beq c b)) (et (nt (Nat.beq c e)) (nt (Nat.beq b e)))))))))):=(rfl)
@[simp] def zKJ:znx a m c b e ro=et (nt (Nat.beq a ro)) (et (nt (Nat.beq m ro)) (et (nt (Nat.beq c ro)) (et (nt (Nat.beq b ro)) (nt (Nat.beq e ro))))):=(rfl)
@[simp] def zKL :zsv a m c b e n=et (Nat.blt a n) (et (Nat.blt m n) (et (Nat.blt c n) (et (Nat.blt b n) (Nat.blt e n)))):=(rfl)
end
theorem zkK{l m:Z Nat}:KY (a::l) (b::m)=(decide (a<b)||(decide (a=b)&&KY l m)):=by
 show bi (Nat.blt a b) true (et (Nat.beq a b) (KY l m))=_;simp_all
theorem zoM:∀ l:Z Nat,KY l l=false:=by
 intro l
 induction l with
 |nil=>rfl
 |cons a l ih=>rw[zkK,ih];simp
def QH(a b:Int):Int:=if a<b then -1 else if a>b then 1 else 0
def Ys(a b:Z Nat):Int:=if KY a b=true then -1 else if a=b then 0 else 1
theorem zlI{a b:Int}:QH a b=0↔a=b:=by
 grind [QH]
theorem zlH{a b:Z Nat}:Ys a b=0↔a=b:=by
 grind [Ys,zoM]
def vu:Z Int->Int
 | []=>0
 |a::l=>if a≠0 then a else vu l
theorem zor:∀ {l:Z Int},vu l=0↔∀ a∈l,a=0:=by
 intro l
 induction l with
 |nil=>simp[vu]
 | cons a l ih =>
   grind [vu,List.mem_cons_self]
def VE(a b:G):Z Int:=[QH a.kind b.kind,Ys a.name b.name,QH a.id b.id,QH a.home b.home,QH (a.args.length:Int) (b.args.length:Int)]
mutual
def F8:G->G->Int
 |.mk k n i h l,b=>if vu (VE (.mk k n i h l) b)≠0 then vu (VE (.mk k n i h l) b)else Bv l b.args
def Bv:Z G->Z G->Int
 | [],[]=>0
 | [],_::_=>-1
 |_::_,[]=>1
 |a::l,b::m=>if F8 a b≠0 then F8 a b else Bv l m
end
def zdG(a b:G):F8 a b=if vu (VE a b)≠0 then vu (VE a b)else Bv a.args b.args:=by
 cases a;rw[F8];simp only[G.iT]
theorem zgt {a:G}:∀ {b:G},F8 a b=0↔a=b:=by
 induction a using G.ind with
 | h a ih =>
   intro b
   have A1:∀ l:Z G,(∀ u∈l,u∈a.args)->∀ m,Bv l m=0↔l=m:=by
    intro l
    induction l with
    |nil=>intro _ m;cases m<;>simp[Bv]
    | cons u l A1 =>
      intro C m
      cases m with
      |nil=>simp[Bv]
      | cons v m =>rw[Bv];grind
   rw[zdG,G.eq_iff];grind [vu,VE,zor,zlI,zlH]
def mono(t:G):Scheme:=⟨0,t⟩
def varNames:Z (Z Nat):=[[120],[121],[122],[102],[103],[118,49],[118,50],[105,100]]
def varName(t:Tp):Z Nat:=(varNames[(t.next 8).2.toNat]?).getD []
def wC:Z Int->Z Int->Z cU->Z cU
 | [],_,s=>s
 |v::l,ids,s=>wC l ids (if v∈ids then s++[⟨v,ry s.length⟩]else s)
def zgw(l m ids:Z Int)(s:Z cU):wC (l++m) ids s=wC m ids (wC l ids s):=by
 induction l generalizing s with
 |nil=>rfl
 |cons v l ih=>simp only[dx,wC,ih]
theorem Wl(l ids:Z Int)(s:Z cU):s.length<=(wC l ids s).length/\(wC l ids s).length<=s.length+l.length:=by
 induction l generalizing s with
 |nil=>exact⟨af _,af _⟩
 | cons v l ih =>
   simp only[wC,aL];grind
def yU(t:G)(ids:Z Int):Scheme :=
 let s:=wC (um [t]) ids []
 ⟨s.length,t.yF s⟩
def lI:Z G:=[oz 0 0,oz 3 1]
def Hf (D:Z Decl) (p:Tp×Z Entry):Tp×Z Entry :=
 let n:=varName p.1;let t1:=(p.1.next 8).1;let c:=t1.next 4
 if c.2=0 then
  let r:=jk 2 c.1 D (rR 2)
  (r.1,p.2++[⟨n,yU r.2 [0,1]⟩])
 else
  let r:=jk 2 c.1 D lI
  (r.1,p.2++[⟨n,mono r.2⟩])
def Fx(D:Z Decl)(t:Tp):Nat->Tp×Z Entry
 | 0=>(t,[])
 |n+1=>Hf D (Fx D t n)
def lW(t:Tp)(D:Z Decl):Tp×(Z Entry×G) :=
 let c:=t.next 4;let p:=Fx D c.1 c.2.toNat;let r:=jk 2 p.1 D lI
 (r.1,(p.2,r.2))
theorem za5(h:t.ok)(n:Nat):(Fx D t n).1.ok/\(Fx D t n).2.length=n:=by
 induction n with
 |zero=>exact⟨h,rfl⟩
 | succ n ih =>
   grind [iE,Fx,Hf,Nw]
mutual
inductive Xp where
 |mk (kind pos:Int) (name:List Nat) (num:Int) (kids:List Xp) (b8:List Am) (type:G)
inductive Am where
 |mk (pos:Int) (dA:List Nat) (vars:List (List Nat)) (body:Xp)
end
namespace Xp
def kind:Xp->Int|.mk k _ _ _ _ _ _=>k
def pos:Xp->Int|.mk _ p _ _ _ _ _=>p
def name:Xp->Z Nat|.mk _ _ n _ _ _ _=>n
def num:Xp->Int|.mk _ _ _ m _ _ _=>m
def kids:Xp->Z Xp|.mk _ _ _ _ l _ _=>l
def b8:Xp->Z Am|.mk _ _ _ _ _ l _=>l
def type:Xp->G|.mk _ _ _ _ _ _ t=>t
section
variable {k m:Int}{n:Z Nat}{l:Z Xp}{a:Z Am}{t:G}
@[simp] def fH:(mk k p n m l a t).kind=k:=(rfl)
@[simp] def pos_mk:(mk k p n m l a t).pos=p:=(rfl)
@[simp] def j4:(mk k p n m l a t).name=n:=(rfl)
@[simp] def U2:(mk k p n m l a t).num=m:=(rfl)
@[simp] def kL:(mk k p n m l a t).kids=l:=(rfl)
@[simp] def lh:(mk k p n m l a t).b8=a:=(rfl)
@[simp] def Nu:(mk k p n m l a t).type=t:=(rfl)
@[simp] def eta (x:Xp):mk x.kind x.pos x.name x.num x.kids x.b8 x.type=x:=by cases x;rfl
end
end Xp
namespace Am
def pos:Am->Int|.mk p _ _ _=>p
def dA:Am->Z Nat|.mk _ c _ _=>c
def vars:Am->Z (Z Nat)|.mk _ _ v _=>v
def body:Am->Xp|.mk _ _ _ b=>b
section
variable {c:Z Nat}{v:Z (Z Nat)}{b:Xp}
@[simp] def pos_mk:(mk p c v b).pos=p:=(rfl)
@[simp] def JW:(mk p c v b).dA=c:=(rfl)
@[simp] def AQ:(mk p c v b).vars=v:=(rfl)
@[simp] def EO:(mk p c v b).body=b:=(rfl)
@[simp] def eta (x:Am):mk x.pos x.dA x.vars x.body=x:=by cases x;rfl
end
end Am
mutual
def bP:Xp->Z V
 |.mk k p n m l a t=>[.int .i64 k,.int .i64 p,.str n,.int .i64 m,.sl (qI l) false,.sl (qK a) false,.int .i64 t.kind,.str t.name,.int .i64 t.id,.int .i64 t.home,.sl (t.args.map aA) false]
def qI:Z Xp->Z (Z V)
 | []=>[]
 |x::l=>bP x::qI l
def dW:Am->Z V
 |.mk p c v b=>.int .i64 p::.str c::.sl (v.map b5) false::bP b
def qK:Z Am->Z (Z V)
 | []=>[]
 |x::l=>dW x::qK l
end
def YG(l:Z Xp):qI l=l.map bP:=by
 induction l with
 |nil=>simp[qI]
 |cons t l ih=>simp[qI,ih]
def YI(l:Z Am):qK l=l.map dW:=by
 induction l with
 |nil=>simp[qK]
 |cons t l ih=>simp[qK,ih]
def bq(x:Xp):bP x=[.int .i64 x.kind,.int .i64 x.pos,.str x.name,.int .i64 x.num,.sl (x.kids.map bP) false,.sl (x.b8.map dW) false,.int .i64 x.type.kind,.str x.type.name,.int .i64 x.type.id,.int .i64 x.type.home,.sl (x.type.args.map aA) false]:=by
 cases x;simp[bP,YG,YI]
def ik(x:Am):dW x=[.int .i64 x.pos,.str x.dA,.sl (x.vars.map b5) false,.int .i64 x.body.kind,.int .i64 x.body.pos,.str x.body.name,.int .i64 x.body.num,.sl (x.body.kids.map bP) false,.sl (x.body.b8.map dW) false,
 .int .i64 x.body.type.kind,.str x.body.type.name,.int .i64 x.body.type.id,.int .i64 x.body.type.home,.sl (x.body.type.args.map aA) false]:=by
 cases x;simp[dW,bq]
mutual
def EF:V->Y (Z Xp)
 |.sl es false=>DW es
 |_=>none
def DW:Z (Z V)->Y (Z Xp)
 | []=>some []
 | e::r=>match JO e,DW r with
   |some t,some l=>some (t::l)
   |_,_=>none
def JO:Z V->Y Xp
 | [.int .i64 k,.int .i64 p,.str n,.int .i64 m,ks,as,.int .i64 tk,.str tn,.int .i64 ti,.int .i64 th,ta]=>match EF ks,EH as,BS ta with
   |some l,some a,some t=>some (.mk k p n m l a (.mk tk tn ti th t))
   |_,_,_=>none
 |_=>none
def EH:V->Y (Z Am)
 |.sl es false=>DY es
 |_=>none
def DY:Z (Z V)->Y (Z Am)
 | []=>some []
 | e::r=>match LG e,DY r with
   |some t,some l=>some (t::l)
   |_,_=>none
def LG:Z V->Y Am
 | [.int .i64 q,.str c,.sl vs false,.int .i64 k,.int .i64 p,.str n,.int .i64 m,ks,as,.int .i64 tk,.str tn,.int .i64 ti,.int .i64 th,ta]=>match (eZ vs:Y (Z (Z Nat))),EF ks,EH as,BS ta with
   |some v,some l,some a,some t=>some (.mk q c v (.mk k p n m l a (.mk tk tn ti th t)))
   |_,_,_,_=>none
 |_=>none
end
def V6(l:Z G):BS (.sl (l.map aA) false)=some l:=by
 unfold BS;rw[<- QA];exact M5 l
def V7{v:V}{l:Z G}(h:BS v=some l):v=.sl (l.map aA) false:=by
 rw[VW v l h,QA]
mutual
theorem YL:∀ x:Xp,JO (bP x)=some x
 |.mk k p n m l a t=>by simp[bP,JO,EF,EH,M4 l,M6 a,V6]
theorem M4:∀ l:Z Xp,DW (qI l)=some l
 | []=>by simp[qI,DW]
 |t::l=>by simp[qI,DW,YL t,M4 l]
theorem YN:∀ x:Am,LG (dW x)=some x
 |.mk p c v (.mk k q n m l a t)=>by simp[dW,bP,LG,EF,EH,M4 l,M6 a,V6]
theorem M6:∀ l:Z Am,DY (qK l)=some l
 | []=>by simp[qK,DY]
 |t::l=>by simp[qK,DY,YN t,M6 l]
end
mutual
theorem RV:∀ (v:V) (l:Z Xp),EF v=some l->v=.sl (qI l) false
 | v,l,h=>by
   unfold EF at h;split at h;rename_i es;rw[VU es l h];cases h
theorem VU:∀ (es:Z (Z V)) (l:Z Xp),DW es=some l->es=qI l
 | [],l,h=>by simp[DW]at h;subst h;simp[qI]
 | e :: r,l,h=>by
   unfold DW at h;split at h;rename_i t m M O;cases h;rw[YD e t M,VU r m O];simp[qI];cases h
theorem YD:∀ (c:Z V) (x:Xp),JO c=some x->c=bP x
 | c,x,h=>by
   unfold JO at h;split at h;rename_i k p n m ks as tk tn ti th ta;split at h;rename_i l a t M O h3;cases h;rw[RV ks l M,RX as a O,V7 h3];simp[bP];cases h;cases h
theorem RX:∀ (v:V) (l:Z Am),EH v=some l->v=.sl (qK l) false
 | v,l,h=>by
   unfold EH at h;split at h;rename_i es;rw[VX es l h];cases h
theorem VX:∀ (es:Z (Z V)) (l:Z Am),DY es=some l->es=qK l
 | [],l,h=>by simp[DY]at h;subst h;simp[qK]
 | e :: r,l,h=>by
   unfold DY at h;split at h;rename_i t m M O;cases h;rw[YF e t M,VX r m O];simp[qK];cases h
theorem YF:∀ (c:Z V) (x:Am),LG c=some x->c=dW x
 | c,x,h=>by
   unfold LG at h;split at h;rename_i q c vs k p n m ks as tk tn ti th ta;split at h;rename_i v l a t h0 M O h3;cases h;rw[RV ks l M,RX as a O,V7 h3,iZ h0];simp[dW,bP];cases h;cases h
end
mutual
theorem U4:∀ x:Xp,fF (bP x)=bP x
 |.mk k p n m l a t=>by simp[bP,fF,ig,Jy l,Jz a]
theorem Jy:∀ l:Z Xp,gP (qI l)=qI l
 | []=>by simp[qI,gP]
 |t::l=>by simp[qI,gP,U4 t,Jy l]
theorem U6:∀ x:Am,fF (dW x)=dW x
 |.mk p c v (.mk k q n m l a t)=>by simp[dW,bP,fF,ig,Jy l,Jz a]
theorem Jz:∀ l:Z Am,gP (qK l)=qK l
 | []=>by simp[qK,gP]
 |t::l=>by simp[qK,gP,U6 t,Jz l]
end
instance:iI Xp where
 cells:=bP
 dec:=JO
 dD:=YL
 bB:=YD
 bN t:=by rw[bq];rfl
 norm:=U4
instance:bo Xp:=zf
instance:iI Am where
 cells:=dW
 dec:=LG
 dD:=YN
 bB:=YF
 bN t:=by rw[ik];rfl
 norm:=U6
instance:bo Am:=zf
theorem YO:∀ es:Z (Z V),DW es=eZ es:=by
 intro es
 induction es with
 |nil=>simp[DW,eZ]
 | cons e r ih =>
   simp only[DW,eZ,ih];rw[show (iI.dec e:Y Xp)=JO e from rfl];grind
theorem YU:∀ es:Z (Z V),DY es=eZ es:=by
 intro es
 induction es with
 |nil=>simp[DY,eZ]
 | cons e r ih =>
   simp only[DY,eZ,ih];rw[show (iI.dec e:Y Am)=LG e from rfl];grind
def zuw{k m ti:Int}{n:Z Nat}{ks as ta:Z (Z V)}:JO [.int .i64 k,.int .i64 p,.str n,.int .i64 m,.sl ks false,.sl as false,.int .i64 tk,.str tn,.int .i64 ti,.int .i64 th,.sl ta false] =
 ob (eZ ks) λl=>ob (eZ as) λa=>ob (eZ ta) λt=>some (.mk k p n m l a (.mk tk tn ti th t)):=by
 simp only[JO,EF,EH,BS,YO,YU,QD];cases(eZ ks:Y (Z Xp))<;>cases(eZ as:Y (Z Am))<;>cases(eZ ta:Y (Z G))<;>rfl
def zuz{q k m ti:Int}{c n:Z Nat}{vs ks as ta:Z (Z V)}:LG [.int .i64 q,.str c,.sl vs false,.int .i64 k,.int .i64 p,.str n,.int .i64 m,.sl ks false,.sl as false,.int .i64 tk,.str tn,.int .i64 ti,.int .i64 th,.sl ta false] =
 ob (eZ vs) λv=>ob (eZ ks) λl=>ob (eZ as) λa=>ob (eZ ta) λt=>some (.mk q c v (.mk k p n m l a (.mk tk tn ti th t))):=by
 simp only[LG,EF,EH,BS,YO,YU,QD];cases(eZ vs:Y (Z (Z Nat)))<;>cases(eZ ks:Y (Z Xp))<;>cases(eZ as:Y (Z Am))<;>cases(eZ ta:Y (Z G))<;>rfl
@[simp] def zGW:@iI.cells Xp _=bP:=(rfl)
@[simp] def zCC:@iI.dec Xp _=JO:=(rfl)
@[simp] def zMJ (a:Xp):enc a=.agg (bP a):=(rfl)
@[simp] def zMP {c:Z V}:bo.dec (α:=Xp) (.agg c)=JO c:=(rfl)
@[simp] def zJK (l:Z Xp):eZ (l.map bP)=some l:=qL l
@[simp] theorem AU (l:Z Xp):gP (l.map bP)=l.map bP:=kY l
@[simp] def NV (l:Z Xp):((l.map bP).all λe=>e.all V.bN)=true:=nG l
@[simp] def zJx (l:Z Xp):enc l=.sl (l.map bP) false:=(rfl)
@[simp] def zJG {es:Z (Z V)}:bo.dec (α:=Z Xp) (.sl es false)=eZ es:=(rfl)
@[simp] def zNP (l:Z Xp):bj 11 (l.map bP)=true:=by rw[lV];intro e he;obtain⟨a,_,rfl⟩:=aF.1 he;rw[bq];rfl
@[simp] def zOU (l:Z Xp):kJ (l.map bP)=true:=y8 NV
@[simp] def zMM (a:Am):enc a=.agg (dW a):=(rfl)
@[simp] def zMR {c:Z V}:bo.dec (α:=Am) (.agg c)=LG c:=(rfl)
@[simp] def zuy (l:Z Am):eZ (l.map dW)=some l:=qL l
@[simp] def zae (l:Z Am):gP (l.map dW)=l.map dW:=kY l
@[simp] def zcH (l:Z Am):((l.map dW).all λe=>e.all V.bN)=true:=nG l
@[simp] def zJz (l:Z Am):enc l=.sl (l.map dW) false:=(rfl)
@[simp] def zJI {es:Z (Z V)}:bo.dec (α:=Z Am) (.sl es false)=eZ es:=(rfl)
@[simp] def zNQ (l:Z Am):bj 14 (l.map dW)=true:=by rw[lV];intro e he;obtain⟨a,_,rfl⟩:=aF.1 he;rw[ik];rfl
@[simp] def zOW (l:Z Am):kJ (l.map dW)=true:=y8 zcH
attribute [simp] zuw bq zuz ik
def zy4(n:Z Nat)(l:Z Entry):Bool:=l.any λx=>decide (x.name=n)
def zvX:Z Entry->Z Entry
 | []=>[]
 |e::l=>if zy4 e.name l=true then zvX l else e::zvX l
def DJ(n:Z Nat):Z Entry->Y Scheme
 | []=>none
 |e::l=>if e.name=n then some e.scheme else DJ n l
def FX(l:Z Entry)(n:Z Nat):Y Scheme:=DJ n l.reverse
def zfC(l:Z Entry)(e:Entry)(n:Z Nat):FX (l++[e]) n=if e.name=n then some e.scheme else FX l n:=by
 simp[FX,DJ]
theorem zkM(n:Z Nat)(l:Z Entry):(DJ n l).isSome=l.any λx=>decide (x.name=n):=by
 induction l with
 |nil=>rfl
 |cons e l ih=>unfold DJ;split<;>simp_all
def zkN(n:Z Nat)(l:Z Entry):(FX l n).isSome=zy4 n l:=by
 rw[FX,zkM,List.any_reverse];rfl
def PZ:Scheme:=⟨0,wI⟩
def uD(l:Z Entry)(n:Z Nat):Scheme×Bool:=((FX l n).getD PZ,(FX l n).isSome)
mutual
def V.ns:V->Bool
 |.ref cs=>IU cs
 |.sl es _=>wy es
 |.func _ cs=>IU cs
 |.iface _ v=>v.ns
 |.agg cs=>IU cs
 |.tuple cs=>IU cs
 |.sym _=>false
 |_=>true
def IU:Z V->Bool
 | []=>true
 |v::l=>v.ns&&IU l
def wy:Z (Z V)->Bool
 | []=>true
 |e::l=>IU e&&wy l
end
def xw:∀ {l:Z V},IU l=true->∀ v∈l,v.ns=true
 | [],_,v,h=>by cases h
 | u::l,h,v,hv=>by
   rw[IU,aW]at h;rcases ay.1 hv with rfl|hv;exact h.1;exact xw h.2 v hv
def U3:∀ {l:Z (Z V)},wy l=true->∀ e∈l,IU e=true
 | [],_,v,h=>by cases h
 | u::l,h,v,hv=>by
   rw[wy,aW]at h;rcases ay.1 hv with rfl|hv;exact h.1;exact U3 h.2 v hv
def CG:∀ {l:Z (Z V)},(∀ e∈l,IU e=true)->wy l=true
 | [],_=>rfl
 | u::l,h=>by
   rw[wy,aW];exact⟨h u (aB ..),CG λv hv=>h v (aD _ hv)⟩
def Obj.ns:Obj->Bool
 |.arr _ _ es _ _ _=>wy es
 |.mp es=>es.all λp=>p.1.ns&&p.2.ns
 |.lp _ _ _ _ _ _=>false
section
variable {I ρ':Nat->Value}{w:World}{F:Nat->Prop}{μ:Nat->Nat->Y MI}
def fJ.DA{v:V}{x:Value}(h:fJ I w F v x):v.ns=true->fJ ρ' w F v x:=by
 induction h with
 |bool b=>intro _;exact .bool b
 |int k n=>intro _;exact .int k n
 |str s=>intro _;exact .str s
 |de=>intro _;exact .de
 |a8=>intro _;exact .a8
 |dy=>intro _;exact .dy
 |nilFunc=>intro _;exact .nilFunc
 |nilIface=>intro _;exact .nilIface
 |sym k=>intro h;simp[V.ns]at h
 |func f=>intro _;exact .func f
 |iface t v y _ ih=>intro h;exact .iface t v y (ih (by simpa [V.ns]using h))
 | ref cs b off ys hb hc _ ih =>intro h;rw[V.ns]at h;exact .ref cs b off ys hb hc λi v hi=>ih i v hi (xw h v (aI hi))
 |pT a c t h=>intro _;exact .pT a c t h
 | rj es b off size c t ys hb hl hc _ M O ih =>intro h;rw[V.ns]at h;exact .rj es b off size c t ys hb hl hc (λi e j v hi hj=>ih i e j v hi hj (xw (U3 h e (aI hi)) v (aI hj))) M O
 | agg cs ys C _ ih =>intro h;rw[V.ns]at h;exact .agg cs ys C λi v hi=>ih i v hi (xw h v (aI hi))
 | tuple cs ys C _ ih =>
   intro h;rw[V.ns]at h;exact .tuple cs ys C λi v hi=>ih i v hi (xw h v (aI hi))
def dZ.DA{v:V}{x:Value}(h:dZ I w F μ v x):v.ns=true->dZ ρ' w F μ v x:=by
 induction h with
 |pure hp=>intro h;exact .pure (hp.DA h)
 |ptr id g off m hm=>intro _;exact .ptr id g off m hm
 |own id g off len cap c m hm M O h3 h4=>intro _;exact .own id g off len cap c m hm M O h3 h4
 |map id m hm=>intro _;exact .map id m hm
 |lx id m hm=>intro _;exact .lx id m hm
 | func f cs ys C _ ih =>intro h;rw[V.ns]at h;exact .func f cs ys C λi v hi=>ih i v hi (xw h v (aI hi))
 |iface t v y _ ih=>intro h;exact .iface t v y (ih (by simpa [V.ns]using h))
 | agg cs ys C _ ih =>intro h;rw[V.ns]at h;exact .agg cs ys C λi v hi=>ih i v hi (xw h v (aI hi))
 | tuple cs ys C _ ih =>
   intro h;rw[V.ns]at h;exact .tuple cs ys C λi v hi=>ih i v hi (xw h v (aI hi))
def pO.DA{id:Nat}{o:Obj}(h:pO I w F μ P id o)(hn:o.ns=true):pO ρ' w F μ P id o:=by
 cases o with
 | arr size gen es exact fz row =>
   intro m hm;have a:=h m hm;let⟨cells,el,c1,c2,c3,c4,c5⟩:=a.cells
   exact⟨a.fg,a.hlen,⟨cells,el,c1,c2,c3,c4,λk e j v he hv=>by
    let⟨y,y1,y2,y3⟩:=c5 k e j v he hv;have hs:=xw (U3 hn e (aI he)) v (aI hv)
    exact⟨y,y1,y2.DA hs,λhr=>(y3 hr).DA hs⟩⟩,a.hf,a.hn⟩
 | mp es =>
   intro m hm;have a:=h m hm;let⟨en,clock,c1,c2,c3⟩:=a.entries;replace hn:(es.all λp=>p.1.ns&&p.2.ns)=true:=hn;rw[au]at hn
   exact⟨⟨en,clock,c1,c2,λi k v hi=>by
    let⟨e,e1,e2,e3⟩:=c3 i k v hi;have:=hn (k,v) (aI hi);rw[aW]at this
    exact⟨e,e1,e2.DA this.1,e3.DA this.2⟩⟩,a.hn⟩
 |lp _ _ _ _ _ _=>cases hn
end
def zwb(j:Nat):V->Bool
 |.sym k=>Nat.beq k j
 |_=>false
def mix(π:Nat->Nat):Z V->Z V->Z V
 |c::cs,d::ds=>(match c with|.sym _=>d|c=>c.jr π)::mix π cs ds
 |_,_=>[]
def wK:Nat->Z V->Bool
 |_,[]=>true
 |j,c::cs=>(zwb j c||c.ns)&&wK (j+1) cs
theorem GQ:∀ {cs ds:Z V},cs.length=ds.length->(mix π cs ds).length=cs.length
 | [],[],_=>rfl
 |_::cs,_::ds,h=>by simp only[mix,aL]at h ⊢;rw[GQ (by omega)]
def TN:∀ {cs ds:Z V} {j:Nat} {c:V},cs.length=ds.length->cs[j]?=some c->∃ d,ds[j]?=some d/\(mix π cs ds)[j]?=some (match c with|.sym _=>d|c=>c.jr π)
 | [],_,_,_,_,h=>by simp at h
 | c::cs,d::ds,0,x,_,h=>by cases h;exact⟨d,rfl,rfl⟩
 | c::cs,d::ds,j+1,x,hl,h=>by
   simp only[aL]at hl;exact TN (cs:=cs) (ds:=ds) (j:=j) (by omega) h
def PO:∀ {cs:Z V} {k j:Nat} {c:V},wK k cs=true->cs[j]?=some c->c=.sym (k+j)\/c.ns=true
 | [],_,_,_,_,h=>by simp at h
 | c :: cs,k,0,x,C,h=>by cases h;rw[wK,aW,iQ]at C;rcases C.1 with h|h;left;unfold zwb at h;split at h;rw[beq_true.1 h];rfl;cases h;exact .inr h
 | c::cs,k,j+1,x,C,h=>by
   rw[wK,aW]at C;have:=PO (cs:=cs) (k:=k+1) (j:=j) (c:=x) C.2 h
   rwa [show k+1+j=k+(j+1) by omega]at this
end Go.J
set_option maxRecDepth 100000
set_option maxHeartbeats 4000000
namespace Go.J
open bo (enc)
def Qh{π σ:Nat->Nat}:∀ {cs ds:Z V},cs.map (V.jr π)=cs.map (V.jr σ)->mix σ cs ds=mix π cs ds
 | [],ds,_=>rfl
 |_::_,[],_=>rfl
 | c::cs,d::ds,h=>by
   simp only[aX,List.cons.injEq]at h;simp only[mix];rw[Qh h.2];cases c<;>first|rfl|exact congrArg (·::mix π cs ds) h.1.symm
def Obj.zkI(π:Nat->Nat)(ds:Z V):Obj->Obj
 |.arr sz g [cs] ex fz row=>.arr sz g [mix π cs ds] ex fz row
 |o=>o.cw π
def mV(s:Nat)(ds:Z V)(π:Nat->Nat)(p:Nat×Obj):Obj:=if p.1=s then p.2.zkI π ds else p.2.cw π
def zxF(s:Nat)(ds:Z V)(C:HS)(k k':Nat)(π:Nat->Nat)(cJ:Z (Nat×Obj)):HS :=
 { H:=yH C.H (cJ.map λp=>(news C.n k π p.1,mV s ds (news C.n k π) p)),n:=C.n+(k'-k),log:=(cJ.map λp=>news C.n k π p.1)++C.log }
theorem zoI{π:Nat->Nat}{ds:Z V}{o:Obj}:(o.zkI π ds).gen=o.gen:=by
 unfold Obj.zkI;split;rfl;exact Obj.GD _
theorem ztr{π:Nat->Nat}{ds:Z V}{o:Obj}:(o.zkI π ds).fz=o.fz:=by
 unfold Obj.zkI;split;rfl;exact Obj.ZU _
theorem zka{s:Nat}{ds:Z V}{π:Nat->Nat}{p:Nat×Obj}:(mV s ds π p).gen=p.2.gen:=by
 grind [mV,zoI,Obj.GD]
theorem zn7{s:Nat}{ds:Z V}{π:Nat->Nat}{p:Nat×Obj}:(mV s ds π p).fz=p.2.fz:=by
 grind [mV,ztr,Obj.ZU]
section
variable {I ρ':Nat->Value}{w:World}{F:Nat->Prop}{μ μ':Nat->Nat->Y MI}{P:Program}{A:Nat->Bool}{π:Nat->Nat}
theorem pO.zD2 {id sz:Nat} {cs ds:Z V} (h:pO I w F μ P (π id) (.arr sz 0 [mix π cs ds] true false false)) (hl:cs.length=ds.length) (iv:wK 0 cs=true)
 (h1:cs.all (V.Ai A)=true) (hg:∀ m,μ' id 0=some m->μ (π id) 0=some m) (hμ:∀ id,A id=true->∀ g m,μ (π id) g=some m->μ' id g=some m)
 (hy:∀ m,μ (π id) 0=some m->∀ cells el,w.heap[m.b]?=some (.cells cells el (0,0))->∀ j d y,ds[j]?=some d->(mix π cs ds)[j]?=some d->cells[j]?=some y->ρ' j=y):pO ρ' w F μ' P id (.arr sz 0 [cs] true false false):=by
 intro m hm;have a:=h m (hg _ hm);let⟨cells,el,c1,c2,c3,c4,c5⟩:=a.cells;rw[au]at h1;refine⟨a.fg,λe he=>?_,⟨cells,el,c1,c2,by simpa using c3,by simpa using c4,λk e j v he hv=>?_⟩,a.hf,a.hn⟩;obtain rfl:=ag.1 he;have:=a.hlen (mix π e ds) (ag.2 rfl)
 rwa [GQ hl]at this
 have hk:k=0:=by grind
 subst hk;obtain rfl:cs=e:=by simpa using he
 let⟨d,hd,kj⟩:=TN (π:=π) hl hv;let⟨y,y1,y2,_⟩:=c5 0 _ j _ rfl kj;refine⟨y,y1,?_,λh=>by cases h⟩;rcases PO iv hv with rfl|hn;rw[fV];have:=hy m (hg _ hm) cells el c1 j d y hd kj (by simpa using y1);rw[<- this];exact .pure (.sym j);have od:dZ I w F μ (v.jr π) y:=by grind [V.ns]
 exact(od.ziZ (h1 v (aI hv)) hμ).DA hn
theorem pO.zxE {id sz:Nat} {cs ds:Z V} (h:pO ρ' w F μ P id (.arr sz 0 [cs] true false false)) (hl:cs.length=ds.length) (iv:wK 0 cs=true)
 (h1:cs.all (V.Ai A)=true) (hg:∀ m,μ' (π id) 0=some m->μ id 0=some m) (hμ:∀ id,A id=true->∀ g m,μ id g=some m->μ' (π id) g=some m)
 (hy:∀ m,μ id 0=some m->∀ j d,cs[j]?=some (.sym j)->ds[j]?=some d->dZ I w F μ' d (ρ' j)):pO I w F μ' P (π id) (.arr sz 0 [mix π cs ds] true false false):=by
 intro m hm;have a:=h m (hg _ hm);let⟨cells,el,c1,c2,c3,c4,c5⟩:=a.cells;rw[au]at h1;refine⟨a.fg,λe he=>?_,⟨cells,el,c1,c2,by simpa using c3,by simpa using c4,λk e j v he hv=>?_⟩,a.hf,a.hn⟩;obtain rfl:=ag.1 he;rw[GQ hl];exact a.hlen cs (ag.2 rfl);have hk:k=0:=by grind
 subst hk;obtain rfl:mix π cs ds=e:=by simpa using he
 have ju:j<cs.length:=by grind [List.getElem?_eq_some_iff,GQ]
 obtain⟨c,hc⟩:∃ c,cs[j]?=some c:=⟨_,az ju⟩;let⟨d,hd,kj⟩:=TN (π:=π) hl hc;let⟨y,y1,y2,_⟩:=c5 0 cs j c rfl hc;rw[kj]at hv;cases hv;refine⟨y,y1,?_,λh=>by cases h⟩;rcases PO iv hc with rfl|hn;rw[fV]at hc y2;have e:y=ρ' j:=by cases y2 with|pure h=>cases h;rfl
 grind;have od:dZ I w F μ' (c.jr π) y:=(y2.DA hn).ziR (h1 c (aI hc)) hμ;grind [V.ns]
end
section
variable {I:Nat->Value}{P:Program}{f:FuncId}{fn:Func}{sc:SC}{eb:Z V}{T:PT V}{v0:V}{OL cJ:Z (Nat×Obj)}{k k':Nat}
theorem zhx (hρ:Good I) {s sz:Nat} {cs tz ds:Z V} (hf:P.funcs[f]?=some fn) (hb:fn.body.bind aV=some sc) (he:jH fn.ntmps eb 0 .leaf=some T)
 (h:∀ ρ',Good ρ'->∃ (E:Env) (K:V->HS->Prop),E.P=P/\(∀ (s:Start) (e:Ending) (w:World),Iz ρ' P s K e w->Iz ρ' P s (aJ k v0 cJ) e w)/\Ls ρ' E k fn.ntmps sc T { H:=dP OL,n:=k,log:=[] } (Leaves P fn K))
 (TR:OL.map Prod.fst=List.range k) (G7:cJ.map Prod.fst=List.range k') (hk:k<=k') (h1:∀ p∈OL,p.2.in (cx OL)=true) (gR:∀ p∈cJ,p.2.in (cx cJ)=true/\p.2.fz=false) (ka:v0.sS (cx cJ)=true) (wv:∀ v∈eb,v.sS (cx OL)=true)
 (lj:(s,Obj.arr sz 0 [cs] true false false)∈OL) (HP:(s,Obj.arr sz 0 [tz] true false false)∈cJ) (hlen:cs.length=ds.length) (hlen':tz.length=ds.length) (cd:ds.length<=gB) (iv:wK 0 cs=true) (zLO:wK 0 tz=true) (GW:∀ d∈ds,d.mY=true) (hx:∀ j:Nat,tz[j]?=some (.sym j)->cs[j]?=some (.sym j))
 (sT:∀ p∈OL,p.1≠s->p.2.ns=true) (zL0:∀ p∈cJ,p.1≠s->p.2.ns=true) (zFT:v0.ns=true) (oY:∀ v∈eb,v.ns=true)
 {C:HS} {π:Nat->Nat} (hπ:∀ i j,i<k->j<k->π i=π j->i=j) (hH:∀ p∈OL,C.H.get (π p.1)=some (mV s ds π p)) (hn:∀ i,i<k'-k->C.H.get (C.n+i)=none) (GO:∀ i,i<k->π i<C.n) :
 aS I P f (eb.map (V.cw π)) C (v0.cw (news C.n k π)) (zxF s ds C k k' π cJ):=by
 have eN:∀ {OL:Z (Nat×Obj)} {k:Nat},OL.map Prod.fst=List.range k->∀ {i j:Nat} {o o':Obj},(i,o)∈OL->(j,o')∈OL->i=j->o=o':=λh i j o o' M O e=>by subst e;have e1:=wz (by rw[h];exact gQ) M;rw[wz (by rw[h];exact gQ) O]at e1;grind
 have cG:∀ {OL:Z (Nat×Obj)} {k:Nat},OL.map Prod.fst=List.range k->∀ {i:Nat} {o:Obj},(i,o)∈OL->i<k:=λh i o M=>(vC h i).1 (dN.2 ⟨_,M,beq_true.2 rfl⟩);intro X w F μ xs hR hD hO hA
 let val:Nat->Value:=λj=>match μ (π s) 0 with
  | some m=>match w.heap[m.b]? with
    |some (.cells cells _ _)=>cells.getD j (.int .i64 0)
    |_=>.int .i64 0
  |none=>.int .i64 0
 let ρ':Nat->Value:=λj=>if j<ds.length then (if (val j).oneCell'=true then val j else .int .i64 0)else I j
 have fI:Good ρ':=by intro j;show (if j<ds.length then (if (val j).oneCell'=true then val j else .int .i64 0)else I j).oneCell'=true;split;split;assumption;rfl;exact hρ j
 have hsk:s<k:=dh.1 (by rw[<- TR];exact aF.2 ⟨_,lj,rfl⟩)
 have IJ:C.H.get (π s)=some (.arr sz 0 [mix π cs ds] true false false):=by
  have:=hH _ lj
  rwa [show mV s ds π (s,Obj.arr sz 0 [cs] true false false)=.arr sz 0 [mix π cs ds] true false false from if_pos rfl]at this
 have hOr:=hR.obj _ _ IJ
 have me:∀ m,μ (π s) 0=some m->∀ cells el,w.heap[m.b]?=some (.cells cells el (0,0))->∀ j d y,ds[j]?=some d->(mix π cs ds)[j]?=some d->cells[j]?=some y->ρ' j=y:=by
  intro m hm cells el hc j d y hd ld hy;have ju:=(aM.1 hd).1;let⟨cA,el',c1,c2,c3,c4,c5⟩:=(hOr m hm).cells;rw[hc]at c1;cases c1;let⟨y',y1,y2,_⟩:=c5 0 _ j d rfl ld;have e:y'=y:=by grind
  subst e;have e2:val j=y':=by show (match μ (π s) 0 with|some m=>_|none=>_)=_;rw[hm];show (match w.heap[m.b]? with|some (.cells cells _ _)=>cells.getD j (.int .i64 0)|_=>_)=_;rw[hc];show cells.getD j _=_;rw[bS,hy];rfl
  grind [Wq,List.mem_of_getElem?]
 have iS:∀ m,μ (π s) 0=some m->∀ j d,cs[j]?=some (.sym j)->ds[j]?=some d->dZ I w F μ d (ρ' j):=by intro m hm j d hc hd;let⟨d',Ax,kj⟩:=TN (π:=π) hlen hc;rw[hd]at Ax;cases Ax;let⟨cells,el,c1,c2,c3,c4,c5⟩:=(hOr m hm).cells;let⟨y,y1,y2,_⟩:=c5 0 _ j d rfl kj;grind
 obtain⟨E,K,rfl,hK,h⟩:=h ρ' fI;have O:∀ {cs:Z V} {A:Nat->Bool},(Obj.arr sz 0 [cs] true false false).in A=true->cs.all (V.Ai A)=true:=λ{cs A} h=>by replace h:(([cs]:Z (Z V)).all λe=>e.all λv=>if false=true then v.bN else v.Ai A)=true:=h;simpa using h
 refine zdz (RO:=mV s ds) (λ_ _=>zka) (λ_ _=>zn7) hf hb he h hK TR G7 hk (λp hp=>(gR p hp).2) hπ hH hn GO hR hD hO (λv hv=>?_) (λμ0 wb=>⟨λi o hp=>?_,by simpa using hA.1,λi v hi=>?_⟩) λ{w' F1 μ2 μ'} To zGn u9 ux VG=>⟨λj o h0 hr=>?_,λx hr=>?_⟩;have e:ρ' (gB+v)=I (gB+v):=if_neg (by have:=cd;omega);rw[e]at hv ⊢;exact hR.gl v hv;have hi:=cG TR hp;by_cases hsi:i=s;obtain rfl:=eN TR hp lj hsi;grind [pO.zD2,vC];have z9:=hH _ hp;rw[show mV s ds π (i,o)=o.cw π from if_neg hsi]at z9;exact pO.DA (pO.B0 (π:=π) (A:=cx OL) (hR.obj _ _ z9) (h1 _ hp) (λg m hm=>by rw[wb i hi]at hm;exact hm) (λj hj g m hm=>by rw[wb j ((vC TR j).1 hj)];exact hm)) (sT _ hp hsi);let⟨x,W,hr⟩:=hA.2 i (v.cw π) (by simp[hi]);exact⟨x,W,(hr.B0 (A:=cx OL) (wv v (aI hi)) λj hj g m hm=>by rw[wb j ((vC TR j).1 hj)];exact hm).DA (oY v (aI hi))⟩;have hj:=cG G7 h0;by_cases hsj:j=s;obtain rfl:=eN G7 h0 HP hsj;subst hsj;rw[show mV j ds (news C.n k π) (j,Obj.arr sz 0 [tz] true false false)=.arr sz 0 [mix (news C.n k π) tz ds] true false false from if_pos rfl];refine pO.zxE (A:=cx cJ) hr hlen' zLO (O (gR _ HP).1) (λm hm=>by rw[ux j hj]at hm;exact hm) (λi hi g m hm=>by rw[ux i ((vC G7 i).1 hi)];exact hm) λm hm jj d hc rh=>?_
 obtain⟨m0,fW⟩:∃ m0,μ (π j) 0=some m0:=by
  refine aY λjs=>?_
  rw[VG j hsk (λg=>by
   cases g with
   |zero=>exact Option.eq_none_iff_forall_ne_some.2 λm h=>js ⟨m,h⟩
   |succ g=>exact hR.zL _ _ IJ (g+1) (Nat.succ_pos g)) 0]at hm
  cases hm
 exact(iS m0 fW jj d (hx jj hc) rh).mono I To zGn u9;rw[show mV s ds (news C.n k π) (j,o)=o.cw (news C.n k π) from if_neg hsj];exact pO.back (A:=cx cJ) (hr.DA (zL0 _ h0 hsj)) (gR _ h0).1 (λg m hm=>by rw[ux j hj]at hm;exact hm) (λi hi g m hm=>by rw[ux i ((vC G7 i).1 hi)];exact hm);have q:dZ I w' F1 μ2 v0 x:=hr.DA zFT;refine q.back (A:=cx cJ) ka λi hi g m hm=>?_;rw[ux i ((vC G7 i).1 hi)];exact hm
end
section
variable {I:Nat->Value}{P:Program}{w w':World}{F F':Nat->Prop}{μ μ':Nat->Nat->Y MI}{C cp:HS}
def fJ.part{v:V}{x0 x:Value}(h0:fJ I w F v x0)(h:dZ I w' F' μ' v x)(μ2:Nat->Nat->Y MI):dZ I w' F' μ2 v x:=by
 induction h0 generalizing x with
 |bool b=>cases h with|pure h=>exact .pure h
 |int k n=>cases h with|pure h=>exact .pure h
 |str s=>cases h with|pure h=>exact .pure h
 |de=>cases h with|pure h=>exact .pure h
 |a8=>cases h with|pure h=>exact .pure h
 |dy=>cases h with|pure h=>exact .pure h
 |nilFunc=>cases h with|pure h=>exact .pure h
 |nilIface=>cases h with|pure h=>exact .pure h
 |sym k=>cases h with|pure h=>exact .pure h
 | func f =>obtain⟨ys,rfl,C,hc⟩:=dZ.Br I h;exact .func f [] ys C λi v hi=>by simp at hi
 | iface t v y _ ih =>obtain⟨y',rfl,hy⟩:=dZ.Dc I h;exact .iface t v y' (ih hy)
 |ref cs b off ys=>exact .pure (dZ.GG I h)
 |pT a c t=>exact .pure (dZ.Dq I h)
 |rj es b off size c t ys=>exact .pure (dZ.Dq I h)
 | agg cs ys C _ ih =>obtain⟨zs,rfl,hz,hc⟩:=dZ.xy I h;exact .agg cs zs hz λi v hi=>ih i v hi (hc i v hi)
 | tuple cs ys C _ ih =>
   obtain⟨zs,rfl,hz,hc⟩:=dZ.qF I h;exact .tuple cs zs hz λi v hi=>ih i v hi (hc i v hi)
def dZ.part{v:V}{x0 x:Value}(h0:dZ I w F μ v x0)(h:dZ I w' F' μ' v x)(hm:∀ id g m,μ id g=some m->μ' id g=some m):dZ I w' F' μ v x:=by
 induction h0 generalizing x with
 |pure h0=>exact h0.part h μ
 | ptr id g off m fW =>obtain⟨m',M,rfl⟩:=dZ.yI I h;rw[hm _ _ _ fW]at M;cases M;exact .ptr id g off m fW
 | own id g off len cap c m fW =>obtain⟨m',c',M,rfl,O,h3,h4,h5⟩:=dZ.xe I h;rw[hm _ _ _ fW]at M;cases M;exact .own id g off len cap c' m fW O h3 h4 h5
 | map id m fW =>obtain⟨m',M,rfl⟩:=dZ.GR I h;rw[hm _ _ _ fW]at M;cases M;exact .map id m fW
 | lx id m fW =>obtain⟨m',M,rfl⟩:=dZ.Nn I h;rw[hm _ _ _ fW]at M;cases M;exact .lx id m fW
 | func f cs ys C _ ih =>obtain⟨zs,rfl,hz,hc⟩:=dZ.Br I h;exact .func f cs zs hz λi v hi=>ih i v hi (hc i v hi)
 | iface t v y _ ih =>obtain⟨y',rfl,hy⟩:=dZ.Dc I h;exact .iface t v y' (ih hy)
 | agg cs ys C _ ih =>obtain⟨zs,rfl,hz,hc⟩:=dZ.xy I h;exact .agg cs zs hz λi v hi=>ih i v hi (hc i v hi)
 | tuple cs ys C _ ih =>
   obtain⟨zs,rfl,hz,hc⟩:=dZ.qF I h;exact .tuple cs zs hz λi v hi=>ih i v hi (hc i v hi)
def pO.part{id:Nat}{o:Obj}(h0:pO I w F μ P id o)(h:pO I w' F' μ' P id o)(hm:∀ id g m,μ id g=some m->μ' id g=some m):pO I w' F' μ P id o:=by
 cases o with
 | arr size gen es exact fz row =>intro m fW;have a:=h m (hm _ _ _ fW);have a0:=h0 m fW;let⟨cells,el,c1,c2,c3,c4,c5⟩:=a.cells;let⟨zM1,zQR,_,_,_,_,d5⟩:=a0.cells;refine⟨a.fg,a.hlen,⟨cells,el,c1,c2,c3,c4,λk e j v he hv=>?_⟩,a.hf,a.hn⟩;let⟨y,y1,y2,y3⟩:=c5 k e j v he hv;let⟨z,_,z2,_⟩:=d5 k e j v he hv;exact⟨y,y1,z2.part y2 hm,y3⟩
 |mp es=>exactλm fW=>h m (hm _ _ _ fW)
 | lp fn T ps assign body busy =>
   intro m fW;have a:=h m (hm _ _ _ fW);have a0:=h0 m fW;let⟨l,l1,l2,l4,l5,l6,l7,l8⟩:=a.zEt;let⟨k,_,_,_,_,_,k7,_⟩:=a0.zEt;refine⟨⟨l,l1,l2,l4,l5,l6,λt v ht=>?_,l8⟩,a.hn⟩;let⟨x,x1,x2⟩:=l7 t v ht;let⟨z,_,z2⟩:=k7 t v ht;exact⟨x,x1,z2.part x2 hm⟩
theorem aS.quiet{f:FuncId}{vs:Z V}{v:V}(h:aS I P f vs C v cp)(hv:v.pure=true)(eN:∀ id o,C.H.get id=some o->cp.H.get id=some o)
 (aE:∀ id,id<C.n->C.H.get id=none->cp.H.get id=none):aS I P f vs C v C:=by
 intro X w F μ xs hR hD hO hA;have Oy:pP X cp:=λid W=>aE id (jN λhle=>hD.2 id hle W) (hO id W);refine CallsIn.mono (h X w F μ xs hR hD Oy hA) λe w' he=>?_
 cases e with
 | returned x =>
   let⟨F1,μ1,g1,g2,g3⟩:=he
   refine⟨F1,μ,⟨λid g m hm=>cu (hR.lt id g m hm) g3.size,g1.BR,λid o ho=>?_,hR.inj,hR.zL,g1.gl⟩,.pure (dZ.CF I g2 hv),
    ⟨g3.io,g3.size,g3.bw,g3.fm,g3.CQ,λ_ _ _ hm=>hm,λb hb=>.inl hb,λ_ hh=>hh,λ_ _ _=>rfl,λ_ _ hh=>hh,λid g m hm=>.inr ⟨id,g,m,hm,rfl⟩⟩⟩
   exact(hR.obj id o ho).part (g1.obj id o (eN id o ho)) g3.mm
 |panicked c=>exact he
 |outgrown=>exact he
end
end Go.J
