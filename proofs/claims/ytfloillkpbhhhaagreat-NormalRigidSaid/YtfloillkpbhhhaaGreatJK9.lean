import Derived.Test.YtfloillkpbhhhaaGreatJK8
import Derived.Test.YtfloillkpbhhhaaGreatJK7
import Derived.Test.YtfloillkpbhhhaaGreatJK6
set_option linter.all false
noncomputable section
namespace Go.J
open bo (enc)
variable {C:HS}{p tk:Int}{S S' a b c d e g i k m n:Nat}{π:Nat->Nat}{P:Program}{x:Slot}{s:ao}{t:Tp}{D:Z Decl}{tn:Z Nat}{l:Z Slot}
mutual
def G.D8(g:G->G):G->G
 |.mk k n i h []=>g (.mk k n i h [])
 |.mk k n i h (t::l)=>.mk k n i h (G.D8 g t::G.zm0 g l)
def G.zm0(g:G->G):Z G->Z G
 | []=>[]
 |t::l=>G.D8 g t::G.zm0 g l
end
def zrC(g:G->G)(l:Z G):G.zm0 g l=l.map (G.D8 g):=by
 induction l with
 |nil=>simp[G.zm0]
 |cons t l ih=>simp[G.zm0,ih]
theorem Fv{g:G->G}{t:G}(h:t.args=[]):t.D8 g=g t:=by
 cases t
 simp_all [G.D8]
def Av{g:G->G}{t:G}(h:t.args≠[]):t.D8 g=.mk t.kind t.name t.id t.home (t.args.map (G.D8 g)):=by
 obtain⟨k,n,i,hh,l⟩:=t
 cases l with
 |nil=>exact absurd rfl h
 |cons t l=>rw[G.D8,zrC];rfl
abbrev Ya:Z V:=[.int .i64 0,.str [],.int .i64 0,.int .i64 0,.aE]
def nL(l:Z G)(n i:Nat):Z (Z V):=(l.take i).map au++List.replicate (n-i) Ya
def Cy{l:Z G}(hl:l.length=n)(hi:i<=n):(nL l n i).length=n:=by
 simp[nL];omega
theorem zj9{l:Z G}(hl:l.length=n)(hi:i<n):(nL l n i).set i (au (l[i]'(by omega)))=nL l n (i+1):=by
 unfold nL;have M:((l.take i).map au).length=i:=by simp;omega
 rw[pq _ _ (by omega),M,lh];obtain⟨m,hm⟩:∃ m,n-i=m+1:=⟨n-i-1,by omega⟩
 grind [List.take_add_one,List.getElem?_eq_getElem,Option.toList_some,List.append_assoc]
def zT{l:Z G}(hl:l.length=n):nL l n n=l.map au:=by
 simp[nL,<- hl]
def zR{l:Z G}:nL l n 0=List.replicate n Ya:=by simp[nL]
theorem Pn{l:Z G}{e:Z V}(h:e∈nL l n i):e.length=5/\e.all V.bM=true:=by
 unfold nL at h;rcases bA.1 h with h|h
 . obtain⟨t,_,rfl⟩:=aI.1 h
   simp_all
 simp_all
@[simp] def zxH {l:Z G} :((nL l n i).all λe=>e.all V.bM)=true:=aj.2 λe he=>(Pn he).2
@[simp] def zAj {l:Z G}  :((nL l n i).map λe=>e.map (V.jl π))=nL l n i:=Cc λx hx v hv=>V.jP (aj.1 (Pn hx).2 v hv)
theorem zS{l:Z G}(hl:l.length=n)(hi:i<n)(h:i<(nL l n i).length):(nL l n i).set i (kI ((nL l n i)[i]'h) 0 (au (l[i]'(by omega))))=nL l n (i+1):=by
 have h5:=(Pn (az h)).1
 have e:kI ((nL l n i)[i]'h) 0 (au (l[i]'(by omega)))=au (l[i]'(by omega)):=by
  generalize (nL l n i)[i]'h=r at h5
  match r,h5 with
  | [a,b,c,d,f],_ =>
    simp_all
 rw[e,zj9 hl hi]
mutual
def G.zbU:G->Bool
 |.mk k _ _ _ l=>(decide (k≠1)||decide (l.length=0))&&G.Gr l
def G.Gr:Z G->Bool
 | []=>true
 |t::l=>G.zbU t&&G.Gr l
end
def uW(out:Z Int)(t:G):Z Int:=if t.kind=1/\t.id ∉ out then out++[t.id]else out
mutual
def FJ:G->Z Int->Z Int
 |.mk k n i h l,out=>wE l (uW out (.mk k n i h l))
def wE:Z G->Z Int->Z Int
 | [],out=>out
 |t::l,out=>wE l (FJ t out)
end
def ztc(t:G)(out:Z Int):FJ t out=wE t.args (uW out t):=by cases t;rw[FJ];rfl
def Wl{out:Z Int}{t:G}(h:out.Nodup):(uW out t).Nodup:=by
 unfold uW;split
 . rename_i hh;rw[List.nodup_append];exact⟨h,iH.2 ⟨by simp,kL⟩,λa ha b hb e=>by rw[ay]at hb;subst hb;subst e;exact hh.2 ha⟩
 . exact h
mutual
theorem zfk:∀ (t:G) {out:Z Int},out.Nodup->(FJ t out).Nodup
 |.mk k n i h l,out,ho=>by rw[FJ];exact Jn l (Wl ho)
theorem Jn:∀ (l:Z G) {out:Z Int},out.Nodup->(wE l out).Nodup
 | [],out,ho=>by rw[wE];exact ho
 |t::l,out,ho=>by rw[wE];exact Jn l (zfk t ho)
end
theorem Zg{t:G}{out:Z G}(hk:t.kind=1):vE (if t∈out then out else out++[t])=uW (vE out) t:=by
 have eL:∀ (a:G) (o:Z Int) (y:Int),y∈o->y∈AY o a:=by
  grind [AY]
 have hself:∀ (a:G) (o:Z Int),a.id∈AY o a:=by
  grind [AY]
 have key:∀ (l:Z G) (o:Z Int),(∀ y∈o,y∈l.foldl AY o)/\∀ x∈l,x.id∈l.foldl AY o:=by
  intro l
  induction l with
  |nil=>intro o;exact⟨λy hy=>hy,λx hx=>by cases hx⟩
  | cons a l ih =>
    grind
 grind [vE,uW,Uw,AY]
mutual
theorem zez:∀ (t:G),t.zbU=true->∀ out,vE (jX 1 t out)=FJ t (vE out)
 | .mk k n i h l,hl,out=>by
   rw[G.zbU]at hl;simp only[aQ,iJ,decide_eq_true_eq]at hl;by_cases hk:k=1
   . have h0:l=[]:=by
      rcases hl.1 with h|h
      . exact absurd hk h
      . exact dM h
     subst h0;rw[zJ,if_pos ⟨hk,rfl⟩,Zg (t:=.mk k n i h []) hk,FJ];rfl
   . rw[zJ,if_neg (λhh=>hk hh.1),FJ];have:uW (vE out) (.mk k n i h l)=vE out:=if_neg (λhh=>hk hh.1);rw[this];exact Gq l hl.2 out
theorem Gq:∀ (l:Z G),G.Gr l=true->∀ out,vE (eO 1 l out)=wE l (vE out)
 | [],_,out=>by rw[eO,wE]
 | t::l,hl,out=>by
   rw[G.Gr,aQ]at hl;rw[eO,wE,Gq l hl.2,zez t hl.1]
end
def zh6{l:Z G}(h:G.Gr l=true):tQ l=wE l []:=Gq l h []
mutual
def G.pE:G->Bool
 |.mk k n _ h l=>(decide (k≠1)||(decide (n=[])&&decide (h=0)&&decide (l.length=0)))&&G.DW l
def G.DW:Z G->Bool
 | []=>true
 |t::l=>G.pE t&&G.DW l
end
def Ig{l:Z G}:G.DW l=true↔∀ t∈l,t.pE=true:=by
 induction l with
 |nil=>simp[G.DW]
 |cons t l ih=>simp[G.DW,ih]
def zw{t:G}(h:t.pE=true)(hk:t.kind=1):t=fq t.id:=by
 cases t;rw[G.pE]at h;simp only[aQ,iJ,decide_eq_true_eq]at h;simp only[G.fw]at hk;subst hk;rcases h.1 with h|h
 . omega
 . obtain⟨⟨rfl,rfl⟩,h3⟩:=h;rw[dM h3];rfl
theorem P8{t:G}(h:t.pE=true):G.DW t.args=true:=by
 cases t
 simp_all [G.pE,aQ]
theorem Ih{t:G}(hk:t.kind≠1)(h:∀ x∈t.args,x.pE=true):t.pE=true:=by
 cases t
 simp_all [G.pE,aQ,Ig]
def P7(i:Int):(fq i).pE=true:=by simp[fq,G.pE,G.DW]
structure ic(n S:Nat)(t:G):Prop where
 ok:t.ok=true
 plain:t.pE=true
 size:t.size<=S
 vars:∀ u,yp u t->0<=u.id/\u.id<n
def ic.arg{n S:Nat}{t x:G}(h:ic n S t)(hx:x∈t.args):ic n S x:=by
 have hp:=Ig.1 (P8 h.plain) x hx;refine⟨G.EJ h.ok hx,hp,by have:=G.Au hx;have:=h.size;omega,λu hu=>h.vars u (.arg (λhk=>?_) hx hu)⟩;have:=zw h.plain hk;rw[this]at hx;cases hx
def ic.zns{t:G}(h:ic n S t)(hk:t.kind=1):t.args=[]:=by
 have:=zw h.plain hk;rw[this];rfl
def ic.le{t:G}(h:ic n S t)(hS:S<=S'):ic n S' t:=⟨h.ok,h.plain,aO h.size hS,h.vars⟩
theorem ic.var(hi:i<n)(hS:1<=S):ic n S (fq (i:Int)):=by
 refine⟨G.oF.2 ⟨aW _,λx hx=>by cases hx⟩,P7 _,by show (fq (i:Int)).size<=S;rw[G.size_eq];exact hS,λu hu=>?_⟩;rw[hu.var rfl]
 simp_all [fq]
namespace ao
structure xK(n S:Nat)(s:ao):Prop where
 len:s.a9.length=n
 types:∀ x∈s.a9,if x.bound=true then ic n S x.type else x.type=tT
 fin:∀ i,i<n->s.Fin (fq (i:Int))
def Li(s:ao):Nat:=s.a9.countP λx=>!x.bound
section
theorem xK.to(h:xK n S s){t:G}(hb:s.bound t=true):ic n S (s.to t):=by
 obtain⟨_,i,x,_,_,hx,z7,s6⟩:=pM hb;have:=h.types x (aC hx)
 grind
def xK.ll(h:xK n S s)(hn:n<=1000):s.ll:=⟨by rw[h.len];exact hn,λx hx=>by
 have:=h.types x hx;split at this
 . exact this.ok
 . rw[this];rfl⟩
def xK.zj8(h:xK n S s)(t:G):ic n S' t->s.Fin t:=by
 induction t using G.ind with
 | h t ih =>
   intro ht;by_cases hk:t.kind=1
   . have e:=zw ht.plain hk;obtain⟨h0,M⟩:=ht.vars t (.self hk);obtain⟨i,hi⟩:=bK h0;rw[e,hi];exact h.fin i (by omega)
   . refine Fin.zzU ?_ λu hu=>ih u hu (ht.arg hu)
     cases hb:s.bound t with
     |false=>rfl
     |true=>exact absurd (zY hb) hk
theorem xK.kM(h:xK n S s)(hS:S<=S'):∀ (k:Nat) {t:G},ic n S' t->ic n S' (s.kM k t):=by
 intro k
 induction k with
 |zero=>intro t ht;exact ht
 | succ k ih =>
   intro t ht;unfold ao.kM;split
   . rename_i hb;exact ih ((h.to hb).le hS)
   . exact ht
def zvW(h:∀ x∈l,x.type.size<=b):∀ m:Z Bool,J.ia l m<=l.length*b:=by
 induction l with
 |nil=>intro m;simp[J.ia]
 | cons x l ih =>
   intro m
   cases m with
   |nil=>simp[J.ia]
   | cons c m =>
     have M:=ih (λx hx=>h x (aF _ hx)) m;have O:=h x (aD ..);simp only[J.ia,aX,Nat.succ_mul];split<;>omega
theorem xK.ia(h:xK n S s)(hS:1<=S)(m:Z Bool):J.ia s.a9 m<=n*S:=by
 have:=zvW (l:=s.a9) (b:=S) (λx hx=>by
  have:=h.types x hx;split at this
  . exact this.size
  . rw[this];exact hS) m
 rw[h.len]at this;exact this
def xK.vars (h:xK n S s) (hS:1<=S)  {t:G} (ht:ic n S' t) (hb:n*S+S'<=100000) :
 (∀ v∈nR s [t],0<=v/\v<n)/\(nR s [t]).length<=n*S+S'/\∀ id:Int,s.bound (fq id)=false->s.Reach id t->id∈nR s [t]:=by
 have hu:=h.ia hS (List.replicate s.a9.length false);have b8:=ht.size
 have key:=zqH (s:=s) (P:=λv=>0<=v/\v<n) (λx hx z7 u hu=>by
  have:=h.types x hx;rw[if_pos z7]at this
  exact this.vars u hu) 100000 [] t (([]:Z Int),List.replicate s.a9.length false) ht.vars (by simp only;omega) (by simp) (λi x _ _ hi=>by
   simp only[List.getElem?_replicate]at hi
   split at hi<;>cases hi)
 obtain⟨r1,r2⟩:=key;have hlen:=(zdr s 100000 t (([]:Z Int),List.replicate s.a9.length false)).2.2.2;unfold nR;simp only[fQ,List.foldl_nil];generalize KC s 100000 t (([]:Z Int),List.replicate s.a9.length false)=st at r1 r2 hlen;refine⟨λv hv=>?_,?_,λid hid hr=>?_⟩
 . rcases r1.out v hv with h|h
   . cases h
   . exact h
 . simp only[nO]at hlen;omega
 . have walk:∀ u,s.Reach id u->(∃ m,ic n m u)->s.L3 st u->id∈st.1:=by
    intro u hu
    induction hu with
    | here hk he =>
      intro _ hc;have:=(hc _ (.self hk)).2;rw[he]at this;refine this ?_
      cases hb:s.bound _ with
      |false=>rfl
      | true =>
        have:=(zcP hb (u:=fq id) rfl (by rw[he];rfl)).1;rw[hid]at this;cases this
    | to hb _ ih =>
      intro _ hc;have hk:=zY hb;have hd:=(hc _ (.self hk)).1 hb;obtain⟨_,i,x,hi,cA,hx,z7,s6⟩:=pM hb;refine ih ⟨S,h.to hb⟩ ?_;rw[s6];exact r1.inv i x hx z7 (by rw[hi]at hd;exact hd) (by simp)
    | arg hb hx _ ih =>
      intro hm hc;obtain⟨m,hm⟩:=hm
      have hk:¬ _:=λhk=>by
       have:=hm.zns hk;rw[this]at hx;cases hx
      exact ih ⟨m,hm.arg hx⟩ λu hu=>hc u (.arg hk hx hu)
   exact walk t hr ⟨S',ht⟩ r2
end
def bt(x:Slot):Bool×G:=(x.bound,x.type)
def nK(s s':ao):Prop:=s'.a9.map bt=s.a9.map bt
section
variable {s':ao}
theorem nK.refl:nK s s:=rfl
theorem nK.len(h:nK s s'):s'.a9.length=s.a9.length:=by
 have:=congrArg List.length h
 grind
def nK.at(h:nK s s')(i:Nat):(s'.a9[i]?).map bt=(s.a9[i]?).map bt:=by
 have:=congrArg (λl=>l[i]?) h;simpa using this
def nK.slot(h:nK s s')(id:Int):(s'.cg id).map bt=(s.cg id).map bt:=by
 unfold cg;split
 . exact h.at _
 . rfl
theorem nK.bound(h:nK s s')(u:G):s'.bound u=s.bound u:=by
 have M:=h.slot u.id;unfold ao.bound;cases O:s'.cg u.id<;>cases h3:s.cg u.id<;>rw[O,h3]at M
 . cases M
 . cases M
 . have:bt _=bt _:=bS M;unfold bt at this;rw[gG]at this;cases decide (u.kind=1)<;>simp[this.1]
theorem nK.to(h:nK s s')(u:G):s'.to u=s.to u:=by
 have M:=h.slot u.id;unfold ao.to
 grind [bt,Option.some.inj,Prod.mk.injEq]
def nK.fin(h:nK s s'){u:G}(hu:s.Fin u):s'.Fin u:=by
 refine ao.Fin.ind (p:=s'.Fin) (λt hb ih=>?_) (λt hb ih=>?_) hu
 . exact .RT ((h.bound t).trans hb) (by rw[h.to];exact ih)
 . exact .zzU ((h.bound t).trans hb) ih
theorem nK.mem(h:nK s s')(hx:x∈s'.a9):∃ y∈s.a9,y.bound=x.bound/\y.type=x.type:=by
 have:bt x∈s.a9.map bt:=by rw[<- h];exact aI.2 ⟨x,hx,rfl⟩
 grind [bt,Prod.mk.injEq]
theorem nK.Ez(h:nK s s')(ht:xK n S s):xK n S s':=by
 refine⟨h.len.trans ht.len,λx hx=>?_,λi hi=>h.fin (ht.fin i hi)⟩;obtain⟨y,hy,e1,e2⟩:=h.mem hx;have:=ht.types y hy
 grind
def nK.Li(h:nK s s'):s'.Li=s.Li:=by
 unfold ao.Li;have e:∀ l:Z Slot,l.countP (λx=>!x.bound)=(l.map bt).countP λp=>!p.1:=λl=>by rw[List.countP_map];rfl
 rw[e,e,h]
end
def xR(hi:i<s.a9.length):s.set (i:Int) x=(⟨s.a9.set i x,s.b7++[⟨(i:Int),s.a9[i],false⟩]⟩,true):=by
 unfold ao.set;rw[fj,ax hi];rfl
theorem oP(hi:i<s.a9.length):s.fO (i:Int)=s.a9[i]:=by
 unfold fO;rw[fj,ax hi];rfl
theorem zmK(hi:i<s.a9.length)(hb:x.bound=s.a9[i].bound)(ht:x.type=s.a9[i].type):nK s (s.set (i:Int) x).1:=by
 rw[xR hi];show (s.a9.set i x).map bt=_
 grind [List.map_set,bt,List.set_getElem_self]
def WO(hi:i<s.a9.length):(s.set (i:Int) x).1.b7.length=s.b7.length+1:=by rw[xR hi];simp
theorem zgB(hi:i<s.a9.length)(hb:x.bound=true):zFp s (s.set (i:Int) x).1 (i:Int) x.type:=by
 rw[xR hi]
 have C:∀ id:Int,(⟨s.a9.set i x,s.b7++[⟨(i:Int),s.a9[i],false⟩]⟩:ao).cg id=if id=(i:Int)then some x else s.cg id:=by
  intro id;unfold cg
  grind
 constructor
 . intro u hu;by_cases hk:u.kind=1
   . have cb:¬ u.id=(i:Int):=λe=>hu ⟨hk,e⟩
     refine⟨?_,λ_=>?_⟩
     . unfold ao.bound;rw[C,if_neg cb]
     . unfold ao.to;rw[C,if_neg cb]
   grind [zY]
 . intro u hk hid;refine⟨?_,?_⟩
   . unfold ao.bound;rw[C,if_pos hid,decide_eq_true hk];exact hb
   . unfold ao.to;rw[C,if_pos hid]
theorem zrp(hi:i<s.a9.length)(hb:x.bound=true)(h0:s.a9[i].bound=false):(s.set (i:Int) x).1.Li+1=s.Li:=by
 rw[xR hi];unfold Li
 grind
theorem zmJ(h:xK n S s)(hi:i<n)(hb:x.bound=true)(ht:ic n S x.type)(h0:s.bound (fq (i:Int))=false)(hr:¬ s.Reach (i:Int) x.type):xK n S (s.set (i:Int) x).1:=by
 have cA:i<s.a9.length:=by rw[h.len];exact hi
 have hu:=zgB (s:=s) (x:=x) cA hb;refine⟨by rw[xR cA];simp[h.len],λy hy=>?_,λj hj=>hu.fin (h.zj8 _ ht) hr (h.fin j hj)⟩;rw[xR cA]at hy;rcases gW hy with hy|rfl
 . exact h.types y hy
 grind
section
theorem xK.slot(h:xK n S s){x:G}(hx:ic n S x)(C:s.nH x=true)(hb:s.bound x=false):∃ i:Nat,i<n/\x=fq (i:Int)/\x.id=(i:Int)/\s.bound (fq (i:Int))=false/\1<=s.Li:=by
 unfold nH at C;simp only[aQ,decide_eq_true_eq]at C;obtain⟨h0,M⟩:=hx.vars x (.self C.1);obtain⟨i,hi⟩:=bK h0;have e:=zw hx.plain C.1;rw[hi]at e;refine⟨i,by omega,e,hi,by rw[<- e];exact hb,?_⟩;have cA:i<s.a9.length:=by rw[h.len];omega
 have e2:=Jt (s:=s) (t:=x) C.1 (by rw[hi,fj];exact ax cA);rw[hb]at e2;unfold Li
 grind
end
end ao
def zmG{l:Z G}(h:∀ t∈l,t.size<=b):G.bj l<=l.length*b:=by
 induction l with
 |nil=>simp[G.bj]
 | cons t l ih =>
   have M:=h t (aD ..);have O:=ih λt ht=>h t (aF _ ht)
   simp only[G.bj,aX,Nat.succ_mul];omega
def Jx(D:Z Decl):Prop:=∀ d∈D,d.params.length<=2
def uA(bits:Int):Jx (bu bits):=by
 intro d hd;have key:∀ d∈Kw,d.params.length<=2:=by decide
 exact key d (ky hd)
theorem CG  {Lv:Z G} (hD:Jx D) (hl:∀ l∈Lv,l.size<=1):∀ (d:Nat) (t:Tp),(jb d t D Lv).2.size+1<=2 ^ (d+1):=by
 have hint:Ik.size=1:=by decide
 intro d
 induction d with
 | zero =>
   intro t;rw[jb]
   grind
 | succ d ih =>
   intro t;have hp:2 ^ (d+1+1)=2*2 ^ (d+1):=by rw[Nat.pow_succ 2 (d+1)];omega
   have oR:2<=2 ^ (d+1):=by rw[Nat.pow_succ];have:=Nat.two_pow_pos d;omega
   rw[jb]
   try dsimp only
   split
   . grind
   . split
     . grind
     . split
       . rename_i h;obtain⟨j,hj,_,O⟩:=C8 (t.next 7).1 h.2;rw[O];have zD2:=hD _ (az hj);rw[eu]
         have ef:∀ (q:Tp) (n:Nat) (x:G),x∈(qP d q D Lv n).2->x.size+1<=2 ^ (d+1):=by
          intro q n
          induction n with
          |zero=>intro x hx;rw[qP]at hx;cases hx
          | succ n zL3 =>
            grind [qP,List.mem_singleton]
         have C:=zmG (l:=(qP d ((t.next 7).1.next (D.length:Int)).1 D Lv D[j].params.length).2) (b:=2 ^ (d+1)-1) λx hx=>by have:=ef _ _ x hx;omega
         rw[Ke]at C;rw[G.size_eq];have hm:D[j].params.length*(2 ^ (d+1)-1)<=2*(2 ^ (d+1)-1):=aN _ zD2;show G.bj (qP d ((t.next 7).1.next (D.length:Int)).1 D Lv D[j].params.length).2+1+1<=_;omega
       . rw[G.size_eq];simp only[vO,uM,G.fC,G.bj]
         grind
theorem MC{Lv:Z G}(hl:∀ l∈Lv,l.pE=true)(d:Nat)(t:Tp):(jb d t D Lv).2.pE=true :=
 Cs (P:=λt=>t.pE=true) hl (by decide) (λdd _ l _ hx=>Ih (by simp[uM]) hx)
  (λa b M O=>Ih (by simp[vO,uM]) (λx hx=>by
    simp only[vO,uM,G.fC,aB,aS,or_false]at hx
    rcases hx with rfl|rfl<;>assumption)) d t
theorem SG{Lv:Z G}(hD:Jx D)(hl:∀ l∈Lv,l.ok=true)(d:Nat)(t:Tp):(jb d t D Lv).2.ok=true :=
 Cs (P:=λt=>t.ok=true) hl (by decide) (λdd ld l hlen hx=>G.oF.2 ⟨by have:=hD dd ld;simp[uM,hlen];omega,hx⟩)
  (λa b M O=>G.oF.2 ⟨by simp[vO,uM],λx hx=>by
    simp only[vO,uM,G.fC,aB,aS,or_false]at hx
    rcases hx with rfl|rfl<;>assumption⟩) d t
namespace ao
def ztP(n:Nat)(u:G):Prop:=(∃ i:Nat,i<n/\u=fq (i:Int))\/(u.kind≠1/\u.args=[]/\u.pE=true)
theorem ztP.VJ{x:G}(h:ztP n x){u:G}(hu:yp u x):0<=u.id/\u.id<n:=by
 rcases h with⟨i,hi,rfl⟩|⟨hk,ha,_⟩
 . rw[hu.var rfl];exact⟨by simp[fq],by simp[fq];omega⟩
 . cases hu with
   |self oX=>exact absurd oX hk
   |arg _ hx _=>rw[ha]at hx;cases hx
theorem zdB(hD:Jx D){Lv:Z G}(hl:∀ u∈Lv,ztP n u)(d:Nat)(t:Tp)(hS:2 ^ (d+1)<=S+1):ic n S (jb d t D Lv).2:=by
 have ef:∀ u∈Lv,u.args=[]:=λu hu=>by
  rcases hl u hu with⟨i,_,rfl⟩|⟨_,h,_⟩
  . rfl
  . exact h
 have b8:∀ u∈Lv,u.size<=1:=λu hu=>by rw[G.size_eq,ef u hu];exact af _
 have er:∀ u∈Lv,u.ok=true:=λu hu=>G.oF.2 ⟨by rw[ef u hu];exact aW _,λx hx=>by rw[ef u hu]at hx;cases hx⟩
 have hvp:∀ u∈Lv,u.pE=true:=λu hu=>by
  rcases hl u hu with⟨i,_,rfl⟩|⟨_,_,h⟩
  . exact P7 _
  . exact h
 have zn6:∀ {x:G},x.kind≠1->(∀ y∈x.args,∀ u,yp u y->0<=u.id/\u.id<n)->∀ u,yp u x->0<=u.id/\u.id<(n:Int):=by
  intro x hk hx u hu
  cases hu with
  |self oX=>exact absurd oX hk
  |arg _ hy hu=>exact hx _ hy u hu
 refine⟨SG hD er d t,MC hvp d t,by have:=CG hD b8 d t;omega,?_⟩;refine Cs (P:=λx=>∀ u,yp u x->0<=u.id/\u.id<(n:Int)) (λu hu v hv=>(hl u hu).VJ hv) (zn6 (by decide) λy hy=>by cases hy) (λdd _ l _ hx=>zn6 (by simp[uM]) λy hy=>hx y hy) (λa b M O=>zn6 (by simp[vO,uM]) λy hy=>?_) d t;simp only[vO,uM,G.fC,aB,aS,or_false]at hy;rcases hy with rfl|rfl<;>assumption
def zeB{h i:Int}:ztP n (fD h i):=.inr ⟨by show (3:Int)≠1;decide,rfl,by simp[fD,G.pE,G.DW]⟩
section
def Ou{t:G}(h:s.bound t=false):∀ k,s.kM k t=t:=by
 intro k
 cases k with
 |zero=>rfl
 |succ k=>unfold kM;rw[if_neg (by rw[h];simp)]
def xK.end(h:xK n S s)(t:G):s.bound (s.T5 t)=false/\s.w t=s.T5 t:=by
 cases hb:s.bound t with
 |false=>rw[show s.T5 t=t from Ou hb _,show s.w t=t from Ou hb _];exact⟨hb,rfl⟩
 |true=>exact(Fin.RT hb (h.zj8 _ (h.to hb))).walk
def xK.zBE(h:xK n S s):s.w=s.T5:=funext λt=>(h.end t).2
theorem Mg{t u:G}(hk:u.kind=t.kind)(hi:u.id=t.id):s.bound u=s.bound t:=by
 unfold ao.bound;rw[hk,hi]
end
abbrev Sv:=Z Int×Z Int
def A3 (rec:G->Sv->Y Sv):Z G->Sv->Y Sv
 | [],st=>some st
 | x::l,st=>match rec x st with
   |some hs=>A3 rec l hs
   |none=>none
def ux (s:ao):Nat->G->Sv->Y Sv
 | 0,_,_=>none
 | f + 1,t,st=>if t.kind=1 then
     (if t.id∈st.1 then some st
       else if s.bound t=false then some (st.1++[t.id],st.2++[t.id])
       else if (s.to t).kind=1 then ux s f (s.to t) (st.1++[t.id],st.2)
       else A3 (ux s f) (s.to t).args (st.1++[t.id],st.2))
   else A3 (ux s f) t.args st
structure PY(s:ao)(sv:Sv)(st:List Int×List Bool):Prop where
 out:sv.2=st.1
 seen:∀ u:G,u.kind=1->(u.id∈sv.1↔if s.bound u=true then st.2[u.id.toNat]?=some true else u.id∈st.1)
 len:st.2.length=s.a9.length
theorem zdH{F cL:Nat}(ih:∀ x sv st,PY s sv st->x.size+J.ia s.a9 st.2<=F->x.size+J.ia s.a9 st.2<=cL->∃ Mb,ux s cL x sv=some Mb/\PY s Mb (KC s F x st)) :
 ∀ (l:Z G) (sv:Sv) (st:Z Int×Z Bool),PY s sv st->G.bj l+J.ia s.a9 st.2<=F->G.bj l+J.ia s.a9 st.2<=cL->∃ Mb,A3 (ux s cL) l sv=some Mb/\PY s Mb (l.foldl (λst x=>KC s F x st) st):=by
 intro l
 induction l with
 |nil=>intro sv st h _ _;exact⟨sv,rfl,h⟩
 | cons x l Kd =>
   intro sv st h hF hG;simp only[G.bj]at hF hG;obtain⟨sv1,e1,M⟩:=ih x sv st h (by omega) (by omega);have hv:=(zdr s F x st).2.2.1
   grind [KC,A3]
theorem PY.mark{sv:Sv}{st:Z Int×Z Bool}(h:PY s sv st){t:G}(hk:t.kind=1)(hb:s.bound t=true)(hi:t.id=(i:Int))(cA:i<s.a9.length):PY s (sv.1++[t.id],sv.2) (st.1,st.2.set i true):=by
 refine⟨h.out,λu hu=>?_,by simp[h.len]⟩;simp only[bA,ay];rw[h.seen u hu];by_cases e:u.id=t.id
 . have hub:s.bound u=true:=by rw[Mg (hu.trans hk.symm) e];exact hb
   rw[if_pos hub,if_pos hub,e,hi,bP];simp[h.len,cA]
 . cases hub:s.bound u with
   | true =>
     obtain⟨_,j,x,hj,kx,_⟩:=pM hub
     grind
   | false =>
     grind
theorem PY.find{sv:Sv}{st:Z Int×Z Bool}(h:PY s sv st){t:G}(hk:t.kind=1)(hb:s.bound t=false):PY s (sv.1++[t.id],sv.2++[t.id]) (st.1++[t.id],st.2):=by
 refine⟨by simp[h.out],λu hu=>?_,h.len⟩;simp only[bA,ay];rw[h.seen u hu]
 grind [Mg]
theorem zv9 (s:ao):∀ (F:Nat) (t:G) (cL:Nat) (sv:Sv) (st:Z Int×Z Bool),PY s sv st->t.size+J.ia s.a9 st.2<=F->t.size+J.ia s.a9 st.2<=cL->∃ Mb,ux s cL t sv=some Mb/\PY s Mb (KC s F t st):=by
 intro F
 induction F using Nat.strongRecOn with
 | _ F ih =>
   intro t cL sv st h hF hG;have hp:=G.size_pos t;have v5:=G.size_eq t;obtain⟨F,rfl⟩:∃ f,F=f+1:=⟨F-1,by omega⟩;obtain⟨cL,rfl⟩:∃ g,cL=g+1:=⟨cL-1,by omega⟩;rw[ux,KC];by_cases hk:t.kind=1
   . rw [if_pos hk,if_pos hk];have C:=h.seen t hk
     cases hb:s.bound t with
     | false =>
       rw[hb]at C;simp only[lH,if_false]at C ⊢;by_cases hm:t.id∈st.1
       . grind
       . rw[if_neg (λe=>hm (C.1 e)),if_neg hm,if_pos trivial];exact⟨_,rfl,h.find hk hb⟩
     | true =>
       rw[hb]at C;simp only[if_true]at C ⊢;obtain⟨_,i,x,hi,cA,hx,z7,s6⟩:=pM hb;by_cases hd:st.2[i]?=some false
       . have hm:¬ t.id∈sv.1:=λe=>by
          grind
         rw[if_neg hm,if_neg (by simp)];have xT:st.2[t.id.toNat]?=some false:=by rw[hi,bP];exact hd
         rw[if_pos xT];have FA:=h.mark hk hb hi cA;have zNN:=Ym hx hd;have e:t.id.toNat=i:=by rw[hi,bP]
         rw[e,s6];have b1:x.type.size+J.ia s.a9 (st.2.set i true)<=F:=by omega
         have b2:x.type.size+J.ia s.a9 (st.2.set i true)<=cL:=by omega
         by_cases xo:x.type.kind=1
         . simp_all
         . rw[if_neg xo];have hp2:=G.size_pos x.type;have zNQ:=G.size_eq x.type;obtain⟨F',rfl⟩:∃ f,F=f+1:=⟨F-1,by omega⟩;rw[KC,if_neg xo];exact zdH (λy sv st h a b=>ih F' (by omega) y cL sv st h a b) x.type.args _ _ FA (by simp only at b1 ⊢;omega) (by simp only at b2 ⊢;omega)
       . have hm:t.id∈sv.1:=C.2 (by
          rw[hi,bP];have xf:i<st.2.length:=by rw[h.len];exact cA
          rw[ax xf]at hd ⊢
          cases hq:st.2[i]with
          |true=>rfl
          |false=>rw[hq]at hd;exact absurd rfl hd)
         grind
   . rw[if_neg hk,if_neg hk];exact zdH (λy sv st h a b=>ih F (by omega) y cL sv st h a b) t.args sv st h (by omega) (by omega)
theorem zmp{l:Z G}(h:tO s l):∃ sv,A3 (ux s 100000) l ([],[])=some sv/\sv.2=nR s l:=by
 have h0:PY s ([],[]) (([]:Z Int),List.replicate s.a9.length false):=by
  refine⟨rfl,λu _=>?_,by simp⟩
  grind
 obtain⟨sv,e,hc⟩:=zdH (F:=100000) (cL:=100000) (λx sv st h a b=>zv9 s 100000 x 100000 sv st h a b) l _ _ h0 (by have:=h.2.2.2;simp only;omega) (by have:=h.2.2.2;simp only;omega);exact⟨sv,e,hc.out⟩
theorem R3{rec:G->Sv->Y Sv}(ih:∀ x st r,rec x st=some r->st.2.length<=r.2.length):∀ (l:Z G) (st r:Sv),A3 rec l st=some r->st.2.length<=r.2.length:=by
 intro l
 induction l with
 |nil=>intro st r h;cases h;exact af _
 | cons x l Kd =>
   grind [A3,Nat.le_trans]
theorem MP (s:ao):∀ (f:Nat) (t:G) (st r:Sv),ux s f t st=some r->st.2.length<=r.2.length:=by
 intro f
 induction f with
 |zero=>intro t st r h;cases h
 | succ f ih =>
   intro t st r h;rw[ux]at h;split at h
   . split at h
     . grind
     . split at h
       . cases h;simp
       . split at h
         . grind
         . have:=R3 ih _ (st.1++[t.id],st.2) _ h;exact this
   . exact R3 ih _ _ _ h
def D0(d:Nat)(s:ao)(st:Sv)(t:G):Y Sv:=if s.ll/\t.ok=true then (match ux s d t st with
 |some r=>if r.2.length<=100000 then some r else none
 |none=>none)else none
theorem zgw{st r:Sv}{t:G}(h:D0 d s st t=some r):s.ll/\t.ok=true/\ux s d t st=some r/\r.2.length<=100000:=by
 grind [D0]
theorem zdI{st r:Sv}{t:G}(M:s.ll)(O:t.ok=true)(h3:ux s d t st=some r)(h4:r.2.length<=100000):D0 d s st t=some r:=by
 grind [D0]
end ao
@[simp] def zI0 {es:Z (V×V)} {o:Obj} {z:Nat}:zzw (.mp es) o k z=z:=by
  cases o<;>rfl
def vB(i:Int):V×V:=(.int .i64 i,.bool true)
def xS:Z (V×V)->Y (Z Int)
 | []=>some []
 |(.int .i64 n,.bool true)::l=>(xS l).map (n::·)
 |_=>none
theorem Lu:∀ {es:Z (V×V)} {l:Z Int},xS es=some l->es=l.map vB:=by
 intro es
 induction es with
 |nil=>intro l h;cases h;rfl
 | cons p es ih =>
   intro l h;unfold xS at h;split at h
   . grind
   . rename_i n t e;cases e;rw[bG]at h;obtain⟨m,hm,rfl⟩:=h;rw[ih hm];rfl
   . cases h
@[simp] theorem zd0 (l:Z Int):xS (l.map vB)=some l:=by
  induction l with
  |nil=>rfl
  | cons n l ih =>
    grind [xS,vB]
@[simp] def zwm (l:Z Int) (n:Int):xS (l.map vB++[vB n])=some (l++[n]):=by
  have:=zd0 (l++[n])
  rwa [dz]at this
@[simp] def zAi (n:Int) (l:Z Int):UL (.int .i64 n) (l.map vB)=some (if n∈l then some (.bool true)else none):=by
  induction l with
  |nil=>rfl
  | cons m l ih =>
    show W (KM (.int .i64 n) (.int .i64 m)) (λq=>bi q (some (some (.bool true))) (UL (.int .i64 n) (l.map vB)))=_;rw[ih];show W (gd (Df .i64 .i64) (some (ub n m))) _=_;by_cases h:n=m
    . subst h;have:ub n n=true:=by simp
      rw[this];simp[Df]
    . have:ub n m=false:=by
       cases hq:ub n m with
       |false=>rfl
       |true=>exact absurd (by simpa using hq) h
      rw[this];simp[h]
@[simp] theorem zCF {n:Int} {l:Z Int} (h:n ∉ l):Gg (.int .i64 n) (.bool true) (l.map vB)=some ((l++[n]).map vB):=by
  induction l with
  |nil=>rfl
  | cons m l ih =>
    have M:n≠m:=λe=>h (e ▸ aD ..)
    have O:n ∉ l:=λe=>h (aF _ e)
    show W (KM (.int .i64 n) (.int .i64 m)) (λq=>bi q _ (W (Gg (.int .i64 n) (.bool true) (l.map vB)) λr=>some (vB m::r)))=_;rw[ih O];show W (gd (Df .i64 .i64) (some (ub n m))) _=_
    simp_all
def lu(g a c b e:Nat):V:=.func g [.ptr a 0 0,.ptr c 0 0,.ptr b 0 0,.ptr e 0 0]
def zba(g a c b e:Nat)(v:V):Bool:=match v with
 |.func g' [.ptr a' 0 0,.ptr c' 0 0,.ptr b' 0 0,.ptr e' 0 0]=>et (Nat.beq g' g) (et (Nat.beq a' a) (et (Nat.beq c' c) (et (Nat.beq b' b) (Nat.beq e' e))))
 |_=>false
def ziC{v:V}(h:zba g a c b e v=true):v=lu g a c b e:=by
 unfold zba at h;split at h
 . simp only[dx,beq_true]at h;obtain⟨rfl,rfl,rfl,rfl,rfl⟩:=h;rfl
 . cases h
@[simp] def zFY :zba g a c b e (.func g [.ptr a 0 0,.ptr c 0 0,.ptr b 0 0,.ptr e 0 0])=true:=by
  show et (Nat.beq g g) (et (Nat.beq a a) (et (Nat.beq c c) (et (Nat.beq b b) (Nat.beq e e))))=true;simp
def nq (v:V):Y Nat:=match v with
 |.map i=>some i
 |_=>none
theorem W9{v:V}(h:nq v=some m):v=.map m:=by
 unfold nq at h
 grind
@[simp] def zGE :nq (.map m)=some m:=(rfl)
def V7(o:Obj):Y (Z (V×V)):=match o with
 |.mp es=>some es
 |_=>none
theorem Uc{o:Obj}{es:Z (V×V)}(h:V7 o=some es):o=.mp es:=by
 unfold V7 at h
 grind
@[simp] def zJe {es:Z (V×V)}:V7 (.mp es)=some es:=(rfl)
def rh (o:Obj):Y ao:=match o with
 |.arr 2 0 [[sl,tr]] true false false=>(bo.dec (.agg [sl,tr]):Y ao)
 |_=>none
theorem ziu{o:Obj}(h:rh o=some s):o=box (qA s):=by
 unfold rh at h;split at h
 . have:=bo.bq _ _ h
   simp_all
 . cases h
@[simp] theorem zFR :rh (.arr 2 0 [[.sl (s.a9.map dG) false,.sl (s.b7.map bW) false]] true false false)=some s:=by
  show (bo.dec (bo.enc s):Y ao)=some s
  simp_all
def gM(g:Nat)(s:ao)(seen out:Z Int):Z (Nat×Obj) :=
 [(0,jm (.map 1)),(1,.mp (seen.map vB)),(2,box (qA s)),(3,jm (oV 5 (out.map cW))),(4,jm (lu g 0 2 3 4))]++oH 5 1 (out.map cW)
def zms(a m c b e ro:Nat)(i:Nat):Nat:=if i=0 then a else if i=1 then m else if i=2 then c else if i=3 then b else if i=4 then e else ro
def Ll(g:Nat)(s:ao)(tv:V)(a m c b e ro:Nat)(st hs:ao.Sv):EmbD where
 k:=match st.2 with | []=>5|_=>6
 k':=match hs.2 with | []=>5|_=>6
 π:=zms a m c b e ro
 OL:=gM g s st.1 st.2
 cI:=gM g s hs.1 hs.2
 dq:=[tv,.ptr 0 0 0,.ptr 2 0 0,.ptr 3 0 0,.ptr 4 0 0]
 v0:=.tuple []
def zmt(a m c b e:Nat):Bool:=et (nt (Nat.beq a m)) (et (nt (Nat.beq a c)) (et (nt (Nat.beq a b)) (et (nt (Nat.beq a e)) (et (nt (Nat.beq m c)) (et (nt (Nat.beq m b)) (et (nt (Nat.beq m e)) (et (nt (Nat.beq c b)) (et (nt (Nat.beq c e)) (nt (Nat.beq b e))))))))))
def zmr(a m c b e ro:Nat):Bool:=et (nt (Nat.beq a ro)) (et (nt (Nat.beq m ro)) (et (nt (Nat.beq c ro)) (et (nt (Nat.beq b ro)) (nt (Nat.beq e ro)))))
def zrg(a m c b e n:Nat):Bool:=et (Nat.blt a n) (et (Nat.blt m n) (et (Nat.blt c n) (et (Nat.blt b n) (Nat.blt e n))))
def IH (g:Nat) (F:ao->ao.Sv->G->Y ao.Sv) (vs:Z V) (C:HS):Y EmbD:=match vs with
 | [tv,.ptr a 0 0,.ptr c 0 0,.ptr b 0 0,.ptr e 0 0]=>W (bo.dec tv:Y G) λt=>W (C.H.get a) λoa=>W (du oa) λva=>W (nq va) λm=>W (C.H.get m) λom=>W (V7 om) λes=>W (xS es) λseen =>
  W (C.H.get c) λoc=>W (rh oc) λs=>W (C.H.get b) λo1=>W (du o1) λvb=>W (rowOf 1 C vb) λzzB=>W (eT zzB:Y (Z Int)) λout=>W (C.H.get e) λoe=>W (du oe) λve=>W (F s (seen,out) t) λr =>
   gd (et (zba g a c b e ve) (et (zmt a m c b e) (et (bi (Nat.beq (dA zzB) 0) true (zmr a m c b e (rC vb))) (et (zrg a m c b e C.n) (et (Nat.ble (dA out) (dA r.2)) (ig C C.n))))))
    (some (Ll g s tv a m c b e (rC vb) (seen,out) r))
 |_=>none
theorem zaW   {t:G} {ro:Nat} {st hs:ao.Sv} (hle:st.2.length<=hs.2.length):(Ll g s (enc t) a m c b e ro st hs).Good:=by
 have gS:∀ (seen out:Z Int) (p:Nat×Obj),p∈gM g s seen out->p.2.in (cr (gM g s seen out))=true/\p.2.fz=false:=by
  intro seen out p hp;unfold gM at hp ⊢;rcases bA.1 hp with hp|hp
  . simp only[aB,aS,or_false]at hp;rcases hp with rfl|rfl|rfl|rfl|rfl
    . cases out<;>exact⟨rfl,rfl⟩
    . simp_all
    . cases out<;>exact⟨rfl,rfl⟩
    . cases out<;>exact⟨rfl,rfl⟩
    . cases out<;>exact⟨rfl,rfl⟩
  . cases out with
    |nil=>cases hp
    | cons x l =>
      simp only[aR,wO,ay]at hp;subst hp;exact⟨J4 (x::l),rfl⟩
 obtain⟨seen,out⟩:=st;obtain⟨fR,c8⟩:=hs;refine⟨?_,?_,?_,λp hp=>(gS seen out p hp).1,gS fR c8,rfl,?_⟩
 . cases out<;>rfl
 . cases c8<;>rfl
 . cases out<;>cases c8<;>first|(simp at hle;done)|exact af _|exact mF _
 . intro v hv;simp only[Ll,aB,aS,or_false]at hv;rcases hv with rfl|rfl|rfl|rfl|rfl
   . simp_all
   all_goals (cases out<;>rfl)
theorem zaV{ro:Nat}(hk:k=5\/(k=6/\zmr a m c b e ro=true))(h:zmt a m c b e=true):∀ i j,i<k->j<k->zms a m c b e ro i=zms a m c b e ro j->i=j:=by
 unfold zmt at h;simp at h;cases h;intro i j hi hj eq;rcases hk with rfl|⟨rfl,hr⟩
 . grind [zms]
 . unfold zmr at hr;simp only[dx,jN,beq_true]at hr;obtain⟨r1,r2,r3,r4,r5⟩:=hr;have q:∀ x y:Nat,x.beq y=false->x≠y:=λx y h e=>by subst e;simp at h
   replace r1:=q _ _ r1;replace r2:=q _ _ r2;replace r3:=q _ _ r3;replace r4:=q _ _ r4;replace r5:=q _ _ r5
   rcases(show i=0\/i=1\/i=2\/i=3\/i=4\/i=5 by omega)with rfl|rfl|rfl|rfl|rfl|rfl<;>rcases(show j=0\/j=1\/j=2\/j=3\/j=4\/j=5 by omega)with rfl|rfl|rfl|rfl|rfl|rfl <;>
    first|rfl|(simp[zms]at eq;first|omega|(exact absurd eq (by assumption))|(exact absurd eq.symm (by assumption)))
theorem zgu  {F:ao->ao.Sv->G->Y ao.Sv} {vs:Z V}  {D:EmbD} (h:IH g F vs C=some D) :
 ∃ s t st r a m c b e ro,F s st t=some r/\D=Ll g s (enc t) a m c b e ro st r/\st.2.length<=r.2.length/\D.Good/\D.Fits vs C:=by
 unfold IH at h;split at h
 . rename_i tv a c b e;simp only[aA,bE,dx,jN,dI,gY,aJ]at h;obtain⟨t,ht,oa,HJ,va,Kx,m,hm,om,zAa,es,gA,seen,zDX,oc,hoc,s,cm,o1,ho1,vb,hvb,zzB,zJS,out,oS,oe,hoe,ve,zNK,r,hr,⟨g1,g2,g3,g4,g5,g6⟩,h⟩:=h;cases h;have e1:=bo.bq _ _ ht;subst e1;have e2:=uD Kx;have e3:=W9 hm;subst e3;subst e2;have e4:=Uc gA;have e5:=Lu zDX;subst e5;subst e4;have e6:=ziu cm;subst e6;have e7:=uD hvb;subst e7;have e8:=uD zNK;have e9:=ziC g1;subst e9;subst e8;have AM:=iT oS;subst AM;refine⟨s,t,(seen,out),r,a,m,c,b,e,rC vb,hr,rfl,g5,zaW g5,?_⟩;have CM:∀ π:Nat->Nat,(enc t:V).cq π=enc t:=λπ=>V.jw (V.dU (zV t))
   unfold zrg at g4;simp only[dx,gz]at g4;obtain⟨l1,l2,l3,l4,l5⟩:=g4;rcases Ct zJS with⟨f5,f6⟩|⟨ro,f5,f6,h5,h6,_⟩
   . subst f5;have e7:out=[]:=by cases out with|nil=>rfl|cons x l=>cases f6
     subst e7;refine⟨?_,zaV (.inl rfl) g2,?_,?_,?_⟩
     . simp only[Ll,aR,iP];rw[CM];rfl
     . intro p hp;simp only[Ll,gM,iP,LB,j5,aB,aS,or_false]at hp;rcases hp with rfl|rfl|rfl|rfl|rfl
       . exact HJ
       . exact zAa
       . exact hoc
       . exact ho1
       . exact hoe
     . grind [Ll]
     . intro i hi;simp only[Ll]at hi ⊢;rcases(show i=0\/i=1\/i=2\/i=3\/i=4 by omega)with rfl|rfl|rfl|rfl|rfl<;>assumption
   . subst f5
     cases out with
     |nil=>exact absurd rfl f6
     | cons x l =>
       have hro:rC (oV ro ((x::l).map iC.cells))=ro:=rfl;rw[hro]at g3 ⊢
       have sg:∃ y q,r.2=y::q:=by
        cases sg:r.2 with
        |nil=>rw[sg]at g5;simp at g5
        |cons y q=>exact⟨y,q,rfl⟩
       obtain⟨y,q,sg⟩:=sg;refine⟨?_,zaV (.inr ⟨rfl,g3⟩) g2,?_,?_,?_⟩
       . simp only[Ll,aR,iP];rw[CM];rfl
       . intro p hp;simp only[Ll,gM,aR,wO,eU,iI,aB,aS,or_false]at hp;rcases hp with rfl|rfl|rfl|rfl|rfl|rfl
         . exact HJ
         . exact zAa
         . exact hoc
         . exact ho1
         . exact hoe
         . show C.H.get ro=_
           simp_all
       . grind [Ll]
       . intro i hi;simp only[Ll]at hi ⊢;rcases(show i=0\/i=1\/i=2\/i=3\/i=4\/i=5 by omega)with rfl|rfl|rfl|rfl|rfl|rfl<;>assumption
 . cases h
section
variable {tv:V}{ro:Nat}{seen fR out c8:Z Int}{x y:Int}{st hs:ao.Sv}
@[simp] def zFO:(Ll g s tv a m c b e ro st hs).val C=.tuple []:=(rfl)
def zdL:(Ll g s tv a m c b e ro (seen,[]) (fR,[])).heap C={ H:=((((C.H.set e (jm (lu g a c b e))).set b (jm .aE)).set c (box (qA s))).set m (.mp (fR.map vB))).set a (jm (.map m)),n:=C.n,log:=a::m::c::b::e::C.log }:=by
 show ({ H:=((((C.H.set e _).set b _).set c _).set m _).set a _,n:=C.n+0,log:=_ }:HS)=_;rfl
def zdK:(Ll g s tv a m c b e ro (seen,[]) (fR,x::c8)).heap C={ H:=(((((C.H.set C.n (oO 1 ((x::c8).map cW))).set e (jm (lu g a c b e))).set b (jm (oV C.n ((x::c8).map cW)))).set c (box (qA s))).set m (.mp (fR.map vB))).set a (jm (.map m)),n:=C.n+1,log:=a::m::c::b::e::C.n::C.log }:=by
 show ({ H:=(((((C.H.set (C.n+0) ((oO 1 ((x::c8).map cW)).cq _)).set e _).set b _).set c _).set m _).set a _,n:=C.n+1,log:=_ }:HS)=_;rw[CY (J4 (x::c8))];rfl
def zdJ:(Ll g s tv a m c b e ro (seen,y::out) (fR,x::c8)).heap C={ H:=(((((C.H.set ro (oO 1 ((x::c8).map cW))).set e (jm (lu g a c b e))).set b (jm (oV ro ((x::c8).map cW)))).set c (box (qA s))).set m (.mp (fR.map vB))).set a (jm (.map m)),n:=C.n,log:=a::m::c::b::e::ro::C.log }:=by
 show ({ H:=(((((C.H.set ro ((oO 1 ((x::c8).map cW)).cq _)).set e _).set b _).set c _).set m _).set a _,n:=C.n+0,log:=_ }:HS)=_;rw[CY (J4 (x::c8))];rfl
attribute [simp] zdL zdK zdJ
@[simp] def zLG {F:ao→ao.Sv→G→Y ao.Sv}:IH g F [tv,.ptr a 0 0,.ptr c 0 0,.ptr b 0 0,.ptr e 0 0] C=W (bo.dec tv:Y G) fun t=>W (C.H.get a) fun oa=>W (du oa) fun va=>W (nq va) fun m=>W (C.H.get m) fun om=>W (V7 om) fun es=>W (xS es) fun seen =>
      W (C.H.get c) λoc=>W (rh oc) λs=>W (C.H.get b) λo1=>W (du o1) λvb=>W (rowOf 1 C vb) λzzB=>W (eT zzB:Y (Z Int)) λout=>W (C.H.get e) λoe=>W (du oe) λve=>W (F s (seen,out) t) λr =>
       gd (et (zba g a c b e ve) (et (zmt a m c b e) (et (bi (Nat.beq (dA zzB) 0) true (zmr a m c b e (rC vb))) (et (zrg a m c b e C.n) (et (Nat.ble (dA out) (dA r.2)) (ig C C.n))))))
        (some (Ll g s tv a m c b e (rC vb) (seen,out) r)):=(rfl)
@[simp] def zIH:zmt a m c b e=et (nt (Nat.beq a m)) (et (nt (Nat.beq a c)) (et (nt (Nat.beq a b)) (et (nt (Nat.beq a e)) (et (nt (Nat.beq m c)) (et (nt (Nat.beq m b)) (et (nt (Nat.beq m e)) (et (nt (Nat.beq c b)) (et (nt (Nat.beq c e)) (nt (Nat.beq b e)))))))))):=(rfl)
@[simp] def zIG:zmr a m c b e ro=et (nt (Nat.beq a ro)) (et (nt (Nat.beq m ro)) (et (nt (Nat.beq c ro)) (et (nt (Nat.beq b ro)) (nt (Nat.beq e ro))))):=(rfl)
@[simp] def zII :zrg a m c b e n=et (Nat.blt a n) (et (Nat.blt m n) (et (Nat.blt c n) (et (Nat.blt b n) (Nat.blt e n)))):=(rfl)
end
theorem zjz{l m:Z Nat}:Km (a::l) (b::m)=(decide (a<b)||(decide (a=b)&&Km l m)):=by
 show bi (Nat.blt a b) true (et (Nat.beq a b) (Km l m))=_
 simp_all
theorem znG:∀ l:Z Nat,Km l l=false:=by
 intro l
 induction l with
 |nil=>rfl
 |cons a l ih=>rw[zjz,ih];simp
def Pz(a b:Int):Int:=if a<b then -1 else if a>b then 1 else 0
def Sh(a b:Z Nat):Int:=if Km a b=true then -1 else if a=b then 0 else 1
theorem zkt{a b:Int}:Pz a b=0↔a=b:=by
 grind [Pz]
theorem zks{a b:Z Nat}:Sh a b=0↔a=b:=by
 grind [Sh,znG]
def uv:Z Int->Int
 | []=>0
 |a::l=>if a≠0 then a else uv l
theorem znn:∀ {l:Z Int},uv l=0↔∀ a∈l,a=0:=by
 intro l
 induction l with
 |nil=>simp[uv]
 | cons a l ih =>
   grind [uv,List.mem_cons_self]
def UC(a b:G):Z Int:=[Pz a.kind b.kind,Sh a.name b.name,Pz a.id b.id,Pz a.home b.home,Pz (a.args.length:Int) (b.args.length:Int)]
mutual
def FK:G->G->Int
 |.mk k n i h l,b=>if uv (UC (.mk k n i h l) b)≠0 then uv (UC (.mk k n i h l) b)else AU l b.args
def AU:Z G->Z G->Int
 | [],[]=>0
 | [],_::_=>-1
 |_::_,[]=>1
 |a::l,b::m=>if FK a b≠0 then FK a b else AU l m
end
def zcz(a b:G):FK a b=if uv (UC a b)≠0 then uv (UC a b)else AU a.args b.args:=by
 cases a;rw[FK];simp only[G.fC]
theorem zfn {a:G}:∀ {b:G},FK a b=0↔a=b:=by
 induction a using G.ind with
 | h a ih =>
   intro b
   have tf:∀ l:Z G,(∀ u∈l,u∈a.args)->∀ m,AU l m=0↔l=m:=by
    intro l
    induction l with
    |nil=>intro _ m;cases m<;>simp[AU]
    | cons u l tf =>
      intro C m
      cases m with
      |nil=>simp[AU]
      | cons v m =>
        rw[AU]
        grind
   rw[zcz,G.eq_iff]
   grind [uv,UC,znn,zkt,zks]
def mono(t:G):Scheme:=⟨0,t⟩
def varNames:Z (Z Nat):=[[120],[121],[122],[102],[103],[118,49],[118,50],[105,100]]
def varName(t:Tp):Z Nat:=(varNames[(t.next 8).2.toNat]?).getD []
def vU:Z Int->Z Int->Z cT->Z cT
 | [],_,s=>s
 |v::l,ids,s=>vU l ids (if v∈ids then s++[⟨v,qU s.length⟩]else s)
def zfq(l m ids:Z Int)(s:Z cT):vU (l++m) ids s=vU m ids (vU l ids s):=by
 induction l generalizing s with
 |nil=>rfl
 |cons v l ih=>simp only[eU,vU,ih]
theorem Va(l ids:Z Int)(s:Z cT):s.length<=(vU l ids s).length/\(vU l ids s).length<=s.length+l.length:=by
 induction l generalizing s with
 |nil=>exact⟨af _,af _⟩
 | cons v l ih =>
   simp only[vU,aX]
   grind
def yC(t:G)(ids:Z Int):Scheme :=
 let s:=vU (tQ [t]) ids []
 ⟨s.length,t.xV s⟩
def lg:Z G:=[fD 0 0,fD 3 1]
def J7 (D:Z Decl) (p:Tp×Z Entry):Tp×Z Entry :=
 let n:=varName p.1
 let t1:=(p.1.next 8).1
 let c:=t1.next 4
 if c.2=0 then
  let r:=jb 2 c.1 D (rA 2)
  (r.1,p.2++[⟨n,yC r.2 [0,1]⟩])
 else
  let r:=jb 2 c.1 D lg
  (r.1,p.2++[⟨n,mono r.2⟩])
def GD(D:Z Decl)(t:Tp):Nat->Tp×Z Entry
 | 0=>(t,[])
 |n+1=>J7 D (GD D t n)
def lK(t:Tp)(D:Z Decl):Tp×(Z Entry×G) :=
 let c:=t.next 4
 let p:=GD D c.1 c.2.toNat
 let r:=jb 2 p.1 D lg
 (r.1,(p.2,r.2))
theorem ZL(h:t.ok)(n:Nat):(GD D t n).1.ok/\(GD D t n).2.length=n:=by
 induction n with
 |zero=>exact⟨h,rfl⟩
 | succ n ih =>
   grind [iw,GD,J7,ME]
mutual
inductive Xp where
 |mk (kind pos:Int) (name:List Nat) (num:Int) (kids:List Xp) (cf:List Am) (type:G)
inductive Am where
 |mk (pos:Int) (dE:List Nat) (vars:List (List Nat)) (body:Xp)
end
namespace Xp
def kind:Xp->Int|.mk k _ _ _ _ _ _=>k
def pos:Xp->Int|.mk _ p _ _ _ _ _=>p
def name:Xp->Z Nat|.mk _ _ n _ _ _ _=>n
def num:Xp->Int|.mk _ _ _ m _ _ _=>m
def kids:Xp->Z Xp|.mk _ _ _ _ l _ _=>l
def cf:Xp->Z Am|.mk _ _ _ _ _ l _=>l
def type:Xp->G|.mk _ _ _ _ _ _ t=>t
section
variable {k m:Int}{n:Z Nat}{l:Z Xp}{a:Z Am}{t:G}
@[simp] def fw:(mk k p n m l a t).kind=k:=(rfl)
@[simp] def pos_mk:(mk k p n m l a t).pos=p:=(rfl)
@[simp] def jC:(mk k p n m l a t).name=n:=(rfl)
@[simp] def zno:(mk k p n m l a t).num=m:=(rfl)
@[simp] def yo:(mk k p n m l a t).kids=l:=(rfl)
@[simp] def yF:(mk k p n m l a t).cf=a:=(rfl)
@[simp] def zgm:(mk k p n m l a t).type=t:=(rfl)
@[simp] def eta (x:Xp):mk x.kind x.pos x.name x.num x.kids x.cf x.type=x:=by cases x;rfl
end
end Xp
namespace Am
def pos:Am->Int|.mk p _ _ _=>p
def dE:Am->Z Nat|.mk _ c _ _=>c
def vars:Am->Z (Z Nat)|.mk _ _ v _=>v
def body:Am->Xp|.mk _ _ _ b=>b
section
variable {c:Z Nat}{v:Z (Z Nat)}{b:Xp}
@[simp] def pos_mk:(mk p c v b).pos=p:=(rfl)
@[simp] def Md:(mk p c v b).dE=c:=(rfl)
@[simp] def BR:(mk p c v b).vars=v:=(rfl)
@[simp] def Sg:(mk p c v b).body=b:=(rfl)
@[simp] def eta (x:Am):mk x.pos x.dE x.vars x.body=x:=by cases x;rfl
end
end Am
mutual
def dL:Xp->Z V
 |.mk k p n m l a t=>[.int .i64 k,.int .i64 p,.str n,.int .i64 m,.sl (qz l) false,.sl (qB a) false,.int .i64 t.kind,.str t.name,.int .i64 t.id,.int .i64 t.home,.sl (t.args.map au) false]
def qz:Z Xp->Z (Z V)
 | []=>[]
 |x::l=>dL x::qz l
def gL:Am->Z V
 |.mk p c v b=>.int .i64 p::.str c::.sl (v.map cF) false::dL b
def qB:Z Am->Z (Z V)
 | []=>[]
 |x::l=>gL x::qB l
end
def Xw(l:Z Xp):qz l=l.map dL:=by
 induction l with
 |nil=>simp[qz]
 |cons t l ih=>simp[qz,ih]
def Xy(l:Z Am):qB l=l.map gL:=by
 induction l with
 |nil=>simp[qB]
 |cons t l ih=>simp[qB,ih]
def bL(x:Xp):dL x=[.int .i64 x.kind,.int .i64 x.pos,.str x.name,.int .i64 x.num,.sl (x.kids.map dL) false,.sl (x.cf.map gL) false,.int .i64 x.type.kind,.str x.type.name,.int .i64 x.type.id,.int .i64 x.type.home,.sl (x.type.args.map au) false]:=by
 cases x;simp[dL,Xw,Xy]
def jO(x:Am):gL x=[.int .i64 x.pos,.str x.dE,.sl (x.vars.map cF) false,.int .i64 x.body.kind,.int .i64 x.body.pos,.str x.body.name,.int .i64 x.body.num,.sl (x.body.kids.map dL) false,.sl (x.body.cf.map gL) false,
 .int .i64 x.body.type.kind,.str x.body.type.name,.int .i64 x.body.type.id,.int .i64 x.body.type.home,.sl (x.body.type.args.map au) false]:=by
 cases x;simp[gL,bL]
mutual
def Eg:V->Y (Z Xp)
 |.sl es false=>Dp es
 |_=>none
def Dp:Z (Z V)->Y (Z Xp)
 | []=>some []
 | e::r=>match Jf e,Dp r with
   |some t,some l=>some (t::l)
   |_,_=>none
def Jf:Z V->Y Xp
 | [.int .i64 k,.int .i64 p,.str n,.int .i64 m,ks,as,.int .i64 tk,.str tn,.int .i64 ti,.int .i64 th,ta]=>match Eg ks,Ei as,Bo ta with
   |some l,some a,some t=>some (.mk k p n m l a (.mk tk tn ti th t))
   |_,_,_=>none
 |_=>none
def Ei:V->Y (Z Am)
 |.sl es false=>Dr es
 |_=>none
def Dr:Z (Z V)->Y (Z Am)
 | []=>some []
 | e::r=>match KY e,Dr r with
   |some t,some l=>some (t::l)
   |_,_=>none
def KY:Z V->Y Am
 | [.int .i64 q,.str c,.sl vs false,.int .i64 k,.int .i64 p,.str n,.int .i64 m,ks,as,.int .i64 tk,.str tn,.int .i64 ti,.int .i64 th,ta]=>match (eT vs:Y (Z (Z Nat))),Eg ks,Ei as,Bo ta with
   |some v,some l,some a,some t=>some (.mk q c v (.mk k p n m l a (.mk tk tn ti th t)))
   |_,_,_,_=>none
 |_=>none
end
def U2(l:Z G):Bo (.sl (l.map au) false)=some l:=by
 unfold Bo;rw[<- Pq];exact L9 l
def U3{v:V}{l:Z G}(h:Bo v=some l):v=.sl (l.map au) false:=by
 rw[UU v l h,Pq]
mutual
theorem XA:∀ x:Xp,Jf (dL x)=some x
 |.mk k p n m l a t=>by simp[dL,Jf,Eg,Ei,L8 l,Ma a,U2]
theorem L8:∀ l:Z Xp,Dp (qz l)=some l
 | []=>by simp[qz,Dp]
 |t::l=>by simp[qz,Dp,XA t,L8 l]
theorem XC:∀ x:Am,KY (gL x)=some x
 |.mk p c v (.mk k q n m l a t)=>by simp[gL,dL,KY,Eg,Ei,L8 l,Ma a,U2]
theorem Ma:∀ l:Z Am,Dr (qB l)=some l
 | []=>by simp[qB,Dr]
 |t::l=>by simp[qB,Dr,XC t,Ma l]
end
mutual
theorem QD:∀ (v:V) (l:Z Xp),Eg v=some l->v=.sl (qz l) false
 | v,l,h=>by
   unfold Eg at h;split at h
   . rename_i es;rw[UR es l h]
   . cases h
theorem UR:∀ (es:Z (Z V)) (l:Z Xp),Dp es=some l->es=qz l
 | [],l,h=>by simp[Dp]at h;subst h;simp[qz]
 | e :: r,l,h=>by
   unfold Dp at h;split at h
   . rename_i t m M O;cases h;rw[Xt e t M,UR r m O];simp[qz]
   . cases h
theorem Xt:∀ (c:Z V) (x:Xp),Jf c=some x->c=dL x
 | c,x,h=>by
   unfold Jf at h;split at h
   . rename_i k p n m ks as tk tn ti th ta;split at h
     . rename_i l a t M O h3;cases h;rw[QD ks l M,QE as a O,U3 h3];simp[dL]
     . cases h
   . cases h
theorem QE:∀ (v:V) (l:Z Am),Ei v=some l->v=.sl (qB l) false
 | v,l,h=>by
   unfold Ei at h;split at h
   . rename_i es;rw[UW es l h]
   . cases h
theorem UW:∀ (es:Z (Z V)) (l:Z Am),Dr es=some l->es=qB l
 | [],l,h=>by simp[Dr]at h;subst h;simp[qB]
 | e :: r,l,h=>by
   unfold Dr at h;split at h
   . rename_i t m M O;cases h;rw[Xv e t M,UW r m O];simp[qB]
   . cases h
theorem Xv:∀ (c:Z V) (x:Am),KY c=some x->c=gL x
 | c,x,h=>by
   unfold KY at h;split at h
   . rename_i q c vs k p n m ks as tk tn ti th ta;split at h
     . rename_i v l a t h0 M O h3;cases h;rw[QD ks l M,QE as a O,U3 h3,iT h0];simp[gL,dL]
     . cases h
   . cases h
end
mutual
theorem TT:∀ x:Xp,fI (dL x)=dL x
 |.mk k p n m l a t=>by simp[dL,fI,gX,IU l,IV a]
theorem IU:∀ l:Z Xp,gT (qz l)=qz l
 | []=>by simp[qz,gT]
 |t::l=>by simp[qz,gT,TT t,IU l]
theorem TV:∀ x:Am,fI (gL x)=gL x
 |.mk p c v (.mk k q n m l a t)=>by simp[gL,dL,fI,gX,IU l,IV a]
theorem IV:∀ l:Z Am,gT (qB l)=qB l
 | []=>by simp[qB,gT]
 |t::l=>by simp[qB,gT,TV t,IV l]
end
instance:iC Xp where
 cells:=dL
 dec:=Jf
 bZ:=XA
 bq:=Xt
 bM t:=by rw[bL];rfl
 norm:=TT
instance:bo Xp:=yJ
instance:iC Am where
 cells:=gL
 dec:=KY
 bZ:=XC
 bq:=Xv
 bM t:=by rw[jO];rfl
 norm:=TV
instance:bo Am:=yJ
theorem XD:∀ es:Z (Z V),Dp es=eT es:=by
 intro es
 induction es with
 |nil=>simp[Dp,eT]
 | cons e r ih =>
   simp only[Dp,eT,ih];rw[show (iC.dec e:Y Xp)=Jf e from rfl]
   grind
theorem XJ:∀ es:Z (Z V),Dr es=eT es:=by
 intro es
 induction es with
 |nil=>simp[Dr,eT]
 | cons e r ih =>
   simp only[Dr,eT,ih];rw[show (iC.dec e:Y Am)=KY e from rfl]
   grind
def zsX{k m ti th:Int}{n:Z Nat}{ks as ta:Z (Z V)}:Jf [.int .i64 k,.int .i64 p,.str n,.int .i64 m,.sl ks false,.sl as false,.int .i64 tk,.str tn,.int .i64 ti,.int .i64 th,.sl ta false] =
 W (eT ks) λl=>W (eT as) λa=>W (eT ta) λt=>some (.mk k p n m l a (.mk tk tn ti th t)):=by
 simp only[Jf,Eg,Ei,Bo,XD,XJ,Pv];cases(eT ks:Y (Z Xp))<;>cases(eT as:Y (Z Am))<;>cases(eT ta:Y (Z G))<;>rfl
def zs1{q k m ti th:Int}{c n:Z Nat}{vs ks as ta:Z (Z V)}:KY [.int .i64 q,.str c,.sl vs false,.int .i64 k,.int .i64 p,.str n,.int .i64 m,.sl ks false,.sl as false,.int .i64 tk,.str tn,.int .i64 ti,.int .i64 th,.sl ta false] =
 W (eT vs) λv=>W (eT ks) λl=>W (eT as) λa=>W (eT ta) λt=>some (.mk q c v (.mk k p n m l a (.mk tk tn ti th t))):=by
 simp only[KY,Eg,Ei,Bo,XD,XJ,Pv];cases(eT vs:Y (Z (Z Nat)))<;>cases(eT ks:Y (Z Xp))<;>cases(eT as:Y (Z Am))<;>cases(eT ta:Y (Z G))<;>rfl
@[simp] def zE2:@iC.cells Xp _=dL:=(rfl)
@[simp] def zAP:@iC.dec Xp _=Jf:=(rfl)
@[simp] def zKz (a:Xp):enc a=.agg (dL a):=(rfl)
@[simp] def zKE {c:Z V}:bo.dec (α:=Xp) (.agg c)=Jf c:=(rfl)
@[simp] def zHI (l:Z Xp):eT (l.map dL)=some l:=qD l
@[simp] theorem zgQ (l:Z Xp):gT (l.map dL)=l.map dL:=lU l
@[simp] def zm5 (l:Z Xp):((l.map dL).all λe=>e.all V.bM)=true:=nS l
@[simp] def zHv (l:Z Xp):enc l=.sl (l.map dL) false:=(rfl)
@[simp] def zHE {es:Z (Z V)}:bo.dec (α:=Z Xp) (.sl es false)=eT es:=(rfl)
@[simp] def zLE (l:Z Xp):bj 11 (l.map dL)=true:=by rw[lI];intro e he;obtain⟨a,_,rfl⟩:=aI.1 he;rw[bL];rfl
@[simp] def zMC (l:Z Xp):kS (l.map dL)=true:=Cn zm5
@[simp] def zKC (a:Am):enc a=.agg (gL a):=(rfl)
@[simp] def zKG {c:Z V}:bo.dec (α:=Am) (.agg c)=KY c:=(rfl)
@[simp] def zsZ (l:Z Am):eT (l.map gL)=some l:=qD l
@[simp] def zrQ (l:Z Am):gT (l.map gL)=l.map gL:=lU l
@[simp] def zHx (l:Z Am):enc l=.sl (l.map gL) false:=(rfl)
@[simp] def zHG {es:Z (Z V)}:bo.dec (α:=Z Am) (.sl es false)=eT es:=(rfl)
@[simp] def zLF (l:Z Am):bj 14 (l.map gL)=true:=by rw[lI];intro e he;obtain⟨a,_,rfl⟩:=aI.1 he;rw[jO];rfl
attribute [simp] zsX bL zs1 jO
def zJ3(n:Z Nat)(l:Z Entry):Bool:=l.any λx=>decide (x.name=n)
def zur:Z Entry->Z Entry
 | []=>[]
 |e::l=>if zJ3 e.name l=true then zur l else e::zur l
def Un(n:Z Nat):Z Entry->Y Scheme
 | []=>none
 |e::l=>if e.name=n then some e.scheme else Un n l
def IX(l:Z Entry)(n:Z Nat):Y Scheme:=Un n l.reverse
def zex(l:Z Entry)(e:Entry)(n:Z Nat):IX (l++[e]) n=if e.name=n then some e.scheme else IX l n:=by
 simp[IX,Un]
def Rj:Scheme:=⟨0,tT⟩
def rD(l:Z Entry)(n:Z Nat):Scheme×Bool:=((IX l n).getD Rj,(IX l n).isSome)
mutual
def V.ns:V->Bool
 |.ref cs=>H7 cs
 |.sl es _=>vR es
 |.func _ cs=>H7 cs
 |.iface _ v=>v.ns
 |.agg cs=>H7 cs
 |.tuple cs=>H7 cs
 |.sym _=>false
 |_=>true
def H7:Z V->Bool
 | []=>true
 |v::l=>v.ns&&H7 l
def vR:Z (Z V)->Bool
 | []=>true
 |e::l=>H7 e&&vR l
end
def wP:∀ {l:Z V},H7 l=true->∀ v∈l,v.ns=true
 | [],_,v,h=>by cases h
 | u::l,h,v,hv=>by
   rw[H7,aQ]at h;rcases aB.1 hv with rfl|hv
   . exact h.1
   . exact wP h.2 v hv
def TS:∀ {l:Z (Z V)},vR l=true->∀ e∈l,H7 e=true
 | [],_,v,h=>by cases h
 | u::l,h,v,hv=>by
   rw[vR,aQ]at h;rcases aB.1 hv with rfl|hv
   . exact h.1
   . exact TS h.2 v hv
def Ca:∀ {l:Z (Z V)},(∀ e∈l,H7 e=true)->vR l=true
 | [],_=>rfl
 | u::l,h=>by
   rw[vR,aQ];exact⟨h u (aD ..),Ca λv hv=>h v (aF _ hv)⟩
def Obj.ns:Obj->Bool
 |.arr _ _ es _ _ _=>vR es
 |.mp es=>es.all λp=>p.1.ns&&p.2.ns
 |.lp _ _ _ _ _ _=>false
section
variable {I ρ':Nat->Value}{w:World}{F:Nat->Prop}{μ:Nat->Nat->Y MI}
def fG.B8{v:V}{x:Value}(h:fG I w F v x):v.ns=true->fG ρ' w F v x:=by
 induction h with
 |bool b=>intro _;exact .bool b
 |int k n=>intro _;exact .int k n
 |str s=>intro _;exact .str s
 |c9=>intro _;exact .c9
 |aE=>intro _;exact .aE
 |dj=>intro _;exact .dj
 |nilFunc=>intro _;exact .nilFunc
 |nilIface=>intro _;exact .nilIface
 |sym k=>intro h;simp[V.ns]at h
 |func f=>intro _;exact .func f
 |iface t v y _ ih=>intro h;exact .iface t v y (ih (by simpa [V.ns]using h))
 | ref cs b off ys hb hc _ ih =>
   intro h;rw[V.ns]at h;exact .ref cs b off ys hb hc λi v hi=>ih i v hi (wP h v (aC hi))
 |po a c t h=>intro _;exact .po a c t h
 | qe es b off size c t ys hb hl hc _ M O ih =>
   intro h;rw[V.ns]at h;exact .qe es b off size c t ys hb hl hc (λi e j v hi hj=>ih i e j v hi hj (wP (TS h e (aC hi)) v (aC hj))) M O
 | agg cs ys C _ ih =>
   intro h;rw[V.ns]at h;exact .agg cs ys C λi v hi=>ih i v hi (wP h v (aC hi))
 | tuple cs ys C _ ih =>
   intro h;rw[V.ns]at h;exact .tuple cs ys C λi v hi=>ih i v hi (wP h v (aC hi))
def dV.B8{v:V}{x:Value}(h:dV I w F μ v x):v.ns=true->dV ρ' w F μ v x:=by
 induction h with
 |pure hp=>intro h;exact .pure (hp.B8 h)
 |ptr id g off m hm=>intro _;exact .ptr id g off m hm
 |own id g off len cap c m hm M O h3 h4=>intro _;exact .own id g off len cap c m hm M O h3 h4
 |map id m hm=>intro _;exact .map id m hm
 |ly id m hm=>intro _;exact .ly id m hm
 | func f cs ys C _ ih =>
   intro h;rw[V.ns]at h;exact .func f cs ys C λi v hi=>ih i v hi (wP h v (aC hi))
 |iface t v y _ ih=>intro h;exact .iface t v y (ih (by simpa [V.ns]using h))
 | agg cs ys C _ ih =>
   intro h;rw[V.ns]at h;exact .agg cs ys C λi v hi=>ih i v hi (wP h v (aC hi))
 | tuple cs ys C _ ih =>
   intro h;rw[V.ns]at h;exact .tuple cs ys C λi v hi=>ih i v hi (wP h v (aC hi))
def o9.B8{id:Nat}{o:Obj}(h:o9 I w F μ P id o)(hn:o.ns=true):o9 ρ' w F μ P id o:=by
 cases o with
 | arr size gen es exact fz row =>
   intro m hm;have a:=h m hm;obtain⟨cells,el,c1,c2,c3,c4,c5⟩:=a.cells
   exact⟨a.eV,a.hlen,⟨cells,el,c1,c2,c3,c4,λk e j v he hv=>by
    obtain⟨y,y1,y2,y3⟩:=c5 k e j v he hv;have gE:=wP (TS hn e (aC he)) v (aC hv)
    exact⟨y,y1,y2.B8 gE,λhr=>(y3 hr).B8 gE⟩⟩,a.hf,a.hn⟩
 | mp es =>
   intro m hm;have a:=h m hm;obtain⟨en,clock,c1,c2,c3⟩:=a.entries;replace hn:(es.all λp=>p.1.ns&&p.2.ns)=true:=hn;rw[aj]at hn
   exact⟨⟨en,clock,c1,c2,λi k v hi=>by
    obtain⟨e,e1,e2,e3⟩:=c3 i k v hi;have:=hn (k,v) (aC hi);rw[aQ]at this
    exact⟨e,e1,e2.B8 this.1,e3.B8 this.2⟩⟩,a.hn⟩
 |lp _ _ _ _ _ _=>cases hn
end
def zuG(j:Nat):V->Bool
 |.sym k=>Nat.beq k j
 |_=>false
def mix(π:Nat->Nat):Z V->Z V->Z V
 |c::cs,d::ds=>(match c with|.sym _=>d|c=>c.jl π)::mix π cs ds
 |_,_=>[]
def wm:Nat->Z V->Bool
 |_,[]=>true
 |j,c::cs=>(zuG j c||c.ns)&&wm (j+1) cs
theorem Gj:∀ {cs ds:Z V},cs.length=ds.length->(mix π cs ds).length=cs.length
 | [],[],_=>rfl
 |_::cs,_::ds,h=>by simp only[mix,aX]at h ⊢;rw[Gj (by omega)]
def R5:∀ {cs ds:Z V} {j:Nat} {c:V},cs.length=ds.length->cs[j]?=some c->∃ d,ds[j]?=some d/\(mix π cs ds)[j]?=some (match c with|.sym _=>d|c=>c.jl π)
 | [],_,_,_,_,h=>by simp at h
 | c::cs,d::ds,0,x,_,h=>by
   cases h;exact⟨d,rfl,rfl⟩
 | c::cs,d::ds,j+1,x,hl,h=>by
   simp only[aX]at hl;exact R5 (cs:=cs) (ds:=ds) (j:=j) (by omega) h
def OB:∀ {cs:Z V} {k j:Nat} {c:V},wm k cs=true->cs[j]?=some c->c=.sym (k+j)\/c.ns=true
 | [],_,_,_,_,h=>by simp at h
 | c :: cs,k,0,x,C,h=>by
   cases h;rw[wm,aQ,iJ]at C;rcases C.1 with h|h
   . left;unfold zuG at h;split at h
     . rw[beq_true.1 h];rfl
     . cases h
   . exact .inr h
 | c::cs,k,j+1,x,C,h=>by
   rw[wm,aQ]at C;have:=OB (cs:=cs) (k:=k+1) (j:=j) (c:=x) C.2 h
   rwa [show k+1+j=k+(j+1) by omega]at this
end Go.J
set_option maxRecDepth 100000
set_option maxHeartbeats 4000000
namespace Go.J
open bo (enc)
def O3{π σ:Nat->Nat}:∀ {cs ds:Z V},cs.map (V.jl π)=cs.map (V.jl σ)->mix σ cs ds=mix π cs ds
 | [],ds,_=>rfl
 |_::_,[],_=>rfl
 | c::cs,d::ds,h=>by
   simp only[aR,fT]at h;simp only[mix];rw[O3 h.2];cases c<;>first|rfl|exact congrArg (·::mix π cs ds) h.1.symm
def Obj.zjx(π:Nat->Nat)(ds:Z V):Obj->Obj
 |.arr sz g [cs] ex fz row=>.arr sz g [mix π cs ds] ex fz row
 |o=>o.cq π
def mI(s:Nat)(ds:Z V)(π:Nat->Nat)(p:Nat×Obj):Obj:=if p.1=s then p.2.zjx π ds else p.2.cq π
def zv8(s:Nat)(ds:Z V)(C:HS)(k k':Nat)(π:Nat->Nat)(cI:Z (Nat×Obj)):HS :=
 { H:=xY C.H (cI.map λp=>(news C.n k π p.1,mI s ds (news C.n k π) p)),n:=C.n+(k'-k),log:=(cI.map λp=>news C.n k π p.1)++C.log }
theorem znC{π:Nat->Nat}{ds:Z V}{o:Obj}:(o.zjx π ds).gen=o.gen:=by
 unfold Obj.zjx;split
 . rfl
 . exact Obj.Gc _
theorem zr7{π:Nat->Nat}{ds:Z V}{o:Obj}:(o.zjx π ds).fz=o.fz:=by
 unfold Obj.zjx;split
 . rfl
 . exact Obj.YJ _
theorem zi0{s:Nat}{ds:Z V}{π:Nat->Nat}{p:Nat×Obj}:(mI s ds π p).gen=p.2.gen:=by
 grind [mI,znC,Obj.Gc]
theorem zm1{s:Nat}{ds:Z V}{π:Nat->Nat}{p:Nat×Obj}:(mI s ds π p).fz=p.2.fz:=by
 grind [mI,zr7,Obj.YJ]
section
variable {I ρ':Nat->Value}{w:World}{F:Nat->Prop}{μ μ':Nat->Nat->Y MI}{P:Program}{A:Nat->Bool}{π:Nat->Nat}
theorem o9.zCe {id sz:Nat} {cs ds:Z V} (h:o9 I w F μ P (π id) (.arr sz 0 [mix π cs ds] true false false)) (hl:cs.length=ds.length) (ir:wm 0 cs=true)
 (gS:cs.all (V.zM A)=true) (hg:∀ m,μ' id 0=some m->μ (π id) 0=some m) (hμ:∀ id,A id=true->∀ g m,μ (π id) g=some m->μ' id g=some m)
 (hy:∀ m,μ (π id) 0=some m->∀ cells el,w.heap[m.b]?=some (.cells cells el (0,0))->∀ j d y,ds[j]?=some d->(mix π cs ds)[j]?=some d->cells[j]?=some y->ρ' j=y):o9 ρ' w F μ' P id (.arr sz 0 [cs] true false false):=by
 intro m hm;have a:=h m (hg _ hm);obtain⟨cells,el,c1,c2,c3,c4,c5⟩:=a.cells;rw[aj]at gS;refine⟨a.eV,λe he=>?_,⟨cells,el,c1,c2,by simpa using c3,by simpa using c4,λk e j v he hv=>?_⟩,a.hf,a.hn⟩
 . obtain rfl:=ay.1 he;have:=a.hlen (mix π e ds) (ay.2 rfl)
   rwa [Gj hl]at this
 . have hk:k=0:=by
    grind
   subst hk;obtain rfl:cs=e:=by simpa using he
   obtain⟨d,hd,jz⟩:=R5 (π:=π) hl hv;obtain⟨y,y1,y2,_⟩:=c5 0 _ j _ rfl jz;refine⟨y,y1,?_,λh=>by cases h⟩;rcases OB ir hv with rfl|hn
   . rw[gI];have:=hy m (hg _ hm) cells el c1 j d y hd jz (by simpa using y1);rw[<- this];exact .pure (.sym j)
   . have lz:dV I w F μ (v.jl π) y:=by
      grind [V.ns]
     exact(lz.zhM (gS v (aC hv)) hμ).B8 hn
theorem o9.zv7 {id sz:Nat} {cs ds:Z V} (h:o9 ρ' w F μ P id (.arr sz 0 [cs] true false false)) (hl:cs.length=ds.length) (ir:wm 0 cs=true)
 (gS:cs.all (V.zM A)=true) (hg:∀ m,μ' (π id) 0=some m->μ id 0=some m) (hμ:∀ id,A id=true->∀ g m,μ id g=some m->μ' (π id) g=some m)
 (hy:∀ m,μ id 0=some m->∀ j d,cs[j]?=some (.sym j)->ds[j]?=some d->dV I w F μ' d (ρ' j)):o9 I w F μ' P (π id) (.arr sz 0 [mix π cs ds] true false false):=by
 intro m hm;have a:=h m (hg _ hm);obtain⟨cells,el,c1,c2,c3,c4,c5⟩:=a.cells;rw[aj]at gS;refine⟨a.eV,λe he=>?_,⟨cells,el,c1,c2,by simpa using c3,by simpa using c4,λk e j v he hv=>?_⟩,a.hf,a.hn⟩
 . obtain rfl:=ay.1 he;rw[Gj hl];exact a.hlen cs (ay.2 rfl)
 . have hk:k=0:=by
    grind
   subst hk;obtain rfl:mix π cs ds=e:=by simpa using he
   have kx:j<cs.length:=by
    grind [List.getElem?_eq_some_iff,Gj]
   obtain⟨c,hc⟩:∃ c,cs[j]?=some c:=⟨_,ax kx⟩;obtain⟨d,hd,jz⟩:=R5 (π:=π) hl hc;obtain⟨y,y1,y2,_⟩:=c5 0 cs j c rfl hc;rw[jz]at hv;cases hv;refine⟨y,y1,?_,λh=>by cases h⟩;rcases OB ir hc with rfl|hn
   . rw[gI]at hc y2
     have e:y=ρ' j:=by
      cases y2 with|pure h=>cases h;rfl
     grind
   . have lz:dV I w F μ' (c.jl π) y:=(y2.B8 hn).zhF (gS c (aC hc)) hμ
     grind [V.ns]
end
section
variable {I:Nat->Value}{P:Program}{f:FuncId}{fn:Func}{sc:SC}{dq:Z V}{T:PT V}{v0:V}{OL cI:Z (Nat×Obj)}{k k':Nat}
theorem zgt (hρ:Good I) {s sz:Nat} {cs s5 ds:Z V} (hf:P.funcs[f]?=some fn) (hb:fn.body.bind aU=some sc) (he:jE fn.ntmps dq 0 .leaf=some T)
 (h:∀ ρ',Good ρ'->∃ (E:Env) (K:V->HS->Prop),E.P=P/\(∀ (s:Start) (e:Ending) (w:World),Hr ρ' P s K e w->Hr ρ' P s (aH k v0 cI) e w)/\Ls ρ' E k fn.ntmps sc T { H:=dW OL,n:=k,log:=[] } (Leaves P fn K))
 (R7:OL.map Prod.fst=List.range k) (Gw:cI.map Prod.fst=List.range k') (hk:k<=k') (gS:∀ p∈OL,p.2.in (cr OL)=true) (gw:∀ p∈cI,p.2.in (cr cI)=true/\p.2.fz=false) (ov:v0.tJ (cr cI)=true) (HO:∀ v∈dq,v.tJ (cr OL)=true)
 (lx:(s,Obj.arr sz 0 [cs] true false false)∈OL) (GO:(s,Obj.arr sz 0 [s5] true false false)∈cI) (hlen:cs.length=ds.length) (hlen':s5.length=ds.length) (b8:ds.length<=gB) (ir:wm 0 cs=true) (zJK:wm 0 s5=true) (Ek:∀ d∈ds,d.mM=true) (gO:∀ j:Nat,s5[j]?=some (.sym j)->cs[j]?=some (.sym j))
 (sq:∀ p∈OL,p.1≠s->p.2.ns=true) (zJV:∀ p∈cI,p.1≠s->p.2.ns=true) (zD3:v0.ns=true) (ox:∀ v∈dq,v.ns=true)
 {C:HS} {π:Nat->Nat} (hπ:∀ i j,i<k->j<k->π i=π j->i=j) (hH:∀ p∈OL,C.H.get (π p.1)=some (mI s ds π p)) (hn:∀ i,i<k'-k->C.H.get (C.n+i)=none) (D3:∀ i,i<k->π i<C.n) :
 aT I P f (dq.map (V.cq π)) C (v0.cq (news C.n k π)) (zv8 s ds C k k' π cI):=by
 have eL:∀ {OL:Z (Nat×Obj)} {k:Nat},OL.map Prod.fst=List.range k->∀ {i j:Nat} {o o':Obj},(i,o)∈OL->(j,o')∈OL->i=j->o=o':=λh i j o o' M O e=>by
  subst e;have e1:=vS (by rw[h];exact iq) M;rw[vS (by rw[h];exact iq) O]at e1
  grind
 have cC:∀ {OL:Z (Nat×Obj)} {k:Nat},OL.map Prod.fst=List.range k->∀ {i:Nat} {o:Obj},(i,o)∈OL->i<k:=λh i o M=>(uV h i).1 (di.2 ⟨_,M,beq_true.2 rfl⟩)
 intro X w F μ xs hR hD hO hA
 let val:Nat->Value:=λj=>match μ (π s) 0 with
  | some m=>match w.heap[m.b]? with
    |some (.cells cells _ _)=>cells.getD j (.int .i64 0)
    |_=>.int .i64 0
  |none=>.int .i64 0
 let ρ':Nat->Value:=λj=>if j<ds.length then (if (val j).oneCell'=true then val j else .int .i64 0)else I j
 have fF:Good ρ':=by
  intro j;show (if j<ds.length then (if (val j).oneCell'=true then val j else .int .i64 0)else I j).oneCell'=true;split
  . split
    . assumption
    . rfl
  . exact hρ j
 have hsk:s<k:=dB.1 (by rw[<- R7];exact aI.2 ⟨_,lx,rfl⟩)
 have HV:C.H.get (π s)=some (.arr sz 0 [mix π cs ds] true false false):=by
  have:=hH _ lx
  rwa [show mI s ds π (s,Obj.arr sz 0 [cs] true false false)=.arr sz 0 [mix π cs ds] true false false from if_pos rfl]at this
 have hOr:=hR.obj _ _ HV
 have kj:∀ m,μ (π s) 0=some m->∀ cells el,w.heap[m.b]?=some (.cells cells el (0,0))->∀ j d y,ds[j]?=some d->(mix π cs ds)[j]?=some d->cells[j]?=some y->ρ' j=y:=by
  intro m hm cells el hc j d y hd lj hy;have kx:=(aM.1 hd).1;obtain⟨cx,el',c1,c2,c3,c4,c5⟩:=(hOr m hm).cells;rw[hc]at c1;cases c1;obtain⟨y',y1,y2,_⟩:=c5 0 _ j d rfl lj
  have e:y'=y:=by
   grind
  subst e
  have e2:val j=y':=by
   show (match μ (π s) 0 with|some m=>_|none=>_)=_;rw[hm];show (match w.heap[m.b]? with|some (.cells cells _ _)=>cells.getD j (.int .i64 0)|_=>_)=_;rw[hc];show cells.getD j _=_;rw[bR,hy];rfl
  grind [Ve,List.mem_of_getElem?]
 have iv:∀ m,μ (π s) 0=some m->∀ j d,cs[j]?=some (.sym j)->ds[j]?=some d->dV I w F μ d (ρ' j):=by
  intro m hm j d hc hd;obtain⟨d',xT,jz⟩:=R5 (π:=π) hlen hc;rw[hd]at xT;cases xT;obtain⟨cells,el,c1,c2,c3,c4,c5⟩:=(hOr m hm).cells;obtain⟨y,y1,y2,_⟩:=c5 0 _ j d rfl jz
  grind
 obtain⟨E,K,rfl,hK,h⟩:=h ρ' fF
 have O:∀ {cs:Z V} {A:Nat->Bool},(Obj.arr sz 0 [cs] true false false).in A=true->cs.all (V.zM A)=true:=λ{cs A} h=>by
  replace h:(([cs]:Z (Z V)).all λe=>e.all λv=>if false=true then v.bM else v.zM A)=true:=h;simpa using h
 refine zcr (RO:=mI s ds) (λ_ _=>zi0) (λ_ _=>zm1) hf hb he h hK R7 Gw hk (λp hp=>(gw p hp).2) hπ hH hn D3 hR hD hO (λv hv=>?_) (λμ0 ur=>⟨λi o hp=>?_,by simpa using hA.1,λi v hi=>?_⟩) λ{w' F1 μ2 μ'} Pc zEt tz Zh UE=>⟨λj o h0 hr=>?_,λx hr=>?_⟩
 . have e:ρ' (gB+v)=I (gB+v):=if_neg (by have:=b8;omega);rw[e]at hv ⊢;exact hR.gl v hv
 . have hi:=cC R7 hp;by_cases hsi:i=s
   . obtain rfl:=eL R7 hp lx hsi
     grind [o9.zCe,uV]
   . have xd:=hH _ hp;rw[show mI s ds π (i,o)=o.cq π from if_neg hsi]at xd;exact o9.B8 (o9.AN (π:=π) (A:=cr OL) (hR.obj _ _ xd) (gS _ hp) (λg m hm=>by rw[ur i hi]at hm;exact hm) (λj hj g m hm=>by rw[ur j ((uV R7 j).1 hj)];exact hm)) (sq _ hp hsi)
 . obtain⟨x,hx,hr⟩:=hA.2 i (v.cq π) (by simp[hi]);exact⟨x,hx,(hr.AN (A:=cr OL) (HO v (aC hi)) λj hj g m hm=>by rw[ur j ((uV R7 j).1 hj)];exact hm).B8 (ox v (aC hi))⟩
 . have hj:=cC Gw h0;by_cases hsj:j=s
   . obtain rfl:=eL Gw h0 GO hsj;subst hsj;rw[show mI j ds (news C.n k π) (j,Obj.arr sz 0 [s5] true false false)=.arr sz 0 [mix (news C.n k π) s5 ds] true false false from if_pos rfl];refine o9.zv7 (A:=cr cI) hr hlen' zJK (O (gw _ GO).1) (λm hm=>by rw[Zh j hj]at hm;exact hm) (λi hi g m hm=>by rw[Zh i ((uV Gw i).1 hi)];exact hm) λm hm jj d hc pS=>?_
     obtain⟨m0,hE⟩:∃ m0,μ (π j) 0=some m0:=by
      refine aV λkq=>?_
      rw[UE j hsk (λg=>by
       cases g with
       |zero=>exact Option.eq_none_iff_forall_ne_some.2 λm h=>kq ⟨m,h⟩
       |succ g=>exact hR.y7 _ _ HV (g+1) (Nat.succ_pos g)) 0]at hm
      cases hm
     exact(iv m0 hE jj d (gO jj hc) pS).mono I Pc zEt tz
   . rw[show mI s ds (news C.n k π) (j,o)=o.cq (news C.n k π) from if_neg hsj];exact o9.back (A:=cr cI) (hr.B8 (zJV _ h0 hsj)) (gw _ h0).1 (λg m hm=>by rw[Zh j hj]at hm;exact hm) (λi hi g m hm=>by rw[Zh i ((uV Gw i).1 hi)];exact hm)
 . have q:dV I w' F1 μ2 v0 x:=hr.B8 zD3;refine q.back (A:=cr cI) ov λi hi g m hm=>?_
   rw[Zh i ((uV Gw i).1 hi)];exact hm
end
section
variable {I:Nat->Value}{P:Program}{w w':World}{F F':Nat->Prop}{μ μ':Nat->Nat->Y MI}{C cm:HS}
def fG.part{v:V}{x0 x:Value}(h0:fG I w F v x0)(h:dV I w' F' μ' v x)(μ2:Nat->Nat->Y MI):dV I w' F' μ2 v x:=by
 induction h0 generalizing x with
 |bool b=>cases h with|pure h=>exact .pure h
 |int k n=>cases h with|pure h=>exact .pure h
 |str s=>cases h with|pure h=>exact .pure h
 |c9=>cases h with|pure h=>exact .pure h
 |aE=>cases h with|pure h=>exact .pure h
 |dj=>cases h with|pure h=>exact .pure h
 |nilFunc=>cases h with|pure h=>exact .pure h
 |nilIface=>cases h with|pure h=>exact .pure h
 |sym k=>cases h with|pure h=>exact .pure h
 | func f =>
   obtain⟨ys,rfl,C,hc⟩:=dV.AP I h;exact .func f [] ys C λi v hi=>by simp at hi
 | iface t v y _ ih =>
   obtain⟨y',rfl,hy⟩:=dV.Cx I h;exact .iface t v y' (ih hy)
 |ref cs b off ys=>exact .pure (dV.Gd I h)
 |po a c t=>exact .pure (dV.CR I h)
 |qe es b off size c t ys=>exact .pure (dV.CR I h)
 | agg cs ys C _ ih =>
   obtain⟨zs,rfl,hz,hc⟩:=dV.wQ I h;exact .agg cs zs hz λi v hi=>ih i v hi (hc i v hi)
 | tuple cs ys C _ ih =>
   obtain⟨zs,rfl,hz,hc⟩:=dV.qx I h;exact .tuple cs zs hz λi v hi=>ih i v hi (hc i v hi)
def dV.part{v:V}{x0 x:Value}(h0:dV I w F μ v x0)(h:dV I w' F' μ' v x)(hm:∀ id g m,μ id g=some m->μ' id g=some m):dV I w' F' μ v x:=by
 induction h0 generalizing x with
 |pure h0=>exact h0.part h μ
 | ptr id g off m hE =>
   obtain⟨m',M,rfl⟩:=dV.yc I h;rw[hm _ _ _ hE]at M;cases M;exact .ptr id g off m hE
 | own id g off len cap c m hE =>
   obtain⟨m',c',M,rfl,O,h3,h4,h5⟩:=dV.wM I h;rw[hm _ _ _ hE]at M;cases M;exact .own id g off len cap c' m hE O h3 h4 h5
 | map id m hE =>
   obtain⟨m',M,rfl⟩:=dV.Gm I h;rw[hm _ _ _ hE]at M;cases M;exact .map id m hE
 | ly id m hE =>
   obtain⟨m',M,rfl⟩:=dV.Mt I h;rw[hm _ _ _ hE]at M;cases M;exact .ly id m hE
 | func f cs ys C _ ih =>
   obtain⟨zs,rfl,hz,hc⟩:=dV.AP I h;exact .func f cs zs hz λi v hi=>ih i v hi (hc i v hi)
 | iface t v y _ ih =>
   obtain⟨y',rfl,hy⟩:=dV.Cx I h;exact .iface t v y' (ih hy)
 | agg cs ys C _ ih =>
   obtain⟨zs,rfl,hz,hc⟩:=dV.wQ I h;exact .agg cs zs hz λi v hi=>ih i v hi (hc i v hi)
 | tuple cs ys C _ ih =>
   obtain⟨zs,rfl,hz,hc⟩:=dV.qx I h;exact .tuple cs zs hz λi v hi=>ih i v hi (hc i v hi)
def o9.part{id:Nat}{o:Obj}(h0:o9 I w F μ P id o)(h:o9 I w' F' μ' P id o)(hm:∀ id g m,μ id g=some m->μ' id g=some m):o9 I w' F' μ P id o:=by
 cases o with
 | arr size gen es exact fz row =>
   intro m hE;have a:=h m (hm _ _ _ hE);have a0:=h0 m hE;obtain⟨cells,el,c1,c2,c3,c4,c5⟩:=a.cells;obtain⟨zKQ,zOl,_,_,_,_,d5⟩:=a0.cells;refine⟨a.eV,a.hlen,⟨cells,el,c1,c2,c3,c4,λk e j v he hv=>?_⟩,a.hf,a.hn⟩;obtain⟨y,y1,y2,y3⟩:=c5 k e j v he hv;obtain⟨z,_,z2,_⟩:=d5 k e j v he hv;exact⟨y,y1,z2.part y2 hm,y3⟩
 |mp es=>exactλm hE=>h m (hm _ _ _ hE)
 | lp fn T ps assign body busy =>
   intro m hE;have a:=h m (hm _ _ _ hE);have a0:=h0 m hE;obtain⟨l,l1,l2,l4,l5,l6,l7,l8⟩:=a.zCD;obtain⟨k,_,_,_,_,_,k7,_⟩:=a0.zCD;refine⟨⟨l,l1,l2,l4,l5,l6,λt v ht=>?_,l8⟩,a.hn⟩;obtain⟨x,x1,x2⟩:=l7 t v ht;obtain⟨z,_,z2⟩:=k7 t v ht;exact⟨x,x1,z2.part x2 hm⟩
theorem aT.quiet{f:FuncId}{vs:Z V}{v:V}(h:aT I P f vs C v cm)(hv:v.pure=true)(eL:∀ id o,C.H.get id=some o->cm.H.get id=some o)
 (bc:∀ id,id<C.n->C.H.get id=none->cm.H.get id=none):aT I P f vs C v C:=by
 intro X w F μ xs hR hD hO hA;have Nw:pj X cm:=λid hx=>bc id (jK λhle=>hD.2 id hle hx) (hO id hx)
 refine CallsIn.mono (h X w F μ xs hR hD Nw hA) λe w' he=>?_
 cases e with
 | returned x =>
   obtain⟨F1,μ1,g1,g2,g3⟩:=he
   refine⟨F1,μ,⟨λid g m hm=>bY (hR.lt id g m hm) g3.size,g1.Bj,λid o ho=>?_,hR.inj,hR.y7,g1.gl⟩,.pure (dV.BZ I g2 hv),
    ⟨g3.io,g3.size,g3.bw,g3.fm,g3.Ci,λ_ _ _ hm=>hm,λb hb=>.inl hb,λ_ hh=>hh,λ_ _ _=>rfl,λ_ _ hh=>hh,λid g m hm=>.inr ⟨id,g,m,hm,rfl⟩⟩⟩
   exact(hR.obj id o ho).part (g1.obj id o (eL id o ho)) g3.mm
 |panicked c=>exact he
 |outgrown=>exact he
end
end Go.J
