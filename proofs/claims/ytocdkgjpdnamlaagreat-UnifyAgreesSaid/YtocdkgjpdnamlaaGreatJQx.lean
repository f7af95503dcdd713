import Derived.Test.YtocdkgjpdnamlaaGreatJPy
import Derived.Test.YtocdkgjpdnamlaaGreatJP
import Derived.Test.YtocdkgjpdnamlaaGreatJQ
import Derived.Test.YtocdkgjpdnamlaaGreatJY
set_option linter.all false
noncomputable section
/- The law UnifySame: after an equation its sides are the same,and it changes nothing more. -/
set_option maxRecDepth 100000
namespace Go.J
open Enc (enc)
namespace Store
def wN(s:Store)(a b:Ty):Prop:=∀ r,Rz s.w16 a r↔Rz s.w16 b r
theorem wN.zcD{s:Store}{a b:Ty}(h:s.w16 a=s.w16 b):wN s a b:=fun r=>by rw[gH,gH,h]
theorem wN.symm{s:Store}{a b:Ty}(h:wN s a b):wN s b a:=fun r=>(h r).symm
theorem wN.trans{s:Store}{a b c:Ty}(h:wN s a b)(k:wN s b c):wN s a c:=fun r=>(h r).trans (k r)
theorem jZ{s:Store}{a:Ty}(h:s.bound a=false):s.w16 a=a:=kS h _
theorem YI{s:Store}{a:Ty}(h:s.Fin a):s.w16 (s.w16 a)=s.w16 a:=jZ h.walk.1
theorem zb7{s:Store}{t:Ty}(h:s.Fin t):∃ r,Rz s.w16 t r:=by
 have list:∀ l:List Ty,(∀ u∈l,∃ r,Rz s.w16 u r)->∃ m,wG s.w16 l m:=by
  intro l
  induction l with
  |nil=>intro _;exact⟨[],.nil⟩
  | cons u l ih =>
    intro hh;obtain⟨r,hr⟩:=hh u (List.mem_cons_self ..);obtain⟨m,hm⟩:=ih fun v hv=>hh v (List.mem_cons_of_mem _ hv)
    exact⟨r::m,.cons hr hm⟩
 have key:s.Fin t/\∃ r,Rz s.w16 t r:=by
  refine Fin.ind (p:=fun t=>s.Fin t/\∃ r,Rz s.w16 t r) (fun t hb ih=>?_) (fun t hb ih=>?_) h
  . obtain⟨h1,r,hr⟩:=ih;have hf:=Fin.zus hb h1;exact⟨hf,r,((wN.zcD (by rw[zN hf hb]:s.w16 t=s.w16 (s.to t))) r).2 hr⟩
  . have hf:=Fin.zqA hb fun u hu=>(ih u hu).1
    obtain⟨m,hm⟩:=list t.args fun u hu=>(ih u hu).2
    exact⟨hf,_,gH.2 ⟨m,by rw[jZ hb];exact hm,rfl⟩⟩
 exact key.2
section
variable {n S:Nat}{s s':Store}
theorem zdr(g:Gr s s'){t:Ty}(hb:s.bound t=true):s'.bound t=true/\s'.to t=s.to t:=by
 obtain⟨hk,i,x,hi,hl,hx,hxb,hto⟩:=gG hb;obtain⟨x',hx',g1⟩:=g.2 i x hx;obtain⟨g2,g3⟩:=g1.bound hxb;have e:s'.slot? t.id=some x':=by rw[hi,slot?_nat];exact hx'
 refine⟨by rw[j6 hk e];exact g2,?_⟩;rw[hto,<- g3];unfold Store.to;rw[e]
theorem za6(hs:bM n S s)(hs':bM n S s')(g:Gr s s'){a:Ty}(ha:bT n S a):s'.w16 a=s'.w16 (s.w16 a):=by
 have key:bT n S a->s'.w16 a=s'.w16 (s.w16 a):=by
  refine Fin.ind (p:=fun a=>bT n S a->s'.w16 a=s'.w16 (s.w16 a)) (fun t hb ih ht=>?_) (fun t hb _ _=>by rw[jZ hb]) (hs.nJ _ ha);obtain⟨g1,g2⟩:=zdr g hb;have hto:=hs.to hb;rw[zN (hs.nJ _ ht) hb,zN (hs'.nJ _ ht) g1,g2];exact ih hto
 exact key ha
theorem znI{w w':Ty->Ty}{as l:List Ty}(h:wG w as l)(hp:∀ x∈as,∀ y∈l,Rz w x y->∀ q,Rz w' x q↔Rz w' y q):∀ m,wG w' as m↔wG w' l m:=by
 induction h with
 |nil=>intro m;exact Iff.rfl
 | cons hx _ ih =>
   rename_i x y as l hxl;have ih:=ih fun u hu v hv=>hp u (List.mem_cons_of_mem _ hu) v (List.mem_cons_of_mem _ hv)
   have h1:=hp x (List.mem_cons_self ..) y (List.mem_cons_self ..) hx;intro m;constructor
   . intro hh
     cases hh with
     |cons h2 h3=>exact .cons ((h1 _).1 h2) ((ih _).1 h3)
   . intro hh
     cases hh with
     |cons h2 h3=>exact .cons ((h1 _).2 h2) ((ih _).2 h3)
theorem tC{t:Ty}(h:t.kind≠1):s.bound t=false:=by
 grind [ng]
theorem Ue (hs:bM n S s) (hs':bM n S s') (g:Gr s s'):∀ (r a:Ty),bT n S a->Rz s.w16 a r->∀ q,Rz s'.w16 a q↔Rz s'.w16 r q:=by
 intro r
 induction r using Ty.ind with
 | h r ih =>
   intro a ha hr;obtain⟨l,h1,h2⟩:=gH.1 hr;have ht:bT n S (s.w16 a):=hs.bX (Nat.le_refl S) (s.slots.length+1) ha;have e1:=za6 hs hs' g ha;generalize s.w16 a=t at h1 h2 ht e1;by_cases hk:t.kind=1
   . have zH2:=ht.CX hk;rw[zH2]at h1
     have hl:l=[]:=by
      cases h1;rfl
     have:r=t:=by
      rw[h2,hl];obtain⟨k,nm,i,hm,al⟩:=t
      simp_all
     rw[this];exact wN.zcD (by rw[e1])
   . have hkr:r.kind=t.kind:=by rw[h2];rfl
     have w1:s'.w16 t=t:=jZ (tC hk);have w2:s'.w16 r=r:=jZ (tC (by rw[hkr];exact hk));have hra:r.args=l:=by rw[h2];rfl
     have hmap:=znI (w':=s'.w16) h1 fun x hx y hy hxy=>ih y (by rw[hra];exact hy) x (ht.arg hx) hxy
     simp_all [gH]
theorem wN.mono(hs:bM n S s)(hs':bM n S s')(g:Gr s s'){a b:Ty}(ha:bT n S a)(hb:bT n S b)(h:wN s a b):wN s' a b:=by
 obtain⟨r,hr⟩:=zb7 (hs.nJ _ ha);intro q;exact(Ue hs hs' g r a ha hr q).trans (Ue hs hs' g r b hb ((h r).1 hr) q).symm
theorem zkH{x y:Ty}(hx:x.kind≠1)(hc:¬ clash x y)(h:∀ m,wG s.w16 x.args m↔wG s.w16 y.args m):wN s x y:=by
 unfold clash at hc;simp only[not_or,Classical.not_not]at hc;obtain⟨c1,c2,c3,c4,c5⟩:=hc;have w1:s.w16 x=x:=jZ (tC hx);have w2:s.w16 y=y:=jZ (tC (by rw[<- c1];exact hx));intro q
 grind [gH]
theorem znJ:∀ (l m:List Ty),l.length=m.length->(∀ p∈l.zip m,wN s p.1 p.2)->∀ q,wG s.w16 l q↔wG s.w16 m q:=by
 intro l
 induction l with
 | nil=>intro m h _ q;cases m with
   |nil=>exact Iff.rfl
   |cons _ _=>simp at h
 | cons x l ih =>
   intro m h hp q
   cases m with
   |nil=>simp at h
   | cons y m =>
     have h1:=hp (x,y) (by simp);have h2:=ih m (by simpa using h) fun p hp2=>hp p (by simp[hp2])
     constructor
     . intro hh;cases hh with
       |cons a b=>exact .cons ((h1 _).1 a) ((h2 _).1 b)
     . intro hh;cases hh with
       |cons a b=>exact .cons ((h1 _).2 a) ((h2 _).2 b)
end
end Store
end Go.J
/- The law UnifySame: after an equation its sides are the same,and it changes nothing more. -/
set_option maxRecDepth 100000
namespace Go.J
open Enc (enc)
namespace Store
section
variable {n S:Nat}{s s':Store}
theorem Dh{i:Nat}{t:Ty}{t0:Slot}(hi:s.slots[i]?=some t0)(hb:t0.bound=true)(ht:t0.type=t)(hf:s.Fin (aM (i:Int))):wN s (aM (i:Int)) t:=by
 have e:s.slot? (aM (i:Int)).id=some t0:=by show s.slot? (i:Int)=_;rw[slot?_nat];exact hi
 have h1:s.bound (aM (i:Int))=true:=by rw[j6 rfl e];exact hb
 have h2:s.to (aM (i:Int))=t:=by unfold Store.to;rw[e];exact ht
 grind [wN.zcD,zN]
theorem PG(h:bM n S s)(hS:1<=S){i j:Nat}(hi:i<n)(hj:j<n)(h1:s.bound (aM (i:Int))=false)(h2:s.bound (aM (j:Int))=false):wN (s.join (i:Int) (j:Int)) (aM (i:Int)) (aM (j:Int)):=by
 have ht:=(join_step h hS hi hj h1 h2).iW;have hil:i<s.slots.length:=by rw[h.len];exact hi
 have hjl:j<s.slots.length:=by rw[h.len];exact hj
 revert ht
 unfold join;split
 . rename_i e;intro _;rw[e];exact fun _=>Iff.rfl
 rename_i hne
 have key:∀ a b:Nat,a<s.slots.length->b<n->∀ x y:Slot,y.bound=true->y.type=aM (a:Int)->bM n S ((s.set (a:Int) x).1.set (b:Int) y).1->wN ((s.set (a:Int) x).1.set (b:Int) y).1 (aM (b:Int)) (aM (a:Int)):=by
  intro a b ha hb x y e1 e2 ht;have hb':b<(s.set (a:Int) x).1.slots.length:=by rw[eX ha];simpa [h.len]using hb
  exact Dh (FB hb' y) e1 e2 (ht.fin b hb)
 unfold joinL xE;by_cases hij:i<j
 . rw[Int.min_eq_left (by omega:(i:Int)<=j),Int.max_eq_right (by omega:(i:Int)<=j)];exact fun ht=>(key i j hil hj _ _ rfl rfl ht).symm
 grind
theorem Ig(h:bM n S s)(hS:1<=S)(hn:n*S+S<=100000){i:Nat}(hi:i<n)(h0:s.bound (aM (i:Int))=false){t:Ty}(ht:bT n S t)(ho:(s.bindM (i:Int) t).2=0):wN (s.bindM (i:Int) t).1 (aM (i:Int)) t:=by
 have hT:=(yT h hS hn hi h0 ht).iW;obtain⟨v1,v2,v3⟩:=h.vars hS ht hn;have ZP:i<s.slots.length:=by rw[h.len];exact hi
 revert ho hT
 unfold bindM;split
 . omega
 split
 . omega
 split
 . omega
 split
 . omega
 intro _ hT;have hl:=(pM (s.aJ (i:Int)).home (dz s [t]) s fun v hv=>(v1 v hv).1).1.len;exact Dh (FB (by rw[hl];exact ZP) _) rfl rfl (hT.fin i hi)
theorem Ie{a:Ty}(h:s.Fin a):wN s a (s.w16 a):=wN.zcD (YI h).symm
theorem wN.refl(a:Ty):wN s a a:=fun _=>Iff.rfl
theorem zta (hS:1<=S) (hn:n*S+S<=90000) {d:Nat} (hrec:∀ s a b,bM n S s->bT n S a->bT n S b->need s a<d->(dC d s a b).2=0->wN (dC d s a b).1 a b) {s0:Store} {k:Nat} (hk:s0.ll*202+k<=d) :
 ∀ (l m:List Ty) (s:Store),(∀ x∈l,bT n S x/\sz s0.w16 x 200<k)->(∀ x∈m,bT n S x)->bM n S s->(s=s0\/s.ll<s0.ll)->(uL (dC d) l m s).2=0 ->
   bM n S (uL (dC d) l m s).1/\Gr s (uL (dC d) l m s).1/\∀ p∈l.zip m,wN (uL (dC d) l m s).1 p.1 p.2:=by
 intro l
 induction l with
 |nil=>intro m s _ _ h _ _;exact⟨h,.refl s,fun p hp=>by simp at hp⟩
 | cons x l ih =>
   intro m s hl hm h hs
   cases m with
   |nil=>intro _;exact⟨h,.refl s,fun p hp=>by simp at hp⟩
   | cons y m =>
     have hx:=hl x (List.mem_cons_self ..);have hy:=hm y (List.mem_cons_self ..)
     have hd:need s x<d:=by
      grind [need,zu,w]
     have h1:=kH hS hn d s x y h hx.1 hy hd;have h2:=Ph hS hn d s x y h hx.1 hy hd;have h3:=hrec s x y h hx.1 hy hd;rw[uL];split
     . rename_i e;intro ho
       obtain⟨t1,t2,t3⟩:=ih m _ (fun z hz=>hl z (List.mem_cons_of_mem _ hz)) (fun z hz=>hm z (List.mem_cons_of_mem _ hz)) h1.iW (by
        rcases h1.less with e|h2
        . rw[e];exact hs
        . rcases hs with rfl|hs
          . exact .inr h2
          . exact .inr (Nat.lt_trans h2 hs)) ho
       refine⟨t1,h2.trans t2,fun p hp=>?_⟩;rw[List.zip_cons_cons]at hp;rcases List.mem_cons.1 hp with rfl|hp
       . exact(h3 e).mono h1.iW t1 t2 hx.1 hy
       grind
     omega
theorem YU (hS:1<=S) (hn:n*S+S<=90000):∀ (d:Nat) (s:Store) (a b:Ty),bM n S s->bT n S a->bT n S b->need s a<d->(dC d s a b).2=0->wN (dC d s a b).1 a b:=by
 intro d
 induction d with
 |zero=>intro s a b _ _ _ h;omega
 | succ d ih =>
   intro s a b h ha hb hd ho;have jg:bT n S (s.w16 a):=h.bX (Nat.le_refl S) (s.slots.length+1) ha;have hwb:bT n S (s.w16 b):=h.bX (Nat.le_refl S) (s.slots.length+1) hb;have fa:=(h.nJ _ ha).walk.1;have fb:=(h.nJ _ hb).walk.1;have ht:=(kH hS hn (d+1) s a b h ha hb hd).iW;have hg:=Ph hS hn (d+1) s a b h ha hb hd;have ea:=(Ie (h.nJ _ ha)).mono h ht hg ha jg;have eb:=(Ie (h.nJ _ hb)).mono h ht hg hb hwb;refine ea.trans (wN.trans ?_ eb.symm);clear ea eb
   revert ho ht hg
   rw[dC];unfold rM;split
   . omega
   rename_i hsz;split
   . rename_i s1;obtain⟨i,hi,e1,zr0,b1,_⟩:=h.slot jg s1 fa;split
     . rename_i s2;obtain⟨j,hj',e2,e2',b2,_⟩:=h.slot hwb s2 fb
       grind [PG]
     grind [Ig]
   . rename_i s1;split
     . rename_i s2;obtain⟨j,hj',e2,e2',b2,_⟩:=h.slot hwb s2 fb;rw[e2',e2];intro ho _ _;exact(Ig h hS (by omega) hj' b2 jg ho).symm
     . split
       . omega
       . rename_i s2 hc;intro ho _ _;unfold need at hd;obtain⟨t1,t2,t3⟩:=zta hS hn ih (s0:=s) (k:=sz s.w16 a 200) (by omega) _ _ s (fun x hx=>⟨jg.arg hx,yt (by omega) x hx⟩) (fun x hx=>hwb.arg hx) h (.inl rfl) ho
         have hlen:(s.w16 a).args.length=(s.w16 b).args.length:=by
          grind [clash]
         have hq:=znJ _ _ hlen t3;by_cases hk:(s.w16 a).kind=1
         . have c:=hc;unfold clash at c;simp only[not_or,Classical.not_not]at c;obtain⟨c1,c2,c3,c4,c5⟩:=c;have zH2:=jg.CX hk;have htb:=hwb.CX (by rw[<- c1];exact hk)
           have:s.w16 a=s.w16 b:=by
            generalize s.w16 a=x at *;generalize s.w16 b=y at *;obtain⟨k,nm,i,hm,al⟩:=x;obtain⟨k',zKu,i',hm',al'⟩:=y
            simp_all
           rw[this];exact .refl _
         . exact zkH hk hc hq
theorem znH {w:Ty->Ty}:∀ {l m q:List Ty},wG w l q->wG w m q->∀ p∈l.zip m,∃ y∈q,Rz w p.1 y/\Rz w p.2 y:=by
 intro l
 induction l with
 |nil=>intro m q _ _ p hp;simp at hp
 | cons x l ih =>
   intro m q h1 h2 p hp
   cases m with
   |nil=>simp at hp
   | cons y m =>
     cases h1 with
     | cons a1 a2 =>
       cases h2 with
       | cons b1 b2 =>
         rw[List.zip_cons_cons]at hp
         grind
theorem znl{rec:Store->Ty->Ty->Store×Int}:∀ (l m:List Ty),(∀ p∈l.zip m,rec s p.1 p.2=(s,0))->uL rec l m s=(s,0):=by
 intro l
 induction l with
 |nil=>intro m _;cases m<;>rfl
 | cons x l ih =>
   intro m h
   cases m with
   |nil=>rfl
   | cons y m =>
     simp_all [uL]
theorem J9:∀ (d:Nat) (a b:Ty),bM n S s->bT n S a->bT n S b->(∃ r,Rz s.w16 a r/\Rz s.w16 b r/\r.size<=200)->dC d s a b=(s,0):=by
 intro d
 induction d with
 |zero=>intro a b _ _ _ _;rfl
 | succ d ih =>
   intro a b h ha hb ⟨r,ra,rb,hr⟩;have jg:bT n S (s.w16 a):=h.bX (Nat.le_refl S) (s.slots.length+1) ha;have hwb:bT n S (s.w16 b):=h.bX (Nat.le_refl S) (s.slots.length+1) hb;have fa:=(h.nJ _ ha).walk.1;have fb:=(h.nJ _ hb).walk.1;have za:sz s.w16 a 200<=200:=gp.2 ⟨r,ra,hr⟩;have zb:sz s.w16 b 200<=200:=gp.2 ⟨r,rb,hr⟩;obtain⟨l,h1,h2⟩:=gH.1 ra;obtain⟨m,h3,h4⟩:=gH.1 rb;rw[h2]at h4
   injection h4 with k1 k2 k3 k4 k5
   subst k5;have hlen:(s.w16 a).args.length=(s.w16 b).args.length:=by rw[h1.oo,h3.oo]
   rw[dC];unfold rM;rw[if_neg (by omega)];have zCQ:s.bG (s.w16 a)=s.bG (s.w16 b):=by unfold bG;rw[k1,k3]
   split
   . grind [join]
   . rename_i s1;rw[if_neg (by rw[<- zCQ];exact s1),if_neg (by unfold clash;simp[k1,k2,k3,k4,hlen])];refine znl _ _ fun p hp=>?_
     obtain⟨y,hy,y1,y2⟩:=znH h1 h3 p hp;have hp':=List.of_mem_zip hp;refine ih p.1 p.2 h (jg.arg hp'.1) (hwb.arg hp'.2) ⟨y,y1,y2,?_⟩;have hs:y.size<r.size:=by rw[h2];exact Ty.pG (t:=.mk _ _ _ _ l) hy
     omega
end
end Store
end Go.J
/- The laws UnifySame and UnifyTurns: what is to be shown beside their runs. -/
set_option maxRecDepth 100000
namespace Go.J
open Enc (enc)
namespace Store
def zqe(s:Store)(a b:Ty):Bool:=decide (sz s.w16 a 200<=200/\sz s.w16 b 200<=200/\(bK s.w16 a).1=(bK s.w16 b).1)
theorem zX{s:Store}{t r:Ty}(h:Rz s.w16 t r)(hr:r.size<=4000):bK s.w16 t=(r,true):=by
 grind [sz,gp,bK,full_of]
theorem Jl{s:Store}(t:Ty):(bK s.w16 t).1.size<=4000:=by
 unfold bK;split
 . grind [gp,full_of]
 . show Nv.size<=4000
   decide
variable {n:Nat}{s:Store}{a b:Ty}
theorem Yx.w(h:Yx n s a b):s.dF/\s.w=s.w16/\a.ok=true/\b.ok=true:=⟨h.stay.iW.dF (by have:=h.high;omega),h.stay.iW.zsD,h.stay.left.ok,h.stay.right.ok⟩
theorem znf{s:Store}{a b:Ty}{x:Store}{e:Int}(h:AR s a b=some (x,e)):Tw (ib s a b).1 x:=by
 obtain⟨_,_,_,r,hr,hq⟩:=Nu h;have h1:=(Prod.mk.inj hq).1;by_cases e0:r.2=0
 . rw[if_pos e0]at h1;rw[h1];exact hr.tw e0
 . rw[if_neg e0]at h1
   have ht:(ib s a b).1=s:=by
    have:(ib s a b).2≠0:=by rw[<- hr.err];exact e0
    grind [ib]
   rw[h1,ht];exact .refl s
theorem Yx.next(h:Yx n s a b){x:Store}{e:Int}(hu:AR s a b=some (x,e)):Yx n x a b:=by
 have hh:=h.high;obtain⟨x',h1,h2,h3,h4⟩:=h.znh;rw[hu]at h1;simp only[Option.some.injEq,Prod.mk.injEq]at h1;obtain⟨rfl,rfl⟩:=h1;have hw:=znf hu;have hst:=AZ (n:=n) (S:=7) (by omega) (by omega) (by omega) h.stay.iW h.stay.left h.stay.right;have hr:=Nat.le_trans hst.room h.room;have hv:=Tt h.stay.val h.stay.lv h.stay.rv;have hT:=hw.iW hst.iW;have hv2:jW x:=⟨by rw[h2];exact hv.len,by rw[h2];exact hv.YW⟩;refine⟨h.low,h.high,⟨hT,hv2,h.stay.left,h.stay.right,h.stay.lv,h.stay.rv⟩,?_,h3⟩;have ht:=hw.trail;unfold Store.room at hr ⊢;have hu:x.ll=(ib s a b).1.ll:=by unfold Store.ll;rw[h2]
 rw[hu];omega
theorem zbD(h:Yx n s a b)(h0:(ib s a b).2=0):wN (ib s a b).1 a b:=by
 have hh:=h.high;unfold ib at h0 ⊢;split
 . rename_i e;exact YU (n:=n) (S:=7) (by omega) (by omega) 300000 s a b h.stay.iW h.stay.left h.stay.right (Br (by rw[h.stay.iW.len];omega) a) e
 grind
theorem wN.slots{x y:Store}(h:wN x a b)(e:y.slots=x.slots):wN y a b:=by
 grind [wN,JM]
theorem Yx.again(h:Yx n s a b):∃ x e,AR s a b=some (x,e)/\Yx n x a b/\(e=0->sz x.w16 a 200<=200->zqe x a b=true/\∃ y,AR x a b=some (y,0)/\x.slots=y.slots):=by
 obtain⟨x,h1,h2,h3,h4⟩:=h.znh;have hx:=h.next h1;refine⟨x,_,h1,hx,fun e hz=>?_⟩;have hE:=(zbD h e).slots h2;obtain⟨r,hr,hl⟩:=gp.1 hz;have hr2:=(hE r).1 hr;have hz2:sz x.w16 b 200<=200:=gp.2 ⟨r,hr2,hl⟩;have hsame:zqe x a b=true:=decide_eq_true ⟨hz,hz2,by rw[zX hr (by omega),zX hr2 (by omega)]⟩;obtain⟨y,g1,g2,_,_⟩:=hx.znh
 have hn:ib x a b=(x,0):=by
  have:FT x a b=(x,0):=J9 (n:=n) (S:=7) 300000 a b hx.stay.iW hx.stay.left hx.stay.right ⟨r,hr,hr2,hl⟩
  grind [ib]
 grind
end Store
end Go.J
/- The law UnifyTurns: what a type stands for is a variant of itself. -/
set_option maxRecDepth 100000
namespace Go.J
open Enc (enc)
namespace Store
theorem zb6{n S:Nat}{s:Store}(h:bM n S s):∀ (r t:Ty),bT n S t->Rz s.w16 t r->r.ay=true:=by
 intro r
 induction r using Ty.ind with
 | h r ih =>
   intro t ht hr;obtain⟨l,h1,h2⟩:=gH.1 hr;have hw:bT n S (s.w16 t):=h.bX (Nat.le_refl S) (s.slots.length+1) ht;by_cases hk:(s.w16 t).kind=1
   . have ha:=hw.CX hk;rw[ha]at h1;have hl:l=[]:=by cases h1;rfl
     have e:=bg hw.plain hk;rw[hl,e]at h2;rw[h2];exact eu _
   . refine o9 (by rw[h2];exact hk) fun y hy=>?_
     obtain⟨v,hv,zRm⟩:=wG.back h1 (by rw[h2]at hy;exact hy);exact ih y hy v (hw.arg hv) zRm
theorem zx{n S:Nat}{s:Store}(h:bM n S s){t:Ty}(ht:bT n S t):(bK s.w16 t).1.ay=true:=by
 unfold bK;split
 . grind [gp,full_of,zb6]
 . rfl
end Store
end Go.J
/- The law UnifyAgrees: stores as iJ. -/
set_option maxRecDepth 100000
namespace Go.J
open Enc (enc)
namespace Store
def sb(s:Store):Sub:=fun i=>full s.w16 (aM i)
def FJ(s:Store)(θ:Sub):Prop:=∀ (k:Nat) (x:Slot),s.slots[k]?=some x->x.bound=true->θ (k:Int)=x.type.app θ
section
variable {n S:Nat}{s s':Store}
theorem bM.zvr(h:bM n S s)(i:Int):s.Fin (aM i):=by
 cases hb:s.bound (aM i)with
 |false=>exact Fin.zqA hb fun u hu=>by cases hu
 | true =>
   obtain⟨_,k,x,hi,hl,_⟩:=gG hb;have hi:i=(k:Int):=hi;rw[hi];exact h.fin k (by rw[<- h.len];exact hl)
theorem bM.zvs(h:bM n S s):∀ t:Ty,t.ay=true->s.Fin t:=by
 intro t
 induction t using Ty.ind with
 | h t ih =>
   intro ht;by_cases hk:t.kind=1
   . rw[bg ht hk];exact h.zvr _
   grind [Fin.zqA,tC,bN,bS]
theorem znK{w:Ty->Ty}{f:Ty->Ty}:∀ {l:List Ty},(∀ u∈l,Rz w u (f u))->wG w l (l.map f):=by
 intro l
 induction l with
 |nil=>intro _;exact .nil
 |cons u l ih=>intro h;exact .cons (h u (List.mem_cons_self ..)) (ih fun v hv=>h v (List.mem_cons_of_mem _ hv))
theorem bM.rz(h:bM n S s):∀ t:Ty,t.ay=true->Rz s.w16 t (t.app (sb s)):=by
 intro t
 induction t using Ty.ind with
 | h t ih =>
   intro ht;by_cases hk:t.kind=1
   . have e:=bg ht hk;rw[e,bL];obtain⟨r,hr⟩:=zb7 (h.zvr t.id)
     grind [sb,full_of]
   grind [gH,Ty.app,sb,jZ,tC,znK,bN,bS,eT]
theorem bM.Dq(h:bM n S s){t r:Ty}(ht:t.ay=true)(hr:Rz s.w16 t r):t.app (sb s)=r:=Rz.inj (h.rz t ht) hr
theorem bM.eqv(h:bM n S s){a b:Ty}(ha:a.ay=true)(hb:b.ay=true):wN s a b↔a.app (sb s)=b.app (sb s):=by
 constructor
 . intro e;exact h.Dq ha ((e _).2 (h.rz b hb))
 . intro e r;constructor
   . intro hr;rw[<- h.Dq ha hr,e];exact h.rz b hb
   . intro hr;rw[<- h.Dq hb hr,<- e];exact h.rz a ha
theorem bM.zW(h:bM n S s){i:Int}(hb:s.bound (aM i)=false):sb s i=aM i:=by
 have h1:=h.rz (aM i) (eu i);rw[bL]at h1;refine Rz.inj h1 (gH.2 ⟨[],?_,?_⟩)
 . rw[jZ hb];exact .nil
 . rw[jZ hb];rfl
theorem bM.toP(h:bM n S s){t:Ty}(hb:s.bound t=true):(s.to t).ay=true:=(h.to hb).plain
theorem bM.II(h:bM n S s){t:Ty}(ht:t.ay=true)(hb:s.bound t=true):t.app (sb s)=(s.to t).app (sb s) :=
 (h.eqv ht (h.toP hb)).1 (wN.zcD (zN (h.zvs t ht) hb))
theorem bM.Qj(h:bM n S s){t:Ty}(ht:bT n S t):t.app (sb s)=(s.w16 t).app (sb s) :=
 (h.eqv ht.plain (h.bX (Nat.le_refl S) (s.slots.length+1) ht).plain).1 (Ie (h.nJ _ ht))
theorem bM.ind(h:bM n S s){p:Ty->Prop}(h1:∀ t,t.ay=true->s.bound t=true->p (s.to t)->p t)(h2:∀ t,t.ay=true->t.kind=1->s.bound t=false->p t)(h3:∀ t,t.ay=true->t.kind≠1->(∀ u∈t.args,p u)->p t){t:Ty}(ht:t.ay=true):p t:=by
 have:t.ay=true->p t:=by
  refine Fin.ind (p:=fun t=>t.ay=true->p t) (fun t hb ih ht=>h1 t ht hb (ih (h.toP hb))) (fun t hb ih ht=>?_) (h.zvs t ht)
  grind [bN,bS]
 exact this ht
theorem bM.ztS(h:bM n S s)(i:Int):(sb s i).ay=true:=by
 have:((aM i).app (sb s)).ay=true:=by
  refine h.ind (p:=fun t=>(t.app (sb s)).ay=true) (fun t ht hb ih=>by rw[h.II ht hb];exact ih) (fun t ht hk hb=>?_) (fun t ht hk ih=>?_) (eu i)
  . rw[bg ht hk,bL,h.zW (by rw[<- bg ht hk];exact hb)];exact eu _
  simp_all [eT,o9,List.mem_map]
 grind [bL]
theorem bM.vF(h:bM n S s){θ:Sub}(hθ:FJ s θ){t:Ty}(ht:t.ay=true):(t.app (sb s)).app θ=t.app θ:=by
 refine h.ind (p:=fun t=>(t.app (sb s)).app θ=t.app θ) (fun t ht hb ih=>?_) (fun t ht hk hb=>?_) (fun t ht hk ih=>?_) ht
 . rw[h.II ht hb,ih];obtain⟨hk,k,x,hi,_,hx,hxb,hto⟩:=gG hb;rw[hto,<- hθ k x hx hxb,<- hi,Ca hk]
 . rw[bg ht hk,bL,h.zW (by rw[<- bg ht hk];exact hb)]
 simp_all [eT,List.map_map,List.map_congr_left]
theorem bM.A9(h:bM n S s){θ:Sub}:After (sb s) θ↔FJ s θ:=by
 constructor
 . intro ha k x hx hb
   have hxp:x.type.ay=true:=by
    have:=h.types x (List.mem_of_getElem? hx);rw[if_pos hb]at this;exact this.plain
   have e:=(h.eqv (eu (k:Int)) hxp).1 (Dh hx hb rfl (h.zvr _));rw[bL]at e;rw[<- ha (k:Int),e,ha.app]
 . intro hs i;have:=h.vF hs (eu i)
   grind [bL]
theorem bM.idem(h:bM n S s):kg (sb s):=by
 refine⟨h.ztS,fun i=>?_⟩
 have:((aM i).app (sb s)).app (sb s)=(aM i).app (sb s):=by
  refine h.ind (p:=fun t=>(t.app (sb s)).app (sb s)=t.app (sb s)) (fun t ht hb ih=>by rw[h.II ht hb];exact ih) (fun t ht hk hb=>?_) (fun t ht hk ih=>?_) (eu i)
  . rw[bg ht hk,bL,h.zW (by rw[<- bg ht hk];exact hb),bL,h.zW (by rw[<- bg ht hk];exact hb)]
  simp_all [eT,List.map_map,List.map_congr_left]
 grind [bL]
theorem bM.QY(h:bM n S s):FJ s (sb s):=h.A9.1 h.idem.idem
theorem zbV(g:Gr s s'){θ:Sub}(h:FJ s' θ):FJ s θ:=fun k x hx hb=>by
 obtain⟨x',hx',g1⟩:=g.2 k x hx;obtain⟨g2,g3⟩:=g1.bound hb;rw[h k x' hx' g2,g3]
theorem TE{i:Nat}{t:Ty}(hnew:∀ (k:Nat) (x:Slot),s'.slots[k]?=some x->x.bound=true->(k=i/\x.type=t)\/∃ y,s.slots[k]?=some y/\y.bound=true/\y.type=x.type){θ:Sub}(h:FJ s θ)(ht:θ (i:Int)=t.app θ):FJ s' θ:=fun k x hx hb=>by
 rcases hnew k x hx hb with⟨rfl,rfl⟩|⟨y,hy,hyb,e⟩
 . exact ht
 . rw[h k y hy hyb,e]
theorem znF{s1:Store}(h:gm s s1){k:Nat}{x:Slot}(hx:s1.slots[k]?=some x)(hb:x.bound=true):∃ y,s.slots[k]?=some y/\y.bound=true/\y.type=x.type:=by
 have:=h.at k
 grind [Option.some.injEq,bt,Prod.mk.injEq]
theorem NN(h:bM n S s)(hS:1<=S)(hn:n*S+S<=100000){i:Nat}(hi:i<n)(h0:s.bound (aM (i:Int))=false){t:Ty}(ht:bT n S t)(ho:(s.bindM (i:Int) t).2=0){θ:Sub}:FJ (s.bindM (i:Int) t).1 θ↔FJ s θ/\θ (i:Int)=t.app θ:=by
 have hT:=(yT h hS hn hi h0 ht).iW;have hE:=(hT.eqv (eu _) ht.plain).1 (Ig h hS hn hi h0 ht ho);rw[bL]at hE;constructor
 . intro hs;refine⟨zbV (UB h hS hn hi h0 ht) hs,?_⟩;have:=hT.A9.2 hs;rw[<- this (i:Int),hE,this.app]
 . rintro ⟨h1,h2⟩;refine TE (i:=i) (t:=t) (fun k x hx hb=>?_) h1 h2;obtain⟨v1,v2,v3⟩:=h.vars hS ht hn;have ZP:i<s.slots.length:=by rw[h.len];exact hi
   revert hx
   revert ho
   unfold bindM;split
   . omega
   split
   . omega
   split
   . omega
   split
   . omega
   intro _ hx;have hl:=(pM (s.aJ (i:Int)).home (dz s [t]) s fun v hv=>(v1 v hv).1).1;generalize (dz s [t]).foldl (bf (s.aJ (i:Int)).home) s=s1 at hl hx;have hi1:i<s1.slots.length:=by rw[hl.len];exact ZP
   grind [FB,QZ,znF]
theorem zbU(h:bM n S s)(hS:1<=S){i j:Nat}(hi:i<n)(hj:j<n)(h1:s.bound (aM (i:Int))=false)(h2:s.bound (aM (j:Int))=false){θ:Sub}:FJ (s.join (i:Int) (j:Int)) θ↔FJ s θ/\θ (i:Int)=θ (j:Int):=by
 have hT:=(join_step h hS hi hj h1 h2).iW;have hE:=(hT.eqv (eu _) (eu _)).1 (PG h hS hi hj h1 h2);rw[bL,bL]at hE;constructor
 . intro hs;refine⟨zbV (UA h hi hj h1 h2) hs,?_⟩;have:=hT.A9.2 hs;rw[<- this (i:Int),hE,this]
 . rintro ⟨g1,g2⟩;have hil:i<s.slots.length:=by rw[h.len];exact hi
   have hjl:j<s.slots.length:=by rw[h.len];exact hj
   clear hT hE;unfold join;split
   . exact g1
   rename_i hne
   have key:∀ a b:Nat,a<s.slots.length->b<s.slots.length->a≠b->∀ x y:Slot,x.bound=false->y.type=aM (a:Int)->θ (b:Int)=θ (a:Int)->FJ ((s.set (a:Int) x).1.set (b:Int) y).1 θ:=by
    intro a b ha hb hab x y e1 e2 e3;have hb':b<(s.set (a:Int) x).1.slots.length:=by rw[eX ha];simpa using hb
    refine TE (i:=b) (t:=aM (a:Int)) (fun k z hz hzb=>?_) g1 (by rw[bL];exact e3)
    grind [FB,QZ]
   grind [Cv,joinL,xE,Int.min_eq_left,Int.max_eq_right,eD,Int.min_eq_right,Int.max_eq_left]
end
end Store
end Go.J
/- The law UnifyAgrees: unification in a store beside unification by iJ. -/
set_option maxRecDepth 100000
namespace Go.J
open Enc (enc)
def NR(t:Ty):Prop:=∀ z,¬ Lf 3 z t
theorem NR.arg{t u:Ty}(h:NR t)(hu:u∈t.args):NR u:=fun z hz=>h z (.arg hu hz)
namespace Store
structure PS(s:Store):Prop where
 slot:∀ x∈s.slots,x.home=0/\x.base=false
 type:∀ x∈s.slots,x.bound=true->NR x.type
section
variable {n S:Nat}{s s':Store}
theorem PS.to(hp:PS s){t:Ty}(hb:s.bound t=true):NR (s.to t):=by
 obtain⟨hk,k,x,hi,_,hx,hxb,hto⟩:=gG hb;rw[hto];exact hp.type x (List.mem_of_getElem? hx) hxb
theorem PS.app(hp:PS s)(h:bM n S s){t:Ty}(ht:t.ay=true):NR t->NR (t.app (sb s)):=by
 refine h.ind (p:=fun t=>NR t->NR (t.app (sb s))) (fun t ht hb ih hn=>by rw[h.II ht hb];exact ih (hp.to hb)) (fun t ht hk hb hn=>?_) (fun t ht hk ih hn z hz=>?_) ht
 . rw[bg ht hk,bL,h.zW (by rw[<- bg ht hk];exact hb),<- bg ht hk];exact hn
 . rw[eT hk]at hz
   cases hz with
   | here h1 h2 =>
     have h2:t.args.map (Ty.app (sb s))=[]:=h2;exact hn t (.here h1 (List.map_eq_nil_iff.1 h2))
   | arg hu hz =>
     obtain⟨v,hv,rfl⟩:=List.mem_map.1 hu;exact ih v hv (hn.arg hv) z hz
theorem PS.walk(hp:PS s)(h:bM n S s){t:Ty}(ht:t.ay=true):NR t->NR (s.w16 t):=by
 refine h.ind (p:=fun t=>NR t->NR (s.w16 t)) (fun t ht hb ih hn=>by rw[zN (h.zvs t ht) hb];exact ih (hp.to hb)) (fun t ht hk hb hn=>by rw[jZ hb];exact hn) (fun t ht hk ih hn=>by rw[jZ (tC hk)];exact hn) ht
theorem PS.aJ(hp:PS s)(i:Int):(s.aJ i).home=0/\(s.aJ i).base=false:=by
 unfold Store.aJ
 cases hx:s.slot? i with
 |none=>exact⟨rfl,rfl⟩
 | some x =>
   obtain⟨k,_,_,hxk⟩:=Store.slot?_some hx;exact hp.slot x (List.mem_of_getElem? hxk)
theorem PS.lowers(hp:PS s):∀ l:List Int,l.foldl (bf 0) s=s:=by
 intro l
 induction l with
 |nil=>rfl
 | cons v l ih =>
   have:bf 0 s v=s:=by
    unfold bf;rw[if_neg];rintro ⟨_,h⟩;rw[(hp.aJ v).1]at h;omega
   grind
theorem PS.set(hp:PS s){i:Nat}(hi:i<s.slots.length){x:Slot}(h1:x.home=0/\x.base=false)(h2:x.bound=true->NR x.type):PS (s.set (i:Int) x).1:=by
 rw[eX hi];refine⟨fun y hy=>?_,fun y hy hb=>?_⟩
 . rcases List.mem_or_eq_of_mem_set hy with h|rfl
   . exact hp.slot y h
   . exact h1
 . rcases List.mem_or_eq_of_mem_set hy with h|rfl
   . exact hp.type y h hb
   . exact h2 hb
theorem Ug(i:Int):NR (aM i):=fun z hz=>by
 cases hz with
 |here h _=>exact absurd (show (1:Int)=3 from h) (by decide)
 |arg hu _=>cases hu
theorem zou(hp:PS s)(h:bM n S s){i j:Nat}(hi:i<n)(hj:j<n)(h1:s.bound (aM (i:Int))=false)(h2:s.bound (aM (j:Int))=false):PS (s.join (i:Int) (j:Int)):=by
 have hil:i<s.slots.length:=by rw[h.len];exact hi
 have hjl:j<s.slots.length:=by rw[h.len];exact hj
 unfold join;split
 . exact hp
 have key:∀ a b:Nat,a<s.slots.length->b<s.slots.length->∀ x y:Slot,x.home=0/\x.base=false->x.bound=false->y.home=0/\y.base=false->y.type=aM (a:Int)->PS ((s.set (a:Int) x).1.set (b:Int) y).1:=by
  intro a b ha hb x y e1 e2 e3 e4;have hb':b<(s.set (a:Int) x).1.slots.length:=by rw[eX ha];simpa using hb
  exact(hp.set ha e1 fun hx=>by rw[e2]at hx;cases hx).set hb' e3 fun _=>by rw[e4];exact Ug _
 have u1:=Cv hil h1;have u2:=Cv hjl h2;have p1:=hp.aJ (i:Int);have p2:=hp.aJ (j:Int)
 grind [joinL,xE,Int.min_eq_left,Int.max_eq_right,eD,Int.min_eq_right,Int.max_eq_left]
theorem YK (s:Store):∀ (f:Nat) (t:Ty) (st:List Int×List Bool),t.ay=true->(∀ u,s.bound u=true->(s.to u).ay=true)->∀ v∈(J.pY s f t st).1,v∈st.1\/s.Reach v t:=by
 intro f
 induction f with
 |zero=>intro t st _ _ v h;exact .inl h
 | succ f ih =>
   intro t st ht hto;rw[J.pY];split
   . rename_i hk;split
     . rename_i hb;split
       . intro v hv;rcases ih _ _ (hto t hb) hto v hv with h|h
         . exact .inl h
         . exact .inr (.to hb h)
       grind
     . split
       . grind
       . intro v hv;rcases List.mem_append.1 hv with hv|hv
         . exact .inl hv
         . rw[List.mem_singleton.1 hv];exact .inr (.here hk rfl)
   . rename_i hk
     have key:∀ (l:List Ty),(∀ u∈l,u∈t.args)->∀ st:List Int×List Bool,∀ v∈(l.foldl (fun st x=>J.pY s f x st) st).1,v∈st.1\/s.Reach v t:=by
      intro l
      induction l with
      |nil=>intro _ st v h;exact .inl h
      | cons x l ihl =>
        intro hl st v hv;have hx:=hl x (List.mem_cons_self ..);rcases ihl (fun u hu=>hl u (List.mem_cons_of_mem _ hu)) _ v hv with h|h
        . rcases ih x st (bN.1 (bS ht) x hx) hto v h with h|h
          . exact .inl h
          . exact .inr (.arg (tC hk) hx h)
        . exact .inr h
     grind
theorem Zh(h:bM n S s){i:Int}(hi:s.bound (aM i)=false){t:Ty}(hr:s.Reach i t):t.ay=true->(t.app (sb s)).lq i=true:=by
 induction hr with
 | here hk e =>
   intro ht;rw[bg ht hk,bL,e,h.zW hi,lT];simp
 |to hb _ ih=>intro ht;rw[h.II ht hb];exact ih (h.toP hb)
 | @arg t u hb hu _ ih =>
   intro ht
   have hk:t.kind≠1:=fun hk=>by
    have:=bg ht hk;rw[this]at hu;cases hu
   rw[eT hk,GI (by exact hk)];exact List.any_eq_true.2 ⟨u.app (sb s),List.mem_map_of_mem hu,ih (bN.1 (bS ht) u hu)⟩
theorem Yn(hp:PS s)(h:bM n S s)(hS:1<=S)(hn:n*S+S<=90000){i:Nat}(hi:i<n)(h0:s.bound (aM (i:Int))=false){t:Ty}(ht:bT n S t)(hr:NR t)(hz:∃ r,Rz s.w16 t r/\r.size<=200) :
 ((s.bindM (i:Int) t).2=12/\(t.app (sb s)).lq (i:Int)=true)\/((s.bindM (i:Int) t).2=0/\PS (s.bindM (i:Int) t).1):=by
 obtain⟨v1,v2,v3⟩:=h.vars hS ht (by omega);have hil:i<s.slots.length:=by rw[h.len];exact hi
 unfold bindM;by_cases hm:(i:Int)∈dz s [t]
 . rw[if_pos hm];refine .inl ⟨rfl,?_⟩;rcases YK s 100000 t ([],List.replicate s.slots.length false) ht.plain (fun u hu=>h.toP hu) i hm with hh|hh
   . cases hh
   . exact Zh h h0 hh ht.plain
 rw[if_neg hm,if_neg (by rw[(hp.aJ (i:Int)).2];rintro ⟨_,h⟩;cases h),if_neg,if_neg]
 . refine .inr ⟨rfl,?_⟩;rw[(hp.aJ (i:Int)).1,hp.lowers];exact hp.set hil (hp.aJ (i:Int)) fun _=>hr
 . rintro ⟨v,hv,hv2,_⟩;have:=(v1 v hv).2;rw[h.len]at hv2;omega
 . rintro ⟨x,hx,_⟩;obtain⟨r,hr1,hr2⟩:=hz;rw[zX hr1 (by omega)]at hx;have:=hp.app h ht.plain hr;rw[h.Dq ht.plain hr1]at this;exact this x (Ah.1 hx)
def Out(e:Int)(σ':Sub)(r:Store×Int):Prop:=r.2=15\/(r.2=e/\(e=0->kg σ'/\(∀ θ,After σ' θ↔FJ r.1 θ)/\PS r.1))
theorem zJX {d f:Nat} (hS:1<=S) (hn:n*S+S<=90000)
 (ih:∀ (σ:Sub) (s:Store) (a b:Ty) (e:Int) (σ':Sub),bM n S s->PS s->kg σ->(∀ θ,After σ θ↔FJ s θ)->bT n S a->bT n S b->NR a->NR b->need s a<d->uA f σ a b=some (e,σ')->Out e σ' (dC d s a b))
 {s0:Store} {k:Nat} (hk:s0.ll*202+k<=d) {σ0:Sub}:∀ (l m:List Ty) (s:Store) (σ:Sub) (e:Int) (σ':Sub),(∀ x∈l,bT n S x/\NR x/\sz s0.w16 x 200<k)->(∀ x∈m,bT n S x/\NR x)->bM n S s->(s=s0\/s.ll<s0.ll)->PS s->kg σ->(∀ θ,After σ θ↔FJ s θ)->After σ0 σ ->
   aL (uA f) (l.map (Ty.app σ0)) (m.map (Ty.app σ0)) σ=some (e,σ')->Out e σ' (uL (dC d) l m s):=by
 intro l
 induction l with
 | nil =>
   intro m s σ e σ' _ _ h _ hp hi hE _ hA;have:aL (uA f) [] (m.map (Ty.app σ0)) σ=some (0,σ):=by cases m<;>rfl
   rw[List.map_nil,this]at hA;cases hA;have:uL (dC d) [] m s=(s,0):=by cases m<;>rfl
   rw[this];exact .inr ⟨rfl,fun _=>⟨hi,hE,hp⟩⟩
 | cons x l ihl =>
   intro m s σ e σ' hl hm h hs hp hi hE ha hA
   cases m with
   | nil =>
     cases hA;exact .inr ⟨rfl,fun _=>⟨hi,hE,hp⟩⟩
   | cons y m =>
     obtain⟨x1,x2,x3⟩:=hl x (List.mem_cons_self ..);obtain⟨y1,y2⟩:=hm y (List.mem_cons_self ..)
     have hd:need s x<d:=by
      grind [need,zu,w]
     have hst:=kH hS hn d s x y h x1 y1 hd;rw[List.map_cons,List.map_cons,aL,zby ha]at hA
     cases hu:uA f σ x y with
     |none=>rw[hu]at hA;cases hA
     | some q =>
       obtain⟨e1,σ2⟩:=q;rw[hu]at hA;simp only at hA;have hO:=ih σ s x y e1 σ2 h hp hi hE x1 y1 x2 y2 hd hu;rw[uL];rcases hO with zaP|⟨h1,h2⟩
       . rw[if_neg (by rw[zaP];decide)];exact .inl zaP
       . by_cases e0:e1=0
         . rw [if_pos e0]at hA;rw[if_pos (by rw[h1];exact e0)];obtain⟨i2,E2,p2⟩:=h2 e0;have g:=(sP f σ x y e1 σ2 hi x1.plain y1.plain hu).ok e0
           exact ihl m _ σ2 e σ' (fun z hz=>hl z (List.mem_cons_of_mem _ hz)) (fun z hz=>hm z (List.mem_cons_of_mem _ hz)) hst.iW (by
            rcases hst.less with e|h2
            . rw[e];exact hs
            . rcases hs with rfl|hs
              . exact .inr h2
              . exact .inr (Nat.lt_trans h2 hs)) p2 i2 E2 (ha.trans g.2.1) hA
         grind
theorem TG{f:Nat}{σ σ':Sub}{e:Int}(hi:kg σ){a b:Ty}(ha:a.ay=true)(hb:b.ay=true)(hE:∀ θ,After σ θ↔FJ s θ)(hu:uA f σ a b=some (e,σ'))(h12:e=0\/e=12){r:Store×Int}
 (hT:bM n S r.1) (hr:(r.2=12/\∀ θ,FJ s θ->¬ a.app θ=b.app θ)\/(r.2=0/\PS r.1/\∀ θ,FJ r.1 θ↔FJ s θ/\a.app θ=b.app θ)):Out e σ' r:=by
 have g:=sP f σ a b e σ' hi ha hb hu;refine .inr ?_;rcases hr with⟨h1,h2⟩|⟨h1,hp,h2⟩
 . have:e≠0:=fun e0=>by
    obtain⟨g1,g2,g3⟩:=g.ok e0
    grind
   omega
 . have hs:=(h2 (sb r.1)).1 hT.QY;have e0:=(g.zmj (sb r.1) ((hE _).2 hs.1) hs.2).1;refine⟨by rw[h1,e0],fun _=>?_⟩;obtain⟨g1,g2,g3⟩:=g.ok e0;refine⟨g1,fun θ=>?_,hp⟩;rw[h2];constructor
   . intro hθ;refine⟨(hE θ).1 (g2.trans hθ),?_⟩;rw[<- hθ.app a,g3,hθ.app b]
   . rintro ⟨q1,q2⟩;exact(g.zmj θ ((hE θ).2 q1) q2).2
theorem KH{x:Int}{t:Ty}{σ σ':Sub}{e:Int}(h:pW x t σ=some (e,σ')):e=0\/e=12:=by
 grind [pW]
theorem zQB (hS:1<=S) (hn:n*S+S<=90000):∀ (d f:Nat) (σ:Sub) (s:Store) (a b:Ty) (e:Int) (σ':Sub),bM n S s->PS s->kg σ->(∀ θ,After σ θ↔FJ s θ)->bT n S a->bT n S b->NR a->NR b->need s a<d->uA f σ a b=some (e,σ')->Out e σ' (dC d s a b):=by
 intro d
 induction d with
 |zero=>intro f σ s a b e σ' _ _ _ _ _ _ _ _ h;omega
 | succ d ih =>
   intro f σ s a b e σ' h hp hi hE ha hb na nb hd hu;have hu0:=hu
   cases f with
   |zero=>cases hu
   |succ f =>
   have jg:bT n S (s.w16 a):=h.bX (Nat.le_refl S) (s.slots.length+1) ha;have hwb:bT n S (s.w16 b):=h.bX (Nat.le_refl S) (s.slots.length+1) hb;have fa:=(h.nJ _ ha).walk.1;have fb:=(h.nJ _ hb).walk.1;have zOy:=hp.walk h ha.plain na;have zOx:=hp.walk h hb.plain nb;have ht:=(kH hS hn (d+1) s a b h ha hb hd).iW;have hσ:FJ s σ:=(hE σ).1 hi.idem;have hsb:After σ (sb s):=(hE _).2 h.QY;have wa:∀ θ,FJ s θ->a.app θ=(s.w16 a).app θ:=fun θ hθ=>by rw[<- h.vF hθ ha.plain,h.Qj ha,h.vF hθ jg.plain]
   have wb:∀ θ,FJ s θ->b.app θ=(s.w16 b).app θ:=fun θ hθ=>by rw[<- h.vF hθ hb.plain,h.Qj hb,h.vF hθ hwb.plain]
   have hkind:∀ x:Ty,x.ay=true->s.bound x=false->((x.app σ).kind=1↔x.kind=1):=fun x hx hb=>by
    constructor
    . grind [BB]
    . intro hk;refine Decidable.byContradiction fun hk2=>?_
      have:=BB (σ:=sb s) hk2;rw[hsb.app,bg hx hk,bL,h.zW (by rw[<- bg hx hk];exact hb)]at this;exact this rfl
   have ka:=hkind _ jg.plain fa;have kb:=hkind _ hwb.plain fb;rw[<- wa σ hσ]at ka;rw[<- wb σ hσ]at kb
   have sa:s.bG (s.w16 a)=true↔(s.w16 a).kind=1:=⟨fun hh=>by
    obtain⟨i,_,e1,_⟩:=h.slot jg hh fa
    rw[e1];rfl,fun hh=>Fy h jg hh⟩
   have sb':s.bG (s.w16 b)=true↔(s.w16 b).kind=1:=⟨fun hh=>by
    obtain⟨i,_,e1,_⟩:=h.slot hwb hh fb
    rw[e1];rfl,fun hh=>Fy h hwb hh⟩
   have hz:∀ c:Ty,sz s.w16 c 200<=200->s.bound (s.w16 c)=false->∃ r,Rz s.w16 (s.w16 c) r/\r.size<=200:=fun c hc hb=>by
    obtain⟨r,hr,hl⟩:=gp.1 hc;obtain⟨l,h1,h2⟩:=gH.1 hr;have e:s.w16 (s.w16 c)=s.w16 c:=kS hb _
    grind [gH]
   by_cases hsz:200<sz s.w16 a 200\/200<sz s.w16 b 200
   . rw[dC];unfold rM;rw[if_pos hsz];exact .inl rfl
   rw[uA,aS]at hu;by_cases Qv:a.app σ=b.app σ
   . rw[if_pos Qv]at hu;cases hu;have hab:a.app (sb s)=b.app (sb s):=by rw[<- hsb.app a,Qv,hsb.app b]
     obtain⟨r,hr,hl⟩:=gp.1 (show sz s.w16 a 200<=200 by omega)
     have hr2:Rz s.w16 b r:=by
      rw[<- h.Dq ha.plain hr,hab];exact h.rz b hb.plain
     rw[J9 (d+1) a b h ha hb ⟨r,hr,hr2,hl⟩];exact .inr ⟨rfl,fun _=>⟨hi,hE,hp⟩⟩
   rw[if_neg Qv]at hu;by_cases k1:(s.w16 a).kind=1
   . rw [if_pos (ka.2 k1)]at hu;refine TG hi ha.plain hb.plain hE hu0 (KH hu) ht ?_;have s1:=sa.2 k1;obtain⟨i,hin,e1,zr0,b1,_⟩:=h.slot jg s1 fa;rw[dC];unfold rM;rw[if_neg hsz,if_pos s1];by_cases k2:(s.w16 b).kind=1
     . have s2:=sb'.2 k2;obtain⟨j,hjn,e2,e2',b2,_⟩:=h.slot hwb s2 fb
       grind [zou,zbU,bL]
     . rw[if_neg (fun hh=>k2 (sb'.1 hh)),zr0];rcases Yn hp h hS hn hin b1 hwb zOx (hz b (by omega) fb)with⟨c1,c2⟩|⟨c1,c2⟩
       . refine .inl ⟨c1,fun θ q1 q2=>?_⟩;rw[wa θ q1,wb θ q1,e1,bL,<- h.vF q1 hwb.plain]at q2
         grind [Rq,BB]
       grind [NN,bL]
   . rw [if_neg (fun hh=>k1 (ka.1 hh))]at hu;have s1:¬ s.bG (s.w16 a)=true:=fun hh=>k1 (sa.1 hh)
     by_cases k2:(s.w16 b).kind=1
     . rw[if_pos (kb.2 k2)]at hu;refine TG hi ha.plain hb.plain hE hu0 (KH hu) ht ?_;have s2:=sb'.2 k2;obtain⟨j,hjn,e2,e2',b2,_⟩:=h.slot hwb s2 fb;rw[dC];unfold rM;rw[if_neg hsz,if_neg s1,if_pos s2,e2'];rcases Yn hp h hS hn hjn b2 jg zOy (hz a (by omega) fa)with⟨c1,c2⟩|⟨c1,c2⟩
       . refine .inl ⟨c1,fun θ q1 q2=>?_⟩;rw[wa θ q1,wb θ q1,e2,bL,<- h.vF q1 jg.plain]at q2
         grind [Rq,BB]
       grind [NN,bL]
     . rw [if_neg (fun hh=>k2 (kb.1 hh))]at hu;have s2:¬ s.bG (s.w16 b)=true:=fun hh=>k2 (sb'.1 hh)
       rw[dC];unfold rM;rw[if_neg hsz,if_neg s1,if_neg s2];rw[wa σ hσ,wb σ hσ,eT k1,eT k2]at hu;by_cases hc:clash (s.w16 a) (s.w16 b)
       . rw[if_pos hc];rw[if_neg]at hu
         . cases hu;exact .inr ⟨rfl,fun hh=>absurd hh (by decide)⟩
         . intro hs
           simp_all [Ty.same,clash]
       . rw[if_neg hc];have hs:clash (s.w16 a) (s.w16 b)=False:=eq_false hc;unfold clash at hc;simp only[not_or,Classical.not_not]at hc;rw[if_pos (by unfold Ty.same;simp[hc])]at hu;unfold need at hd;exact zJX hS hn (fun σ s a b e σ'=>ih f σ s a b e σ') (s0:=s) (k:=sz s.w16 a 200) (σ0:=σ) (by omega) _ _ s σ e σ' (fun x hx=>⟨jg.arg hx,zOy.arg hx,yt (by omega) x hx⟩) (fun x hx=>⟨hwb.arg hx,zOx.arg hx⟩) h (.inl rfl) hp hi hE hi.idem hu
end
end Store
end Go.J
/- The law UnifyAgrees: types can be made equal in a store exactly if their resolved forms have a unifier,which is as general. -/
set_option maxRecDepth 100000
namespace Go.J
open Enc (enc)
def Cg(V:Int->Prop)(σ τ:Sub):Prop:=∀ i,V i->σ i=τ i/\∀ j,(σ i).lq j=true->V j
section
variable {V:Int->Prop}
theorem Cg.app{σ τ:Sub}(h:Cg V σ τ){t:Ty}(ht:∀ j,t.lq j=true->V j):t.app σ=t.app τ:=oQ t fun j hj=>(h j (ht j hj)).1
theorem Cg.lq{σ τ:Sub}(h:Cg V σ τ){t:Ty}(ht:∀ j,t.lq j=true->V j):∀ j,(t.app σ).lq j=true->V j:=fun j hj=>by
 obtain⟨i,hi,hij⟩:=FD t hj;exact(h i (ht i hi)).2 j hij
theorem Cg.bind{σ τ:Sub}(h:Cg V σ τ){x:Int}{t:Ty}(ht:∀ j,t.lq j=true->V j){e:Int}{σ':Sub}(hb:pW x t σ=some (e,σ')):∃ τ',pW x t τ=some (e,τ')/\Cg V σ' τ':=by
 unfold pW at hb ⊢;split at hb
 . grind
 . rename_i ho;cases hb;rw[if_neg ho];refine⟨_,rfl,fun i hi=>?_⟩;obtain⟨h1,h2⟩:=h i hi
   grind [uX,FD,one,lT]
theorem zlo{f:Nat}(ih:∀ (σ τ:Sub) (a b:Ty) (e:Int) (σ':Sub),Cg V σ τ->(∀ j,a.lq j=true->V j)->(∀ j,b.lq j=true->V j)->uA f σ a b=some (e,σ')->∃ τ',uA f τ a b=some (e,τ')/\Cg V σ' τ') :
 ∀ (l m:List Ty) (σ τ:Sub) (e:Int) (σ':Sub),Cg V σ τ->(∀ u∈l,∀ j,u.lq j=true->V j)->(∀ u∈m,∀ j,u.lq j=true->V j)->aL (uA f) l m σ=some (e,σ')->∃ τ',aL (uA f) l m τ=some (e,τ')/\Cg V σ' τ':=by
 intro l
 induction l with
 | nil =>
   grind [aL,uA]
 | cons x l ihl =>
   intro m σ τ e σ' h hl hm hA
   cases m with
   |nil=>cases hA;exact⟨τ,rfl,h⟩
   | cons y m =>
     rw[aL]at hA ⊢
     grind
theorem zbz:∀ (f:Nat) (σ τ:Sub) (a b:Ty) (e:Int) (σ':Sub),Cg V σ τ->(∀ j,a.lq j=true->V j)->(∀ j,b.lq j=true->V j)->uA f σ a b=some (e,σ')->∃ τ',uA f τ a b=some (e,τ')/\Cg V σ' τ':=by
 intro f
 induction f with
 |zero=>intro σ τ a b e σ' _ _ _ h;cases h
 | succ f ih =>
   intro σ τ a b e σ' h ha hb hu;have oa:=h.lq ha;have ob:=h.lq hb;rw[uA,aS]at hu ⊢;rw[<- h.app ha,<- h.app hb];generalize a.app σ=A at hu oa ⊢;generalize b.app σ=B at hu ob ⊢;split at hu
   . grind
   rename_i c;rw[if_neg c];split at hu
   . rename_i c;rw[if_pos c];exact h.bind ob hu
   rename_i k1;rw[if_neg k1];split at hu
   . rename_i c;rw[if_pos c];exact h.bind oa hu
   grind [zlo,GI,List.any_eq_true,ob]
end
theorem zbx{σ:Sub}(hi:kg σ){a b:Ty}(ha:a.ay=true)(hb:b.ay=true):∃ f e σ',uA f σ a b=some (e,σ'):=by
 have hp:∀ t∈[a.app σ,b.app σ],t.ay=true:=fun t ht=>by
  rcases List.mem_cons.1 ht with rfl|ht
  . exact dP hi.plain a ha
  . rw[List.mem_singleton.1 ht];exact dP hi.plain b hb
 obtain⟨f,q,hq⟩:=Tq (V:=ji [a.app σ,b.app σ]) _ _ σ a b hi ha hb (fun j hj=>(rY hp j).2 ⟨_,List.mem_cons_self ..,hj⟩) (fun j hj=>(rY hp j).2 ⟨_,List.mem_cons_of_mem _ (List.mem_singleton_self _),hj⟩) (Nat.le_refl _) (Nat.le_refl _)
 grind
theorem NU{θ:Sub}(t:Ty):t.ay=true->t.size<=(t.app θ).size:=by
 have list:∀ l:List Ty,(∀ u∈l,u.size<=(u.app θ).size)->Ty.sizes l<=Ty.sizes (l.map (Ty.app θ)):=by
  intro l
  induction l with
  |nil=>intro _;exact Nat.le_refl _
  | cons u l ih =>
    intro h;have h1:=h u (List.mem_cons_self ..);have h2:=ih fun v hv=>h v (List.mem_cons_of_mem _ hv)
    simp only[List.map_cons,Ty.sizes];omega
 induction t using Ty.ind with
 | h t ih =>
   intro ht;by_cases hk:t.kind=1
   . rw[bg ht hk];exact Ty.size_pos _
   . rw[eT hk,Ty.size_eq t,Ty.size_eq (.mk _ _ _ _ _)];have:=list t.args fun u hu=>ih u hu (bN.1 (bS ht) u hu)
     simp only[Ty.cZ];omega
namespace Store
section
variable {n S:Nat}{s:Store}{a b:Ty}
theorem Tu(hS:1<=S)(hn:n*S+S<=90000)(hn2:n<=1000)(h:bM n S s)(hp:PS s)(ha:bT n S a)(hb:bT n S b)(na:NR a)(nb:NR b){f:Nat}{e:Int}{σ':Sub}(hu:uA f (sb s) a b=some (e,σ')) :
 ((ib s a b).2=15\/((ib s a b).2=e/\(e=0->kg σ'/\∀ θ,After σ' θ↔FJ (ib s a b).1 θ)))/\PS (ib s a b).1:=by
 have hO:=zQB hS hn 300000 f (sb s) s a b e σ' h hp h.idem (fun θ=>h.A9) ha hb na nb (Br (by rw[h.len];exact hn2) a) hu;unfold ib FT;by_cases h0:(dC 300000 s a b).2=0
 . rw[if_pos h0];rcases hO with zaP|⟨h1,h2⟩
   . rw[zaP]at h0;cases h0
   . obtain⟨g1,g2,g3⟩:=h2 (by rw[<- h1];exact h0);exact⟨.inr ⟨by rw[<- h1];exact h0.symm,fun _=>⟨g1,g2⟩⟩,g3⟩
 . rw[if_neg h0];rcases hO with zaP|⟨h1,h2⟩
   . exact⟨.inl zaP,hp⟩
   . exact⟨.inr ⟨h1,fun e0=>absurd (h1.trans e0) h0⟩,hp⟩
theorem zth(hS:1<=S)(hn:n*S+S<=90000)(hn2:n<=1000)(h:bM n S s)(hp:PS s)(ha:bT n S a)(hb:bT n S b)(na:NR a)(nb:NR b):PS (ib s a b).1:=by
 obtain⟨f,e,σ',hu⟩:=zbx h.idem ha.plain hb.plain;exact(Tu hS hn hn2 h hp ha hb na nb hu).2
theorem agree(hS:1<=S)(hn:n*S+S<=90000)(hn2:n<=1000)(h:bM n S s)(hp:PS s)(ha:bT n S a)(hb:bT n S b)(na:NR a)(nb:NR b){f:Nat}{g:Int}{u:List Assign}(hu:IY f (a.app (sb s)) (b.app (sb s)) []=some (g,u)) :
 (ib s a b).2=15\/((ib s a b).2=g/\(g=0->y8 (a.app (sb (ib s a b).1)) ((a.app (sb s)).dZ u)=true/\y8 ((a.app (sb s)).dZ u) (a.app (sb (ib s a b).1))=true/\((a.app (sb s)).dZ u).size<=(a.app (sb (ib s a b).1)).size)):=by
 have hi:=h.idem;have pc:=dP hi.plain a ha.plain;have pe:=dP hi.plain b hb.plain;obtain⟨σ1,hσ,zRf⟩:=TQ (fun a ha=>by cases ha) pc pe hu
 have hA:Cg (fun j=>sb s j=aM j) aM (sb s):=fun i hi=>⟨Eq.symm hi,fun j hj=>by
  rw[lT]at hj
  rw[<- of_decide_eq_true hj];exact hi⟩
 have zu0:∀ t:Ty,∀ j,(t.app (sb s)).lq j=true->sb s j=aM j:=fun t j hj=>by
  obtain⟨i,_,hij⟩:=FD t hj;exact Oy hi hij
 rw[tK]at hσ;obtain⟨τ,hτ,hag⟩:=zbz f aM (sb s) _ _ g σ1 hA (zu0 a) (zu0 b) hσ;rw[zby hi.idem]at hτ;have hT:=(AZ hS hn hn2 h ha hb).iW;rcases(Tu hS hn hn2 h hp ha hb na nb hτ).1 with zaP|⟨h1,h2⟩
 . exact .inl zaP
 refine .inr ⟨h1,fun g0=>?_⟩;obtain⟨i1,i2⟩:=h2 g0;obtain⟨_,g2,_⟩:=(sP f (sb s) a b g τ hi ha.plain hb.plain hτ).ok g0;obtain⟨e1,e2⟩:=zRf g0
 have hz:(a.app (sb s)).dZ u=a.app τ:=by
  rw[kJ u _ pc,e1,hag.app (zu0 a),g2.app]
 rw[hz];have pz:(a.app τ).ay=true:=dP i1.plain a ha.plain;have py:(a.app (sb (ib s a b).1)).ay=true:=dP hT.idem.plain a ha.plain;have k1:(a.app τ).app (sb (ib s a b).1)=a.app (sb (ib s a b).1):=((i2 _).2 hT.QY).app a;have k2:(a.app (sb (ib s a b).1)).app τ=a.app τ:=(hT.A9.2 ((i2 τ).1 i1.idem)).app a
 grind [zos,NU,sb,ib]
end
end Store
end Go.J
/- The law UnifyAgrees: what it makes. -/
set_option maxRecDepth 100000
namespace Go.J
open Enc (enc)
theorem AX{D:List Decl}{Lv:List Ty}(hl:∀ l∈Lv,NR l)(d:Nat)(t:Tp):NR (dh d t D Lv).2 :=
 uC (P:=NR) hl (fun z hz=>by
  cases hz with
  |here h _=>exact absurd (show (4:Int)=3 from h) (by decide)
  |arg hu _=>cases hu) (fun dd hd l hll hx z hz=>by
  cases hz with
  |here h _=>exact absurd (show (4:Int)=3 from h) (by decide)
  |arg hu hz=>exact hx _ hu z hz) (fun a b ha hb z hz=>by
  cases hz with
  |here h _=>exact absurd (show (4:Int)=3 from h) (by decide)
  | arg hu hz =>
    rcases List.mem_cons.1 hu with rfl|hu
    . exact ha z hz
    . rw[List.mem_singleton.1 hu]at hz;exact hb z hz) d t
theorem AQ{n:Nat}:∀ u∈dK n,NR u:=fun u hu=>by
 obtain⟨i,_,rfl⟩:=Store.Cq hu;exact Store.Ug _
namespace Store
def five:Nat->Store
 | 0=>⟨[],[]⟩
 |k+1=>((five k).fresh 0 false).1
theorem UG:∀ k,oW k (five k)/\PS (five k)/\Ext ⟨[],[]⟩ (five k)/\(k<=1000->jW (five k)):=by
 intro k
 induction k with
 |zero=>exact⟨⟨rfl,rfl,fun x hx=>by cases hx⟩,⟨fun x hx=>(by cases hx),fun x hx=>(by cases hx)⟩,.refl _,fun _=>⟨Nat.zero_le _,fun x hx=>(by cases hx)⟩⟩
 | succ k ih =>
   obtain⟨i1,i2,i3,i4⟩:=ih;refine⟨i1.fresh _ _,⟨fun x hx=>?_,fun x hx hb=>?_⟩,.fresh _ _ i3,fun hk=>(i4 (by omega)).fresh (by rw[i1.1];omega) _ _⟩
   . simp only[five,Store.fresh,List.mem_append,List.mem_singleton]at hx;rcases hx with hx|rfl
     . exact i2.slot x hx
     grind
   . simp only[five,Store.fresh,List.mem_append,List.mem_singleton]at hx;rcases hx with hx|rfl
     . exact i2.type x hx hb
     . cases hb
def M4(D:List Decl)(t:Tp):Nat->Tp×Store
 | 0=>(t,five 5)
 | k + 1=>((dh 1 (dh 1 (M4 D t k).1 D (dK 5)).1 D (dK 5)).1,
     (ib (M4 D t k).2 (dh 1 (M4 D t k).1 D (dK 5)).2 (dh 1 (dh 1 (M4 D t k).1 D (dK 5)).1 D (dK 5)).2).1)
structure MA(s:Store):Prop where
 iW:bM 5 7 s
 room:room 5 7 s<=990
 ps:PS s
 val:jW s
 ext:Ext ⟨[],[]⟩ s
theorem zbv{D:List Decl}(hD:SQ D)(hD4:zl1 D){t:Tp}(ht:t.ok):∀ k,(M4 D t k).1.ok/\MA (M4 D t k).2:=by
 intro k
 induction k with
 | zero =>
   obtain⟨f1,f2,f3,f4⟩:=UG 5;exact⟨ht,f1.iW,Nat.le_trans f1.room (by decide),f2,f4 (by decide),f3⟩
 | succ k ih =>
   obtain⟨i1,i2,i3,i4,i5,i6⟩:=ih;have h1:=uz (D:=D) (Lv:=dK 5) 1 _ i1;have h2:=uz (D:=D) (Lv:=dK 5) 1 _ h1.1;have a1:=nY hD (rA (n:=5)) 1 (M4 D t k).1 (S:=7) (by decide);have a2:=nY hD (rA (n:=5)) 1 (dh 1 (M4 D t k).1 D (dK 5)).1 (S:=7) (by decide);have n1:=AX (D:=D) (AQ (n:=5)) 1 (M4 D t k).1;have n2:=AX (D:=D) (AQ (n:=5)) 1 (dh 1 (M4 D t k).1 D (dK 5)).1;have v1:=sQ hD4 (sN (n:=5) (by decide)) 1 (M4 D t k).1;have v2:=sQ hD4 (sN (n:=5) (by decide)) 1 (dh 1 (M4 D t k).1 D (dK 5)).1;have st:=AZ (by decide) (by decide) (by decide) i2 a1 a2;exact⟨h2.1,st.iW,Nat.le_trans st.room i3,zth (by decide) (by decide) (by decide) i2 i4 a1 a2 n1 n2,Tt i5 v1 v2,i6.trans (zo3 _ _ _)⟩
theorem zni{D:List Decl}(hD:SQ D)(hD4:zl1 D){t:Tp}(ht:t.ok)(k:Nat) :
 zaw 7 (M4 D t k).2 (dh 1 (M4 D t k).1 D (dK 5)).2 (dh 1 (dh 1 (M4 D t k).1 D (dK 5)).1 D (dK 5)).2:=by
 obtain⟨i1,i2⟩:=zbv hD hD4 ht k;exact i2.iW.zJI (by decide) (by decide) (nY hD (rA (n:=5)) 1 _ (S:=7) (by decide)) (nY hD (rA (n:=5)) 1 _ (S:=7) (by decide)) i2.room
theorem MA.m17{s:Store}(h:MA s){D:List Decl}(hD:SQ D)(hD4:zl1 D)(t t':Tp):Yx 5 s (dh 2 t D (dK 5)).2 (dh 2 t' D (dK 5)).2 :=
 ⟨by decide,by decide,⟨h.iW,h.val,nY hD rA 2 _ (by decide),nY hD rA 2 _ (by decide),sQ hD4 (sN (by decide)) 2 _,sQ hD4 (sN (by decide)) 2 _⟩,h.room,
   fun c hc=>⟨h.ext.ids (fun c hc=>by cases hc) c hc,h.ext.lt (fun c hc=>by cases hc) c hc⟩⟩
theorem Yx.agrees{s:Store}{a b:Ty}(h:Yx 5 s a b)(hp:PS s)(na:NR a)(nb:NR b):∃ x f c p e q,AR s a b=some (x,f)/\s.dF/\x.dF/\a.ok=true/\b.ok=true/\bK s.w16 a=(c,p)/\bK s.w16 b=(e,q)/\c.ok=true/\e.ok=true/\c.size<=10000/\e.size<=10000 /\
 (p=true->q=true->c.ay=true/\e.ay=true/\∀ d g u,IY d c e []=some (g,u)->f=15\/(f=g/\(g=0->u.length<=100000/\∀ y,bK x.w16 a=(y,true)->y.ok=true/\y.size<=8000/\(c.dZ u).ok=true/\(c.dZ u).size<=8000/\y8 y (c.dZ u)=true/\y8 (c.dZ u) y=true))):=by
 obtain⟨x,h1,h2,_,h4⟩:=h.znh;obtain⟨so,_,ao,bo⟩:=h.w;have hT:=h.stay.iW;have rc:=vG so ao;have re:=vG so bo;have pc:=zx hT h.stay.left;have pe:=zx hT h.stay.right;rcases hc:bK s.w16 a with⟨c,p⟩;rcases he:bK s.w16 b with⟨e,q⟩;rw[hc]at rc pc;rw[he]at re pe;simp only at rc re pc pe;refine⟨x,_,c,p,e,q,h1,so,h4,ao,bo,rfl,rfl,rc.1,re.1,rc.2,re.2,fun hp1 hq1=>⟨pc,pe,fun d g u hu=>?_⟩⟩
 have full:∀ {w:Store} {t r:Ty},bM 5 7 w->bT 5 7 t->bK w.w16 t=(r,true)->r=t.app (sb w):=by
  intro w t r hw ht hr;unfold bK at hr;split at hr
  . rename_i hz;obtain⟨r',hr',_⟩:=gp.1 hz;rw[full_of hr']at hr;cases hr;exact(hw.Dq ht.plain hr').symm
  . cases hr
 subst hp1 hq1;have ec:=full hT h.stay.left hc;have ee:=full hT h.stay.right he;have hu':=hu;rw[ec,ee]at hu;rcases agree (n:=5) (S:=7) (by decide) (by decide) (by decide) hT hp h.stay.left h.stay.right na nb hu with zaP|⟨g1,g2⟩
 . exact .inl zaP
 refine .inr ⟨g1,fun g0=>?_⟩;obtain⟨l1,l2,l3⟩:=g2 g0;rw[<- ec]at l1 l2 l3;subst g0
 have hlen:u.length<=100000:=by
  have k1:=zcc pc pe hu';have k2:=yK (aP 1 [c,e] []);have k3:=(iK 1 [c,e] []).2;have k4:=rc.2;have k5:=re.2;simp only[Ty.sizes,List.length_nil]at k3
  grind [ji]
 refine⟨hlen,fun y hy=>?_⟩;have hx:=h.next h1;have ey:=full hx.stay.iW hx.stay.left hy
 have ew:sb x=sb (ib s a b).1:=by
  grind [sb,JM]
 rw[ew]at ey;have zNM:=Jl (s:=x) a;have zJl:=(vG h4 ao).1;rw[hy]at zNM zJl;rw[<- ey]at l1 l2 l3;simp only at zNM zJl;exact⟨zJl,by omega,yA (zqf d c e [] 0 u (fun a ha=>by cases ha) rc.1 re.1 hu') c rc.1,by omega,l1,l2⟩
end Store
end Go.J
