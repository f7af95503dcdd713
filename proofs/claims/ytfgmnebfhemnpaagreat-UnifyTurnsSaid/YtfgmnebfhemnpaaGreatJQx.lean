import Derived.Test.YtfgmnebfhemnpaaGreatJPy
import Derived.Test.YtfgmnebfhemnpaaGreatJP
import Derived.Test.YtfgmnebfhemnpaaGreatJQ
set_option linter.all false
noncomputable section
/- The law UnifySame: after an equation its sides are the same,and it changes nothing more. -/
set_option maxRecDepth 100000
namespace Go.J
open Enc (enc)
namespace Store
def Eqv(s:Store)(a b:Ty):Prop:=∀ r,Rz s.w16 a r↔Rz s.w16 b r
theorem Eqv.of_w{s:Store}{a b:Ty}(h:s.w16 a=s.w16 b):Eqv s a b:=fun r=>by rw[Rz_iff,Rz_iff,h]
theorem Eqv.symm{s:Store}{a b:Ty}(h:Eqv s a b):Eqv s b a:=fun r=>(h r).symm
theorem Eqv.trans{s:Store}{a b c:Ty}(h:Eqv s a b)(k:Eqv s b c):Eqv s a c:=fun r=>(h r).trans (k r)
theorem zd1{s:Store}{a:Ty}(h:s.bound a=false):s.w16 a=a:=zcm h _
theorem zqo{s:Store}{a:Ty}(h:s.Fin a):s.w16 (s.w16 a)=s.w16 a:=zd1 h.walk.1
theorem zDC{s:Store}{t:Ty}(h:s.Fin t):∃ r,Rz s.w16 t r:=by
 have list:∀ l:List Ty,(∀ u∈l,∃ r,Rz s.w16 u r)->∃ m,Rzs s.w16 l m:=by
  intro l
  induction l with
  |nil=>intro _;exact⟨[],.nil⟩
  | cons u l ih =>
    intro hh;obtain⟨r,hr⟩:=hh u (List.mem_cons_self ..);obtain⟨m,hm⟩:=ih fun v hv=>hh v (List.mem_cons_of_mem _ hv)
    exact⟨r::m,.cons hr hm⟩
 have key:s.Fin t/\∃ r,Rz s.w16 t r:=by
  refine Fin.ind (p:=fun t=>s.Fin t/\∃ r,Rz s.w16 t r) (fun t hb ih=>?_) (fun t hb ih=>?_) h
  . obtain⟨h1,r,hr⟩:=ih;have hf:=Fin.mkb hb h1;exact⟨hf,r,((Eqv.of_w (by rw[zk3 hf hb]:s.w16 t=s.w16 (s.to t))) r).2 hr⟩
  . have hf:=Fin.mkn hb fun u hu=>(ih u hu).1
    obtain⟨m,hm⟩:=list t.args fun u hu=>(ih u hu).2
    exact⟨hf,_,Rz_iff.2 ⟨m,by rw[zd1 hb];exact hm,rfl⟩⟩
 exact key.2
section
variable {n S:Nat}{s s':Store}
theorem zxQ(g:Gr s s'){t:Ty}(hb:s.bound t=true):s'.bound t=true/\s'.to t=s.to t:=by
 obtain⟨hk,i,x,hi,hl,hx,hxb,hto⟩:=bound_slot hb;obtain⟨x',hx',g1⟩:=g.2 i x hx;obtain⟨g2,g3⟩:=g1.bound hxb;have e:s'.slot? t.id=some x':=by rw[hi,slot?_nat];exact hx'
 refine⟨by rw[bound_eq hk e];exact g2,?_⟩;rw[hto,<- g3];unfold Store.to;rw[e]
theorem zwi(hs:Tame n S s)(hs':Tame n S s')(g:Gr s s'){a:Ty}(ha:TyOk n S a):s'.w16 a=s'.w16 (s.w16 a):=by
 have key:TyOk n S a->s'.w16 a=s'.w16 (s.w16 a):=by
  refine Fin.ind (p:=fun a=>TyOk n S a->s'.w16 a=s'.w16 (s.w16 a)) (fun t hb ih ht=>?_) (fun t hb _ _=>by rw[zd1 hb]) (hs.finT _ ha);obtain⟨g1,g2⟩:=zxQ g hb;have hto:=hs.to hb;rw[zk3 (hs.finT _ ht) hb,zk3 (hs'.finT _ ht) g1,g2];exact ih hto
 exact key ha
theorem z7M{w w':Ty->Ty}{as l:List Ty}(h:Rzs w as l)(hp:∀ x∈as,∀ y∈l,Rz w x y->∀ q,Rz w' x q↔Rz w' y q):∀ m,Rzs w' as m↔Rzs w' l m:=by
 induction h with
 |nil=>intro m;exact Iff.rfl
 | cons hx _ ih =>
   rename_i x y as l hxl;have ih:=ih fun u hu v hv=>hp u (List.mem_cons_of_mem _ hu) v (List.mem_cons_of_mem _ hv)
   have h1:=hp x (List.mem_cons_self ..) y (List.mem_cons_self ..) hx;intro m;constructor
   . intro hh
     cases hh with
     |cons h2 h3=>exact .cons ((h1 _).1 h2) ((ih _).1 h3)
   . intro hh
     cases hh with
     |cons h2 h3=>exact .cons ((h1 _).2 h2) ((ih _).2 h3)
theorem zke{t:Ty}(h:t.kind≠1):s.bound t=false:=by
 cases hb:s.bound t with
 |false=>rfl
 |true=>exact absurd (zcr hb) h
theorem zro (hs:Tame n S s) (hs':Tame n S s') (g:Gr s s'):∀ (r a:Ty),TyOk n S a->Rz s.w16 a r->∀ q,Rz s'.w16 a q↔Rz s'.w16 r q:=by
 intro r
 induction r using Ty.ind with
 | h r ih =>
   intro a ha hr;obtain⟨l,h1,h2⟩:=Rz_iff.1 hr;have ht:TyOk n S (s.w16 a):=hs.walkN (Nat.le_refl S) (s.slots.length+1) ha;have e1:=zwi hs hs' g ha;generalize s.w16 a=t at h1 h2 ht e1;by_cases hk:t.kind=1
   . have hta:=ht.noargs hk;rw[hta]at h1
     have hl:l=[]:=by
      cases h1;rfl
     have:r=t:=by
      rw[h2,hl];obtain⟨k,nm,i,hm,al⟩:=t;simp only[Ty.args_mk]at hta;subst hta;rfl
     rw[this];exact Eqv.of_w (by rw[e1])
   . have hkr:r.kind=t.kind:=by rw[h2];rfl
     have w1:s'.w16 t=t:=zd1 (zke hk);have w2:s'.w16 r=r:=zd1 (zke (by rw[hkr];exact hk));have hra:r.args=l:=by rw[h2];rfl
     have hmap:=z7M (w':=s'.w16) h1 fun x hx y hy hxy=>ih y (by rw[hra];exact hy) x (ht.arg hx) hxy
     intro q;rw[Rz_iff,Rz_iff,e1,w1,w2,hra];have e2:∀ m,Ty.mk r.kind r.name r.id r.home m=Ty.mk t.kind t.name t.id t.home m:=fun m=>by rw[h2];rfl
     constructor
     . rintro ⟨m,hm,hq⟩;exact⟨m,(hmap m).1 hm,by rw[e2];exact hq⟩
     . rintro ⟨m,hm,hq⟩;exact⟨m,(hmap m).2 hm,by rw[<- e2];exact hq⟩
theorem Eqv.mono(hs:Tame n S s)(hs':Tame n S s')(g:Gr s s'){a b:Ty}(ha:TyOk n S a)(hb:TyOk n S b)(h:Eqv s a b):Eqv s' a b:=by
 obtain⟨r,hr⟩:=zDC (hs.finT _ ha);intro q;exact(zro hs hs' g r a ha hr q).trans (zro hs hs' g r b hb ((h r).1 hr) q).symm
theorem zya{x y:Ty}(hx:x.kind≠1)(hc:¬ clash x y)(h:∀ m,Rzs s.w16 x.args m↔Rzs s.w16 y.args m):Eqv s x y:=by
 unfold clash at hc;simp only[not_or,Classical.not_not]at hc;obtain⟨c1,c2,c3,c4,c5⟩:=hc;have w1:s.w16 x=x:=zd1 (zke hx);have w2:s.w16 y=y:=zd1 (zke (by rw[<- c1];exact hx));intro q;rw[Rz_iff,Rz_iff,w1,w2,c1,c2,c3,c4];constructor
 . rintro ⟨m,hm,hq⟩;exact⟨m,(h m).1 hm,hq⟩
 . rintro ⟨m,hm,hq⟩;exact⟨m,(h m).2 hm,hq⟩
theorem z7N:∀ (l m:List Ty),l.length=m.length->(∀ p∈l.zip m,Eqv s p.1 p.2)->∀ q,Rzs s.w16 l q↔Rzs s.w16 m q:=by
 intro l
 induction l with
 | nil=>intro m h _ q;cases m with
   |nil=>exact Iff.rfl
   |cons _ _=>simp at h
 | cons x l ih =>
   intro m h hp q
   cases m with
   |nil=>simp at h
   | cons y m =>
     have h1:=hp (x,y) (by simp);have h2:=ih m (by simpa using h) fun p hp2=>hp p (by simp[hp2])
     constructor
     . intro hh;cases hh with
       |cons a b=>exact .cons ((h1 _).1 a) ((h2 _).1 b)
     . intro hh;cases hh with
       |cons a b=>exact .cons ((h1 _).2 a) ((h2 _).2 b)
end
end Store
end Go.J
/- The law UnifySame: after an equation its sides are the same,and it changes nothing more. -/
set_option maxRecDepth 100000
namespace Go.J
open Enc (enc)
namespace Store
section
variable {n S:Nat}{s s':Store}
theorem zlQ{i:Nat}{t:Ty}{t0:Slot}(hi:s.slots[i]?=some t0)(hb:t0.bound=true)(ht:t0.type=t)(hf:s.Fin (zad (i:Int))):Eqv s (zad (i:Int)) t:=by
 have e:s.slot? (zad (i:Int)).id=some t0:=by show s.slot? (i:Int)=_;rw[slot?_nat];exact hi
 have h1:s.bound (zad (i:Int))=true:=by rw[bound_eq rfl e];exact hb
 have h2:s.to (zad (i:Int))=t:=by unfold Store.to;rw[e];exact ht
 exact Eqv.of_w (by rw[zk3 hf h1,h2])
theorem zxZ(h:Tame n S s)(hS:1<=S){i j:Nat}(hi:i<n)(hj:j<n)(h1:s.bound (zad (i:Int))=false)(h2:s.bound (zad (j:Int))=false):Eqv (s.join (i:Int) (j:Int)) (zad (i:Int)) (zad (j:Int)):=by
 have ht:=(join_step h hS hi hj h1 h2).tame;have hil:i<s.slots.length:=by rw[h.len];exact hi
 have hjl:j<s.slots.length:=by rw[h.len];exact hj
 revert ht
 unfold join;split
 . rename_i e;intro _;rw[e];exact fun _=>Iff.rfl
 rename_i hne
 have key:∀ a b:Nat,a<s.slots.length->b<n->∀ x y:Slot,y.bound=true->y.type=zad (a:Int)->Tame n S ((s.set (a:Int) x).1.set (b:Int) y).1->Eqv ((s.set (a:Int) x).1.set (b:Int) y).1 (zad (b:Int)) (zad (a:Int)):=by
  intro a b ha hb x y e1 e2 ht;have hb':b<(s.set (a:Int) x).1.slots.length:=by rw[set_some ha];simpa [h.len]using hb
  exact zlQ (zqR hb' y) e1 e2 (ht.fin b hb)
 unfold joinL joinH;by_cases hij:i<j
 . rw[Int.min_eq_left (by omega:(i:Int)<=j),Int.max_eq_right (by omega:(i:Int)<=j)];exact fun ht=>(key i j hil hj _ _ rfl rfl ht).symm
 . rw[Int.min_eq_right (by omega:(j:Int)<=i),Int.max_eq_left (by omega:(j:Int)<=i)];exact fun ht=>key j i hjl hi _ _ rfl rfl ht
theorem zoD(h:Tame n S s)(hS:1<=S)(hn:n*S+S<=100000){i:Nat}(hi:i<n)(h0:s.bound (zad (i:Int))=false){t:Ty}(ht:TyOk n S t)(ho:(s.bindM (i:Int) t).2=0):Eqv (s.bindM (i:Int) t).1 (zad (i:Int)) t:=by
 have hT:=(zil h hS hn hi h0 ht).tame;obtain⟨v1,v2,v3⟩:=h.vars hS ht hn;have hil0:i<s.slots.length:=by rw[h.len];exact hi
 revert ho hT
 unfold bindM;split
 . intro ho _;cases ho
 split
 . intro ho _;cases ho
 split
 . intro ho _;cases ho
 split
 . intro ho _;cases ho
 intro _ hT;have hl:=(zd6 (s.slotD (i:Int)).home (varsS s [t]) s fun v hv=>(v1 v hv).1).1.len;exact zlQ (zqR (by rw[hl];exact hil0) _) rfl rfl (hT.fin i hi)
theorem zoC{a:Ty}(h:s.Fin a):Eqv s a (s.w16 a):=Eqv.of_w (zqo h).symm
theorem Eqv.refl(a:Ty):Eqv s a a:=fun _=>Iff.rfl
theorem zDh (hS:1<=S) (hn:n*S+S<=90000) {d:Nat} (hrec:∀ s a b,Tame n S s->TyOk n S a->TyOk n S b->need s a<d->(zaj d s a b).2=0->Eqv (zaj d s a b).1 a b) {s0:Store} {k:Nat} (hk:s0.unb*202+k<=d) :
 ∀ (l m:List Ty) (s:Store),(∀ x∈l,TyOk n S x/\sz s0.w16 x 200<k)->(∀ x∈m,TyOk n S x)->Tame n S s->(s=s0\/s.unb<s0.unb)->(uL (zaj d) l m s).2=0 ->
   Tame n S (uL (zaj d) l m s).1/\Gr s (uL (zaj d) l m s).1/\∀ p∈l.zip m,Eqv (uL (zaj d) l m s).1 p.1 p.2:=by
 intro l
 induction l with
 |nil=>intro m s _ _ h _ _;exact⟨h,.refl s,fun p hp=>by simp at hp⟩
 | cons x l ih =>
   intro m s hl hm h hs
   cases m with
   |nil=>intro _;exact⟨h,.refl s,fun p hp=>by simp at hp⟩
   | cons y m =>
     have hx:=hl x (List.mem_cons_self ..);have hy:=hm y (List.mem_cons_self ..)
     have hd:need s x<d:=by
      unfold need;have:=zjC (w:=s.w16) x 200;rcases hs with rfl|hs
      . omega
      . have:s.unb*202+202<=s0.unb*202:=by omega
        omega
     have h1:=zcB hS hn d s x y h hx.1 hy hd;have h2:=zor hS hn d s x y h hx.1 hy hd;have h3:=hrec s x y h hx.1 hy hd;rw[uL];split
     . rename_i e;intro ho
       obtain⟨t1,t2,t3⟩:=ih m _ (fun z hz=>hl z (List.mem_cons_of_mem _ hz)) (fun z hz=>hm z (List.mem_cons_of_mem _ hz)) h1.tame (by
        rcases h1.less with e|h2
        . rw[e];exact hs
        . rcases hs with rfl|hs
          . exact .inr h2
          . exact .inr (Nat.lt_trans h2 hs)) ho
       refine⟨t1,h2.trans t2,fun p hp=>?_⟩;rw[List.zip_cons_cons]at hp;rcases List.mem_cons.1 hp with rfl|hp
       . exact(h3 e).mono h1.tame t1 t2 hx.1 hy
       . exact t3 p hp
     . rename_i e;intro ho;exact absurd ho e
theorem zq2 (hS:1<=S) (hn:n*S+S<=90000):∀ (d:Nat) (s:Store) (a b:Ty),Tame n S s->TyOk n S a->TyOk n S b->need s a<d->(zaj d s a b).2=0->Eqv (zaj d s a b).1 a b:=by
 intro d
 induction d with
 |zero=>intro s a b _ _ _ h;omega
 | succ d ih =>
   intro s a b h ha hb hd ho;have hwa:TyOk n S (s.w16 a):=h.walkN (Nat.le_refl S) (s.slots.length+1) ha;have hwb:TyOk n S (s.w16 b):=h.walkN (Nat.le_refl S) (s.slots.length+1) hb;have fa:=(h.finT _ ha).walk.1;have fb:=(h.finT _ hb).walk.1;have ht:=(zcB hS hn (d+1) s a b h ha hb hd).tame;have hg:=zor hS hn (d+1) s a b h ha hb hd;have ea:=(zoC (h.finT _ ha)).mono h ht hg ha hwa;have eb:=(zoC (h.finT _ hb)).mono h ht hg hb hwb;refine ea.trans (Eqv.trans ?_ eb.symm);clear ea eb
   revert ho ht hg
   rw[zaj];unfold uStep;split
   . intro ho _ _;cases ho
   rename_i hsz;split
   . rename_i s1;obtain⟨i,hi,e1,e1',b1,_⟩:=h.slot hwa s1 fa;split
     . rename_i s2;obtain⟨j,hj',e2,e2',b2,_⟩:=h.slot hwb s2 fb;rw[e1',e2',e1,e2];intro _ _ _;exact zxZ h hS hi hj' b1 b2
     . rw[e1',e1];intro ho _ _;exact zoD h hS (by omega) hi b1 hwb ho
   . rename_i s1;split
     . rename_i s2;obtain⟨j,hj',e2,e2',b2,_⟩:=h.slot hwb s2 fb;rw[e2',e2];intro ho _ _;exact(zoD h hS (by omega) hj' b2 hwa ho).symm
     . split
       . intro ho _ _;cases ho
       . rename_i s2 hc;intro ho _ _;unfold need at hd;obtain⟨t1,t2,t3⟩:=zDh hS hn ih (s0:=s) (k:=sz s.w16 a 200) (by omega) _ _ s (fun x hx=>⟨hwa.arg hx,zgX (by omega) x hx⟩) (fun x hx=>hwb.arg hx) h (.inl rfl) ho
         have hlen:(s.w16 a).args.length=(s.w16 b).args.length:=by
          unfold clash at hc;simp only[not_or,Classical.not_not]at hc;exact hc.2.2.2.2
         have hq:=z7N _ _ hlen t3;by_cases hk:(s.w16 a).kind=1
         . have c:=hc;unfold clash at c;simp only[not_or,Classical.not_not]at c;obtain⟨c1,c2,c3,c4,c5⟩:=c;have hta:=hwa.noargs hk;have htb:=hwb.noargs (by rw[<- c1];exact hk)
           have:s.w16 a=s.w16 b:=by
            generalize s.w16 a=x at *;generalize s.w16 b=y at *;obtain⟨k,nm,i,hm,al⟩:=x;obtain⟨k',nm',i',hm',al'⟩:=y;simp only[Ty.args_mk]at hta htb;subst hta;subst htb;simp only[Ty.kind_mk,Ty.name_mk,Ty.id_mk,Ty.home_mk]at c1 c2 c3 c4;rw[c1,c2,c3,c4]
           rw[this];exact .refl _
         . exact zya hk hc hq
theorem z7L {w:Ty->Ty}:∀ {l m q:List Ty},Rzs w l q->Rzs w m q->∀ p∈l.zip m,∃ y∈q,Rz w p.1 y/\Rz w p.2 y:=by
 intro l
 induction l with
 |nil=>intro m q _ _ p hp;simp at hp
 | cons x l ih =>
   intro m q h1 h2 p hp
   cases m with
   |nil=>simp at hp
   | cons y m =>
     cases h1 with
     | cons a1 a2 =>
       cases h2 with
       | cons b1 b2 =>
         rw[List.zip_cons_cons]at hp;rcases List.mem_cons.1 hp with rfl|hp
         . exact⟨_,List.mem_cons_self ..,a1,b1⟩
         . obtain⟨y,hy,h⟩:=ih a2 b2 p hp;exact⟨y,List.mem_cons_of_mem _ hy,h⟩
theorem z7v{rec:Store->Ty->Ty->Store×Int}:∀ (l m:List Ty),(∀ p∈l.zip m,rec s p.1 p.2=(s,0))->uL rec l m s=(s,0):=by
 intro l
 induction l with
 |nil=>intro m _;cases m<;>rfl
 | cons x l ih =>
   intro m h
   cases m with
   |nil=>rfl
   | cons y m =>
     have h1:=h (x,y) (by simp);simp only at h1;rw[uL,h1,if_pos rfl];exact ih m fun p hp=>h p (by simp[hp])
theorem zr4:∀ (d:Nat) (a b:Ty),Tame n S s->TyOk n S a->TyOk n S b->(∃ r,Rz s.w16 a r/\Rz s.w16 b r/\r.size<=200)->zaj d s a b=(s,0):=by
 intro d
 induction d with
 |zero=>intro a b _ _ _ _;rfl
 | succ d ih =>
   intro a b h ha hb ⟨r,ra,rb,hr⟩;have hwa:TyOk n S (s.w16 a):=h.walkN (Nat.le_refl S) (s.slots.length+1) ha;have hwb:TyOk n S (s.w16 b):=h.walkN (Nat.le_refl S) (s.slots.length+1) hb;have fa:=(h.finT _ ha).walk.1;have fb:=(h.finT _ hb).walk.1;have za:sz s.w16 a 200<=200:=sz_fits.2 ⟨r,ra,hr⟩;have zb:sz s.w16 b 200<=200:=sz_fits.2 ⟨r,rb,hr⟩;obtain⟨l,h1,h2⟩:=Rz_iff.1 ra;obtain⟨m,h3,h4⟩:=Rz_iff.1 rb;rw[h2]at h4
   injection h4 with k1 k2 k3 k4 k5
   subst k5;have hlen:(s.w16 a).args.length=(s.w16 b).args.length:=by rw[h1.sizes_pos,h3.sizes_pos]
   rw[zaj];unfold uStep;rw[if_neg (by omega)];have hslot:s.isSlot (s.w16 a)=s.isSlot (s.w16 b):=by unfold isSlot;rw[k1,k3]
   split
   . rename_i s1;rw[if_pos (by rw[<- hslot];exact s1),k3];unfold join;rw[if_pos rfl]
   . rename_i s1;rw[if_neg (by rw[<- hslot];exact s1),if_neg (by unfold clash;simp[k1,k2,k3,k4,hlen])];refine z7v _ _ fun p hp=>?_
     obtain⟨y,hy,y1,y2⟩:=z7L h1 h3 p hp;have hp':=List.of_mem_zip hp;refine ih p.1 p.2 h (hwa.arg hp'.1) (hwb.arg hp'.2) ⟨y,y1,y2,?_⟩;have hs:y.size<r.size:=by rw[h2];exact Ty.size_arg (t:=.mk _ _ _ _ l) hy
     omega
theorem zoW:∀ (d:Nat) (s:Store) (a b:Ty),zaj d s a b=zaj d s b a:=by
 intro d
 induction d with
 |zero=>intro s a b;rfl
 | succ d ih =>
   have hL:∀ (l m:List Ty) (s:Store),uL (zaj d) l m s=uL (zaj d) m l s:=by
    intro l
    induction l with
    |nil=>intro m s;cases m<;>rfl
    | cons x l ihl =>
      intro m s
      cases m with
      |nil=>rfl
      | cons y m =>
        rw[uL,uL,ih s x y,ihl m]
   intro s a b;rw[zaj,zaj];unfold uStep
   have hj:∀ i j:Int,s.join i j=s.join j i:=fun i j=>by
    unfold join joinL joinH;rw[Int.min_comm i j,Int.max_comm i j];by_cases e:i=j
    . rw[if_pos e,if_pos e.symm]
    . rw[if_neg e,if_neg (fun h=>e h.symm)]
   have hc:clash (s.w16 a) (s.w16 b)↔clash (s.w16 b) (s.w16 a):=by
    unfold clash;constructor
    . rintro (h|h|h|h|h)
      . exact .inl fun e=>h e.symm
      . exact .inr (.inl fun e=>h e.symm)
      . exact .inr (.inr (.inl fun e=>h e.symm))
      . exact .inr (.inr (.inr (.inl fun e=>h e.symm)))
      . exact .inr (.inr (.inr (.inr fun e=>h e.symm)))
    . rintro (h|h|h|h|h)
      . exact .inl fun e=>h e.symm
      . exact .inr (.inl fun e=>h e.symm)
      . exact .inr (.inr (.inl fun e=>h e.symm))
      . exact .inr (.inr (.inr (.inl fun e=>h e.symm)))
      . exact .inr (.inr (.inr (.inr fun e=>h e.symm)))
   have hz:(200<sz s.w16 b 200\/200<sz s.w16 a 200)↔(200<sz s.w16 a 200\/200<sz s.w16 b 200):=Or.comm;by_cases z:200<sz s.w16 a 200\/200<sz s.w16 b 200
   . rw[if_pos z,if_pos (hz.2 z)]
   rw[if_neg z,if_neg (fun h=>z (hz.1 h))];by_cases x:s.isSlot (s.w16 a)=true<;>by_cases y:s.isSlot (s.w16 b)=true
   . rw[if_pos x,if_pos y,if_pos y,if_pos x,hj]
   . rw[if_pos x,if_neg y,if_neg y,if_pos x]
   . rw[if_neg x,if_pos y,if_pos y,if_neg x]
   . rw[if_neg x,if_neg y,if_neg y,if_neg x];by_cases c:clash (s.w16 a) (s.w16 b)
     . rw[if_pos c,if_pos (hc.1 c)]
     . rw[if_neg c,if_neg (fun h=>c (hc.2 h))];exact hL _ _ s
end
end Store
end Go.J
/- The laws UnifySame and UnifyTurns: what is to be shown beside their runs. -/
set_option maxRecDepth 100000
namespace Go.J
open Enc (enc)
namespace Store
def zDB(s:Store)(a b:Ty):Bool:=decide (sz s.w16 a 200<=200/\sz s.w16 b 200<=200/\(zT s.w16 a).1=(zT s.w16 b).1)
theorem ziQ{s:Store}{t r:Ty}(h:Rz s.w16 t r)(hr:r.size<=4000):zT s.w16 t=(r,true):=by
 have:sz s.w16 t 4000<=4000:=sz_fits.2 ⟨r,h,hr⟩;unfold zT;rw[if_pos this,full_of h]
theorem zjH{s:Store}(t:Ty):(zT s.w16 t).1.size<=4000:=by
 unfold zT;split
 . rename_i h;obtain⟨r,hr,hl⟩:=sz_fits.1 h;rw[full_of hr];exact hl
 . show ty0.size<=4000
   decide
variable {n:Nat}{s:Store}{a b:Ty}
theorem M17.swap(h:M17 n s a b):M17 n s b a:=⟨h.low,h.high,⟨h.stay.tame,h.stay.val,h.stay.right,h.stay.left,h.stay.rv,h.stay.lv⟩,h.room,h.ids⟩
theorem M17.w(h:M17 n s a b):s.tysOk/\s.w=s.w16/\a.ok=true/\b.ok=true:=⟨h.stay.tame.tysOk (by have:=h.high;omega),h.stay.tame.w_eq,h.stay.left.ok,h.stay.right.ok⟩
theorem z7r{s:Store}{a b:Ty}{x:Store}{e:Int}(h:uniF s a b=some (x,e)):Tw (topM s a b).1 x:=by
 obtain⟨_,_,_,r,hr,hq⟩:=uniF_inv h;have h1:=(Prod.mk.inj hq).1;by_cases e0:r.2=0
 . rw[if_pos e0]at h1;rw[h1];exact hr.tw e0
 . rw[if_neg e0]at h1
   have ht:(topM s a b).1=s:=by
    have:(topM s a b).2≠0:=by rw[<- hr.err];exact e0
    unfold topM at this ⊢;split
    . rename_i hh;rw[if_pos hh]at this;exact absurd rfl this
    . rfl
   rw[h1,ht];exact .refl s
theorem M17.next(h:M17 n s a b){x:Store}{e:Int}(hu:uniF s a b=some (x,e)):M17 n x a b:=by
 have hh:=h.high;obtain⟨x',h1,h2,h3,h4⟩:=h.uni0;rw[hu]at h1;simp only[Option.some.injEq,Prod.mk.injEq]at h1;obtain⟨rfl,rfl⟩:=h1;have hw:=z7r hu;have hst:=zjB (n:=n) (S:=7) (by omega) (by omega) (by omega) h.stay.tame h.stay.left h.stay.right;have hr:=Nat.le_trans hst.room h.room;have hv:=zq7 h.stay.val h.stay.lv h.stay.rv;have hT:=hw.tame hst.tame;have hv2:AllV x:=⟨by rw[h2];exact hv.len,by rw[h2];exact hv.tys⟩;refine⟨h.low,h.high,⟨hT,hv2,h.stay.left,h.stay.right,h.stay.lv,h.stay.rv⟩,?_,h3⟩;have ht:=hw.trail;unfold Store.room at hr ⊢;have hu:x.unb=(topM s a b).1.unb:=by unfold Store.unb;rw[h2]
 rw[hu];omega
theorem zw0(h:M17 n s a b)(h0:(topM s a b).2=0):Eqv (topM s a b).1 a b:=by
 have hh:=h.high;unfold topM at h0 ⊢;split
 . rename_i e;exact zq2 (n:=n) (S:=7) (by omega) (by omega) 300000 s a b h.stay.tame h.stay.left h.stay.right (zkd (by rw[h.stay.tame.len];omega) a) e
 . rename_i e;rw[if_neg e]at h0;exact absurd h0 e
theorem Eqv.slots{x y:Store}(h:Eqv x a b)(e:y.slots=x.slots):Eqv y a b:=by
 unfold Eqv;rw[zk4 e];exact h
theorem M17.again(h:M17 n s a b):∃ x e,uniF s a b=some (x,e)/\M17 n x a b/\(e=0->sz x.w16 a 200<=200->zDB x a b=true/\∃ y,uniF x a b=some (y,0)/\x.slots=y.slots):=by
 obtain⟨x,h1,h2,h3,h4⟩:=h.uni0;have hx:=h.next h1;refine⟨x,_,h1,hx,fun e hz=>?_⟩;have hE:=(zw0 h e).slots h2;obtain⟨r,hr,hl⟩:=sz_fits.1 hz;have hr2:=(hE r).1 hr;have hz2:sz x.w16 b 200<=200:=sz_fits.2 ⟨r,hr2,hl⟩;have hsame:zDB x a b=true:=decide_eq_true ⟨hz,hz2,by rw[ziQ hr (by omega),ziQ hr2 (by omega)]⟩;obtain⟨y,g1,g2,_,_⟩:=hx.uni0
 have hn:topM x a b=(x,0):=by
  have:unifT x a b=(x,0):=zr4 (n:=n) (S:=7) 300000 a b hx.stay.tame hx.stay.left hx.stay.right ⟨r,hr,hr2,hl⟩;unfold topM;rw[this];rfl
 rw[hn]at g1 g2;exact⟨hsame,y,g1,g2.symm⟩
theorem zq8(s:Store)(a b:Ty):topM s a b=topM s b a:=by
 unfold topM unifT;rw[zoW]
theorem M17.turns(h:M17 n s a b):∃ x y e,uniF s a b=some (x,e)/\uniF s b a=some (y,e)/\x.tysOk/\y.tysOk/\x.w16=y.w16:=by
 obtain⟨x,h1,h2,_,h4⟩:=h.uni0;obtain⟨y,g1,g2,_,g4⟩:=h.swap.uni0;rw[zq8 s b a]at g1 g2;exact⟨x,y,_,h1,g1,h4,g4,zk4 (h2.trans g2.symm)⟩
end Store
end Go.J
/- The law UnifyTurns: what a type stands for is a variant of itself. -/
set_option maxRecDepth 100000
namespace Go.J
open Enc (enc)
namespace Store
theorem zwS{n S:Nat}{s:Store}(h:Tame n S s):∀ (r t:Ty),TyOk n S t->Rz s.w16 t r->r.vplain=true:=by
 intro r
 induction r using Ty.ind with
 | h r ih =>
   intro t ht hr;obtain⟨l,h1,h2⟩:=Rz_iff.1 hr;have hw:TyOk n S (s.w16 t):=h.walkN (Nat.le_refl S) (s.slots.length+1) ht;by_cases hk:(s.w16 t).kind=1
   . have ha:=hw.noargs hk;rw[ha]at h1;have hl:l=[]:=by cases h1;rfl
     have e:=zbH hw.plain hk;rw[hl,e]at h2;rw[h2];exact zeI _
   . refine zeJ (by rw[h2];exact hk) fun y hy=>?_
     obtain⟨v,hv,hvy⟩:=Rzs.back h1 (by rw[h2]at hy;exact hy);exact ih y hy v (hw.arg hv) hvy
theorem zjI{n S:Nat}{s:Store}(h:Tame n S s){t:Ty}(ht:TyOk n S t):(zT s.w16 t).1.vplain=true:=by
 unfold zT;split
 . rename_i hz;obtain⟨r,hr,_⟩:=sz_fits.1 hz;rw[full_of hr];exact zwS h r t ht hr
 . rfl
theorem M17.turns'{n:Nat}{s:Store}{a b:Ty}(h:M17 n s a b):∃ x y e c p,uniF s a b=some (x,e)/\uniF s b a=some (y,e)/\x.tysOk/\y.tysOk/\a.ok=true/\zT x.w16 a=(c,p)/\zT y.w16 a=(c,p)/\c.ok=true/\c.size<=8000/\zqh c c=true:=by
 obtain⟨x,y,e,h1,h2,h3,h4,h5⟩:=h.turns;have hx:=h.next h1;rcases hc:zT x.w16 a with⟨c,p⟩;have c1:=(ziR h3 h.stay.left.ok).1;have c2:=zjH (s:=x) a;have c3:=zjI hx.stay.tame hx.stay.left;rw[hc]at c1 c2 c3;exact⟨x,y,e,c,p,h1,h2,h3,h4,h.stay.left.ok,hc,by rw[<- h5];exact hc,c1,by simp only at c2;omega,zx8 c3⟩
end Store
end Go.J
