import Derived.Test.YtfgmnebfhemnpaaGreatJP
set_option linter.all false
noncomputable section
/- What equations keep: a relation between stores that holds for each step holds for all;homes never grow,bases stay true,what is bound stays bound. -/
namespace Go.J
open Enc (enc)
namespace Store
section
variable {n S:Nat}{R:Store->Store->Prop}
theorem zDg (hr:∀ s,Tame n S s->R s s) (ht:∀ a b c,R a b->R b c->R a c) {d:Nat} {rec:Store->Ty->Ty->Store×Int} (hstep:∀ s a b,Tame n S s->TyOk n S a->TyOk n S b->need s a<d->Step n S s (rec s a b).1)
 (hrec:∀ s a b,Tame n S s->TyOk n S a->TyOk n S b->need s a<d->R s (rec s a b).1) {s0:Store} {k:Nat} (hk:s0.unb*202+k<=d) :
 ∀ (l m:List Ty) (s:Store),(∀ x∈l,TyOk n S x/\sz s0.w16 x 200<k)->(∀ x∈m,TyOk n S x)->Tame n S s->(s=s0\/s.unb<s0.unb)->R s (uL rec l m s).1:=by
 intro l
 induction l with
 |nil=>intro m s _ _ h _;exact hr s h
 | cons x l ih =>
   intro m s hl hm h hs
   cases m with
   |nil=>exact hr s h
   | cons y m =>
     have hx:=hl x (List.mem_cons_self ..)
     have hn:need s x<d:=by
      unfold need;have:=zjC (w:=s.w16) x 200;rcases hs with rfl|hs
      . omega
      . have:s.unb*202+202<=s0.unb*202:=by omega
        omega
     have h1:=hstep s x y h hx.1 (hm y (List.mem_cons_self ..)) hn;have h2:=hrec s x y h hx.1 (hm y (List.mem_cons_self ..)) hn;rw[uL];split
     . refine ht _ _ _ h2 (ih m _ (fun z hz=>hl z (List.mem_cons_of_mem _ hz)) (fun z hz=>hm z (List.mem_cons_of_mem _ hz)) h1.tame ?_);rcases h1.less with e|h2
       . rw[e];exact hs
       . rcases hs with rfl|hs
         . exact .inr h2
         . exact .inr (Nat.lt_trans h2 hs)
     . exact h2
theorem zq1 (hS:1<=S) (hn:n*S+S<=90000) (hr:∀ s,Tame n S s->R s s) (ht:∀ a b c,R a b->R b c->R a c)
 (hj:∀ s (i j:Nat),Tame n S s->i<n->j<n->s.bound (zad (i:Int))=false->s.bound (zad (j:Int))=false->R s (s.join (i:Int) (j:Int)))
 (hb:∀ s (i:Nat) t,Tame n S s->i<n->s.bound (zad (i:Int))=false->TyOk n S t->s.bound t=false->s.isSlot t=false->(∃ r,Rz s.w16 t r/\r.size<=200)->R s (s.bindM (i:Int) t).1) :
 ∀ (d:Nat) (s:Store) (a b:Ty),Tame n S s->TyOk n S a->TyOk n S b->need s a<d->R s (zaj d s a b).1:=by
 intro d
 induction d with
 |zero=>intro s a b _ _ _ h;omega
 | succ d ih =>
   intro s a b h ha hb' hd;have hwa:TyOk n S (s.w16 a):=h.walkN (Nat.le_refl S) (s.slots.length+1) ha;have hwb:TyOk n S (s.w16 b):=h.walkN (Nat.le_refl S) (s.slots.length+1) hb';have fa:=(h.finT _ ha).walk.1;have fb:=(h.finT _ hb').walk.1;rw[zaj];unfold uStep;split
   . exact hr s h
   rename_i hsz
   have hz:∀ c:Ty,sz s.w16 c 200<=200->s.bound (s.w16 c)=false->∃ r,Rz s.w16 (s.w16 c) r/\r.size<=200:=fun c hc hb=>by
    obtain⟨r,hr,hl⟩:=sz_fits.1 hc;obtain⟨l,h1,h2⟩:=Rz_iff.1 hr;have e:s.w16 (s.w16 c)=s.w16 c:=zcm hb _;exact⟨r,Rz_iff.2 ⟨l,by rw[e];exact h1,by rw[e];exact h2⟩,hl⟩
   split
   . rename_i s1;obtain⟨i,hi,e1,e1',b1,_⟩:=h.slot hwa s1 fa;split
     . rename_i s2;obtain⟨j,hj',e2,e2',b2,_⟩:=h.slot hwb s2 fb;rw[e1',e2'];exact hj s i j h hi hj' b1 b2
     . rename_i s2;rw[e1'];exact hb s i _ h hi b1 hwb fb (by simpa using s2) (hz b (by omega) fb)
   . rename_i s1;split
     . rename_i s2;obtain⟨j,hj',e2,e2',b2,_⟩:=h.slot hwb s2 fb;rw[e2'];exact hb s j _ h hj' b2 hwa fa (by simpa using s1) (hz a (by omega) fa)
     . split
       . exact hr s h
       . unfold need at hd;exact zDg hr ht (s0:=s) (k:=sz s.w16 a 200) (zcB hS hn d) ih (by omega) _ _ s (fun x hx=>⟨hwa.arg hx,zgX (by omega) x hx⟩) (fun x hx=>hwb.arg hx) h (.inl rfl)
end
structure GrS(x x':Slot):Prop where
 home:x'.home<=x.home
 base:x.base=true->x'.base=true
 bound:x.bound=true->x'.bound=true/\x'.type=x.type
def Gr(s s':Store):Prop:=s'.slots.length=s.slots.length/\∀ (i:Nat) (x:Slot),s.slots[i]?=some x->∃ x',s'.slots[i]?=some x'/\GrS x x'
theorem GrS.refl(x:Slot):GrS x x:=⟨Int.le_refl _,id,fun h=>⟨h,rfl⟩⟩
theorem Gr.refl(s:Store):Gr s s:=⟨rfl,fun i x h=>⟨x,h,.refl x⟩⟩
theorem Gr.trans{a b c:Store}(h:Gr a b)(k:Gr b c):Gr a c:=by
 refine⟨k.1.trans h.1,fun i x hx=>?_⟩;obtain⟨y,hy,g1⟩:=h.2 i x hx;obtain⟨z,hz,g2⟩:=k.2 i y hy;refine⟨z,hz,Int.le_trans g2.home g1.home,fun hb=>g2.base (g1.base hb),fun hb=>?_⟩;obtain⟨h1,h2⟩:=g1.bound hb;obtain⟨h3,h4⟩:=g2.bound h1;exact⟨h3,h4.trans h2⟩
theorem zos{s:Store}{i:Nat}(hi:i<s.slots.length){x:Slot}(h:GrS s.slots[i] x):Gr s (s.set (i:Int) x).1:=by
 rw[set_some hi];refine⟨by simp,fun j y hy=>?_⟩;show ∃ x',(s.slots.set i x)[j]?=some x'/\GrS y x';rw[List.getElem?_set];by_cases hij:i=j
 . subst hij;rw[List.getElem?_eq_getElem hi]at hy;cases hy;rw[if_pos rfl,if_pos hi];exact⟨x,rfl,h⟩
 . rw[if_neg hij];exact⟨y,hy,.refl y⟩
theorem zxP{s:Store}(home:Int){v:Int}(h0:0<=v):Gr s (lowerOne home s v):=by
 unfold lowerOne;split
 . rename_i h;obtain⟨i,rfl⟩:=Int.eq_ofNat_of_zero_le h0;have hi:i<s.slots.length:=by omega
   have hh:=h.2;rw[slotD_at hi]at hh ⊢;exact zos hi ⟨Int.le_of_lt hh,id,fun h=>⟨h,rfl⟩⟩
 . exact .refl s
theorem zrP(home:Int):∀ (l:List Int) (s:Store),(∀ v∈l,0<=v)->Gr s (l.foldl (lowerOne home) s):=by
 intro l
 induction l with
 |nil=>intro s _;exact .refl s
 | cons v l ih =>
   intro s h;rw[List.foldl_cons];exact(zxP home (h v (List.mem_cons_self ..))).trans (ih _ fun w hw=>h w (List.mem_cons_of_mem _ hw))
theorem zq3{s:Store}{i:Nat}(hi:i<s.slots.length)(h:s.bound (zad (i:Int))=false):s.slots[i].bound=false:=by
 have e:=bound_eq (s:=s) (t:=zad (i:Int)) rfl (by show s.slot? (i:Int)=some s.slots[i];rw[slot?_nat];exact List.getElem?_eq_getElem hi);rw[<- e];exact h
theorem z9j {n S:Nat} {s:Store} (h:Tame n S s) (hS:1<=S) (hn:n*S+S<=100000) {i:Nat} (hi:i<n) (h0:s.bound (zad (i:Int))=false) {t:Ty} (ht:TyOk n S t):Gr s (s.bindM (i:Int) t).1:=by
 obtain⟨v1,v2,v3⟩:=h.vars hS ht hn;have hil0:i<s.slots.length:=by rw[h.len];exact hi
 unfold bindM;split
 . exact .refl s
 split
 . exact .refl s
 split
 . exact .refl s
 split
 . exact .refl s
 have hl:=zd6 (s.slotD (i:Int)).home (varsS s [t]) s fun v hv=>(v1 v hv).1
 have hg:=zrP (s.slotD (i:Int)).home (varsS s [t]) s fun v hv=>(v1 v hv).1
 have hm:∀ v∈varsS s [t],v≠(i:Int):=fun v hv e=>by subst e;contradiction
 have hsame:((varsS s [t]).foldl (lowerOne (s.slotD (i:Int)).home) s).slots[i]?=some s.slots[i]:=by
  have key:∀ (l:List Int) (s1:Store),(∀ v∈l,0<=v/\v≠(i:Int))->(l.foldl (lowerOne (s.slotD (i:Int)).home) s1).slots[i]?=s1.slots[i]?:=by
   intro l
   induction l with
   |nil=>intro s1 _;rfl
   | cons v l ih =>
     intro s1 hv;rw[List.foldl_cons,ih _ fun w hw=>hv w (List.mem_cons_of_mem _ hw)];obtain⟨a0,a1⟩:=hv v (List.mem_cons_self ..);unfold lowerOne;split
     . rename_i hh;obtain⟨j,rfl⟩:=Int.eq_ofNat_of_zero_le a0;rw[set_some (by omega)];exact List.getElem?_set_ne (by omega)
     . rfl
  rw[key _ _ fun v hv=>⟨(v1 v hv).1,hm v hv⟩];exact List.getElem?_eq_getElem hil0
 rw[slotD_at hil0]at hl hg hsame ⊢;generalize (varsS s [t]).foldl (lowerOne s.slots[i].home) s=s1 at hl hg hsame ⊢;obtain⟨hi1,he⟩:=List.getElem?_eq_some_iff.1 hsame;refine hg.trans (zos hi1 ?_);rw[he];refine⟨Int.le_refl _,id,fun hb=>?_⟩;rw[zq3 hil0 h0]at hb;cases hb
theorem z9i {n S:Nat} {s:Store} (h:Tame n S s) {i j:Nat} (hi:i<n) (hj:j<n) (h1:s.bound (zad (i:Int))=false) (h2:s.bound (zad (j:Int))=false):Gr s (s.join (i:Int) (j:Int)):=by
 have hil:i<s.slots.length:=by rw[h.len];exact hi
 have hjl:j<s.slots.length:=by rw[h.len];exact hj
 unfold join;split
 . exact .refl s
 rename_i hne
 have key:∀ a b:Nat,a<s.slots.length->b<s.slots.length->a≠b->∀ x y:Slot,GrS (s.slotD (a:Int)) x->y.home<=(s.slotD (b:Int)).home->((s.slotD (b:Int)).base=true->y.base=true)->(s.slotD (b:Int)).bound=false->Gr s ((s.set (a:Int) x).1.set (b:Int) y).1:=by
  intro a b ha hb hab x y g1 g2 g3 g4;rw[slotD_at ha]at g1;rw[slotD_at hb]at g2 g3 g4;have hb':b<(s.set (a:Int) x).1.slots.length:=by rw[set_some ha];simpa using hb
  refine(zos ha g1).trans (zos hb' ?_)
  have e:(s.set (a:Int) x).1.slots[b]=s.slots[b]:=by
   have:(s.set (a:Int) x).1.slots[b]?=s.slots[b]?:=by
    rw[set_some ha];exact List.getElem?_set_ne hab
   rw[List.getElem?_eq_getElem hb',List.getElem?_eq_getElem hb]at this;exact Option.some.inj this
  rw[e];exact⟨g2,g3,fun hbb=>by rw[g4]at hbb;cases hbb⟩
 have u1:=zq3 hil h1;have u2:=zq3 hjl h2;unfold joinL joinH;by_cases hij:i<j
 . rw[Int.min_eq_left (by omega:(i:Int)<=j),Int.max_eq_right (by omega:(i:Int)<=j)];refine key i j hil hjl (by omega) _ _ ⟨Int.min_le_left ..,fun hb=>by show (_||_)=true;rw[hb];rfl,fun hb=>⟨hb,rfl⟩⟩ (Int.le_refl _) id (by rw[slotD_at hjl];exact u2)
 . rw[Int.min_eq_right (by omega:(j:Int)<=i),Int.max_eq_left (by omega:(j:Int)<=i)];refine key j i hjl hil (by omega) _ _ ⟨Int.min_le_left ..,fun hb=>by show (_||_)=true;rw[hb];rfl,fun hb=>⟨hb,rfl⟩⟩ (Int.le_refl _) id (by rw[slotD_at hil];exact u1)
theorem zor{n S:Nat}(hS:1<=S)(hn:n*S+S<=90000):∀ (d:Nat) (s:Store) (a b:Ty),Tame n S s->TyOk n S a->TyOk n S b->need s a<d->Gr s (zaj d s a b).1 :=
 zq1 hS hn (fun s _=>.refl s) (fun _ _ _ h k=>h.trans k) (fun s i j h hi hj h1 h2=>z9i h hi hj h1 h2) (fun s i t h hi h0 ht _ _ _=>z9j h hS (by omega) hi h0 ht)
end Store
end Go.J
/- What equations keep: a variable that may stand for no function never does. -/
namespace Go.J
open Enc (enc)
namespace Store
inductive NB (s:Store):Nat->Prop
 |unb {i:Nat} {x:Slot}:s.slots[i]?=some x->x.bound=false->x.base=true->NB s i
 |var {i j:Nat} {x:Slot}:s.slots[i]?=some x->x.bound=true->x.type=zad (j:Int)->NB s j->NB s i
 |ty {i:Nat} {x:Slot}:s.slots[i]?=some x->x.bound=true->s.isSlot x.type=false->(zaH x.type).c=false->NB s i
theorem zp6{s s':Store}(h:s'.slots.length=s.slots.length)(t:Ty):s'.isSlot t=s.isSlot t:=by
 unfold isSlot slot?;split
 . rw[Bool.eq_iff_iff];simp only[Bool.and_eq_true,decide_eq_true_eq,Option.isSome_iff_ne_none,ne_eq,List.getElem?_eq_none_iff,h]
 . rfl
theorem NB.gr{s s':Store}(h:Gr s s')(hu:∀ (i:Nat) (x:Slot),s.slots[i]?=some x->x.bound=false->x.base=true->NB s' i){i:Nat}(hi:NB s i):NB s' i:=by
 induction hi with
 |unb h1 h2 h3=>exact hu _ _ h1 h2 h3
 | var h1 h2 h3 _ ih =>
   obtain⟨x',g1,g2⟩:=h.2 _ _ h1;obtain⟨g3,g4⟩:=g2.bound h2;exact .var g1 g3 (g4.trans h3) ih
 | ty h1 h2 h3 h4 =>
   obtain⟨x',g1,g2⟩:=h.2 _ _ h1;obtain⟨g3,g4⟩:=g2.bound h2;exact .ty g1 g3 (by rw[zp6 h.1,g4];exact h3) (by rw[g4];exact h4)
theorem zD9{s:Store}{i j:Nat}(hi:i<s.slots.length)(hij:i≠j)(x:Slot):(s.set (i:Int) x).1.slots[j]?=s.slots[j]?:=by
 rw[set_some hi];exact List.getElem?_set_ne hij
theorem zqR{s:Store}{i:Nat}(hi:i<s.slots.length)(x:Slot):(s.set (i:Int) x).1.slots[i]?=some x:=by
 rw[set_some hi];exact List.getElem?_set_self hi
theorem zk3{s:Store}{t:Ty}(h:s.Fin t)(hb:s.bound t=true):s.w16 t=s.w16 (s.to t):=by
 obtain⟨d,hd⟩:=(h.to hb).ends;have hle:=(Ends.step hb hd).le;have e1:=(hd.walk s.slots.length (by omega)).1;have e2:=(hd.walk (s.slots.length+1) (by omega)).1;show s.walkN (s.slots.length+1) t=s.walkN (s.slots.length+1) (s.to t);rw[e2,<- e1,walkN,if_pos hb]
end Store
end Go.J
/- What equations keep: no rigid constant of a later home comes below a variable. -/
namespace Go.J
open Enc (enc)
inductive Lf (k:Int) (x:Ty):Ty->Prop
 |here:x.kind=k->x.args=[]->Lf k x x
 |arg {t u:Ty}:u∈t.args->Lf k x u->Lf k x t
theorem zgo{k:Int}{l:List Ty}(h:∀ t∈l,∀ (out:List Ty) (x:Ty),x∈zaw k t out↔x∈out\/Lf k x t):∀ (out:List Ty) (x:Ty),x∈zQ k l out↔x∈out\/∃ t∈l,Lf k x t:=by
 induction l with
 |nil=>intro out x;simp[zQ]
 | cons t l ih =>
   intro out x;rw[zQ,ih (fun u hu=>h u (List.mem_cons_of_mem _ hu)),h t (List.mem_cons_self ..)];simp[or_assoc]
theorem znb {k:Int} (t:Ty):∀ (out:List Ty) (x:Ty),x∈zaw k t out↔x∈out\/Lf k x t:=by
 induction t using Ty.ind with
 | h t ih =>
   intro out x;rw[zcd];split
   . rename_i h
     have e:Lf k x t↔x=t:=by
      constructor
      . intro hx
        cases hx with
        |here _ _=>rfl
        |arg hu _=>rw[h.2]at hu;cases hu
      . rintro rfl;exact .here h.1 h.2
     rw[e];split
     . rename_i hm;constructor
       . exact .inl
       . rintro (hx|rfl)
         . exact hx
         . exact hm
     . simp
   . rename_i h;rw[zgo fun u hu=>ih u hu];constructor
     . rintro (hx|⟨u,hu,hx⟩)
       . exact .inl hx
       . exact .inr (.arg hu hx)
     . rintro (hx|hx)
       . exact .inl hx
       . cases hx with
         |here h1 h2=>exact absurd ⟨h1,h2⟩ h
         |arg hu hx=>exact .inr ⟨_,hu,hx⟩
theorem mem_rigids{t x:Ty}:x∈zbl [t]↔Lf 3 x t:=by
 unfold zbl;rw[zgo fun u _=>znb u];simp
namespace Store
inductive HT (s:Store) (h:Int):Ty->Prop
 |unb {t:Ty} {x:Slot}:t.kind=1->t.args=[]->s.slot? t.id=some x->x.bound=false->x.home<=h->HT s h t
 |out {t:Ty}:t.kind=1->t.args=[]->s.slot? t.id=none->HT s h t
 |bnd {t:Ty} {x:Slot}:t.kind=1->s.slot? t.id=some x->x.bound=true->HT s h x.type->HT s h t
 |node {t:Ty}:t.kind≠1->(t.kind=3->t.args=[]->t.home<=h)->(∀ u∈t.args,HT s h u)->HT s h t
theorem HT.mono{s:Store}{h h':Int}(hh:h<=h'){t:Ty}(ht:HT s h t):HT s h' t:=by
 induction ht with
 |unb a1 a2 a3 a4 a5=>exact .unb a1 a2 a3 a4 (Int.le_trans a5 hh)
 |out a1 a2 a3=>exact .out a1 a2 a3
 |bnd a1 a2 a3 _ ih=>exact .bnd a1 a2 a3 ih
 |node a1 a2 _ ih=>exact .node a1 (fun e f=>Int.le_trans (a2 e f) hh) ih
theorem zqK {s s':Store}(h:s'.slots.length=s.slots.length){i:Int}(hn:s.slot? i=none):s'.slot? i=none:=by
 unfold slot? at hn ⊢;split at hn
 . rw[if_pos (by assumption)];rw[List.getElem?_eq_none_iff]at hn ⊢;omega
 . rw[if_neg (by assumption)]
theorem HT.gr{s s':Store}(hg:Gr s s')(hnew:∀ (i:Nat) (x x':Slot),s.slots[i]?=some x->x.bound=false->s'.slots[i]?=some x'->x'.bound=true->HT s' x.home x'.type){h:Int}{t:Ty}(ht:HT s h t):HT s' h t:=by
 induction ht with
 | unb a1 a2 a3 a4 a5 =>
   obtain⟨i,e,_,h3⟩:=slot?_some a3;obtain⟨x',g1,g2⟩:=hg.2 _ _ h3;have hs':s'.slot? (i:Int)=some x':=by rw[slot?_nat];exact g1
   cases hb:x'.bound with
   |false=>exact .unb a1 a2 (by rw[e];exact hs') hb (Int.le_trans g2.home a5)
   |true=>exact .bnd a1 (by rw[e];exact hs') hb ((hnew i _ x' h3 a4 g1 hb).mono a5)
 |out a1 a2 a3=>exact .out a1 a2 (zqK hg.1 a3)
 | bnd a1 a2 a3 _ ih =>
   obtain⟨i,e,_,h3⟩:=slot?_some a2;obtain⟨x',g1,g2⟩:=hg.2 _ _ h3;obtain⟨g3,g4⟩:=g2.bound a3;exact .bnd a1 (by rw[e,slot?_nat];exact g1) g3 (by rw[g4];exact ih)
 |node a1 a2 _ ih=>exact .node a1 a2 ih
end Store
end Go.J
/- What equations keep: homes,joined. -/
namespace Go.J
open Enc (enc)
namespace Store
theorem Rzs.part{w:Ty->Ty}{l m:List Ty}(h:Rzs w l m){v:Ty}(hv:v∈l):∃ y∈m,Rz w v y:=by
 obtain⟨y,hy,_⟩:=h.size_mem v hv;refine⟨y,?_,hy⟩;rw[h.map,<- full_of hy];exact List.mem_map.2 ⟨v,hv,rfl⟩
theorem Rzs.back{w:Ty->Ty}{l m:List Ty}(h:Rzs w l m){y:Ty}(hy:y∈m):∃ v∈l,Rz w v y:=by
 rw[h.map]at hy;obtain⟨v,hv,rfl⟩:=List.mem_map.1 hy;obtain⟨y,_,h2⟩:=Rzs.part h hv;exact⟨v,hv,by rw[full_of h2];exact h2⟩
end Store
end Go.J
/- The law UnifyHomes,without the program: what an equation does to homes,bases and rigid constants. -/
namespace Go.J
open Enc (enc)
namespace Store
structure HomesOk(s x:Store):Prop where
 len:x.slots.length=s.slots.length
 slot:∀ (i:Nat) (y:Slot),s.slots[i]?=some y->∃ y',x.slots[i]?=some y'/\y'.home<=y.home/\(y.base=true->y'.base=true)/\(y.bound=true->y'.bound=true)
 base:∀ (i:Nat) (y:Slot),s.slots[i]?=some y->y.bound=false->y.base=true->(zT x.w16 (zad (i:Int))).2=true->(zaH (zT x.w16 (zad (i:Int))).1).c=false
 rigid:∀ (i:Nat) (y:Slot),s.slots[i]?=some y->y.bound=false->(zT x.w16 (zad (i:Int))).2=true->∀ z∈zbl [(zT x.w16 (zad (i:Int))).1],z.home<=y.home
end Store
end Go.J
