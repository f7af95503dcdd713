import Derived.Test.YtocdkgjpdnamlaaGreatJP
set_option linter.all false
noncomputable section
/- What equations keep: a relation between stores that holds for each step holds for all;homes never grow,bases stay true,what is bound stays bound. -/
namespace Go.J
open Enc (enc)
namespace Store
section
variable {n S:Nat}{R:Store->Store->Prop}
theorem zs9 (hr:∀ s,bM n S s->R s s) (ht:∀ a b c,R a b->R b c->R a c) {d:Nat} {rec:Store->Ty->Ty->Store×Int} (hstep:∀ s a b,bM n S s->bT n S a->bT n S b->need s a<d->Step n S s (rec s a b).1)
 (hrec:∀ s a b,bM n S s->bT n S a->bT n S b->need s a<d->R s (rec s a b).1) {s0:Store} {k:Nat} (hk:s0.ll*202+k<=d) :
 ∀ (l m:List Ty) (s:Store),(∀ x∈l,bT n S x/\sz s0.w16 x 200<k)->(∀ x∈m,bT n S x)->bM n S s->(s=s0\/s.ll<s0.ll)->R s (uL rec l m s).1:=by
 intro l
 induction l with
 |nil=>intro m s _ _ h _;exact hr s h
 | cons x l ih =>
   intro m s hl hm h hs
   cases m with
   |nil=>exact hr s h
   | cons y m =>
     have hx:=hl x (List.mem_cons_self ..)
     have hn:need s x<d:=by
      unfold need;have:=zu (w:=s.w16) x 200;rcases hs with rfl|hs
      . omega
      . have:s.ll*202+202<=s0.ll*202:=by omega
        omega
     have h1:=hstep s x y h hx.1 (hm y (List.mem_cons_self ..)) hn;have h2:=hrec s x y h hx.1 (hm y (List.mem_cons_self ..)) hn;rw[uL];split
     . refine ht _ _ _ h2 (ih m _ (fun z hz=>hl z (List.mem_cons_of_mem _ hz)) (fun z hz=>hm z (List.mem_cons_of_mem _ hz)) h1.iW ?_);rcases h1.less with e|h2
       . rw[e];exact hs
       . rcases hs with rfl|hs
         . exact .inr h2
         . exact .inr (Nat.lt_trans h2 hs)
     . exact h2
theorem YT (hS:1<=S) (hn:n*S+S<=90000) (hr:∀ s,bM n S s->R s s) (ht:∀ a b c,R a b->R b c->R a c)
 (hj:∀ s (i j:Nat),bM n S s->i<n->j<n->s.bound (aM (i:Int))=false->s.bound (aM (j:Int))=false->R s (s.join (i:Int) (j:Int)))
 (hb:∀ s (i:Nat) t,bM n S s->i<n->s.bound (aM (i:Int))=false->bT n S t->s.bound t=false->s.bG t=false->(∃ r,Rz s.w16 t r/\r.size<=200)->R s (s.bindM (i:Int) t).1) :
 ∀ (d:Nat) (s:Store) (a b:Ty),bM n S s->bT n S a->bT n S b->need s a<d->R s (dC d s a b).1:=by
 intro d
 induction d with
 |zero=>intro s a b _ _ _ h;omega
 | succ d ih =>
   intro s a b h ha hb' hd;have jg:bT n S (s.w16 a):=h.bX (Nat.le_refl S) (s.slots.length+1) ha;have hwb:bT n S (s.w16 b):=h.bX (Nat.le_refl S) (s.slots.length+1) hb';have fa:=(h.nJ _ ha).walk.1;have fb:=(h.nJ _ hb').walk.1;rw[dC];unfold rM;split
   . exact hr s h
   rename_i hsz
   have hz:∀ c:Ty,sz s.w16 c 200<=200->s.bound (s.w16 c)=false->∃ r,Rz s.w16 (s.w16 c) r/\r.size<=200:=fun c hc hb=>by
    obtain⟨r,hr,hl⟩:=gp.1 hc;obtain⟨l,h1,h2⟩:=gH.1 hr;have e:s.w16 (s.w16 c)=s.w16 c:=kS hb _
    grind [gH]
   split
   . rename_i s1;obtain⟨i,hi,e1,zr0,b1,_⟩:=h.slot jg s1 fa;split
     . rename_i s2;obtain⟨j,hj',e2,e2',b2,_⟩:=h.slot hwb s2 fb
       grind
     grind
   . rename_i s1;split
     . rename_i s2;obtain⟨j,hj',e2,e2',b2,_⟩:=h.slot hwb s2 fb
       grind
     . split
       . exact hr s h
       . unfold need at hd;exact zs9 hr ht (s0:=s) (k:=sz s.w16 a 200) (kH hS hn d) ih (by omega) _ _ s (fun x hx=>⟨jg.arg hx,yt (by omega) x hx⟩) (fun x hx=>hwb.arg hx) h (.inl rfl)
end
structure zAc(x x':Slot):Prop where
 home:x'.home<=x.home
 base:x.base=true->x'.base=true
 bound:x.bound=true->x'.bound=true/\x'.type=x.type
def Gr(s s':Store):Prop:=s'.slots.length=s.slots.length/\∀ (i:Nat) (x:Slot),s.slots[i]?=some x->∃ x',s'.slots[i]?=some x'/\zAc x x'
theorem zAc.refl(x:Slot):zAc x x:=⟨Int.le_refl _,id,fun h=>⟨h,rfl⟩⟩
theorem Gr.refl(s:Store):Gr s s:=⟨rfl,fun i x h=>⟨x,h,.refl x⟩⟩
theorem Gr.trans{a b c:Store}(h:Gr a b)(k:Gr b c):Gr a c:=by
 refine⟨k.1.trans h.1,fun i x hx=>?_⟩;obtain⟨y,hy,g1⟩:=h.2 i x hx;obtain⟨z,hz,g2⟩:=k.2 i y hy;refine⟨z,hz,Int.le_trans g2.home g1.home,fun hb=>g2.base (g1.base hb),fun hb=>?_⟩;obtain⟨h1,h2⟩:=g1.bound hb;obtain⟨h3,h4⟩:=g2.bound h1
 grind
theorem Mi{s:Store}{i:Nat}(hi:i<s.slots.length){x:Slot}(h:zAc s.slots[i] x):Gr s (s.set (i:Int) x).1:=by
 rw[eX hi];refine⟨by simp,fun j y hy=>?_⟩;show ∃ x',(s.slots.set i x)[j]?=some x'/\zAc y x';rw[List.getElem?_set];by_cases hij:i=j
 . grind
 . rw[if_neg hij];exact⟨y,hy,.refl y⟩
theorem zdq{s:Store}(home:Int){v:Int}(h0:0<=v):Gr s (bf home s v):=by
 unfold bf;split
 . rename_i h;obtain⟨i,rfl⟩:=Int.eq_ofNat_of_zero_le h0;have hi:i<s.slots.length:=by omega
   have hh:=h.2;rw[eD hi]at hh ⊢;exact Mi hi ⟨Int.le_of_lt hh,id,fun h=>⟨h,rfl⟩⟩
 . exact .refl s
theorem ZU(home:Int):∀ (l:List Int) (s:Store),(∀ v∈l,0<=v)->Gr s (l.foldl (bf home) s):=by
 intro l
 induction l with
 |nil=>intro s _;exact .refl s
 | cons v l ih =>
   intro s h;rw[List.foldl_cons];exact(zdq home (h v (List.mem_cons_self ..))).trans (ih _ fun w hw=>h w (List.mem_cons_of_mem _ hw))
theorem Cv{s:Store}{i:Nat}(hi:i<s.slots.length)(h:s.bound (aM (i:Int))=false):s.slots[i].bound=false:=by
 have e:=j6 (s:=s) (t:=aM (i:Int)) rfl (by show s.slot? (i:Int)=some s.slots[i];rw[slot?_nat];exact List.getElem?_eq_getElem hi)
 grind
theorem UB {n S:Nat} {s:Store} (h:bM n S s) (hS:1<=S) (hn:n*S+S<=100000) {i:Nat} (hi:i<n) (h0:s.bound (aM (i:Int))=false) {t:Ty} (ht:bT n S t):Gr s (s.bindM (i:Int) t).1:=by
 obtain⟨v1,v2,v3⟩:=h.vars hS ht hn;have ZP:i<s.slots.length:=by rw[h.len];exact hi
 unfold bindM;split
 . exact .refl s
 split
 . exact .refl s
 split
 . exact .refl s
 split
 . exact .refl s
 have hl:=pM (s.aJ (i:Int)).home (dz s [t]) s fun v hv=>(v1 v hv).1
 have hg:=ZU (s.aJ (i:Int)).home (dz s [t]) s fun v hv=>(v1 v hv).1
 have hm:∀ v∈dz s [t],v≠(i:Int):=fun v hv e=>by subst e;contradiction
 have hsame:((dz s [t]).foldl (bf (s.aJ (i:Int)).home) s).slots[i]?=some s.slots[i]:=by
  have key:∀ (l:List Int) (s1:Store),(∀ v∈l,0<=v/\v≠(i:Int))->(l.foldl (bf (s.aJ (i:Int)).home) s1).slots[i]?=s1.slots[i]?:=by
   intro l
   induction l with
   |nil=>intro s1 _;rfl
   | cons v l ih =>
     intro s1 hv;rw[List.foldl_cons,ih _ fun w hw=>hv w (List.mem_cons_of_mem _ hw)]
     grind [List.mem_cons_self,bf,Int.eq_ofNat_of_zero_le,eX,List.getElem?_set_ne]
  grind
 rw[eD ZP]at hl hg hsame ⊢;generalize (dz s [t]).foldl (bf s.slots[i].home) s=s1 at hl hg hsame ⊢;obtain⟨hi1,he⟩:=List.getElem?_eq_some_iff.1 hsame;refine hg.trans (Mi hi1 ?_);rw[he];refine⟨Int.le_refl _,id,fun hb=>?_⟩
 grind [Cv]
theorem UA{n S:Nat}{s:Store}(h:bM n S s){i j:Nat}(hi:i<n)(hj:j<n)(h1:s.bound (aM (i:Int))=false)(h2:s.bound (aM (j:Int))=false):Gr s (s.join (i:Int) (j:Int)):=by
 have hil:i<s.slots.length:=by rw[h.len];exact hi
 have hjl:j<s.slots.length:=by rw[h.len];exact hj
 unfold join;split
 . exact .refl s
 rename_i hne
 have key:∀ a b:Nat,a<s.slots.length->b<s.slots.length->a≠b->∀ x y:Slot,zAc (s.aJ (a:Int)) x->y.home<=(s.aJ (b:Int)).home->((s.aJ (b:Int)).base=true->y.base=true)->(s.aJ (b:Int)).bound=false->Gr s ((s.set (a:Int) x).1.set (b:Int) y).1:=by
  intro a b ha hb hab x y g1 g2 g3 g4;rw[eD ha]at g1;rw[eD hb]at g2 g3 g4;have hb':b<(s.set (a:Int) x).1.slots.length:=by rw[eX ha];simpa using hb
  refine(Mi ha g1).trans (Mi hb' ?_)
  have e:(s.set (a:Int) x).1.slots[b]=s.slots[b]:=by
   grind [eX,List.getElem?_set_ne,List.getElem?_eq_getElem,Option.some.inj]
  rw[e];exact⟨g2,g3,fun hbb=>by rw[g4]at hbb;cases hbb⟩
 have u1:=Cv hil h1;have u2:=Cv hjl h2;unfold joinL xE;by_cases hij:i<j
 . rw[Int.min_eq_left (by omega:(i:Int)<=j),Int.max_eq_right (by omega:(i:Int)<=j)];refine key i j hil hjl (by omega) _ _ ⟨Int.min_le_left ..,fun hb=>by show (_||_)=true;rw[hb];rfl,fun hb=>⟨hb,rfl⟩⟩ (Int.le_refl _) id (by rw[eD hjl];exact u2)
 . rw[Int.min_eq_right (by omega:(j:Int)<=i),Int.max_eq_left (by omega:(j:Int)<=i)];refine key j i hjl hil (by omega) _ _ ⟨Int.min_le_left ..,fun hb=>by show (_||_)=true;rw[hb];rfl,fun hb=>⟨hb,rfl⟩⟩ (Int.le_refl _) id (by rw[eD hil];exact u1)
theorem Ph{n S:Nat}(hS:1<=S)(hn:n*S+S<=90000):∀ (d:Nat) (s:Store) (a b:Ty),bM n S s->bT n S a->bT n S b->need s a<d->Gr s (dC d s a b).1 :=
 YT hS hn (fun s _=>.refl s) (fun _ _ _ h k=>h.trans k) (fun s i j h hi hj h1 h2=>UA h hi hj h1 h2) (fun s i t h hi h0 ht _ _ _=>UB h hS (by omega) hi h0 ht)
end Store
end Go.J
/- What equations keep: a variable that may stand for no function never does. -/
namespace Go.J
open Enc (enc)
namespace Store
inductive NB (s:Store):Nat->Prop
 |ll {i:Nat} {x:Slot}:s.slots[i]?=some x->x.bound=false->x.base=true->NB s i
 |var {i j:Nat} {x:Slot}:s.slots[i]?=some x->x.bound=true->x.type=aM (j:Int)->NB s j->NB s i
 |ty {i:Nat} {x:Slot}:s.slots[i]?=some x->x.bound=true->s.bG x.type=false->(isArrow x.type).c=false->NB s i
theorem RI{s s':Store}(h:s'.slots.length=s.slots.length)(t:Ty):s'.bG t=s.bG t:=by
 unfold bG slot?
 grind
theorem NB.gr{s s':Store}(h:Gr s s')(hu:∀ (i:Nat) (x:Slot),s.slots[i]?=some x->x.bound=false->x.base=true->NB s' i){i:Nat}(hi:NB s i):NB s' i:=by
 induction hi with
 |ll h1 h2 h3=>exact hu _ _ h1 h2 h3
 | var h1 h2 h3 _ ih =>
   obtain⟨x',g1,g2⟩:=h.2 _ _ h1;obtain⟨g3,g4⟩:=g2.bound h2;exact .var g1 g3 (g4.trans h3) ih
 | ty h1 h2 h3 h4 =>
   obtain⟨x',g1,g2⟩:=h.2 _ _ h1;obtain⟨g3,g4⟩:=g2.bound h2;exact .ty g1 g3 (by rw[RI h.1,g4];exact h3) (by rw[g4];exact h4)
theorem QZ{s:Store}{i j:Nat}(hi:i<s.slots.length)(hij:i≠j)(x:Slot):(s.set (i:Int) x).1.slots[j]?=s.slots[j]?:=by
 rw[eX hi];exact List.getElem?_set_ne hij
theorem FB{s:Store}{i:Nat}(hi:i<s.slots.length)(x:Slot):(s.set (i:Int) x).1.slots[i]?=some x:=by
 rw[eX hi];exact List.getElem?_set_self hi
theorem zN{s:Store}{t:Ty}(h:s.Fin t)(hb:s.bound t=true):s.w16 t=s.w16 (s.to t):=by
 obtain⟨d,hd⟩:=(h.to hb).ends;have hle:=(Ends.step hb hd).le;have e1:=(hd.walk s.slots.length (by omega)).1;have e2:=(hd.walk (s.slots.length+1) (by omega)).1;show s.bX (s.slots.length+1) t=s.bX (s.slots.length+1) (s.to t)
 grind [bX]
end Store
end Go.J
/- What equations keep: no Od constant of a later home comes below a variable. -/
namespace Go.J
open Enc (enc)
inductive Lf (k:Int) (x:Ty):Ty->Prop
 |here:x.kind=k->x.args=[]->Lf k x x
 |arg {t u:Ty}:u∈t.args->Lf k x u->Lf k x t
theorem Bv{k:Int}{l:List Ty}(h:∀ t∈l,∀ (out:List Ty) (x:Ty),x∈dM k t out↔x∈out\/Lf k x t):∀ (out:List Ty) (x:Ty),x∈aP k l out↔x∈out\/∃ t∈l,Lf k x t:=by
 induction l with
 |nil=>intro out x;simp[aP]
 | cons t l ih =>
   grind [aP,List.mem_cons_of_mem,List.mem_cons_self]
theorem OI {k:Int} (t:Ty):∀ (out:List Ty) (x:Ty),x∈dM k t out↔x∈out\/Lf k x t:=by
 induction t using Ty.ind with
 | h t ih =>
   intro out x;rw[kL];split
   . rename_i h
     have e:Lf k x t↔x=t:=by
      constructor
      . intro hx
        cases hx with
        |here _ _=>rfl
        |arg hu _=>rw[h.2]at hu;cases hu
      . rintro rfl;exact .here h.1 h.2
     grind
   . rename_i h;rw[Bv fun u hu=>ih u hu];constructor
     . rintro (hx|⟨u,hu,hx⟩)
       . exact .inl hx
       . exact .inr (.arg hu hx)
     . rintro (hx|hx)
       . exact .inl hx
       . cases hx with
         |here h1 h2=>exact absurd ⟨h1,h2⟩ h
         |arg hu hx=>exact .inr ⟨_,hu,hx⟩
theorem Ah{t x:Ty}:x∈iD [t]↔Lf 3 x t:=by
 simp[iD,Bv,OI]
namespace Store
inductive HT (s:Store) (h:Int):Ty->Prop
 |ll {t:Ty} {x:Slot}:t.kind=1->t.args=[]->s.slot? t.id=some x->x.bound=false->x.home<=h->HT s h t
 |out {t:Ty}:t.kind=1->t.args=[]->s.slot? t.id=none->HT s h t
 |bnd {t:Ty} {x:Slot}:t.kind=1->s.slot? t.id=some x->x.bound=true->HT s h x.type->HT s h t
 |node {t:Ty}:t.kind≠1->(t.kind=3->t.args=[]->t.home<=h)->(∀ u∈t.args,HT s h u)->HT s h t
theorem HT.mono{s:Store}{h h':Int}(hh:h<=h'){t:Ty}(ht:HT s h t):HT s h' t:=by
 induction ht with
 |ll a1 a2 a3 a4 a5=>exact .ll a1 a2 a3 a4 (Int.le_trans a5 hh)
 |out a1 a2 a3=>exact .out a1 a2 a3
 |bnd a1 a2 a3 _ ih=>exact .bnd a1 a2 a3 ih
 |node a1 a2 _ ih=>exact .node a1 (fun e f=>Int.le_trans (a2 e f) hh) ih
theorem slot?_len {s s':Store}(h:s'.slots.length=s.slots.length){i:Int}(hn:s.slot? i=none):s'.slot? i=none:=by
 unfold slot? at hn ⊢
 grind
theorem HT.gr{s s':Store}(hg:Gr s s')(hnew:∀ (i:Nat) (x x':Slot),s.slots[i]?=some x->x.bound=false->s'.slots[i]?=some x'->x'.bound=true->HT s' x.home x'.type){h:Int}{t:Ty}(ht:HT s h t):HT s' h t:=by
 induction ht with
 | ll a1 a2 a3 a4 a5 =>
   obtain⟨i,e,_,h3⟩:=slot?_some a3;obtain⟨x',g1,g2⟩:=hg.2 _ _ h3;have hs':s'.slot? (i:Int)=some x':=by rw[slot?_nat];exact g1
   cases hb:x'.bound with
   |false=>exact .ll a1 a2 (by rw[e];exact hs') hb (Int.le_trans g2.home a5)
   |true=>exact .bnd a1 (by rw[e];exact hs') hb ((hnew i _ x' h3 a4 g1 hb).mono a5)
 |out a1 a2 a3=>exact .out a1 a2 (slot?_len hg.1 a3)
 | bnd a1 a2 a3 _ ih =>
   obtain⟨i,e,_,h3⟩:=slot?_some a2;obtain⟨x',g1,g2⟩:=hg.2 _ _ h3;obtain⟨g3,g4⟩:=g2.bound a3;exact .bnd a1 (by rw[e,slot?_nat];exact g1) g3 (by rw[g4];exact ih)
 |node a1 a2 _ ih=>exact .node a1 a2 ih
end Store
end Go.J
/- What equations keep: homes,joined. -/
namespace Go.J
open Enc (enc)
namespace Store
theorem wG.part{w:Ty->Ty}{l m:List Ty}(h:wG w l m){v:Ty}(hv:v∈l):∃ y∈m,Rz w v y:=by
 obtain⟨y,hy,_⟩:=h.pF v hv;refine⟨y,?_,hy⟩;rw[h.map,<- full_of hy]
 grind
theorem wG.back{w:Ty->Ty}{l m:List Ty}(h:wG w l m){y:Ty}(hy:y∈m):∃ v∈l,Rz w v y:=by
 rw[h.map]at hy
 grind [wG.part,full_of]
end Store
end Go.J
/- The law UnifyHomes,without the program: what an equation does to homes,bases and Od constants. -/
namespace Go.J
open Enc (enc)
namespace Store
structure zJi(s x:Store):Prop where
 len:x.slots.length=s.slots.length
 slot:∀ (i:Nat) (y:Slot),s.slots[i]?=some y->∃ y',x.slots[i]?=some y'/\y'.home<=y.home/\(y.base=true->y'.base=true)/\(y.bound=true->y'.bound=true)
 base:∀ (i:Nat) (y:Slot),s.slots[i]?=some y->y.bound=false->y.base=true->(bK x.w16 (aM (i:Int))).2=true->(isArrow (bK x.w16 (aM (i:Int))).1).c=false
 Od:∀ (i:Nat) (y:Slot),s.slots[i]?=some y->y.bound=false->(bK x.w16 (aM (i:Int))).2=true->∀ z∈iD [(bK x.w16 (aM (i:Int))).1],z.home<=y.home
end Store
end Go.J
