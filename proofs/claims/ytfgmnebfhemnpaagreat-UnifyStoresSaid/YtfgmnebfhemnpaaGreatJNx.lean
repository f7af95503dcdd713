import Derived.Test.YtfgmnebfhemnpaaGreatJP
set_option linter.all false
noncomputable section
/- What equations keep: a relation between stores that holds for each step holds for all;homes never grow,bases stay true,what is bound stays bound. -/
namespace Go.J
open Enc (enc)
namespace Store
section
variable {n S:Nat}{R:Store->Store->Prop}
end
structure GrS(x x':Slot):Prop where
 home:x'.home<=x.home
 base:x.base=true->x'.base=true
 bound:x.bound=true->x'.bound=true/\x'.type=x.type
def Gr(s s':Store):Prop:=s'.slots.length=s.slots.length/\∀ (i:Nat) (x:Slot),s.slots[i]?=some x->∃ x',s'.slots[i]?=some x'/\GrS x x'
theorem GrS.refl(x:Slot):GrS x x:=⟨Int.le_refl _,id,fun h=>⟨h,rfl⟩⟩
theorem Gr.refl(s:Store):Gr s s:=⟨rfl,fun i x h=>⟨x,h,.refl x⟩⟩
theorem Gr.trans{a b c:Store}(h:Gr a b)(k:Gr b c):Gr a c:=by
 refine⟨k.1.trans h.1,fun i x hx=>?_⟩;obtain⟨y,hy,g1⟩:=h.2 i x hx;obtain⟨z,hz,g2⟩:=k.2 i y hy;refine⟨z,hz,Int.le_trans g2.home g1.home,fun hb=>g2.base (g1.base hb),fun hb=>?_⟩;obtain⟨h1,h2⟩:=g1.bound hb;obtain⟨h3,h4⟩:=g2.bound h1;exact⟨h3,h4.trans h2⟩
end Store
end Go.J
/- What equations keep: a variable that may stand for no function never does. -/
namespace Go.J
open Enc (enc)
namespace Store
inductive NB (s:Store):Nat->Prop
 |unb {i:Nat} {x:Slot}:s.slots[i]?=some x->x.bound=false->x.base=true->NB s i
 |var {i j:Nat} {x:Slot}:s.slots[i]?=some x->x.bound=true->x.type=zas (j:Int)->NB s j->NB s i
 |ty {i:Nat} {x:Slot}:s.slots[i]?=some x->x.bound=true->s.isSlot x.type=false->(zaF x.type).c=false->NB s i
theorem zpS{s s':Store}(h:s'.slots.length=s.slots.length)(t:Ty):s'.isSlot t=s.isSlot t:=by
 unfold isSlot slot?;split
 . rw[Bool.eq_iff_iff];simp only[Bool.and_eq_true,decide_eq_true_eq,Option.isSome_iff_ne_none,ne_eq,List.getElem?_eq_none_iff,h]
 . rfl
theorem NB.gr{s s':Store}(h:Gr s s')(hu:∀ (i:Nat) (x:Slot),s.slots[i]?=some x->x.bound=false->x.base=true->NB s' i){i:Nat}(hi:NB s i):NB s' i:=by
 induction hi with
 |unb h1 h2 h3=>exact hu _ _ h1 h2 h3
 | var h1 h2 h3 _ ih =>
   obtain⟨x',g1,g2⟩:=h.2 _ _ h1;obtain⟨g3,g4⟩:=g2.bound h2;exact .var g1 g3 (g4.trans h3) ih
 | ty h1 h2 h3 h4 =>
   obtain⟨x',g1,g2⟩:=h.2 _ _ h1;obtain⟨g3,g4⟩:=g2.bound h2;exact .ty g1 g3 (by rw[zpS h.1,g4];exact h3) (by rw[g4];exact h4)
theorem zEU{s:Store}{i j:Nat}(hi:i<s.slots.length)(hij:i≠j)(x:Slot):(s.set (i:Int) x).1.slots[j]?=s.slots[j]?:=by
 rw[set_some hi];exact List.getElem?_set_ne hij
theorem zEa{s:Store}{t:Ty}(h:s.Fin t)(hb:s.bound t=true):s.w16 t=s.w16 (s.to t):=by
 obtain⟨d,hd⟩:=(h.to hb).ends;have hle:=(Ends.step hb hd).le;have e1:=(hd.walk s.slots.length (by omega)).1;have e2:=(hd.walk (s.slots.length+1) (by omega)).1;show s.walkN (s.slots.length+1) t=s.walkN (s.slots.length+1) (s.to t);rw[e2,<- e1,walkN,if_pos hb]
end Store
end Go.J
/- What equations keep: no rigid constant of a later home comes below a variable. -/
namespace Go.J
open Enc (enc)
inductive Lf (k:Int) (x:Ty):Ty->Prop
 |here:x.kind=k->x.args=[]->Lf k x x
 |arg {t u:Ty}:u∈t.args->Lf k x u->Lf k x t
theorem zgv{k:Int}{l:List Ty}(h:∀ t∈l,∀ (out:List Ty) (x:Ty),x∈zad k t out↔x∈out\/Lf k x t):∀ (out:List Ty) (x:Ty),x∈zJ k l out↔x∈out\/∃ t∈l,Lf k x t:=by
 induction l with
 |nil=>intro out x;simp[zJ]
 | cons t l ih =>
   intro out x;rw[zJ,ih (fun u hu=>h u (List.mem_cons_of_mem _ hu)),h t (List.mem_cons_self ..)];simp[or_assoc]
theorem zn7 {k:Int} (t:Ty):∀ (out:List Ty) (x:Ty),x∈zad k t out↔x∈out\/Lf k x t:=by
 induction t using Ty.ind with
 | h t ih =>
   intro out x;rw[zb1];split
   . rename_i h
     have e:Lf k x t↔x=t:=by
      constructor
      . intro hx
        cases hx with
        |here _ _=>rfl
        |arg hu _=>rw[h.2]at hu;cases hu
      . rintro rfl;exact .here h.1 h.2
     rw[e];split
     . rename_i hm;constructor
       . exact .inl
       . rintro (hx|rfl)
         . exact hx
         . exact hm
     . simp
   . rename_i h;rw[zgv fun u hu=>ih u hu];constructor
     . rintro (hx|⟨u,hu,hx⟩)
       . exact .inl hx
       . exact .inr (.arg hu hx)
     . rintro (hx|hx)
       . exact .inl hx
       . cases hx with
         |here h1 h2=>exact absurd ⟨h1,h2⟩ h
         |arg hu hx=>exact .inr ⟨_,hu,hx⟩
theorem mem_rigids{t x:Ty}:x∈zbj [t]↔Lf 3 x t:=by
 unfold zbj;rw[zgv fun u _=>zn7 u];simp
namespace Store
inductive HT (s:Store) (h:Int):Ty->Prop
 |unb {t:Ty} {x:Slot}:t.kind=1->t.args=[]->s.slot? t.id=some x->x.bound=false->x.home<=h->HT s h t
 |out {t:Ty}:t.kind=1->t.args=[]->s.slot? t.id=none->HT s h t
 |bnd {t:Ty} {x:Slot}:t.kind=1->s.slot? t.id=some x->x.bound=true->HT s h x.type->HT s h t
 |node {t:Ty}:t.kind≠1->(t.kind=3->t.args=[]->t.home<=h)->(∀ u∈t.args,HT s h u)->HT s h t
theorem HT.mono{s:Store}{h h':Int}(hh:h<=h'){t:Ty}(ht:HT s h t):HT s h' t:=by
 induction ht with
 |unb a1 a2 a3 a4 a5=>exact .unb a1 a2 a3 a4 (Int.le_trans a5 hh)
 |out a1 a2 a3=>exact .out a1 a2 a3
 |bnd a1 a2 a3 _ ih=>exact .bnd a1 a2 a3 ih
 |node a1 a2 _ ih=>exact .node a1 (fun e f=>Int.le_trans (a2 e f) hh) ih
theorem zrg {s s':Store}(h:s'.slots.length=s.slots.length){i:Int}(hn:s.slot? i=none):s'.slot? i=none:=by
 unfold slot? at hn ⊢;split at hn
 . rw[if_pos (by assumption)];rw[List.getElem?_eq_none_iff]at hn ⊢;omega
 . rw[if_neg (by assumption)]
theorem HT.gr{s s':Store}(hg:Gr s s')(hnew:∀ (i:Nat) (x x':Slot),s.slots[i]?=some x->x.bound=false->s'.slots[i]?=some x'->x'.bound=true->HT s' x.home x'.type){h:Int}{t:Ty}(ht:HT s h t):HT s' h t:=by
 induction ht with
 | unb a1 a2 a3 a4 a5 =>
   obtain⟨i,e,_,h3⟩:=slot?_some a3;obtain⟨x',g1,g2⟩:=hg.2 _ _ h3;have hs':s'.slot? (i:Int)=some x':=by rw[slot?_nat];exact g1
   cases hb:x'.bound with
   |false=>exact .unb a1 a2 (by rw[e];exact hs') hb (Int.le_trans g2.home a5)
   |true=>exact .bnd a1 (by rw[e];exact hs') hb ((hnew i _ x' h3 a4 g1 hb).mono a5)
 |out a1 a2 a3=>exact .out a1 a2 (zrg hg.1 a3)
 | bnd a1 a2 a3 _ ih =>
   obtain⟨i,e,_,h3⟩:=slot?_some a2;obtain⟨x',g1,g2⟩:=hg.2 _ _ h3;obtain⟨g3,g4⟩:=g2.bound a3;exact .bnd a1 (by rw[e,slot?_nat];exact g1) g3 (by rw[g4];exact ih)
 |node a1 a2 _ ih=>exact .node a1 a2 ih
end Store
end Go.J
/- What equations keep: homes,joined. -/
namespace Go.J
open Enc (enc)
namespace Store
theorem Rzs.part{w:Ty->Ty}{l m:List Ty}(h:Rzs w l m){v:Ty}(hv:v∈l):∃ y∈m,Rz w v y:=by
 obtain⟨y,hy,_⟩:=h.size_mem v hv;refine⟨y,?_,hy⟩;rw[h.map,<- full_of hy];exact List.mem_map.2 ⟨v,hv,rfl⟩
theorem Rzs.back{w:Ty->Ty}{l m:List Ty}(h:Rzs w l m){y:Ty}(hy:y∈m):∃ v∈l,Rz w v y:=by
 rw[h.map]at hy;obtain⟨v,hv,rfl⟩:=List.mem_map.1 hy;obtain⟨y,_,h2⟩:=Rzs.part h hv;exact⟨v,hv,by rw[full_of h2];exact h2⟩
end Store
end Go.J
/- The law UnifyHomes,without the program: what an equation does to homes,bases and rigid constants. -/
namespace Go.J
open Enc (enc)
namespace Store
structure HomesOk(s x:Store):Prop where
 len:x.slots.length=s.slots.length
 slot:∀ (i:Nat) (y:Slot),s.slots[i]?=some y->∃ y',x.slots[i]?=some y'/\y'.home<=y.home/\(y.base=true->y'.base=true)/\(y.bound=true->y'.bound=true)
 base:∀ (i:Nat) (y:Slot),s.slots[i]?=some y->y.bound=false->y.base=true->(zaa x.w16 (zas (i:Int))).2=true->(zaF (zaa x.w16 (zas (i:Int))).1).c=false
 rigid:∀ (i:Nat) (y:Slot),s.slots[i]?=some y->y.bound=false->(zaa x.w16 (zas (i:Int))).2=true->∀ z∈zbj [(zaa x.w16 (zas (i:Int))).1],z.home<=y.home
end Store
end Go.J
