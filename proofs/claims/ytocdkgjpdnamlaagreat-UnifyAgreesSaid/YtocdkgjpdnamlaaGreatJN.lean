import Derived.Test.YtocdkgjpdnamlaaGreatJL
import Derived.Test.YtocdkgjpdnamlaaGreatJK
set_option linter.all false
noncomputable section
/- zsp and resolved forms. -/
namespace Go.J
open Enc (enc)
def Fw(rec:Ty->Nat->Nat)(most:Nat):List Ty->Nat->Nat
 | [],n=>n
 |x::l,n=>if n<=most then Fw rec most l (n+rec x (most-n))else n
def TA(w:Ty->Ty):Nat->Ty->Nat->Nat
 | 0,_,most=>most+1
 |f+1,t,most=>min (Fw (TA w f) most (w t).args 1) (most+1)
def uG (rec:Ty->Option Ty):List Ty->Option (List Ty)
 | []=>some []
 | x::l=>match rec x,uG rec l with
   |some y,some m=>some (y::m)
   |_,_=>none
def wV (w:Ty->Ty):Nat->Ty->Option Ty
 | 0,_=>none
 | f+1,t=>match uG (wV w f) (w t).args with
   |some l=>some (.mk (w t).kind (w t).name (w t).id (w t).home l)
   |none=>none
section
variable {w:Ty->Ty}
theorem F8{p q:Ty->Option Ty}(h:∀ t r,p t=some r->q t=some r):∀ {l m:List Ty},uG p l=some m->uG q l=some m:=by
 intro l
 induction l with
 |nil=>intro m h;exact h
 | cons x l ih =>
   grind [uG]
theorem Zb:∀ {f:Nat} {t r:Ty},wV w f t=some r->wV w (f+1) t=some r:=by
 intro f
 induction f with
 |zero=>intro t r h;cases h
 | succ f ih =>
   grind [wV,F8]
theorem CJ{f g:Nat}(hfg:f<=g){t r:Ty}(h:wV w f t=some r):wV w g t=some r:=by
 induction hfg with
 |refl=>exact h
 |step _ ih=>exact Zb ih
def Rz(w:Ty->Ty)(t r:Ty):Prop:=∃ f,wV w f t=some r
theorem Rz.inj{t r r':Ty}(h:Rz w t r)(h':Rz w t r'):r=r':=by
 obtain⟨f,h⟩:=h;obtain⟨g,h'⟩:=h';have h1:=CJ (Nat.le_max_left f g) h
 grind [CJ,Nat.le_max_right,Option.some.inj]
inductive wG (w:Ty->Ty):List Ty->List Ty->Prop
 |nil:wG w [] []
 |cons {x y:Ty} {l m:List Ty}:Rz w x y->wG w l m->wG w (x::l) (y::m)
theorem wG.of{f:Nat}:∀ {l m:List Ty},uG (wV w f) l=some m->wG w l m:=by
 intro l
 induction l with
 |nil=>intro m h;cases h;exact .nil
 | cons x l ih =>
   intro m h;unfold uG at h;split at h
   . rename_i y m' h1 h2;cases h;exact .cons ⟨f,h1⟩ (ih h2)
   . cases h
theorem wG.to{l m:List Ty}(h:wG w l m):∃ f,uG (wV w f) l=some m:=by
 induction h with
 |nil=>exact⟨0,rfl⟩
 | @cons x y l m h1 h2 ih =>
   obtain⟨f,h1⟩:=h1;obtain⟨g,ih⟩:=ih;refine⟨max f g,?_⟩
   grind [uG,CJ,Nat.le_max_left,F8,Nat.le_max_right]
theorem gH{t r:Ty}:Rz w t r↔∃ l,wG w (w t).args l/\r=.mk (w t).kind (w t).name (w t).id (w t).home l:=by
 constructor
 . rintro ⟨f,h⟩
   cases f with
   |zero=>cases h
   | succ f =>
     rw[wV]at h;split at h
     . rename_i l hl;cases h;exact⟨l,.of hl,rfl⟩
     . cases h
 . rintro ⟨l,h,rfl⟩;obtain⟨f,h⟩:=h.to;exact⟨f+1,by rw[wV,h]⟩
theorem wG.oo{l m:List Ty}(h:wG w l m):l.length=m.length:=by
 induction h with
 |nil=>rfl
 |cons _ _ ih=>simp[ih]
theorem zbI{rec:Ty->Nat->Nat}{most:Nat}:∀ (l:List Ty) (n:Nat),n<=Fw rec most l n:=by
 intro l
 induction l with
 |nil=>intro n;exact Nat.le_refl _
 | cons x l ih =>
   intro n;unfold Fw
   grind
theorem K3:∀ (f:Nat) (t:Ty) (most:Nat),most<f->(∀ r,Rz w t r->TA w f t most=min r.size (most+1))/\((¬ ∃ r,Rz w t r)->TA w f t most=most+1):=by
 intro f
 induction f with
 |zero=>intro t most h;omega
 | succ f ih =>
   intro t most hm
   have zKM:∀ {l rs:List Ty},wG w l rs->∀ n,1<=n->min (Fw (TA w f) most l n) (most+1)=min (n+Ty.sizes rs) (most+1):=by
    intro l rs h
    induction h with
    |nil=>intro n _;simp[Fw,Ty.sizes]
    | @cons x y l m h1 h2 ih2 =>
      intro n hn;unfold Fw;split
      . rw[(ih x (most-n) (by omega)).1 y h1,ih2 _ (by omega)];simp only[Ty.sizes];omega
      omega
   have zKL:∀ {l:List Ty},(¬ ∃ rs,wG w l rs)->∀ n,1<=n->min (Fw (TA w f) most l n) (most+1)=most+1:=by
    intro l
    induction l with
    |nil=>intro h;exact absurd ⟨[],.nil⟩ h
    | cons x l ih2 =>
      intro h n hn;unfold Fw;split
      . by_cases hx:∃ y,Rz w x y
        . obtain⟨y,hy⟩:=hx;refine ih2 (fun ⟨rs,hrs⟩=>h ⟨_,.cons hy hrs⟩) _ (by omega)
        . rw[(ih x (most-n) (by omega)).2 hx];have:=zbI (rec:=TA w f) (most:=most) l (n+(most-n+1));omega
      . omega
   constructor
   . intro r hr;obtain⟨l,hl,rfl⟩:=gH.1 hr;rw[TA,zKM hl 1 (Nat.le_refl _)];simp only[Ty.size_eq,Ty.cZ];omega
   . intro h;rw[TA,zKL (fun ⟨l,hl⟩=>h ⟨_,gH.2 ⟨l,hl,rfl⟩⟩) 1 (Nat.le_refl _)]
theorem zbH{f g:Nat}{t:Ty}{most:Nat}(hf:most<f)(hg:most<g):TA w f t most=TA w g t most:=by
 by_cases h:∃ r,Rz w t r
 . grind [K3]
 simp_all [K3]
def sz(w:Ty->Ty)(t:Ty)(most:Nat):Nat:=TA w (most+1) t most
theorem Tz(t:Ty)(most:Nat):sz w t most=min (Fw (sz w) most (w t).args 1) (most+1):=by
 unfold sz;rw[TA]
 congr 1
 have:∀ (l:List Ty) (n:Nat),1<=n->Fw (TA w most) most l n=Fw (fun t most=>TA w (most+1) t most) most l n:=by
  intro l
  induction l with
  |nil=>intro n _;rfl
  | cons x l ih =>
    grind [Fw,zbH]
 exact this _ _ (Nat.le_refl _)
theorem zu(t:Ty)(most:Nat):sz w t most<=most+1:=by rw[Tz];omega
theorem ztk(t:Ty)(most:Nat):1<=sz w t most:=by
 rw[Tz];have:=zbI (rec:=sz w) (most:=most) (w t).args 1;omega
theorem yo{t r:Ty}(h:Rz w t r)(most:Nat):sz w t most=min r.size (most+1):=(K3 _ t most (Nat.lt_succ_self _)).1 r h
theorem zns{t:Ty}(h:¬ ∃ r,Rz w t r)(most:Nat):sz w t most=most+1:=(K3 _ t most (Nat.lt_succ_self _)).2 h
theorem gp{t:Ty}{most:Nat}:sz w t most<=most↔∃ r,Rz w t r/\r.size<=most:=by
 constructor
 . intro h;by_cases hr:∃ r,Rz w t r
   . obtain⟨r,hr⟩:=hr;rw[yo hr]at h;exact⟨r,hr,by omega⟩
   . rw[zns hr]at h;omega
 . rintro ⟨r,hr,h⟩;rw[yo hr];omega
open Classical in
def full(w:Ty->Ty)(t:Ty):Ty:=if h:∃ r,Rz w t r then Classical.choose h else t
theorem full_of{t r:Ty}(h:Rz w t r):full w t=r:=by
 have hx:∃ r,Rz w t r:=⟨r,h⟩;unfold full;rw[dif_pos hx];exact(Classical.choose_spec hx).inj h
theorem wG.map{l m:List Ty}(h:wG w l m):m=l.map (full w):=by
 induction h with
 |nil=>rfl
 |cons h1 _ ih=>rw[List.map_cons,full_of h1,<- ih]
theorem wG.pF{l m:List Ty}(h:wG w l m):∀ x∈l,∃ y,Rz w x y/\y.size<=Ty.sizes m:=by
 induction h with
 |nil=>intro x hx;cases hx
 | cons h1 _ ih =>
   intro x hx;rcases List.mem_cons.1 hx with rfl|hx
   . exact⟨_,h1,by simp only[Ty.sizes];omega⟩
   . obtain⟨y,hy,hs⟩:=ih x hx;exact⟨y,hy,by simp only[Ty.sizes];omega⟩
end
namespace Store
def w16(s:Store):Ty->Ty:=s.bX (s.slots.length+1)
def w(s:Store):Ty->Ty:=s.bX s.slots.length
def dF(s:Store):Prop:=s.slots.length<=1000/\∀ x∈s.slots,x.type.ok=true
instance (s:Store):Decidable s.dF:=by unfold dF;infer_instance
theorem zA2{s:Store}(h:s.dF)(t:Ty):(s.to t).ok=true:=by
 unfold to;split
 . rename_i x hx;obtain⟨i,_,hi,hx⟩:=slot?_some hx;have:=(List.getElem?_eq_some_iff.1 hx).2;exact h.2 x (this ▸ List.getElem_mem hi)
 . rfl
theorem lL{s:Store}(h:s.dF):∀ (n:Nat) {t:Ty},t.ok=true->(s.bX n t).ok=true:=by
 intro n
 induction n with
 |zero=>intro t ht;exact ht
 | succ n ih =>
   grind [bX,zA2]
end Store
def bK(w:Ty->Ty)(t:Ty):Ty×Bool:=if sz w t 4000<=4000 then (full w t,true)else (Nv,false)
def zc:List V:=[.int .i64 0,.str [],.int .i64 0,.int .i64 0,.snil]
end Go.J
/- The fQ search for type variables. -/
namespace Go.J
open Enc (enc)
def und:List Slot->List Bool->Nat
 |x::l,b::m=>(if b=true then 0 else x.type.size)+und l m
 |_,_=>0
theorem Fu:∀ {l:List Slot} {m:List Bool} {i:Nat} {x:Slot},l[i]?=some x->m[i]?=some false->und l (m.set i true)+x.type.size=und l m:=by
 intro l
 induction l with
 |nil=>intro m i x h;simp at h
 | cons y l ih =>
   intro m i x h h2
   cases m with
   |nil=>simp at h2
   | cons b m =>
     cases i with
     | zero =>
       grind [und]
     | succ i =>
       grind [und]
def pY (s:Store):Nat->Ty->List Int×List Bool->List Int×List Bool
 | 0,_,st=>st
 | f + 1,t,st=>if t.kind=1 then
     (if s.bound t=true then (if st.2[t.id.toNat]?=some false then pY s f (s.to t) (st.1,st.2.set t.id.toNat true)else st)
       else if t.id∈st.1 then st else (st.1++[t.id],st.2))
   else t.args.foldl (fun st x=>pY s f x st) st
theorem Store.gG{s:Store}{t:Ty}(h:s.bound t=true):t.kind=1/\∃ i:Nat,∃ x,t.id=i/\i<s.slots.length/\s.slots[i]?=some x/\x.bound=true/\s.to t=x.type:=by
 unfold Store.bound at h;split at h
 . rename_i x hk hx;obtain⟨i,hi,hl,hxi⟩:=Store.slot?_some hx;exact⟨by simpa using hk,i,x,hi,hl,hxi,h,by unfold Store.to;rw[hx]⟩
 . cases h
def Fh(s:Store)(c:Nat)(st st':List Int×List Bool):Prop:=st'.2.length=st.2.length/\st.1.length<=st'.1.length/\und s.slots st'.2<=und s.slots st.2/\st'.1.length+und s.slots st'.2<=st.1.length+und s.slots st.2+c
theorem Fh.refl{s:Store}{c:Nat}{st:List Int×List Bool}:Fh s c st st:=⟨rfl,Nat.le_refl _,Nat.le_refl _,by omega⟩
theorem Fh.trans{s:Store}{c d:Nat}{a b e:List Int×List Bool}(h:Fh s c a b)(h':Fh s d b e):Fh s (c+d) a e:=by
 obtain⟨h1,h2,h3,h4⟩:=h;obtain⟨g1,g2,g3,g4⟩:=h';exact⟨by omega,by omega,by omega,by omega⟩
theorem zba{s:Store}{f:Nat}(ih:∀ t st,Fh s t.size st (pY s f t st)):∀ (l:List Ty) (st:List Int×List Bool),Fh s (Ty.sizes l) st (l.foldl (fun st x=>pY s f x st) st):=by
 intro l
 induction l with
 |nil=>intro st;exact .refl
 | cons x l ih2 =>
   intro st;simp only[List.foldl_cons,Ty.sizes];exact(ih x st).trans (ih2 _)
theorem Co (s:Store):∀ (f:Nat) (t:Ty) (st:List Int×List Bool),Fh s t.size st (pY s f t st):=by
 intro f
 induction f with
 |zero=>intro t st;exact .refl
 | succ f ih =>
   intro t st;rw[pY];split
   . split
     . rename_i hb;split
       . rename_i hd;obtain⟨_,i,x,hi,hl,hx,_,hto⟩:=Store.gG hb;rw[hi,Int.toNat_natCast]at hd ⊢;rw[hto];have h1:=Fu hx hd;obtain⟨k1,k2,k3,k4⟩:=ih x.type (st.1,st.2.set i true);simp only[List.length_set]at k1 k2 k3 k4;exact⟨k1,k2,by omega,by omega⟩
       . exact .refl
     . split
       . exact .refl
       . have:=Ty.size_pos t;exact⟨rfl,by simp,Nat.le_refl _,by simp;omega⟩
   . have h:=zba ih t.args st;obtain⟨k1,k2,k3,k4⟩:=h;have:=Ty.size_eq t;exact⟨k1,k2,k3,by omega⟩
def zO(d:Nat)(s:Store)(out:List Int)(done:List Bool)(t:Ty):Option (List Int×List Bool) :=
 if s.dF/\t.ok=true/\done.length=s.slots.length/\out.length+t.size+und s.slots done<=100000/\t.size+und s.slots done<=d then some (pY s d t (out,done))else none
def dz(s:Store)(l:List Ty):List Int:=(l.foldl (fun st x=>pY s 100000 x st) (([]:List Int),List.replicate s.slots.length false)).1
def iO(s:Store)(l:List Ty):Prop:=s.dF/\Ty.oks l=true/\l.length<=10000/\Ty.sizes l+und s.slots (List.replicate s.slots.length false)<=100000
instance (s:Store)(l:List Ty):Decidable (iO s l):=by unfold iO;infer_instance
end Go.J
/- The fQ unification. -/
namespace Go.J
open Enc (enc)
namespace Store
def bG(s:Store)(t:Ty):Bool:=decide (t.kind=1)&&(s.slot? t.id).isSome
def aJ(s:Store)(i:Int):Slot:=(s.slot? i).getD TF
def joinL(s:Store)(a b:Int):Slot:={ s.aJ (min a b)with home:=min (s.aJ (min a b)).home (s.aJ (max a b)).home,base:=(s.aJ (min a b)).base||(s.aJ (max a b)).base }
def xE(s:Store)(a b:Int):Slot:={ s.aJ (max a b)with bound:=true,type:=aM (min a b) }
def join(s:Store)(a b:Int):Store:=if a=b then s else ((s.set (min a b) (s.joinL a b)).1.set (max a b) (s.xE a b)).1
def bf(home:Int)(s:Store)(v:Int):Store:=if v<s.slots.length/\home<(s.aJ v).home then (s.set v { s.aJ v with home:=home }).1 else s
def bindM(s:Store)(id:Int)(t:Ty):Store×Int :=
 if id∈dz s [t]then (s,12)else
 if (isArrow t).c=true/\(s.aJ id).base=true then (s,14)else
 if ∃ x∈iD [(bK s.w16 t).1],(s.aJ id).home<x.home then (s,13)else
 if ∃ v∈dz s [t],(s.slots.length:Int)<=v/\(s.aJ id).home<0 then (s,13)else
 ((((dz s [t]).foldl (bf (s.aJ id).home) s).set id { s.aJ id with bound:=true,type:=t }).1,0)
end Store
theorem uS(p:Store×Bool):(enc p:V)=.tuple [enc p.1,.bool p.2]:=rfl
end Go.J
/- Types whose leaves are replaced. -/
namespace Go.J
open Enc (enc)
mutual
def Ty.zBE(g:Ty->Ty):Ty->Ty
 |.mk k n i h []=>g (.mk k n i h [])
 |.mk k n i h (t::l)=>.mk k n i h (Ty.zBE g t::Ty.zcl g l)
def Ty.zcl(g:Ty->Ty):List Ty->List Ty
 | []=>[]
 |t::l=>Ty.zBE g t::Ty.zcl g l
end
abbrev zPZ:List V:=[.int .i64 0,.str [],.int .i64 0,.int .i64 0,.snil]
def Pn(l:List Ty)(n i:Nat):List (List V):=(l.take i).map ax++List.replicate (n-i) zPZ
theorem Kh{l:List Ty}{n i:Nat}{e:List V}(h:e∈Pn l n i):e.length=5/\e.all V.aI=true:=by
 unfold Pn at h;rcases List.mem_append.1 h with h|h
 . obtain⟨t,_,rfl⟩:=List.mem_map.1 h
   simp_all
 simp_all
@[simp] theorem zvt {l:List Ty} {n i:Nat}:((Pn l n i).all fun e=>e.all V.aI)=true:=List.all_eq_true.2 fun e he=>(Kh he).2
@[simp] theorem zyS {l:List Ty} {n i:Nat} {π:Nat->Nat}:((Pn l n i).map fun e=>e.map (V.iy π))=Pn l n i:=vP fun x hx v hv=>V.jb (List.all_eq_true.1 (Kh hx).2 v hv)
end Go.J
/- zzW the leaves of a type is Zc its variables. -/
namespace Go.J
open Enc (enc)
mutual
def Ty.BA:Ty->Bool
 |.mk k _ _ _ l=>(decide (k≠1)||decide (l.length=0))&&Ty.nI l
def Ty.nI:List Ty->Bool
 | []=>true
 |t::l=>Ty.BA t&&Ty.nI l
end
mutual
theorem Oi(s:List Assign):∀ t:Ty,t.BA=true->t.zBE (fun t=>if t.kind=1 then (bW s t.id).getD t else t)=t.dZ s
 | .mk k n i h [],_=>by
   rw[Ty.zBE,yB];simp only[Ty.dx,Ty.gz,Ty.cZ,Ty.vN,Ty.tH,List.map_nil]
 | .mk k n i h (t::l),hl=>by
   rw[Ty.BA]at hl;simp only[Bool.and_eq_true,Bool.or_eq_true,decide_eq_true_eq]at hl
   have hk:k≠1:=by
    rcases hl.1 with h|h
    . exact h
    . simp at h
   have hl2:=hl.2;rw[Ty.nI,Bool.and_eq_true]at hl2;rw[Ty.zBE,Oi s t hl2.1,Gm s l hl2.2,yB s (.mk k n i h (t::l))];simp only[Ty.dx,if_neg hk,Ty.gz,Ty.cZ,Ty.vN,Ty.tH,List.map_cons];rw[Oe]
theorem Gm(s:List Assign):∀ l:List Ty,Ty.nI l=true->Ty.zcl (fun t=>if t.kind=1 then (bW s t.id).getD t else t) l=Ty.DI s l
 | [],_=>by rw[Ty.zcl,Ty.DI]
 | t::l,hl=>by
   rw[Ty.nI,Bool.and_eq_true]at hl;rw[Ty.zcl,Ty.DI,Oi s t hl.1,Gm s l hl.2]
end
end Go.J
/- Type variables in the order in which they are met;numbering them. -/
namespace Go.J
open Enc (enc)
def mq(out:List Int)(t:Ty):List Int:=if t.kind=1/\t.id ∉ out then out++[t.id]else out
mutual
def Dm:Ty->List Int->List Int
 |.mk k n i h l,out=>qK l (mq out (.mk k n i h l))
def qK:List Ty->List Int->List Int
 | [],out=>out
 |t::l,out=>qK l (Dm t out)
end
theorem zpe(t:Ty)(out:List Int):Dm t out=qK t.args (mq out t):=by cases t;rw[Dm];rfl
theorem PR(out:List Int)(t:Ty):∃ m,mq out t=out++m/\m.length<=1:=by
 unfold mq;split
 . exact⟨_,rfl,Nat.le_refl _⟩
 . exact⟨[],by simp,by simp⟩
mutual
theorem zkP:∀ (t:Ty) (out:List Int),∃ m,Dm t out=out++m/\m.length<=t.size
 | .mk k n i h l,out=>by
   obtain⟨a,ha,ha2⟩:=PR out (.mk k n i h l);obtain⟨b,hb,hb2⟩:=Kz l (mq out (.mk k n i h l));have:=Ty.size_eq (.mk k n i h l);exact⟨a++b,by rw[Dm,hb,ha,List.append_assoc],by rw[List.length_append];simp only[Ty.cZ]at this;omega⟩
theorem Kz:∀ (l:List Ty) (out:List Int),∃ m,qK l out=out++m/\m.length<=Ty.sizes l
 | [],out=>⟨[],by simp[qK],by simp⟩
 | t::l,out=>by
   obtain⟨a,ha,ha2⟩:=zkP t out;obtain⟨b,hb,hb2⟩:=Kz l (Dm t out);refine⟨a++b,by rw[qK,hb,ha,List.append_assoc],?_⟩;rw[List.length_append];simp only[Ty.sizes];omega
end
theorem JH{out:List Int}{t:Ty}(h:out.Nodup):(mq out t).Nodup:=by
 unfold mq;split
 . rename_i hh;rw[List.nodup_append];exact⟨h,List.nodup_cons.2 ⟨by simp,List.nodup_nil⟩,fun a ha b hb e=>by rw[List.mem_singleton]at hb;subst hb;subst e;exact hh.2 ha⟩
 . exact h
mutual
theorem Sj:∀ (t:Ty) {out:List Int},out.Nodup->(Dm t out).Nodup
 |.mk k n i h l,out,ho=>by rw[Dm];exact Eh l (JH ho)
theorem Eh:∀ (l:List Ty) {out:List Int},out.Nodup->(qK l out).Nodup
 | [],out,ho=>by rw[qK];exact ho
 |t::l,out,ho=>by rw[qK];exact Eh l (Sj t ho)
end
theorem L6{t:Ty}{out:List Ty}(hk:t.kind=1):lC (if t∈out then out else out++[t])=mq (lC out) t:=by
 have hsub:∀ (a:Ty) (o:List Int) (y:Int),y∈o->y∈pX o a:=by
  grind [pX]
 have hself:∀ (a:Ty) (o:List Int),a.id∈pX o a:=by
  grind [pX]
 have key:∀ (l:List Ty) (o:List Int),(∀ y∈o,y∈l.foldl pX o)/\∀ x∈l,x.id∈l.foldl pX o:=by
  intro l
  induction l with
  |nil=>intro o;exact⟨fun y hy=>hy,fun x hx=>by cases hx⟩
  | cons a l ih =>
    grind
 grind [lC,mq,Hg,pX]
mutual
theorem RD:∀ (t:Ty),t.BA=true->∀ out,lC (dM 1 t out)=Dm t (lC out)
 | .mk k n i h l,hl,out=>by
   rw[Ty.BA]at hl;simp only[Bool.and_eq_true,Bool.or_eq_true,decide_eq_true_eq]at hl;by_cases hk:k=1
   . have h0:l=[]:=by
      rcases hl.1 with h|h
      . exact absurd hk h
      . exact List.eq_nil_of_length_eq_zero h
     subst h0;rw[kL,if_pos ⟨hk,rfl⟩,L6 (t:=.mk k n i h []) hk,Dm];rfl
   . rw[kL,if_neg (fun hh=>hk hh.1),Dm];have:mq (lC out) (.mk k n i h l)=lC out:=if_neg (fun hh=>hk hh.1);rw[this];exact vQ l hl.2 out
theorem vQ:∀ (l:List Ty),Ty.nI l=true->∀ out,lC (aP 1 l out)=qK l (lC out)
 | [],_,out=>by rw[aP,qK]
 | t::l,hl,out=>by
   rw[Ty.nI,Bool.and_eq_true]at hl;rw[aP,qK,vQ l hl.2,RD t hl.1]
end
theorem YM{l:List Ty}(h:Ty.nI l=true):ji l=qK l []:=vQ l h []
end Go.J
/- zzY type variables twice is numbering them once. zsp of types that a tape makes. -/
namespace Go.J
open Enc (enc)
mutual
def Ty.ay:Ty->Bool
 |.mk k n _ h l=>(decide (k≠1)||(decide (n=[])&&decide (h=0)&&decide (l.length=0)))&&Ty.qM l
def Ty.qM:List Ty->Bool
 | []=>true
 |t::l=>Ty.ay t&&Ty.qM l
end
theorem bN{l:List Ty}:Ty.qM l=true↔∀ t∈l,t.ay=true:=by
 induction l with
 |nil=>simp[Ty.qM]
 |cons t l ih=>simp[Ty.qM,ih]
theorem bg{t:Ty}(h:t.ay=true)(hk:t.kind=1):t=aM t.id:=by
 obtain⟨k,n,i,hh,l⟩:=t;rw[Ty.ay]at h;simp only[Bool.and_eq_true,Bool.or_eq_true,decide_eq_true_eq]at h;simp only[Ty.dx]at hk;subst hk;rcases h.1 with h|h
 . omega
 . obtain⟨⟨rfl,rfl⟩,h3⟩:=h;rw[List.eq_nil_of_length_eq_zero h3];rfl
theorem bS{t:Ty}(h:t.ay=true):Ty.qM t.args=true:=by
 obtain⟨k,n,i,hh,l⟩:=t
 simp_all [Ty.ay,Bool.and_eq_true]
theorem o9{t:Ty}(hk:t.kind≠1)(h:∀ x∈t.args,x.ay=true):t.ay=true:=by
 obtain⟨k,n,i,hh,l⟩:=t
 simp_all [Ty.ay,Bool.and_eq_true,bN]
theorem eu(i:Int):(aM i).ay=true:=by simp[aM,Ty.ay,Ty.qM]
mutual
theorem KO:∀ t:Ty,t.ay=true->t.BA=true
 | .mk k n i h l,hp=>by
   rw[Ty.ay]at hp;simp only[Bool.and_eq_true,Bool.or_eq_true,decide_eq_true_eq]at hp;rw[Ty.BA];simp only[Bool.and_eq_true,Bool.or_eq_true,decide_eq_true_eq];exact⟨hp.1.imp (fun h=>h) (fun h=>h.2),rJ l hp.2⟩
theorem rJ:∀ l:List Ty,Ty.qM l=true->Ty.nI l=true
 | [],_=>by rw[Ty.nI]
 | t::l,hp=>by
   rw[Ty.qM,Bool.and_eq_true]at hp;rw[Ty.nI,KO t hp.1,rJ l hp.2];rfl
end
def zco(n:Nat):List Int:=(List.range n).map fun i=>((i:Nat):Int)
@[simp] theorem ztL (n:Nat):(zco n).length=n:=by simp[zco]
section
variable {ids:List Int}(hn:ids.Nodup)
include hn
end
end Go.J
/- zsp of types that a tape makes. -/
namespace Go.J
open Enc (enc)
theorem zbY{l:List Ty}{b:Nat}(h:∀ t∈l,t.size<=b):Ty.sizes l<=l.length*b:=by
 induction l with
 |nil=>simp[Ty.sizes]
 | cons t l ih =>
   have h1:=h t (List.mem_cons_self ..);have h2:=ih fun t ht=>h t (List.mem_cons_of_mem _ ht)
   simp only[Ty.sizes,List.length_cons,Nat.succ_mul];omega
def SQ(D:List Decl):Prop:=∀ d∈D,d.params.length<=2
theorem PO(bits:Int):SQ (jd bits):=by
 intro d hd;have key:∀ d∈Fg,d.params.length<=2:=by decide
 exact key d (xQ hd)
theorem QK {D:List Decl} {Lv:List Ty} (hD:SQ D) (hl:∀ l∈Lv,l.size<=1):∀ (d:Nat) (t:Tp),(dh d t D Lv).2.size+1<=2 ^ (d+1):=by
 have hint:FW.size=1:=by decide
 intro d
 induction d with
 | zero =>
   intro t;rw[dh]
   grind
 | succ d ih =>
   intro t;have hp:2 ^ (d+1+1)=2*2 ^ (d+1):=by rw[Nat.pow_succ 2 (d+1)];omega
   have hpos:2<=2 ^ (d+1):=by rw[Nat.pow_succ];have:=Nat.two_pow_pos d;omega
   rw[dh]
   try dsimp only
   split
   . grind
   . split
     . grind
     . split
       . rename_i h;obtain⟨j,hj,_,h2⟩:=uN (t.next 7).1 h.2;rw[h2];have zLb:=hD _ (List.getElem_mem hj);rw[Option.getD_some]
         have hargs:∀ (q:Tp) (n:Nat) (x:Ty),x∈(jN d q D Lv n).2->x.size+1<=2 ^ (d+1):=by
          intro q n
          induction n with
          |zero=>intro x hx;rw[jN]at hx;cases hx
          | succ n zOz =>
            grind [jN,List.mem_singleton]
         have hs:=zbY (l:=(jN d ((t.next 7).1.next (D.length:Int)).1 D Lv D[j].params.length).2) (b:=2 ^ (d+1)-1) fun x hx=>by have:=hargs _ _ x hx;omega
         rw[yU]at hs;rw[Ty.size_eq];have hm:D[j].params.length*(2 ^ (d+1)-1)<=2*(2 ^ (d+1)-1):=Nat.mul_le_mul_right _ zLb;show Ty.sizes (jN d ((t.next 7).1.next (D.length:Int)).1 D Lv D[j].params.length).2+1+1<=_;omega
       . rw[Ty.size_eq];simp only[lG,nR,Ty.cZ,Ty.sizes]
         grind
theorem KY{D:List Decl}{Lv:List Ty}(hl:∀ l∈Lv,l.ay=true)(d:Nat)(t:Tp):(dh d t D Lv).2.ay=true :=
 uC (P:=fun t=>t.ay=true) hl (by decide) (fun dd _ l _ hx=>o9 (by simp[nR]) hx)
  (fun a b h1 h2=>o9 (by simp[lG,nR]) (fun x hx=>by
    simp only[lG,nR,Ty.cZ,List.mem_cons,List.not_mem_nil,or_false]at hx
    rcases hx with rfl|rfl<;>assumption)) d t
theorem QJ{D:List Decl}{Lv:List Ty}(hD:SQ D)(hl:∀ l∈Lv,l.ok=true)(d:Nat)(t:Tp):(dh d t D Lv).2.ok=true :=
 uC (P:=fun t=>t.ok=true) hl (by decide) (fun dd hdd l hlen hx=>Ty.ky.2 ⟨by have:=hD dd hdd;simp[nR,hlen];omega,hx⟩)
  (fun a b h1 h2=>Ty.ky.2 ⟨by simp[lG,nR],fun x hx=>by
    simp only[lG,nR,Ty.cZ,List.mem_cons,List.not_mem_nil,or_false]at hx
    rcases hx with rfl|rfl<;>assumption⟩) d t
end Go.J
/- zl2 that collect numbers in a variable of their maker,and functions that are handed such a closure. -/
namespace Go.J
open Enc (enc)
def zFl(out:List Int):List (Nat×Obj):=(0,dn (oV 1 (out.map encI)))::oH 1 1 (out.map encI)
def zac(g:Option Nat)(tv:V)(id ro:Nat)(out out':List Int):fA where
 k:=match out with | []=>1|_=>2
 k':=match out' with | []=>1|_=>2
 π:=fun i=>if i=0 then id else ro
 OL:=zFl out
 OL':=zFl out'
 vs0:=[tv,zkW g 0]
 v0:=.tuple []
def zNa(g:Option Nat)(F:List Int->Ty->Option (List Int))(vs:List V)(hs:HS):Option fA:=match vs with
 | [tv,cv]=>ob (capOf g cv) fun id=>ob (Enc.dec tv:Option Ty) fun t=>ob (hs.H.get id) fun o=>ob (capB? o) fun c=>ob (rowOf 1 hs c) fun oc=>ob (bQ oc:Option (List Int)) fun out=>ob (F out t) fun r =>
  gd (et (Nat.blt id hs.n) (et (bi (Nat.beq (aN oc) 0) true (nt (Nat.beq id (fH c)))) (et (Nat.ble (aN out) (aN r)) (cB hs hs.n))))
   (some (zac g tv id (fH c) out r))
 |_=>none
section
variable {g:Option Nat}{tv:V}{id ro:Nat}{out out':List Int}{x y:Int}{hs:HS}
@[simp] theorem zFm:(zac g tv id ro out out').val hs=.tuple []:=(rfl)
theorem PW:(zac g tv id ro [] []).heap hs={ H:=hs.H.set id (dn .snil),n:=hs.n,log:=id::hs.log }:=by
 show ({ H:=hs.H.set id _,n:=hs.n+0,log:=_ }:HS)=_;rfl
theorem PV:(zac g tv id ro [] (x::out')).heap hs={ H:=(hs.H.set hs.n (oO 1 ((x::out').map encI))).set id (dn (oV hs.n ((x::out').map encI))),n:=hs.n+1,log:=id::hs.n::hs.log }:=by
 show ({ H:=(hs.H.set (hs.n+0) ((oO 1 ((x::out').map encI)).ren _)).set id _,n:=hs.n+1,log:=_ }:HS)=_;rw[nH (ku (x::out'))];rfl
theorem PU:(zac g tv id ro (y::out) (x::out')).heap hs={ H:=(hs.H.set ro (oO 1 ((x::out').map encI))).set id (dn (oV ro ((x::out').map encI))),n:=hs.n,log:=id::ro::hs.log }:=by
 show ({ H:=(hs.H.set ro ((oO 1 ((x::out').map encI)).ren _)).set id _,n:=hs.n+0,log:=_ }:HS)=_;rw[nH (ku (x::out'))];rfl
attribute [simp] PW PV PU
@[simp] theorem zM9 {F:List Int→Ty→Option (List Int)} {cv:V}:zNa g F [tv,cv] hs=ob (capOf g cv) fun id=>ob (Enc.dec tv:Option Ty) fun t=>ob (hs.H.get id) fun o=>ob (capB? o) fun c=>ob (rowOf 1 hs c) fun oc=>ob (bQ oc:Option (List Int)) fun out=>ob (F out t) fun r =>
      gd (et (Nat.blt id hs.n) (et (bi (Nat.beq (aN oc) 0) true (nt (Nat.beq id (fH c)))) (et (Nat.ble (aN out) (aN r)) (cB hs hs.n))))
       (some (zac g tv id (fH c) out r)):=(rfl)
end
end Go.J
