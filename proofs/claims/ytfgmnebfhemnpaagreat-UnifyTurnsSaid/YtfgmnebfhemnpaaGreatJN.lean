import Derived.Test.YtfgmnebfhemnpaaGreatJL
import Derived.Test.YtfgmnebfhemnpaaGreatJK
set_option linter.all false
noncomputable section
/- Sizes and resolved forms. -/
namespace Go.J
open Enc (enc)
def szL(rec:Ty->Nat->Nat)(most:Nat):List Ty->Nat->Nat
 | [],n=>n
 |x::l,n=>if n<=most then szL rec most l (n+rec x (most-n))else n
def szM(w:Ty->Ty):Nat->Ty->Nat->Nat
 | 0,_,most=>most+1
 |f+1,t,most=>min (szL (szM w f) most (w t).args 1) (most+1)
def zfV (rec:Ty->Option Ty):List Ty->Option (List Ty)
 | []=>some []
 | x::l=>match rec x,zfV rec l with
   |some y,some m=>some (y::m)
   |_,_=>none
def zkV (w:Ty->Ty):Nat->Ty->Option Ty
 | 0,_=>none
 | f+1,t=>match zfV (zkV w f) (w t).args with
   |some l=>some (.mk (w t).kind (w t).name (w t).id (w t).home l)
   |none=>none
section
variable {w:Ty->Ty}
theorem ziS{p q:Ty->Option Ty}(h:∀ t r,p t=some r->q t=some r):∀ {l m:List Ty},zfV p l=some m->zfV q l=some m:=by
 intro l
 induction l with
 |nil=>intro m h;exact h
 | cons x l ih =>
   intro m hm;unfold zfV at hm ⊢;split at hm
   . rename_i y m' h1 h2;rw[h _ _ h1,ih h2];exact hm
   . cases hm
theorem zrb:∀ {f:Nat} {t r:Ty},zkV w f t=some r->zkV w (f+1) t=some r:=by
 intro f
 induction f with
 |zero=>intro t r h;cases h
 | succ f ih =>
   intro t r h;rw[zkV]at h ⊢;split at h
   . rename_i l hl;rw[ziS (fun _ _ h=>ih h) hl];exact h
   . cases h
theorem zfq{f g:Nat}(hfg:f<=g){t r:Ty}(h:zkV w f t=some r):zkV w g t=some r:=by
 induction hfg with
 |refl=>exact h
 |step _ ih=>exact zrb ih
def Rz(w:Ty->Ty)(t r:Ty):Prop:=∃ f,zkV w f t=some r
theorem Rz.inj{t r r':Ty}(h:Rz w t r)(h':Rz w t r'):r=r':=by
 obtain⟨f,h⟩:=h;obtain⟨g,h'⟩:=h';have h1:=zfq (Nat.le_max_left f g) h;have h2:=zfq (Nat.le_max_right f g) h';exact Option.some.inj (h1.symm.trans h2)
inductive Rzs (w:Ty->Ty):List Ty->List Ty->Prop
 |nil:Rzs w [] []
 |cons {x y:Ty} {l m:List Ty}:Rz w x y->Rzs w l m->Rzs w (x::l) (y::m)
theorem Rzs.of{f:Nat}:∀ {l m:List Ty},zfV (zkV w f) l=some m->Rzs w l m:=by
 intro l
 induction l with
 |nil=>intro m h;cases h;exact .nil
 | cons x l ih =>
   intro m h;unfold zfV at h;split at h
   . rename_i y m' h1 h2;cases h;exact .cons ⟨f,h1⟩ (ih h2)
   . cases h
theorem Rzs.to{l m:List Ty}(h:Rzs w l m):∃ f,zfV (zkV w f) l=some m:=by
 induction h with
 |nil=>exact⟨0,rfl⟩
 | @cons x y l m h1 h2 ih =>
   obtain⟨f,h1⟩:=h1;obtain⟨g,ih⟩:=ih;refine⟨max f g,?_⟩;unfold zfV;rw[zfq (Nat.le_max_left f g) h1,ziS (fun _ _ h=>zfq (Nat.le_max_right f g) h) ih]
theorem Rz_iff{t r:Ty}:Rz w t r↔∃ l,Rzs w (w t).args l/\r=.mk (w t).kind (w t).name (w t).id (w t).home l:=by
 constructor
 . rintro ⟨f,h⟩
   cases f with
   |zero=>cases h
   | succ f =>
     rw[zkV]at h;split at h
     . rename_i l hl;cases h;exact⟨l,.of hl,rfl⟩
     . cases h
 . rintro ⟨l,h,rfl⟩;obtain⟨f,h⟩:=h.to;exact⟨f+1,by rw[zkV,h]⟩
theorem Rzs.sizes_pos{l m:List Ty}(h:Rzs w l m):l.length=m.length:=by
 induction h with
 |nil=>rfl
 |cons _ _ ih=>simp[ih]
theorem zyZ{rec:Ty->Nat->Nat}{most:Nat}:∀ (l:List Ty) (n:Nat),n<=szL rec most l n:=by
 intro l
 induction l with
 |nil=>intro n;exact Nat.le_refl _
 | cons x l ih =>
   intro n;unfold szL;split
   . have:=ih (n+rec x (most-n));omega
   . exact Nat.le_refl _
theorem ziM:∀ (f:Nat) (t:Ty) (most:Nat),most<f->(∀ r,Rz w t r->szM w f t most=min r.size (most+1))/\((¬ ∃ r,Rz w t r)->szM w f t most=most+1):=by
 intro f
 induction f with
 |zero=>intro t most h;omega
 | succ f ih =>
   intro t most hm
   have key1:∀ {l rs:List Ty},Rzs w l rs->∀ n,1<=n->min (szL (szM w f) most l n) (most+1)=min (n+Ty.sizes rs) (most+1):=by
    intro l rs h
    induction h with
    |nil=>intro n _;simp[szL,Ty.sizes]
    | @cons x y l m h1 h2 ih2 =>
      intro n hn;unfold szL;split
      . rw[(ih x (most-n) (by omega)).1 y h1,ih2 _ (by omega)];simp only[Ty.sizes];omega
      . simp only[Ty.sizes];omega
   have key2:∀ {l:List Ty},(¬ ∃ rs,Rzs w l rs)->∀ n,1<=n->min (szL (szM w f) most l n) (most+1)=most+1:=by
    intro l
    induction l with
    |nil=>intro h;exact absurd ⟨[],.nil⟩ h
    | cons x l ih2 =>
      intro h n hn;unfold szL;split
      . by_cases hx:∃ y,Rz w x y
        . obtain⟨y,hy⟩:=hx;refine ih2 (fun ⟨rs,hrs⟩=>h ⟨_,.cons hy hrs⟩) _ (by omega)
        . rw[(ih x (most-n) (by omega)).2 hx];have:=zyZ (rec:=szM w f) (most:=most) l (n+(most-n+1));omega
      . omega
   constructor
   . intro r hr;obtain⟨l,hl,rfl⟩:=Rz_iff.1 hr;rw[szM,key1 hl 1 (Nat.le_refl _)];simp only[Ty.size_eq,Ty.args_mk];omega
   . intro h;rw[szM,key2 (fun ⟨l,hl⟩=>h ⟨_,Rz_iff.2 ⟨l,hl,rfl⟩⟩) 1 (Nat.le_refl _)]
theorem zw5{f g:Nat}{t:Ty}{most:Nat}(hf:most<f)(hg:most<g):szM w f t most=szM w g t most:=by
 by_cases h:∃ r,Rz w t r
 . obtain⟨r,hr⟩:=h;rw[(ziM f t most hf).1 r hr,(ziM g t most hg).1 r hr]
 . rw[(ziM f t most hf).2 h,(ziM g t most hg).2 h]
def sz(w:Ty->Ty)(t:Ty)(most:Nat):Nat:=szM w (most+1) t most
theorem zw4 (t:Ty) (most:Nat):sz w t most=min (szL (sz w) most (w t).args 1) (most+1):=by
 unfold sz;rw[szM]
 congr 1
 have:∀ (l:List Ty) (n:Nat),1<=n->szL (szM w most) most l n=szL (fun t most=>szM w (most+1) t most) most l n:=by
  intro l
  induction l with
  |nil=>intro n _;rfl
  | cons x l ih =>
    intro n hn;unfold szL;split
    . rw[zw5 (f:=most) (g:=most-n+1) (by omega) (by omega)];exact ih _ (by omega)
    . rfl
 exact this _ _ (Nat.le_refl _)
theorem zjC(t:Ty)(most:Nat):sz w t most<=most+1:=by rw[zw4];omega
theorem zDq(t:Ty)(most:Nat):1<=sz w t most:=by
 rw[zw4];have:=zyZ (rec:=sz w) (most:=most) (w t).args 1;omega
theorem zfT{t r:Ty}(h:Rz w t r)(most:Nat):sz w t most=min r.size (most+1):=(ziM _ t most (Nat.lt_succ_self _)).1 r h
theorem z7A{t:Ty}(h:¬ ∃ r,Rz w t r)(most:Nat):sz w t most=most+1:=(ziM _ t most (Nat.lt_succ_self _)).2 h
theorem sz_fits{t:Ty}{most:Nat}:sz w t most<=most↔∃ r,Rz w t r/\r.size<=most:=by
 constructor
 . intro h;by_cases hr:∃ r,Rz w t r
   . obtain⟨r,hr⟩:=hr;rw[zfT hr]at h;exact⟨r,hr,by omega⟩
   . rw[z7A hr]at h;omega
 . rintro ⟨r,hr,h⟩;rw[zfT hr];omega
open Classical in
def full(w:Ty->Ty)(t:Ty):Ty:=if h:∃ r,Rz w t r then Classical.choose h else t
theorem full_of{t r:Ty}(h:Rz w t r):full w t=r:=by
 have hx:∃ r,Rz w t r:=⟨r,h⟩;unfold full;rw[dif_pos hx];exact(Classical.choose_spec hx).inj h
theorem Rzs.map{l m:List Ty}(h:Rzs w l m):m=l.map (full w):=by
 induction h with
 |nil=>rfl
 |cons h1 _ ih=>rw[List.map_cons,full_of h1,<- ih]
theorem Rzs.size_mem{l m:List Ty}(h:Rzs w l m):∀ x∈l,∃ y,Rz w x y/\y.size<=Ty.sizes m:=by
 induction h with
 |nil=>intro x hx;cases hx
 | cons h1 _ ih =>
   intro x hx;rcases List.mem_cons.1 hx with rfl|hx
   . exact⟨_,h1,by simp only[Ty.sizes];omega⟩
   . obtain⟨y,hy,hs⟩:=ih x hx;exact⟨y,hy,by simp only[Ty.sizes];omega⟩
end
namespace Store
def w16(s:Store):Ty->Ty:=s.walkN (s.slots.length+1)
def w(s:Store):Ty->Ty:=s.walkN s.slots.length
def tysOk(s:Store):Prop:=s.slots.length<=1000/\∀ x∈s.slots,x.type.ok=true
instance (s:Store):Decidable s.tysOk:=by unfold tysOk;infer_instance
theorem zKK{s:Store}(h:s.tysOk)(t:Ty):(s.to t).ok=true:=by
 unfold to;split
 . rename_i x hx;obtain⟨i,_,hi,hx⟩:=slot?_some hx;have:=(List.getElem?_eq_some_iff.1 hx).2;exact h.2 x (this ▸ List.getElem_mem hi)
 . rfl
theorem walkN_ok{s:Store}(h:s.tysOk):∀ (n:Nat) {t:Ty},t.ok=true->(s.walkN n t).ok=true:=by
 intro n
 induction n with
 |zero=>intro t ht;exact ht
 | succ n ih =>
   intro t ht;unfold walkN;split
   . exact ih (zKK h t)
   . exact ht
end Store
def zT(w:Ty->Ty)(t:Ty):Ty×Bool:=if sz w t 4000<=4000 then (full w t,true)else (ty0,false)
end Go.J
/- The reference's search for type variables. -/
namespace Go.J
open Enc (enc)
def und:List Slot->List Bool->Nat
 |x::l,b::m=>(if b=true then 0 else x.type.size)+und l m
 |_,_=>0
theorem zj8:∀ {l:List Slot} {m:List Bool} {i:Nat} {x:Slot},l[i]?=some x->m[i]?=some false->und l (m.set i true)+x.type.size=und l m:=by
 intro l
 induction l with
 |nil=>intro m i x h;simp at h
 | cons y l ih =>
   intro m i x h h2
   cases m with
   |nil=>simp at h2
   | cons b m =>
     cases i with
     | zero =>
       simp at h h2;subst h h2;simp[und];omega
     | succ i =>
       simp at h h2;have:=ih h h2;simp only[List.set_cons_succ,und];omega
def vsM (s:Store):Nat->Ty->List Int×List Bool->List Int×List Bool
 | 0,_,st=>st
 | f + 1,t,st=>if t.kind=1 then
     (if s.bound t=true then (if st.2[t.id.toNat]?=some false then vsM s f (s.to t) (st.1,st.2.set t.id.toNat true)else st)
       else if t.id∈st.1 then st else (st.1++[t.id],st.2))
   else t.args.foldl (fun st x=>vsM s f x st) st
theorem Store.bound_slot{s:Store}{t:Ty}(h:s.bound t=true):t.kind=1/\∃ i:Nat,∃ x,t.id=i/\i<s.slots.length/\s.slots[i]?=some x/\x.bound=true/\s.to t=x.type:=by
 unfold Store.bound at h;split at h
 . rename_i x hk hx;obtain⟨i,hi,hl,hxi⟩:=Store.slot?_some hx;exact⟨by simpa using hk,i,x,hi,hl,hxi,h,by unfold Store.to;rw[hx]⟩
 . cases h
def VsOk(s:Store)(c:Nat)(st st':List Int×List Bool):Prop:=st'.2.length=st.2.length/\st.1.length<=st'.1.length/\und s.slots st'.2<=und s.slots st.2/\st'.1.length+und s.slots st'.2<=st.1.length+und s.slots st.2+c
theorem VsOk.refl{s:Store}{c:Nat}{st:List Int×List Bool}:VsOk s c st st:=⟨rfl,Nat.le_refl _,Nat.le_refl _,by omega⟩
theorem VsOk.trans{s:Store}{c d:Nat}{a b e:List Int×List Bool}(h:VsOk s c a b)(h':VsOk s d b e):VsOk s (c+d) a e:=by
 obtain⟨h1,h2,h3,h4⟩:=h;obtain⟨g1,g2,g3,g4⟩:=h';exact⟨by omega,by omega,by omega,by omega⟩
theorem zyR{s:Store}{f:Nat}(ih:∀ t st,VsOk s t.size st (vsM s f t st)):∀ (l:List Ty) (st:List Int×List Bool),VsOk s (Ty.sizes l) st (l.foldl (fun st x=>vsM s f x st) st):=by
 intro l
 induction l with
 |nil=>intro st;exact .refl
 | cons x l ih2 =>
   intro st;simp only[List.foldl_cons,Ty.sizes];exact(ih x st).trans (ih2 _)
theorem ziJ (s:Store):∀ (f:Nat) (t:Ty) (st:List Int×List Bool),VsOk s t.size st (vsM s f t st):=by
 intro f
 induction f with
 |zero=>intro t st;exact .refl
 | succ f ih =>
   intro t st;rw[vsM];split
   . split
     . rename_i hb;split
       . rename_i hd;obtain⟨_,i,x,hi,hl,hx,_,hto⟩:=Store.bound_slot hb;rw[hi,Int.toNat_natCast]at hd ⊢;rw[hto];have h1:=zj8 hx hd;obtain⟨k1,k2,k3,k4⟩:=ih x.type (st.1,st.2.set i true);simp only[List.length_set]at k1 k2 k3 k4;exact⟨k1,k2,by omega,by omega⟩
       . exact .refl
     . split
       . exact .refl
       . have:=Ty.size_pos t;exact⟨rfl,by simp,Nat.le_refl _,by simp;omega⟩
   . have h:=zyR ih t.args st;obtain⟨k1,k2,k3,k4⟩:=h;have:=Ty.size_eq t;exact⟨k1,k2,k3,by omega⟩
def zmy(d:Nat)(s:Store)(out:List Int)(done:List Bool)(t:Ty):Option (List Int×List Bool) :=
 if s.tysOk/\t.ok=true/\done.length=s.slots.length/\out.length+t.size+und s.slots done<=100000/\t.size+und s.slots done<=d then some (vsM s d t (out,done))else none
def varsS(s:Store)(l:List Ty):List Int:=(l.foldl (fun st x=>vsM s 100000 x st) (([]:List Int),List.replicate s.slots.length false)).1
def zbw(s:Store)(l:List Ty):Prop:=s.tysOk/\Ty.oks l=true/\l.length<=10000/\Ty.sizes l+und s.slots (List.replicate s.slots.length false)<=100000
instance (s:Store)(l:List Ty):Decidable (zbw s l):=by unfold zbw;infer_instance
end Go.J
/- The reference's unification. -/
namespace Go.J
open Enc (enc)
namespace Store
def isSlot(s:Store)(t:Ty):Bool:=decide (t.kind=1)&&(s.slot? t.id).isSome
def slotD(s:Store)(i:Int):Slot:=(s.slot? i).getD zwF
def joinL(s:Store)(a b:Int):Slot:={ s.slotD (min a b)with home:=min (s.slotD (min a b)).home (s.slotD (max a b)).home,base:=(s.slotD (min a b)).base||(s.slotD (max a b)).base }
def joinH(s:Store)(a b:Int):Slot:={ s.slotD (max a b)with bound:=true,type:=zad (min a b) }
def join(s:Store)(a b:Int):Store:=if a=b then s else ((s.set (min a b) (s.joinL a b)).1.set (max a b) (s.joinH a b)).1
def lowerOne(home:Int)(s:Store)(v:Int):Store:=if v<s.slots.length/\home<(s.slotD v).home then (s.set v { s.slotD v with home:=home }).1 else s
def bindM(s:Store)(id:Int)(t:Ty):Store×Int :=
 if id∈varsS s [t]then (s,12)else
 if (zaH t).c=true/\(s.slotD id).base=true then (s,14)else
 if ∃ x∈zbl [(zT s.w16 t).1],(s.slotD id).home<x.home then (s,13)else
 if ∃ v∈varsS s [t],(s.slots.length:Int)<=v/\(s.slotD id).home<0 then (s,13)else
 ((((varsS s [t]).foldl (lowerOne (s.slotD id).home) s).set id { s.slotD id with bound:=true,type:=t }).1,0)
end Store
theorem ze0(p:Store×Bool):(enc p:V)=.tuple [enc p.1,.bool p.2]:=rfl
end Go.J
/- Types whose leaves are replaced. -/
namespace Go.J
open Enc (enc)
mutual
def Ty.reb(g:Ty->Ty):Ty->Ty
 |.mk k n i h []=>g (.mk k n i h [])
 |.mk k n i h (t::l)=>.mk k n i h (Ty.reb g t::Ty.rebs g l)
def Ty.rebs(g:Ty->Ty):List Ty->List Ty
 | []=>[]
 |t::l=>Ty.reb g t::Ty.rebs g l
end
abbrev zTy:List V:=[.int .i64 0,.str [],.int .i64 0,.int .i64 0,.snil]
def zrY(l:List Ty)(n i:Nat):List (List V):=(l.take i).map zw++List.replicate (n-i) zTy
theorem zl9{l:List Ty}{n i:Nat}{e:List V}(h:e∈zrY l n i):e.length=5/\e.all V.pure2=true:=by
 unfold zrY at h;rcases List.mem_append.1 h with h|h
 . obtain⟨t,_,rfl⟩:=List.mem_map.1 h;obtain⟨k,n,i,hh,l⟩:=t;exact⟨by rw[zw];rfl,by rw[zw];rfl⟩
 . obtain⟨_,rfl⟩:=List.mem_replicate.1 h;exact⟨rfl,rfl⟩
@[simp] theorem zBD {l:List Ty} {n i:Nat}:((zrY l n i).all fun e=>e.all V.pure2)=true:=List.all_eq_true.2 fun e he=>(zl9 he).2
@[simp] theorem zFc {l:List Ty} {n i:Nat} {π:Nat->Nat}:((zrY l n i).map fun e=>e.map (V.ren2 π))=zrY l n i:=zeS fun x hx v hv=>V.ren2_pure (List.all_eq_true.1 (zl9 hx).2 v hv)
end Go.J
/- Replacing the leaves of a type is replacing its variables. -/
namespace Go.J
open Enc (enc)
mutual
def Ty.leafy:Ty->Bool
 |.mk k _ _ _ l=>(decide (k≠1)||decide (l.length=0))&&Ty.leafys l
def Ty.leafys:List Ty->Bool
 | []=>true
 |t::l=>Ty.leafy t&&Ty.leafys l
end
mutual
theorem zob(s:List Assign):∀ t:Ty,t.leafy=true->t.reb (fun t=>if t.kind=1 then (zaW s t.id).getD t else t)=t.repl s
 | .mk k n i h [],_=>by
   rw[Ty.reb,zhl];simp only[Ty.kind_mk,Ty.id_mk,Ty.args_mk,Ty.name_mk,Ty.home_mk,List.map_nil]
 | .mk k n i h (t::l),hl=>by
   rw[Ty.leafy]at hl;simp only[Bool.and_eq_true,Bool.or_eq_true,decide_eq_true_eq]at hl
   have hk:k≠1:=by
    rcases hl.1 with h|h
    . exact h
    . simp at h
   have hl2:=hl.2;rw[Ty.leafys,Bool.and_eq_true]at hl2;rw[Ty.reb,zob s t hl2.1,ziU s l hl2.2,zhl s (.mk k n i h (t::l))];simp only[Ty.kind_mk,if_neg hk,Ty.id_mk,Ty.args_mk,Ty.name_mk,Ty.home_mk,List.map_cons];rw[znZ]
theorem ziU(s:List Assign):∀ l:List Ty,Ty.leafys l=true->Ty.rebs (fun t=>if t.kind=1 then (zaW s t.id).getD t else t) l=Ty.repls s l
 | [],_=>by rw[Ty.rebs,Ty.repls]
 | t::l,hl=>by
   rw[Ty.leafys,Bool.and_eq_true]at hl;rw[Ty.rebs,Ty.repls,zob s t hl.1,ziU s l hl.2]
end
end Go.J
/- Type variables in the order in which they are met;numbering them. -/
namespace Go.J
open Enc (enc)
def zdA(out:List Int)(t:Ty):List Int:=if t.kind=1/\t.id ∉ out then out++[t.id]else out
mutual
def zyh:Ty->List Int->List Int
 |.mk k n i h l,out=>zic l (zdA out (.mk k n i h l))
def zic:List Ty->List Int->List Int
 | [],out=>out
 |t::l,out=>zic l (zyh t out)
end
theorem znu(out:List Int)(t:Ty):∃ m,zdA out t=out++m/\m.length<=1:=by
 unfold zdA;split
 . exact⟨_,rfl,Nat.le_refl _⟩
 . exact⟨[],by simp,by simp⟩
mutual
theorem zyg:∀ (t:Ty) (out:List Int),∃ m,zyh t out=out++m/\m.length<=t.size
 | .mk k n i h l,out=>by
   obtain⟨a,ha,ha2⟩:=znu out (.mk k n i h l);obtain⟨b,hb,hb2⟩:=zmh l (zdA out (.mk k n i h l));have:=Ty.size_eq (.mk k n i h l);exact⟨a++b,by rw[zyh,hb,ha,List.append_assoc],by rw[List.length_append];simp only[Ty.args_mk]at this;omega⟩
theorem zmh:∀ (l:List Ty) (out:List Int),∃ m,zic l out=out++m/\m.length<=Ty.sizes l
 | [],out=>⟨[],by simp[zic],by simp⟩
 | t::l,out=>by
   obtain⟨a,ha,ha2⟩:=zyg t out;obtain⟨b,hb,hb2⟩:=zmh l (zyh t out);refine⟨a++b,by rw[zic,hb,ha,List.append_assoc],?_⟩;rw[List.length_append];simp only[Ty.sizes];omega
end
theorem zkn{out:List Int}{t:Ty}(h:out.Nodup):(zdA out t).Nodup:=by
 unfold zdA;split
 . rename_i hh;rw[List.nodup_append];exact⟨h,List.nodup_cons.2 ⟨by simp,List.nodup_nil⟩,fun a ha b hb e=>by rw[List.mem_singleton]at hb;subst hb;subst e;exact hh.2 ha⟩
 . exact h
mutual
theorem zpN:∀ (t:Ty) {out:List Int},out.Nodup->(zyh t out).Nodup
 |.mk k n i h l,out,ho=>by rw[zyh];exact zib l (zkn ho)
theorem zib:∀ (l:List Ty) {out:List Int},out.Nodup->(zic l out).Nodup
 | [],out,ho=>by rw[zic];exact ho
 |t::l,out,ho=>by rw[zic];exact zib l (zpN t ho)
end
theorem zl4{t:Ty}{out:List Ty}(hk:t.kind=1):zf5 (if t∈out then out else out++[t])=zdA (zf5 out) t:=by
 have hsub:∀ (a:Ty) (o:List Int) (y:Int),y∈o->y∈ziG o a:=by
  intro a o y hy;unfold ziG;split
  . exact hy
  . exact List.mem_append.2 (.inl hy)
 have hself:∀ (a:Ty) (o:List Int),a.id∈ziG o a:=by
  intro a o;unfold ziG;split
  . assumption
  . simp
 have key:∀ (l:List Ty) (o:List Int),(∀ y∈o,y∈l.foldl ziG o)/\∀ x∈l,x.id∈l.foldl ziG o:=by
  intro l
  induction l with
  |nil=>intro o;exact⟨fun y hy=>hy,fun x hx=>by cases hx⟩
  | cons a l ih =>
    intro o;obtain⟨h1,h2⟩:=ih (ziG o a);refine⟨fun y hy=>h1 y (hsub a o y hy),fun x hx=>?_⟩;rcases List.mem_cons.1 hx with rfl|hx
    . exact h1 _ (hself x o)
    . exact h2 x hx
 have hmem:∀ l:List Ty,∀ x∈l,x.id∈zf5 l:=fun l=>(key l []).2
 unfold zdA;by_cases ht:t∈out
 . rw[if_pos ht,if_neg (fun h=>h.2 (hmem out t ht))]
 . rw[if_neg ht,zp8];unfold ziG;by_cases hi:t.id∈zf5 out
   . rw[if_pos hi,if_neg (fun h=>h.2 hi)]
   . rw[if_neg hi,if_pos ⟨hk,hi⟩]
mutual
theorem zp2:∀ (t:Ty),t.leafy=true->∀ out,zf5 (zaw 1 t out)=zyh t (zf5 out)
 | .mk k n i h l,hl,out=>by
   rw[Ty.leafy]at hl;simp only[Bool.and_eq_true,Bool.or_eq_true,decide_eq_true_eq]at hl;by_cases hk:k=1
   . have h0:l=[]:=by
      rcases hl.1 with h|h
      . exact absurd hk h
      . exact List.eq_nil_of_length_eq_zero h
     subst h0;rw[zcd,if_pos ⟨hk,rfl⟩,zl4 (t:=.mk k n i h []) hk,zyh];rfl
   . rw[zcd,if_neg (fun hh=>hk hh.1),zyh];have:zdA (zf5 out) (.mk k n i h l)=zf5 out:=if_neg (fun hh=>hk hh.1);rw[this];exact zgq l hl.2 out
theorem zgq:∀ (l:List Ty),Ty.leafys l=true->∀ out,zf5 (zQ 1 l out)=zic l (zf5 out)
 | [],_,out=>by rw[zQ,zic]
 | t::l,hl,out=>by
   rw[Ty.leafys,Bool.and_eq_true]at hl;rw[zQ,zic,zgq l hl.2,zp2 t hl.1]
end
end Go.J
/- Numbering type variables twice is numbering them once. Sizes of types that a tape makes. -/
namespace Go.J
open Enc (enc)
mutual
def Ty.vplain:Ty->Bool
 |.mk k n _ h l=>(decide (k≠1)||(decide (n=[])&&decide (h=0)&&decide (l.length=0)))&&Ty.vplains l
def Ty.vplains:List Ty->Bool
 | []=>true
 |t::l=>Ty.vplain t&&Ty.vplains l
end
theorem vplains_iff{l:List Ty}:Ty.vplains l=true↔∀ t∈l,t.vplain=true:=by
 induction l with
 |nil=>simp[Ty.vplains]
 |cons t l ih=>simp[Ty.vplains,ih]
theorem zbH{t:Ty}(h:t.vplain=true)(hk:t.kind=1):t=zad t.id:=by
 obtain⟨k,n,i,hh,l⟩:=t;rw[Ty.vplain]at h;simp only[Bool.and_eq_true,Bool.or_eq_true,decide_eq_true_eq]at h;simp only[Ty.kind_mk]at hk;subst hk;rcases h.1 with h|h
 . exact absurd rfl h
 . obtain⟨⟨rfl,rfl⟩,h3⟩:=h;rw[List.eq_nil_of_length_eq_zero h3];rfl
theorem zcF{t:Ty}(h:t.vplain=true):Ty.vplains t.args=true:=by
 obtain⟨k,n,i,hh,l⟩:=t;rw[Ty.vplain,Bool.and_eq_true]at h;exact h.2
theorem zeJ{t:Ty}(hk:t.kind≠1)(h:∀ x∈t.args,x.vplain=true):t.vplain=true:=by
 obtain⟨k,n,i,hh,l⟩:=t;rw[Ty.vplain,Bool.and_eq_true];exact⟨by simp only[Ty.kind_mk]at hk;simp[hk],vplains_iff.2 h⟩
theorem zeI(i:Int):(zad i).vplain=true:=by simp[zad,Ty.vplain,Ty.vplains]
mutual
theorem zk5:∀ t:Ty,t.vplain=true->t.leafy=true
 | .mk k n i h l,hp=>by
   rw[Ty.vplain]at hp;simp only[Bool.and_eq_true,Bool.or_eq_true,decide_eq_true_eq]at hp;rw[Ty.leafy];simp only[Bool.and_eq_true,Bool.or_eq_true,decide_eq_true_eq];exact⟨hp.1.imp (fun h=>h) (fun h=>h.2),ze8 l hp.2⟩
theorem ze8:∀ l:List Ty,Ty.vplains l=true->Ty.leafys l=true
 | [],_=>by rw[Ty.leafys]
 | t::l,hp=>by
   rw[Ty.vplains,Bool.and_eq_true]at hp;rw[Ty.leafys,zk5 t hp.1,ze8 l hp.2];rfl
end
def zzi(n:Nat):List Int:=(List.range n).map fun i=>((i:Nat):Int)
@[simp] theorem zAT (n:Nat):(zzi n).length=n:=by simp[zzi]
section
variable {ids:List Int}(hn:ids.Nodup)
include hn
end
end Go.J
/- Sizes of types that a tape makes. -/
namespace Go.J
open Enc (enc)
theorem zwI{l:List Ty}{b:Nat}(h:∀ t∈l,t.size<=b):Ty.sizes l<=l.length*b:=by
 induction l with
 |nil=>simp[Ty.sizes]
 | cons t l ih =>
   have h1:=h t (List.mem_cons_self ..);have h2:=ih fun t ht=>h t (List.mem_cons_of_mem _ ht)
   simp only[Ty.sizes,List.length_cons,Nat.succ_mul];omega
def zvJ(D:List Decl):Prop:=∀ d∈D,d.params.length<=2
theorem zhY(bits:Int):zvJ (zaI bits):=by
 intro d hd;have key:∀ d∈allD,d.params.length<=2:=by decide
 exact key d (zeY hd)
theorem zoY {D:List Decl} {Lv:List Ty} (hD:zvJ D) (hl:∀ l∈Lv,l.size<=1):∀ (d:Nat) (t:Tp),(typeM d t D Lv).2.size+1<=2 ^ (d+1):=by
 have hint:tInt.size=1:=by decide
 intro d
 induction d with
 | zero =>
   intro t;rw[typeM]
   try dsimp only
   split
   . rename_i h;obtain⟨j,hj,_,h2⟩:=zcY (t.next 7).1 h.2;rw[h2];have:=hl _ (List.getElem_mem hj);rw[Option.getD_some];dsimp only;omega
   . split<;>(rw[hint];exact Nat.le_refl _)
 | succ d ih =>
   intro t;have hp:2 ^ (d+1+1)=2*2 ^ (d+1):=by rw[Nat.pow_succ 2 (d+1)];omega
   have hpos:2<=2 ^ (d+1):=by rw[Nat.pow_succ];have:=Nat.two_pow_pos d;omega
   rw[typeM]
   try dsimp only
   split
   . rename_i h;obtain⟨j,hj,_,h2⟩:=zcY (t.next 7).1 h.2;rw[h2];have:=hl _ (List.getElem_mem hj);rw[Option.getD_some];dsimp only;omega
   . split
     . rw[hint];omega
     . split
       . rename_i h;obtain⟨j,hj,_,h2⟩:=zcY (t.next 7).1 h.2;rw[h2];have hpar:=hD _ (List.getElem_mem hj);rw[Option.getD_some]
         have hargs:∀ (q:Tp) (n:Nat) (x:Ty),x∈(zcs d q D Lv n).2->x.size+1<=2 ^ (d+1):=by
          intro q n
          induction n with
          |zero=>intro x hx;rw[zcs]at hx;cases hx
          | succ n ihn =>
            intro x hx;rw[zcs]at hx;rcases List.mem_append.1 hx with hx|hx
            . exact ihn x hx
            . rw[List.mem_singleton.1 hx];exact ih _
         have hs:=zwI (l:=(zcs d ((t.next 7).1.next (D.length:Int)).1 D Lv D[j].params.length).2) (b:=2 ^ (d+1)-1) fun x hx=>by have:=hargs _ _ x hx;omega
         rw[zfI]at hs;rw[Ty.size_eq];have hm:D[j].params.length*(2 ^ (d+1)-1)<=2*(2 ^ (d+1)-1):=Nat.mul_le_mul_right _ hpar;show Ty.sizes (zcs d ((t.next 7).1.next (D.length:Int)).1 D Lv D[j].params.length).2+1+1<=_;omega
       . rw[Ty.size_eq];simp only[zcx,zfN,Ty.args_mk,Ty.sizes];have h1:=ih (t.next 7).1;have h2:=ih (typeM d (t.next 7).1 D Lv).1;omega
theorem zkH{D:List Decl}{Lv:List Ty}(hl:∀ l∈Lv,l.vplain=true)(d:Nat)(t:Tp):(typeM d t D Lv).2.vplain=true :=
 zff (P:=fun t=>t.vplain=true) hl (by decide) (fun dd _ l _ hx=>zeJ (by simp[zfN]) hx)
  (fun a b h1 h2=>zeJ (by simp[zcx,zfN]) (fun x hx=>by
    simp only[zcx,zfN,Ty.args_mk,List.mem_cons,List.not_mem_nil,or_false]at hx
    rcases hx with rfl|rfl<;>assumption)) d t
theorem zoX{D:List Decl}{Lv:List Ty}(hD:zvJ D)(hl:∀ l∈Lv,l.ok=true)(d:Nat)(t:Tp):(typeM d t D Lv).2.ok=true :=
 zff (P:=fun t=>t.ok=true) hl (by decide) (fun dd hdd l hlen hx=>Ty.ok_iff.2 ⟨by have:=hD dd hdd;simp[zfN,hlen];omega,hx⟩)
  (fun a b h1 h2=>Ty.ok_iff.2 ⟨by simp[zcx,zfN],fun x hx=>by
    simp only[zcx,zfN,Ty.args_mk,List.mem_cons,List.not_mem_nil,or_false]at hx
    rcases hx with rfl|rfl<;>assumption⟩) d t
end Go.J
/- Closures that collect numbers in a variable of their maker,and functions that are handed such a closure. -/
namespace Go.J
open Enc (enc)
def zR9(out:List Int):List (Nat×Obj):=(0,zaM (oV 1 (out.map encI)))::oH 1 1 (out.map encI)
def zBW(g:Option Nat)(tv:V)(id ro:Nat)(out out':List Int):EmbD where
 k:=match out with | []=>1|_=>2
 k':=match out' with | []=>1|_=>2
 π:=fun i=>if i=0 then id else ro
 OL:=zR9 out
 OL':=zR9 out'
 vs0:=[tv,zG5 g 0]
 v0:=.tuple []
def zSY(g:Option Nat)(F:List Int->Ty->Option (List Int))(vs:List V)(hs:HS):Option EmbD:=match vs with
 | [tv,cv]=>ob (capOf g cv) fun id=>ob (Enc.dec tv:Option Ty) fun t=>ob (hs.H.get id) fun o=>ob (zbU o) fun c=>ob (rowOf 1 hs c) fun oc=>ob (zah oc:Option (List Int)) fun out=>ob (F out t) fun r =>
  gd (et (Nat.blt id hs.n) (et (bi (Nat.beq (zS oc) 0) true (nt (Nat.beq id (zaU c)))) (et (Nat.ble (zS out) (zS r)) (zZ hs hs.n))))
   (some (zBW g tv id (zaU c) out r))
 |_=>none
section
variable {g:Option Nat}{tv:V}{id ro:Nat}{out out':List Int}{x y:Int}{hs:HS}
@[simp] theorem zJP:(zBW g tv id ro out out').val hs=.tuple []:=(rfl)
theorem znx:(zBW g tv id ro [] []).heap hs={ H:=hs.H.set id (zaM .snil),n:=hs.n,log:=id::hs.log }:=by
 show ({ H:=hs.H.set id _,n:=hs.n+0,log:=_ }:HS)=_;rfl
theorem znw:(zBW g tv id ro [] (x::out')).heap hs={ H:=(hs.H.set hs.n (oO 1 ((x::out').map encI))).set id (zaM (oV hs.n ((x::out').map encI))),n:=hs.n+1,log:=id::hs.n::hs.log }:=by
 show ({ H:=(hs.H.set (hs.n+0) ((oO 1 ((x::out').map encI)).ren _)).set id _,n:=hs.n+1,log:=_ }:HS)=_;rw[zcL (zbz (x::out'))];rfl
theorem znv:(zBW g tv id ro (y::out) (x::out')).heap hs={ H:=(hs.H.set ro (oO 1 ((x::out').map encI))).set id (zaM (oV ro ((x::out').map encI))),n:=hs.n,log:=id::ro::hs.log }:=by
 show ({ H:=(hs.H.set ro ((oO 1 ((x::out').map encI)).ren _)).set id _,n:=hs.n+0,log:=_ }:HS)=_;rw[zcL (zbz (x::out'))];rfl
attribute [simp] znx znw znv
@[simp] theorem zR8 {F:List Int→Ty→Option (List Int)} {cv:V}:zSY g F [tv,cv] hs=ob (capOf g cv) fun id=>ob (Enc.dec tv:Option Ty) fun t=>ob (hs.H.get id) fun o=>ob (zbU o) fun c=>ob (rowOf 1 hs c) fun oc=>ob (zah oc:Option (List Int)) fun out=>ob (F out t) fun r =>
      gd (et (Nat.blt id hs.n) (et (bi (Nat.beq (zS oc) 0) true (nt (Nat.beq id (zaU c)))) (et (Nat.ble (zS out) (zS r)) (zZ hs hs.n))))
       (some (zBW g tv id (zaU c) out r)):=(rfl)
end
end Go.J
