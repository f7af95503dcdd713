import Derived.Test.YtfgmnebfhemnpaaJL
import Derived.Test.YtfgmnebfhemnpaaJK
set_option linter.all false
noncomputable section
/- Sizes and resolved forms. -/
namespace Go.J
open Enc (enc)
def szL(rec:Ty→Nat→Nat)(most:Nat):List Ty→Nat→Nat
 | [],n=>n
 |x::l,n=>if n≤most then szL rec most l (n+rec x (most-n))else n
def szM(w:Ty→Ty):Nat→Ty→Nat→Nat
 | 0,_,most=>most+1
 |f+1,t,most=>min (szL (szM w f) most (w t).args 1) (most+1)
def resOs (rec:Ty→Option Ty):List Ty→Option (List Ty)
 | []=>some []
 | x::l=>match rec x,resOs rec l with
   |some y,some m=>some (y::m)
   |_,_=>none
def resO (w:Ty→Ty):Nat→Ty→Option Ty
 | 0,_=>none
 | f+1,t=>match resOs (resO w f) (w t).args with
   |some l=>some (.mk (w t).kind (w t).name (w t).id (w t).home l)
   |none=>none
section
variable {w:Ty→Ty}
theorem resOs_mono{p q:Ty→Option Ty}(h:∀ t r,p t=some r→q t=some r):∀ {l m:List Ty},resOs p l=some m→resOs q l=some m:=by
 intro l
 induction l with
 |nil=>intro m h;exact h
 | cons x l ih =>
   intro m hm
   unfold resOs at hm ⊢
   split at hm
   · rename_i y m' h1 h2
     rw[h _ _ h1,ih h2];exact hm
   · cases hm
theorem resO_succ:∀ {f:Nat} {t r:Ty},resO w f t=some r→resO w (f+1) t=some r:=by
 intro f
 induction f with
 |zero=>intro t r h;cases h
 | succ f ih =>
   intro t r h
   rw[resO]at h ⊢
   split at h
   · rename_i l hl
     rw[resOs_mono (fun _ _ h=>ih h) hl];exact h
   · cases h
theorem resO_mono{f g:Nat}(hfg:f≤g){t r:Ty}(h:resO w f t=some r):resO w g t=some r:=by
 induction hfg with
 |refl=>exact h
 |step _ ih=>exact resO_succ ih
def Rz(w:Ty→Ty)(t r:Ty):Prop:=∃ f,resO w f t=some r
theorem Rz.inj{t r r':Ty}(h:Rz w t r)(h':Rz w t r'):r=r':=by
 obtain⟨f,h⟩:=h
 obtain⟨g,h'⟩:=h'
 have h1:=resO_mono (Nat.le_max_left f g) h
 have h2:=resO_mono (Nat.le_max_right f g) h'
 exact Option.some.inj (h1.symm.trans h2)
inductive Rzs (w:Ty→Ty):List Ty→List Ty→Prop
 |nil:Rzs w [] []
 |cons {x y:Ty} {l m:List Ty}:Rz w x y→Rzs w l m→Rzs w (x::l) (y::m)
theorem Rzs.of{f:Nat}:∀ {l m:List Ty},resOs (resO w f) l=some m→Rzs w l m:=by
 intro l
 induction l with
 |nil=>intro m h;cases h;exact .nil
 | cons x l ih =>
   intro m h
   unfold resOs at h
   split at h
   · rename_i y m' h1 h2;cases h;exact .cons ⟨f,h1⟩ (ih h2)
   · cases h
theorem Rzs.to{l m:List Ty}(h:Rzs w l m):∃ f,resOs (resO w f) l=some m:=by
 induction h with
 |nil=>exact⟨0,rfl⟩
 | @cons x y l m h1 h2 ih =>
   obtain⟨f,h1⟩:=h1
   obtain⟨g,ih⟩:=ih
   refine⟨max f g,?_⟩
   unfold resOs
   rw[resO_mono (Nat.le_max_left f g) h1,resOs_mono (fun _ _ h=>resO_mono (Nat.le_max_right f g) h) ih]
theorem Rz_iff{t r:Ty}:Rz w t r↔∃ l,Rzs w (w t).args l∧r=.mk (w t).kind (w t).name (w t).id (w t).home l:=by
 constructor
 · rintro ⟨f,h⟩
   cases f with
   |zero=>cases h
   | succ f =>
     rw[resO]at h
     split at h
     · rename_i l hl;cases h;exact⟨l,.of hl,rfl⟩
     · cases h
 · rintro ⟨l,h,rfl⟩
   obtain⟨f,h⟩:=h.to
   exact⟨f+1,by rw[resO,h]⟩
theorem szL_ge{rec:Ty→Nat→Nat}{most:Nat}:∀ (l:List Ty) (n:Nat),n≤szL rec most l n:=by
 intro l
 induction l with
 |nil=>intro n;exact Nat.le_refl _
 | cons x l ih =>
   intro n
   unfold szL
   split
   · have:=ih (n+rec x (most-n));omega
   · exact Nat.le_refl _
theorem szM_ok:∀ (f:Nat) (t:Ty) (most:Nat),most<f→(∀ r,Rz w t r→szM w f t most=min r.size (most+1))∧((¬ ∃ r,Rz w t r)→szM w f t most=most+1):=by
 intro f
 induction f with
 |zero=>intro t most h;omega
 | succ f ih =>
   intro t most hm
   have key1:∀ {l rs:List Ty},Rzs w l rs→∀ n,1≤n→min (szL (szM w f) most l n) (most+1)=min (n+Ty.sizes rs) (most+1):=by
    intro l rs h
    induction h with
    |nil=>intro n _;simp[szL,Ty.sizes]
    | @cons x y l m h1 h2 ih2 =>
      intro n hn
      unfold szL
      split
      · rw[(ih x (most-n) (by omega)).1 y h1,ih2 _ (by omega)]
        simp only[Ty.sizes]
        omega
      · simp only[Ty.sizes]
        omega
   have key2:∀ {l:List Ty},(¬ ∃ rs,Rzs w l rs)→∀ n,1≤n→min (szL (szM w f) most l n) (most+1)=most+1:=by
    intro l
    induction l with
    |nil=>intro h;exact absurd ⟨[],.nil⟩ h
    | cons x l ih2 =>
      intro h n hn
      unfold szL
      split
      · by_cases hx:∃ y,Rz w x y
        · obtain⟨y,hy⟩:=hx
          refine ih2 (fun ⟨rs,hrs⟩=>h ⟨_,.cons hy hrs⟩) _ (by omega)
        · rw[(ih x (most-n) (by omega)).2 hx]
          have:=szL_ge (rec:=szM w f) (most:=most) l (n+(most-n+1))
          omega
      · omega
   constructor
   · intro r hr
     obtain⟨l,hl,rfl⟩:=Rz_iff.1 hr
     rw[szM,key1 hl 1 (Nat.le_refl _)]
     simp only[Ty.size_eq,Ty.args_mk]
     omega
   · intro h
     rw[szM,key2 (fun ⟨l,hl⟩=>h ⟨_,Rz_iff.2 ⟨l,hl,rfl⟩⟩) 1 (Nat.le_refl _)]
theorem szM_fuel{f g:Nat}{t:Ty}{most:Nat}(hf:most<f)(hg:most<g):szM w f t most=szM w g t most:=by
 by_cases h:∃ r,Rz w t r
 · obtain⟨r,hr⟩:=h
   rw[(szM_ok f t most hf).1 r hr,(szM_ok g t most hg).1 r hr]
 · rw[(szM_ok f t most hf).2 h,(szM_ok g t most hg).2 h]
def sz(w:Ty→Ty)(t:Ty)(most:Nat):Nat:=szM w (most+1) t most
theorem sz_eq (t:Ty) (most:Nat):sz w t most=min (szL (sz w) most (w t).args 1) (most+1):=by
 unfold sz
 rw[szM]
 congr 1
 have:∀ (l:List Ty) (n:Nat),1≤n→szL (szM w most) most l n=szL (fun t most=>szM w (most+1) t most) most l n:=by
  intro l
  induction l with
  |nil=>intro n _;rfl
  | cons x l ih =>
    intro n hn
    unfold szL
    split
    · rw[szM_fuel (f:=most) (g:=most-n+1) (by omega) (by omega)]
      exact ih _ (by omega)
    · rfl
 exact this _ _ (Nat.le_refl _)
theorem sz_le(t:Ty)(most:Nat):sz w t most≤most+1:=by rw[sz_eq];omega
theorem sz_some{t r:Ty}(h:Rz w t r)(most:Nat):sz w t most=min r.size (most+1):=(szM_ok _ t most (Nat.lt_succ_self _)).1 r h
theorem sz_none{t:Ty}(h:¬ ∃ r,Rz w t r)(most:Nat):sz w t most=most+1:=(szM_ok _ t most (Nat.lt_succ_self _)).2 h
theorem sz_fits{t:Ty}{most:Nat}:sz w t most≤most↔∃ r,Rz w t r∧r.size≤most:=by
 constructor
 · intro h
   by_cases hr:∃ r,Rz w t r
   · obtain⟨r,hr⟩:=hr
     rw[sz_some hr]at h
     exact⟨r,hr,by omega⟩
   · rw[sz_none hr]at h;omega
 · rintro ⟨r,hr,h⟩
   rw[sz_some hr];omega
open Classical in
def full(w:Ty→Ty)(t:Ty):Ty:=if h:∃ r,Rz w t r then Classical.choose h else t
theorem full_of{t r:Ty}(h:Rz w t r):full w t=r:=by
 have hx:∃ r,Rz w t r:=⟨r,h⟩
 unfold full
 rw[dif_pos hx]
 exact(Classical.choose_spec hx).inj h
theorem Rzs.map{l m:List Ty}(h:Rzs w l m):m=l.map (full w):=by
 induction h with
 |nil=>rfl
 |cons h1 _ ih=>rw[List.map_cons,full_of h1,← ih]
theorem Rzs.size_mem{l m:List Ty}(h:Rzs w l m):∀ x∈l,∃ y,Rz w x y∧y.size≤Ty.sizes m:=by
 induction h with
 |nil=>intro x hx;cases hx
 | cons h1 _ ih =>
   intro x hx
   rcases List.mem_cons.1 hx with rfl|hx
   · exact⟨_,h1,by simp only[Ty.sizes];omega⟩
   · obtain⟨y,hy,hs⟩:=ih x hx
     exact⟨y,hy,by simp only[Ty.sizes];omega⟩
end
namespace Store
def w16(s:Store):Ty→Ty:=s.walkN (s.slots.length+1)
def w(s:Store):Ty→Ty:=s.walkN s.slots.length
def tysOk(s:Store):Prop:=s.slots.length≤1000∧∀ x∈s.slots,x.type.ok=true
instance (s:Store):Decidable s.tysOk:=by unfold tysOk;infer_instance
theorem to_ok{s:Store}(h:s.tysOk)(t:Ty):(s.to t).ok=true:=by
 unfold to
 split
 · rename_i x hx
   obtain⟨i,_,hi,hx⟩:=slot?_some hx
   have:=(List.getElem?_eq_some_iff.1 hx).2
   exact h.2 x (this ▸ List.getElem_mem hi)
 · rfl
theorem walkN_ok{s:Store}(h:s.tysOk):∀ (n:Nat) {t:Ty},t.ok=true→(s.walkN n t).ok=true:=by
 intro n
 induction n with
 |zero=>intro t ht;exact ht
 | succ n ih =>
   intro t ht
   unfold walkN
   split
   · exact ih (to_ok h t)
   · exact ht
end Store
end Go.J
namespace Go.J
open Enc (enc)
def resolveM(w:Ty→Ty)(t:Ty):Ty×Bool:=if sz w t 4000≤4000 then (full w t,true)else (ty0,false)
end Go.J
/- The reference's search for type variables. -/
namespace Go.J
open Enc (enc)
def und:List Slot→List Bool→Nat
 |x::l,b::m=>(if b=true then 0 else x.type.size)+und l m
 |_,_=>0
theorem und_set:∀ {l:List Slot} {m:List Bool} {i:Nat} {x:Slot},l[i]?=some x→m[i]?=some false→und l (m.set i true)+x.type.size=und l m:=by
 intro l
 induction l with
 |nil=>intro m i x h;simp at h
 | cons y l ih =>
   intro m i x h h2
   cases m with
   |nil=>simp at h2
   | cons b m =>
     cases i with
     | zero =>
       simp at h h2
       subst h h2
       simp[und];omega
     | succ i =>
       simp at h h2
       have:=ih h h2
       simp only[List.set_cons_succ,und]
       omega
def vsM (s:Store):Nat→Ty→List Int×List Bool→List Int×List Bool
 | 0,_,st=>st
 | f + 1,t,st=>if t.kind=1 then
     (if s.bound t=true then (if st.2[t.id.toNat]?=some false then vsM s f (s.to t) (st.1,st.2.set t.id.toNat true)else st)
       else if t.id∈st.1 then st else (st.1++[t.id],st.2))
   else t.args.foldl (fun st x=>vsM s f x st) st
theorem Store.bound_slot{s:Store}{t:Ty}(h:s.bound t=true):t.kind=1∧∃ i:Nat,∃ x,t.id=i∧i<s.slots.length∧s.slots[i]?=some x∧x.bound=true∧s.to t=x.type:=by
 unfold Store.bound at h
 split at h
 · rename_i x hk hx
   obtain⟨i,hi,hl,hxi⟩:=Store.slot?_some hx
   exact⟨by simpa using hk,i,x,hi,hl,hxi,h,by unfold Store.to;rw[hx]⟩
 · cases h
def VsOk(s:Store)(c:Nat)(st st':List Int×List Bool):Prop:=st'.2.length=st.2.length∧st.1.length≤st'.1.length∧und s.slots st'.2≤und s.slots st.2∧st'.1.length+und s.slots st'.2≤st.1.length+und s.slots st.2+c
theorem VsOk.refl{s:Store}{c:Nat}{st:List Int×List Bool}:VsOk s c st st:=⟨rfl,Nat.le_refl _,Nat.le_refl _,by omega⟩
theorem VsOk.trans{s:Store}{c d:Nat}{a b e:List Int×List Bool}(h:VsOk s c a b)(h':VsOk s d b e):VsOk s (c+d) a e:=by
 obtain⟨h1,h2,h3,h4⟩:=h
 obtain⟨g1,g2,g3,g4⟩:=h'
 exact⟨by omega,by omega,by omega,by omega⟩
theorem vsL_ok{s:Store}{f:Nat}(ih:∀ t st,VsOk s t.size st (vsM s f t st)):∀ (l:List Ty) (st:List Int×List Bool),VsOk s (Ty.sizes l) st (l.foldl (fun st x=>vsM s f x st) st):=by
 intro l
 induction l with
 |nil=>intro st;exact .refl
 | cons x l ih2 =>
   intro st
   simp only[List.foldl_cons,Ty.sizes]
   exact(ih x st).trans (ih2 _)
theorem vsM_ok (s:Store):∀ (f:Nat) (t:Ty) (st:List Int×List Bool),VsOk s t.size st (vsM s f t st):=by
 intro f
 induction f with
 |zero=>intro t st;exact .refl
 | succ f ih =>
   intro t st
   rw[vsM]
   split
   · split
     · rename_i hb
       split
       · rename_i hd
         obtain⟨_,i,x,hi,hl,hx,_,hto⟩:=Store.bound_slot hb
         rw[hi,Int.toNat_natCast]at hd ⊢
         rw[hto]
         have h1:=und_set hx hd
         obtain⟨k1,k2,k3,k4⟩:=ih x.type (st.1,st.2.set i true)
         simp only[List.length_set]at k1 k2 k3 k4
         exact⟨k1,k2,by omega,by omega⟩
       · exact .refl
     · split
       · exact .refl
       · have:=Ty.size_pos t
         exact⟨rfl,by simp,Nat.le_refl _,by simp;omega⟩
   · have h:=vsL_ok ih t.args st
     obtain⟨k1,k2,k3,k4⟩:=h
     have:=Ty.size_eq t
     exact⟨k1,k2,k3,by omega⟩
end Go.J
namespace Go.J
open Enc (enc)
def varsS(s:Store)(l:List Ty):List Int:=(l.foldl (fun st x=>vsM s 100000 x st) (([]:List Int),List.replicate s.slots.length false)).1
def varsOk(s:Store)(l:List Ty):Prop:=s.tysOk∧Ty.oks l=true∧l.length≤10000∧Ty.sizes l+und s.slots (List.replicate s.slots.length false)≤100000
instance (s:Store)(l:List Ty):Decidable (varsOk s l):=by unfold varsOk;infer_instance
end Go.J
/- The reference's unification. -/
namespace Go.J
open Enc (enc)
namespace Store
def isSlot(s:Store)(t:Ty):Bool:=decide (t.kind=1)&&(s.slot? t.id).isSome
def slotD(s:Store)(i:Int):Slot:=(s.slot? i).getD slotZ
def joinL(s:Store)(a b:Int):Slot:={ s.slotD (min a b)with home:=min (s.slotD (min a b)).home (s.slotD (max a b)).home,base:=(s.slotD (min a b)).base||(s.slotD (max a b)).base }
def joinH(s:Store)(a b:Int):Slot:={ s.slotD (max a b)with bound:=true,type:=tVar (min a b) }
def join(s:Store)(a b:Int):Store:=if a=b then s else ((s.set (min a b) (s.joinL a b)).1.set (max a b) (s.joinH a b)).1
def lowerOne(home:Int)(s:Store)(v:Int):Store:=if v<s.slots.length∧home<(s.slotD v).home then (s.set v { s.slotD v with home:=home }).1 else s
def bindM(s:Store)(id:Int)(t:Ty):Store×Int :=
 if id∈varsS s [t]then (s,12)else
 if (isArrow t).c=true∧(s.slotD id).base=true then (s,14)else
 if ∃ x∈rigidsM [(resolveM s.w16 t).1],(s.slotD id).home<x.home then (s,13)else
 if ∃ v∈varsS s [t],(s.slots.length:Int)≤v∧(s.slotD id).home<0 then (s,13)else
 ((((varsS s [t]).foldl (lowerOne (s.slotD id).home) s).set id { s.slotD id with bound:=true,type:=t }).1,0)
end Store
end Go.J
/- Types whose leaves are replaced. -/
namespace Go.J
open Enc (enc)
mutual
def Ty.reb(g:Ty→Ty):Ty→Ty
 |.mk k n i h []=>g (.mk k n i h [])
 |.mk k n i h (t::l)=>.mk k n i h (Ty.reb g t::Ty.rebs g l)
def Ty.rebs(g:Ty→Ty):List Ty→List Ty
 | []=>[]
 |t::l=>Ty.reb g t::Ty.rebs g l
end
theorem rebs_eq(g:Ty→Ty)(l:List Ty):Ty.rebs g l=l.map (Ty.reb g):=by
 induction l with
 |nil=>simp[Ty.rebs]
 |cons t l ih=>simp[Ty.rebs,ih]
theorem reb_leaf{g:Ty→Ty}{t:Ty}(h:t.args=[]):t.reb g=g t:=by
 obtain⟨k,n,i,hh,l⟩:=t
 simp only[Ty.args_mk]at h
 subst h
 rw[Ty.reb]
theorem reb_node{g:Ty→Ty}{t:Ty}(h:t.args≠[]):t.reb g=.mk t.kind t.name t.id t.home (t.args.map (Ty.reb g)):=by
 obtain⟨k,n,i,hh,l⟩:=t
 cases l with
 |nil=>exact absurd rfl h
 |cons t l=>rw[Ty.reb,rebs_eq];rfl
abbrev zTy:List V:=[.int .i64 0,.str [],.int .i64 0,.int .i64 0,.snil]
def fillR(l:List Ty)(n i:Nat):List (List V):=(l.take i).map encTy++List.replicate (n-i) zTy
theorem fillR_len{l:List Ty}{n i:Nat}(hl:l.length=n)(hi:i≤n):(fillR l n i).length=n:=by
 simp[fillR];omega
theorem fillR_set{l:List Ty}{n i:Nat}(hl:l.length=n)(hi:i<n):(fillR l n i).set i (encTy (l[i]'(by omega)))=fillR l n (i+1):=by
 unfold fillR
 have h1:((l.take i).map encTy).length=i:=by simp;omega
 rw[List.set_append_right _ _ (by omega),h1,Nat.sub_self]
 obtain⟨m,hm⟩:∃ m,n-i=m+1:=⟨n-i-1,by omega⟩
 have hm2:n-(i+1)=m:=by omega
 rw[hm,hm2,List.replicate_succ,List.set_cons_zero,List.take_add_one,List.getElem?_eq_getElem (by omega),Option.toList_some,List.map_append,List.append_assoc]
 rfl
theorem fillR_full{l:List Ty}{n:Nat}(hl:l.length=n):fillR l n n=l.map encTy:=by
 simp[fillR,← hl]
theorem fillR_zero{l:List Ty}{n:Nat}:fillR l n 0=List.replicate n zTy:=by simp[fillR]
theorem fillR_mem{l:List Ty}{n i:Nat}{e:List V}(h:e∈fillR l n i):e.length=5∧e.all V.pure2=true:=by
 unfold fillR at h
 rcases List.mem_append.1 h with h|h
 · obtain⟨t,_,rfl⟩:=List.mem_map.1 h
   obtain⟨k,n,i,hh,l⟩:=t
   exact⟨by rw[encTy];rfl,by rw[encTy];rfl⟩
 · obtain⟨_,rfl⟩:=List.mem_replicate.1 h
   exact⟨rfl,rfl⟩
@[simp] theorem fillR_pure {l:List Ty} {n i:Nat}:((fillR l n i).all fun e=>e.all V.pure2)=true:=List.all_eq_true.2 fun e he=>(fillR_mem he).2
@[simp] theorem fillR_ren {l:List Ty} {n i:Nat} {π:Nat→Nat}:((fillR l n i).map fun e=>e.map (V.ren2 π))=fillR l n i:=map_id2 fun x hx v hv=>V.ren2_pure (List.all_eq_true.1 (fillR_mem hx).2 v hv)
theorem fillR_over{l:List Ty}{n i:Nat}(hl:l.length=n)(hi:i<n)(h:i<(fillR l n i).length):(fillR l n i).set i (overL ((fillR l n i)[i]'h) 0 (encTy (l[i]'(by omega))))=fillR l n (i+1):=by
 have h5:=(fillR_mem (List.getElem_mem h)).1
 have e:overL ((fillR l n i)[i]'h) 0 (encTy (l[i]'(by omega)))=encTy (l[i]'(by omega)):=by
  generalize (fillR l n i)[i]'h=r at h5
  match r,h5 with
  | [a,b,c,d,f],_ =>
    obtain⟨k,n,i,hh,l⟩:=l[i]
    rw[encTy];rfl
 rw[e,fillR_set hl hi]
end Go.J
/- Replacing the leaves of a type is replacing its variables. -/
namespace Go.J
open Enc (enc)
mutual
def Ty.leafy:Ty→Bool
 |.mk k _ _ _ l=>(decide (k≠1)||decide (l.length=0))&&Ty.leafys l
def Ty.leafys:List Ty→Bool
 | []=>true
 |t::l=>Ty.leafy t&&Ty.leafys l
end
mutual
theorem reb_repl(s:List Assign):∀ t:Ty,t.leafy=true→t.reb (fun t=>if t.kind=1 then (lookA s t.id).getD t else t)=t.repl s
 | .mk k n i h [],_=>by
   rw[Ty.reb,repl_eq]
   simp only[Ty.kind_mk,Ty.id_mk,Ty.args_mk,Ty.name_mk,Ty.home_mk,List.map_nil]
 | .mk k n i h (t::l),hl=>by
   rw[Ty.leafy]at hl
   simp only[Bool.and_eq_true,Bool.or_eq_true,decide_eq_true_eq]at hl
   have hk:k≠1:=by
    rcases hl.1 with h|h
    · exact h
    · simp at h
   have hl2:=hl.2
   rw[Ty.leafys,Bool.and_eq_true]at hl2
   rw[Ty.reb,reb_repl s t hl2.1,rebs_repls s l hl2.2,repl_eq s (.mk k n i h (t::l))]
   simp only[Ty.kind_mk,if_neg hk,Ty.id_mk,Ty.args_mk,Ty.name_mk,Ty.home_mk,List.map_cons]
   rw[repls_eq]
theorem rebs_repls(s:List Assign):∀ l:List Ty,Ty.leafys l=true→Ty.rebs (fun t=>if t.kind=1 then (lookA s t.id).getD t else t) l=Ty.repls s l
 | [],_=>by rw[Ty.rebs,Ty.repls]
 | t::l,hl=>by
   rw[Ty.leafys,Bool.and_eq_true]at hl
   rw[Ty.rebs,Ty.repls,reb_repl s t hl.1,rebs_repls s l hl.2]
end
end Go.J
/- Type variables in the order in which they are met;numbering them. -/
namespace Go.J
open Enc (enc)
def leafR(s:List Assign)(t:Ty):Ty:=if t.kind=1 then (lookA s t.id).getD t else t
def colLeaf(out:List Int)(t:Ty):List Int:=if t.kind=1∧t.id ∉ out then out++[t.id]else out
mutual
def colT:Ty→List Int→List Int
 |.mk k n i h l,out=>colTs l (colLeaf out (.mk k n i h l))
def colTs:List Ty→List Int→List Int
 | [],out=>out
 |t::l,out=>colTs l (colT t out)
end
theorem colT_eq(t:Ty)(out:List Int):colT t out=colTs t.args (colLeaf out t):=by cases t;rw[colT];rfl
theorem colTs_snoc(l:List Ty)(t:Ty)(out:List Int):colTs (l++[t]) out=colT t (colTs l out):=by
 induction l generalizing out with
 |nil=>simp[colTs]
 |cons a l ih=>simp[colTs,ih]
theorem colLeaf_pre(out:List Int)(t:Ty):∃ m,colLeaf out t=out++m∧m.length≤1:=by
 unfold colLeaf;split
 · exact⟨_,rfl,Nat.le_refl _⟩
 · exact⟨[],by simp,by simp⟩
mutual
theorem colT_pre:∀ (t:Ty) (out:List Int),∃ m,colT t out=out++m∧m.length≤t.size
 | .mk k n i h l,out=>by
   obtain⟨a,ha,ha2⟩:=colLeaf_pre out (.mk k n i h l)
   obtain⟨b,hb,hb2⟩:=colTs_pre l (colLeaf out (.mk k n i h l))
   have:=Ty.size_eq (.mk k n i h l)
   exact⟨a++b,by rw[colT,hb,ha,List.append_assoc],by rw[List.length_append];simp only[Ty.args_mk]at this;omega⟩
theorem colTs_pre:∀ (l:List Ty) (out:List Int),∃ m,colTs l out=out++m∧m.length≤Ty.sizes l
 | [],out=>⟨[],by simp[colTs],by simp⟩
 | t::l,out=>by
   obtain⟨a,ha,ha2⟩:=colT_pre t out
   obtain⟨b,hb,hb2⟩:=colTs_pre l (colT t out)
   refine⟨a++b,by rw[colTs,hb,ha,List.append_assoc],?_⟩
   rw[List.length_append];simp only[Ty.sizes];omega
end
theorem colLeaf_len(out:List Int)(t:Ty):out.length≤(colLeaf out t).length∧(colLeaf out t).length≤out.length+1:=by
 obtain⟨m,h1,h2⟩:=colLeaf_pre out t
 rw[h1,List.length_append];omega
theorem colT_len(t:Ty)(out:List Int):out.length≤(colT t out).length∧(colT t out).length≤out.length+t.size:=by
 obtain⟨m,h1,h2⟩:=colT_pre t out
 rw[h1,List.length_append];omega
theorem colTs_len(l:List Ty)(out:List Int):out.length≤(colTs l out).length∧(colTs l out).length≤out.length+Ty.sizes l:=by
 obtain⟨m,h1,h2⟩:=colTs_pre l out
 rw[h1,List.length_append];omega
theorem colLeaf_nodup{out:List Int}{t:Ty}(h:out.Nodup):(colLeaf out t).Nodup:=by
 unfold colLeaf;split
 · rename_i hh
   rw[List.nodup_append]
   exact⟨h,List.nodup_cons.2 ⟨by simp,List.nodup_nil⟩,fun a ha b hb e=>by rw[List.mem_singleton]at hb;subst hb;subst e;exact hh.2 ha⟩
 · exact h
mutual
theorem colT_nodup:∀ (t:Ty) {out:List Int},out.Nodup→(colT t out).Nodup
 |.mk k n i h l,out,ho=>by rw[colT];exact colTs_nodup l (colLeaf_nodup ho)
theorem colTs_nodup:∀ (l:List Ty) {out:List Int},out.Nodup→(colTs l out).Nodup
 | [],out,ho=>by rw[colTs];exact ho
 |t::l,out,ho=>by rw[colTs];exact colTs_nodup l (colT_nodup t ho)
end
theorem idsOf_leaves{t:Ty}{out:List Ty}(hk:t.kind=1):idsOf (if t∈out then out else out++[t])=colLeaf (idsOf out) t:=by
 have hsub:∀ (a:Ty) (o:List Int) (y:Int),y∈o→y∈addId o a:=by
  intro a o y hy;unfold addId;split
  · exact hy
  · exact List.mem_append.2 (.inl hy)
 have hself:∀ (a:Ty) (o:List Int),a.id∈addId o a:=by
  intro a o;unfold addId;split
  · assumption
  · simp
 have key:∀ (l:List Ty) (o:List Int),(∀ y∈o,y∈l.foldl addId o)∧∀ x∈l,x.id∈l.foldl addId o:=by
  intro l
  induction l with
  |nil=>intro o;exact⟨fun y hy=>hy,fun x hx=>by cases hx⟩
  | cons a l ih =>
    intro o
    obtain⟨h1,h2⟩:=ih (addId o a)
    refine⟨fun y hy=>h1 y (hsub a o y hy),fun x hx=>?_⟩
    rcases List.mem_cons.1 hx with rfl|hx
    · exact h1 _ (hself x o)
    · exact h2 x hx
 have hmem:∀ l:List Ty,∀ x∈l,x.id∈idsOf l:=fun l=>(key l []).2
 unfold colLeaf
 by_cases ht:t∈out
 · rw[if_pos ht,if_neg (fun h=>h.2 (hmem out t ht))]
 · rw[if_neg ht,idsOf_snoc]
   unfold addId
   by_cases hi:t.id∈idsOf out
   · rw[if_pos hi,if_neg (fun h=>h.2 hi)]
   · rw[if_neg hi,if_pos ⟨hk,hi⟩]
mutual
theorem leaves_col:∀ (t:Ty),t.leafy=true→∀ out,idsOf (leavesM 1 t out)=colT t (idsOf out)
 | .mk k n i h l,hl,out=>by
   rw[Ty.leafy]at hl
   simp only[Bool.and_eq_true,Bool.or_eq_true,decide_eq_true_eq]at hl
   by_cases hk:k=1
   · have h0:l=[]:=by
      rcases hl.1 with h|h
      · exact absurd hk h
      · exact List.eq_nil_of_length_eq_zero h
     subst h0
     rw[leavesM_eq,if_pos ⟨hk,rfl⟩,idsOf_leaves (t:=.mk k n i h []) hk,colT]
     rfl
   · rw[leavesM_eq,if_neg (fun hh=>hk hh.1),colT]
     have:colLeaf (idsOf out) (.mk k n i h l)=idsOf out:=if_neg (fun hh=>hk hh.1)
     rw[this]
     exact leaves_colTs l hl.2 out
theorem leaves_colTs:∀ (l:List Ty),Ty.leafys l=true→∀ out,idsOf (leavesL 1 l out)=colTs l (idsOf out)
 | [],_,out=>by rw[leavesL,colTs]
 | t::l,hl,out=>by
   rw[Ty.leafys,Bool.and_eq_true]at hl
   rw[leavesL,colTs,leaves_colTs l hl.2,leaves_col t hl.1]
end
theorem varsM_col{l:List Ty}(h:Ty.leafys l=true):varsM l=colTs l []:=leaves_colTs l h []
end Go.J
/- Numbering type variables twice is numbering them once. Sizes of types that a tape makes. -/
namespace Go.J
open Enc (enc)
mutual
def Ty.vplain:Ty→Bool
 |.mk k n _ h l=>(decide (k≠1)||(decide (n=[])&&decide (h=0)&&decide (l.length=0)))&&Ty.vplains l
def Ty.vplains:List Ty→Bool
 | []=>true
 |t::l=>Ty.vplain t&&Ty.vplains l
end
theorem vplains_iff{l:List Ty}:Ty.vplains l=true↔∀ t∈l,t.vplain=true:=by
 induction l with
 |nil=>simp[Ty.vplains]
 |cons t l ih=>simp[Ty.vplains,ih]
theorem vplain_var{t:Ty}(h:t.vplain=true)(hk:t.kind=1):t=tVar t.id:=by
 obtain⟨k,n,i,hh,l⟩:=t
 rw[Ty.vplain]at h
 simp only[Bool.and_eq_true,Bool.or_eq_true,decide_eq_true_eq]at h
 simp only[Ty.kind_mk]at hk
 subst hk
 rcases h.1 with h|h
 · exact absurd rfl h
 · obtain⟨⟨rfl,rfl⟩,h3⟩:=h
   rw[List.eq_nil_of_length_eq_zero h3];rfl
theorem vplain_args{t:Ty}(h:t.vplain=true):Ty.vplains t.args=true:=by
 obtain⟨k,n,i,hh,l⟩:=t
 rw[Ty.vplain,Bool.and_eq_true]at h
 exact h.2
theorem vplain_node{t:Ty}(hk:t.kind≠1)(h:∀ x∈t.args,x.vplain=true):t.vplain=true:=by
 obtain⟨k,n,i,hh,l⟩:=t
 rw[Ty.vplain,Bool.and_eq_true]
 exact⟨by simp only[Ty.kind_mk]at hk;simp[hk],vplains_iff.2 h⟩
theorem vplain_tVar(i:Int):(tVar i).vplain=true:=by simp[tVar,Ty.vplain,Ty.vplains]
mutual
theorem vplain_leafy:∀ t:Ty,t.vplain=true→t.leafy=true
 | .mk k n i h l,hp=>by
   rw[Ty.vplain]at hp
   simp only[Bool.and_eq_true,Bool.or_eq_true,decide_eq_true_eq]at hp
   rw[Ty.leafy]
   simp only[Bool.and_eq_true,Bool.or_eq_true,decide_eq_true_eq]
   exact⟨hp.1.imp (fun h=>h) (fun h=>h.2),vplains_leafys l hp.2⟩
theorem vplains_leafys:∀ l:List Ty,Ty.vplains l=true→Ty.leafys l=true
 | [],_=>by rw[Ty.leafys]
 | t::l,hp=>by
   rw[Ty.vplains,Bool.and_eq_true]at hp
   rw[Ty.leafys,vplain_leafy t hp.1,vplains_leafys l hp.2];rfl
end
def rangeI(n:Nat):List Int:=(List.range n).map fun i=>((i:Nat):Int)
@[simp] theorem rangeI_len (n:Nat):(rangeI n).length=n:=by simp[rangeI]
section
variable {ids:List Int}(hn:ids.Nodup)
include hn
end
end Go.J
/- Sizes of types that a tape makes. -/
namespace Go.J
open Enc (enc)
theorem sizes_le{l:List Ty}{b:Nat}(h:∀ t∈l,t.size≤b):Ty.sizes l≤l.length*b:=by
 induction l with
 |nil=>simp[Ty.sizes]
 | cons t l ih =>
   have h1:=h t (List.mem_cons_self ..)
   have h2:=ih fun t ht=>h t (List.mem_cons_of_mem _ ht)
   simp only[Ty.sizes,List.length_cons,Nat.succ_mul]
   omega
def DOk3(D:List Decl):Prop:=∀ d∈D,d.params.length≤2
theorem datasOf_ok3(bits:Int):DOk3 (datasOf bits):=by
 intro d hd
 have key:∀ d∈allD,d.params.length≤2:=by decide
 exact key d (datasOf_mem hd)
theorem typeM_size {D:List Decl} {Lv:List Ty} (hD:DOk3 D) (hl:∀ l∈Lv,l.size≤1):∀ (d:Nat) (t:Tp),(typeM d t D Lv).2.size+1≤2 ^ (d+1):=by
 have hint:tInt.size=1:=by decide
 intro d
 induction d with
 | zero =>
   intro t
   rw[typeM]
   try dsimp only
   split
   · rename_i h
     obtain⟨j,hj,_,h2⟩:=next_get (t.next 7).1 h.2
     rw[h2]
     have:=hl _ (List.getElem_mem hj)
     rw[Option.getD_some];dsimp only;omega
   · split<;>(rw[hint];exact Nat.le_refl _)
 | succ d ih =>
   intro t
   have hp:2 ^ (d+1+1)=2*2 ^ (d+1):=by rw[Nat.pow_succ 2 (d+1)];omega
   have hpos:2≤2 ^ (d+1):=by rw[Nat.pow_succ];have:=Nat.two_pow_pos d;omega
   rw[typeM]
   try dsimp only
   split
   · rename_i h
     obtain⟨j,hj,_,h2⟩:=next_get (t.next 7).1 h.2
     rw[h2]
     have:=hl _ (List.getElem_mem hj)
     rw[Option.getD_some];dsimp only;omega
   · split
     · rw[hint];omega
     · split
       · rename_i h
         obtain⟨j,hj,_,h2⟩:=next_get (t.next 7).1 h.2
         rw[h2]
         have hpar:=hD _ (List.getElem_mem hj)
         rw[Option.getD_some]
         have hargs:∀ (q:Tp) (n:Nat) (x:Ty),x∈(argsM d q D Lv n).2→x.size+1≤2 ^ (d+1):=by
          intro q n
          induction n with
          |zero=>intro x hx;rw[argsM]at hx;cases hx
          | succ n ihn =>
            intro x hx
            rw[argsM]at hx
            rcases List.mem_append.1 hx with hx|hx
            · exact ihn x hx
            · rw[List.mem_singleton.1 hx];exact ih _
         have hs:=sizes_le (l:=(argsM d ((t.next 7).1.next (D.length:Int)).1 D Lv D[j].params.length).2) (b:=2 ^ (d+1)-1) fun x hx=>by have:=hargs _ _ x hx;omega
         rw[argsM_len]at hs
         rw[Ty.size_eq]
         have hm:D[j].params.length*(2 ^ (d+1)-1)≤2*(2 ^ (d+1)-1):=Nat.mul_le_mul_right _ hpar
         show Ty.sizes (argsM d ((t.next 7).1.next (D.length:Int)).1 D Lv D[j].params.length).2+1+1≤_
         omega
       · rw[Ty.size_eq]
         simp only[tArrow,tCon,Ty.args_mk,Ty.sizes]
         have h1:=ih (t.next 7).1
         have h2:=ih (typeM d (t.next 7).1 D Lv).1
         omega
theorem typeM_vplain{D:List Decl}{Lv:List Ty}(hl:∀ l∈Lv,l.vplain=true)(d:Nat)(t:Tp):(typeM d t D Lv).2.vplain=true :=
 typeM_ind (P:=fun t=>t.vplain=true) hl (by decide) (fun dd _ l _ hx=>vplain_node (by simp[tCon]) hx)
  (fun a b h1 h2=>vplain_node (by simp[tArrow,tCon]) (fun x hx=>by
    simp only[tArrow,tCon,Ty.args_mk,List.mem_cons,List.not_mem_nil,or_false]at hx
    rcases hx with rfl|rfl<;>assumption)) d t
end Go.J
/- Closures that collect numbers in a variable of their maker,and functions that are handed such a closure. -/
namespace Go.J
open Enc (enc)
def colL(out:List Int):List (Nat×Obj):=(0,capB (oV 1 (out.map encI)))::oH 1 1 (out.map encI)
def colD(g:Option Nat)(tv:V)(id ro:Nat)(out out':List Int):EmbD where
 k:=match out with | []=>1|_=>2
 k':=match out' with | []=>1|_=>2
 π:=fun i=>if i=0 then id else ro
 OL:=colL out
 OL':=colL out'
 vs0:=[tv,capV g 0]
 v0:=.tuple []
def colM(g:Option Nat)(F:List Int→Ty→Option (List Int))(vs:List V)(hs:HS):Option EmbD:=match vs with
 | [tv,cv]=>ob (capOf g cv) fun id=>ob (Enc.dec tv:Option Ty) fun t=>ob (hs.H.get id) fun o=>ob (capB? o) fun c=>ob (rowOf 1 hs c) fun oc=>ob (decL oc:Option (List Int)) fun out=>ob (F out t) fun r =>
  gd (et (Nat.blt id hs.n) (et (bi (Nat.beq (lenL oc) 0) true (nt (Nat.beq id (rowId c)))) (et (Nat.ble (lenL out) (lenL r)) (vacant hs hs.n))))
   (some (colD g tv id (rowId c) out r))
 |_=>none
theorem colD_good {g:Option Nat} {t:Ty} {id ro:Nat} {out out':List Int} (hle:out.length≤out'.length):(colD g (enc t) id ro out out').Good:=by
 have hin:∀ (out:List Int) (p:Nat×Obj),p∈colL out→p.2.in (dom (colL out))=true∧p.2.fz=false:=by
  intro out p hp
  unfold colL at hp ⊢
  rcases List.mem_cons.1 hp with rfl|hp
  · cases out<;>exact⟨rfl,rfl⟩
  · cases out with
    |nil=>cases hp
    | cons x l =>
      simp only[List.map_cons,oH_cons,List.mem_singleton]at hp
      subst hp
      exact⟨encI_pure (x::l),rfl⟩
 refine⟨?_,?_,?_,fun p hp=>(hin out p hp).1,hin out',rfl,?_⟩
 · cases out<;>rfl
 · cases out'<;>rfl
 · cases out<;>cases out'<;>first|(simp at hle;done)|exact Nat.le_refl _|exact Nat.le_succ _
 · intro v hv
   simp only[colD,List.mem_cons,List.not_mem_nil,or_false]at hv
   rcases hv with rfl|rfl
   · exact V.in3_pure (enc_pure1 t)
   · cases g<;>cases out<;>rfl
theorem colM_inv {g:Option Nat} {F:List Int→Ty→Option (List Int)} {vs:List V} {hs:HS} {D:EmbD} (h:colM g F vs hs=some D) :
 ∃ out t r id ro,F out t=some r∧D=colD g (enc t) id ro out r∧out.length≤r.length∧D.Good∧D.Fits vs hs:=by
 unfold colM at h
 split at h
 · rename_i tv cv
   simp only[ob_eq,gd_eq,et_true,blt_true,nt_true,lenL_eq,beq_true,ble_true,vacant_eq]at h
   obtain⟨id,hid,t,ht,o,ho,c,hc,oc,hoc,out,hout,r,hr,⟨h1,h3,h5,h6⟩,h⟩:=h
   cases h
   have e1:=Enc.enc_dec _ _ ht
   subst e1
   have e2:=capOf_inv hid
   subst e2
   have e3:=decL_inv hout
   have e4:=capB_inv hc
   subst e4
   subst e3
   refine⟨out,t,r,id,rowId c,hr,rfl,h5,colD_good h5,?_⟩
   have htv:∀ π:Nat→Nat,(enc t:V).ren π=enc t:=fun π=>V.ren_none (V.in3_pure (enc_pure1 t))
   rcases rowOf_inv hoc with⟨e5,e6⟩|⟨ro,e5,e6,g5,g6,_⟩
   · subst e5
     have e7:out=[]:=by cases out with|nil=>rfl|cons x l=>cases e6
     subst e7
     refine⟨?_,?_,?_,?_,?_⟩
     · simp only[colD,List.map_cons,List.map_nil]
       rw[htv];cases g<;>rfl
     · intro i j hi hj e
       simp only[colD]at hi hj
       omega
     · intro p hp
       simp only[colD,colL,List.map_nil,oH_nil,List.mem_cons,List.not_mem_nil,or_false]at hp
       subst hp
       show hs.H.get id=_
       rw[ho];rfl
     · intro i hi
       simp only[colD]at hi
       have:i=0:=by
        cases hr1:r<;>rw[hr1]at hi<;>simp at hi<;>omega
       subst this
       exact h6
     · intro i hi
       simp only[colD]at hi ⊢
       have:i=0:=by omega
       subst this
       exact h1
   · subst e5
     cases out with
     |nil=>exact absurd rfl e6
     | cons x l =>
       have hro:rowId (oV ro ((x::l).map Cel.cells))=ro:=rfl
       rw[hro]at h3 ⊢
       have hr1:∃ y m,r=y::m:=by
        cases hr1:r with
        |nil=>rw[hr1]at h5;simp at h5
        |cons y m=>exact⟨y,m,rfl⟩
       obtain⟨y,m,hr1⟩:=hr1
       have h3':id≠ro:=by
        change nt (id.beq ro)=true at h3
        simpa using h3
       refine⟨?_,?_,?_,?_,?_⟩
       · simp only[colD,List.map_cons,List.map_nil]
         rw[htv];cases g<;>rfl
       · intro i j hi hj e
         simp only[colD]at hi hj e
         rcases(show i=0∨i=1 by omega)with rfl|rfl<;>rcases(show j=0∨j=1 by omega)with rfl|rfl <;>
          first|rfl|(simp at e;first|(exact absurd e h3')|(exact absurd e.symm h3'))
       · intro p hp
         simp only[colD,colL,List.map_cons,oH_cons,List.mem_cons,List.not_mem_nil,or_false]at hp
         rcases hp with rfl|rfl
         · show hs.H.get id=_
           rw[ho];rfl
         · show hs.H.get ro=_
           rw[g5];exact congrArg some (oO_ren (es:=(x::l).map encI) (encI_pure (x::l))).symm
       · intro i hi
         simp only[colD,hr1]at hi
         simp at hi
       · intro i hi
         simp only[colD]at hi ⊢
         rcases(show i=0∨i=1 by omega)with rfl|rfl
         · exact h1
         · exact g6
 · cases h
section
variable {g:Option Nat}{tv:V}{id ro:Nat}{out out':List Int}{x y:Int}{hs:HS}
@[simp] theorem colD_val:(colD g tv id ro out out').val hs=.tuple []:=(rfl)
theorem colD_heap00:(colD g tv id ro [] []).heap hs={ H:=hs.H.set id (capB .snil),n:=hs.n,log:=id::hs.log }:=by
 show ({ H:=hs.H.set id _,n:=hs.n+0,log:=_ }:HS)=_
 rfl
theorem colD_heap01:(colD g tv id ro [] (x::out')).heap hs={ H:=(hs.H.set hs.n (oO 1 ((x::out').map encI))).set id (capB (oV hs.n ((x::out').map encI))),n:=hs.n+1,log:=id::hs.n::hs.log }:=by
 show ({ H:=(hs.H.set (hs.n+0) ((oO 1 ((x::out').map encI)).ren _)).set id _,n:=hs.n+1,log:=_ }:HS)=_
 rw[oO_ren (encI_pure (x::out'))];rfl
theorem colD_heap11:(colD g tv id ro (y::out) (x::out')).heap hs={ H:=(hs.H.set ro (oO 1 ((x::out').map encI))).set id (capB (oV ro ((x::out').map encI))),n:=hs.n,log:=id::ro::hs.log }:=by
 show ({ H:=(hs.H.set ro ((oO 1 ((x::out').map encI)).ren _)).set id _,n:=hs.n+0,log:=_ }:HS)=_
 rw[oO_ren (encI_pure (x::out'))];rfl
attribute [simp] colD_heap00 colD_heap01 colD_heap11
@[simp] theorem colM_n {F:List Int→Ty→Option (List Int)} {cv:V}:colM g F [tv,cv] hs=ob (capOf g cv) fun id=>ob (Enc.dec tv:Option Ty) fun t=>ob (hs.H.get id) fun o=>ob (capB? o) fun c=>ob (rowOf 1 hs c) fun oc=>ob (decL oc:Option (List Int)) fun out=>ob (F out t) fun r =>
      gd (et (Nat.blt id hs.n) (et (bi (Nat.beq (lenL oc) 0) true (nt (Nat.beq id (rowId c)))) (et (Nat.ble (lenL out) (lenL r)) (vacant hs hs.n))))
       (some (colD g tv id (rowId c) out r)):=(rfl)
end
end Go.J
