import Derived.Test.YtocdkgjpdnamlaaGreatJI
import Derived.Test.YtocdkgjpdnamlaaGreatJN
set_option linter.all false
noncomputable section
/- zAj types: a model,and that it says 0 at equal types alone. -/
namespace Go.J
open Enc (enc)
def zpf(a b:Int):Int:=if a<b then -1 else if a>b then 1 else 0
def zNb(a b:List Nat):Int:=if JA a b=true then -1 else if a=b then 0 else 1
def zKr:List Int->Int
 | []=>0
 |a::l=>if a≠0 then a else zKr l
def zq9(a b:Ty):List Int:=[zpf a.kind b.kind,zNb a.name b.name,zpf a.id b.id,zpf a.home b.home,zpf (a.args.length:Int) (b.args.length:Int)]
mutual
def zr8:Ty->Ty->Int
 |.mk k n i h l,b=>if zKr (zq9 (.mk k n i h l) b)≠0 then zKr (zq9 (.mk k n i h l) b)else zr9 l b.args
def zr9:List Ty->List Ty->Int
 | [],[]=>0
 | [],_::_=>-1
 |_::_,[]=>1
 |a::l,b::m=>if zr8 a b≠0 then zr8 a b else zr9 l m
end
end Go.J
/- zlu of types: the model of zHr.match,and what it finds. -/
namespace Go.J
open Enc (enc)
theorem yI{s:List Assign}{i:Int}{t:Ty}(h:bW s i=some t):∃ a∈s,a.type=t:=by
 induction s with
 |nil=>cases h
 | cons a s ih =>
   rw[bW]at h
   grind
def qo(s:List Assign)(i:Int):Bool:=s.any fun a=>decide (a.id=i)
theorem BK{s:List Assign}{i:Int}:qo s i=true↔bW s i≠none:=by
 induction s with
 |nil=>simp[qo,bW]
 | cons a s ih =>
   grind [qo,bW]
def Ty.same(a b:Ty):Bool:=decide (a.kind=b.kind)&&decide (a.name=b.name)&&decide (a.id=b.id)&&decide (a.home=b.home)&&decide (a.args.length=b.args.length)
theorem same_iff{a b:Ty}:a.same b=true↔a.kind=b.kind/\a.name=b.name/\a.id=b.id/\a.home=b.home/\a.args.length=b.args.length:=by
 simp[Ty.same,and_assoc]
mutual
def DU:Ty->Ty->List Assign->List Assign×Bool
 | .mk k n i h l,t,s=>if k=1 then (if qo s i then (s,decide ((Ty.mk k n i h l).dZ s=t))else (s++[⟨i,t⟩],true))
   else if (Ty.mk k n i h l).same t then Ci l t.args s else (s,false)
def Ci:List Ty->List Ty->List Assign->List Assign×Bool
 |p::l,t::m,s=>if (DU p t s).2 then Ci l m (DU p t s).1 else ((DU p t s).1,false)
 |_,_,s=>(s,true)
end
theorem GR(p t:Ty)(s:List Assign):DU p t s=if p.kind=1 then (if qo s p.id then (s,decide (p.dZ s=t))else (s++[⟨p.id,t⟩],true))else if p.same t then Ci p.args t.args s else (s,false):=by
 cases p;rw[DU];simp only[Ty.dx,Ty.gz,Ty.cZ]
def y8(a b:Ty):Bool:=(DU b a []).2
mutual
def Ty.app(θ:Int->Ty):Ty->Ty
 |.mk k n i h l=>if k=1 then θ i else .mk k n i h (Ty.apps θ l)
def Ty.apps(θ:Int->Ty):List Ty->List Ty
 | []=>[]
 |t::l=>Ty.app θ t::Ty.apps θ l
end
theorem zpv(θ:Int->Ty)(l:List Ty):Ty.apps θ l=l.map (Ty.app θ):=by
 induction l with
 |nil=>simp[Ty.apps]
 |cons t l ih=>simp[Ty.apps,ih]
theorem jH(θ:Int->Ty)(t:Ty):t.app θ=if t.kind=1 then θ t.id else .mk t.kind t.name t.id t.home (t.args.map (Ty.app θ)):=by
 cases t;simp only[Ty.app,Ty.dx,Ty.vN,Ty.gz,Ty.tH,Ty.cZ,zpv]
def jq(s:List Assign)(i:Int):Ty:=(bW s i).getD (aM i)
theorem kJ(s:List Assign)(t:Ty):t.ay=true->t.dZ s=t.app (jq s):=by
 induction t using Ty.ind with
 | h t ih =>
   intro hp;rw[yB,jH];split
   . rename_i hk;rw[bg hp hk];rfl
   grind [List.map_congr_left,bN,bS]
theorem Az(t:Ty):t.ay=true->t.app aM=t:=by
 induction t using Ty.ind with
 | h t ih =>
   intro hp;rw[jH];split
   . grind [bg]
   . rw[List.map_congr_left (g:=id) fun u hu=>ih u hu (bN.1 (bS hp) u hu)];simp
theorem tT(θ η:Int->Ty)(t:Ty):(t.app θ).app η=t.app fun i=>(θ i).app η:=by
 induction t using Ty.ind with
 | h t ih =>
   rw[jH θ t,jH _ t];by_cases hk:t.kind=1
   . grind
   . rw[if_neg hk,if_neg hk,jH]
     simp_all
theorem zli{θ:Int->Ty}{t:Ty}(hk:t.kind≠1):t.same (t.app θ)=true:=by
 simp_all [jH,same_iff]
mutual
def Ty.lq(j:Int):Ty->Bool
 |.mk k _ i _ l=>if k=1 then decide (i=j)else Ty.occs j l
def Ty.occs(j:Int):List Ty->Bool
 | []=>false
 |t::l=>Ty.lq j t||Ty.occs j l
end
theorem zoa(j:Int)(l:List Ty):Ty.occs j l=l.any (Ty.lq j):=by
 induction l with
 |nil=>simp[Ty.occs]
 |cons t l ih=>simp[Ty.occs,ih]
theorem jB(j:Int)(t:Ty):t.lq j=if t.kind=1 then decide (t.id=j)else t.args.any (Ty.lq j):=by
 cases t;simp only[Ty.lq,Ty.dx,Ty.gz,Ty.cZ,zoa]
theorem oQ{θ η:Int->Ty}(t:Ty):(∀ j,t.lq j=true->θ j=η j)->t.app θ=t.app η:=by
 induction t using Ty.ind with
 | h t ih =>
   grind [jH,jB,List.map_congr_left,List.any_eq_true]
def zf(s1 s2:List Assign):Prop:=∃ u,s2=s1++u
theorem zf.refl(s:List Assign):zf s s:=⟨[],by simp⟩
theorem zf.trans{a b c:List Assign}(h:zf a b)(g:zf b c):zf a c:=by
 obtain⟨u,rfl⟩:=h;obtain⟨v,rfl⟩:=g;exact⟨u++v,by simp⟩
theorem zf.look{a b:List Assign}(h:zf a b){i:Int}(hi:bW a i≠none):bW b i=bW a i:=by
 obtain⟨u,rfl⟩:=h;rw[jC]
 cases hl:bW a i with
 |none=>exact absurd hl hi
 |some x=>rfl
theorem zf.has{a b:List Assign}(h:zf a b){i:Int}(hi:bW a i≠none):bW b i≠none:=by rw[h.look hi];exact hi
theorem zuo {p:Ty}:∀ {t:Ty} {s:List Assign},p.ay=true->zf s (DU p t s).1/\((DU p t s).2=true->(∀ j,p.lq j=true->bW (DU p t s).1 j≠none)/\p.app (jq (DU p t s).1)=t):=by
 induction p using Ty.ind with
 | h p ih =>
   intro t s hp
   have ihl:∀ (l:List Ty),(∀ u∈l,u∈p.args)->∀ (m:List Ty) (s:List Assign),zf s (Ci l m s).1/\(l.length=m.length->(Ci l m s).2=true->(∀ u∈l,∀ j,u.lq j=true->bW (Ci l m s).1 j≠none)/\l.map (Ty.app (jq (Ci l m s).1))=m):=by
    intro l
    induction l with
    | nil =>
      intro _ m s;refine⟨by rw[Ci];exact zf.refl s;simp,fun hl _=>⟨fun u hu=>(by cases hu),?_⟩⟩
      grind
    | cons u l ihl =>
      intro hsub m s
      cases m with
      |nil=>exact⟨by rw[Ci];exact zf.refl s;simp,fun hl=>by simp at hl⟩
      | cons t m =>
        have hu:=hsub u (List.mem_cons_self ..);obtain⟨h1,h2⟩:=ih u hu (t:=t) (s:=s) (bN.1 (bS hp) u hu);obtain⟨h3,h4⟩:=ihl (fun v hv=>hsub v (List.mem_cons_of_mem _ hv)) m (DU u t s).1;rw[Ci];by_cases hb:(DU u t s).2=true
        . rw[if_pos hb];refine⟨h1.trans h3,fun hl hr=>?_⟩;obtain⟨h5,h6⟩:=h4 (by simpa using hl) hr;obtain⟨h7,h8⟩:=h2 hb;refine⟨fun v hv j hj=>?_,?_⟩
          . rcases List.mem_cons.1 hv with rfl|hv
            . exact h3.has (h7 j hj)
            grind
          . rw[List.map_cons,h6]
            congr 1
            refine(oQ _ fun j hj=>?_).trans h8;unfold jq;rw[h3.look (h7 j hj)]
        grind
   rw[GR];by_cases hk:p.kind=1
   . rw [if_pos hk];by_cases hh:qo s p.id=true
     . grind [zf.refl,jB,BK,kJ]
     . rw[if_neg hh]
       have hn:bW s p.id=none:=by
        grind [bW,BK]
       have hl:bW (s++[⟨p.id,t⟩]) p.id=some t:=by rw[jC,hn];simp[bW]
       refine⟨⟨_,rfl⟩,fun _=>⟨fun j hj=>?_,?_⟩⟩
       . grind [jB,bW]
       . rw[jH,if_pos hk];show (bW (s++[⟨p.id,t⟩]) p.id).getD _=t;rw[hl];rfl
   . rw[if_neg hk];by_cases hs:p.same t=true
     . rw[if_pos hs];obtain⟨e1,e2,e3,e4,e5⟩:=same_iff.1 hs;obtain⟨h1,h2⟩:=ihl p.args (fun _ h=>h) t.args s;refine⟨h1,fun h=>?_⟩;obtain⟨h3,h4⟩:=h2 e5 h;refine⟨fun j hj=>?_,?_⟩
       . grind [jB,List.any_eq_true]
       simp_all [jH]
     grind [zf.refl]
def zwY(s:List Assign)(θ:Int->Ty):Prop:=∀ i u,bW s i=some u->u=θ i
theorem zwY.snoc{s:List Assign}{θ:Int->Ty}(h:zwY s θ){i:Int}{t:Ty}(e:θ i=t):zwY (s++[⟨i,t⟩]) θ:=by
 intro j u hu;rw[jC]at hu
 cases hl:bW s j with
 | some x =>
   rw[hl]at hu;have e:x=u:=by simpa using hu
   exact e ▸ h j x hl
 | none =>
   grind [bW]
theorem zuq {θ:Int->Ty} {p:Ty}:∀ {s:List Assign},p.ay=true->zwY s θ->(DU p (p.app θ) s).2=true/\zwY (DU p (p.app θ) s).1 θ:=by
 induction p using Ty.ind with
 | h p ih =>
   intro s hp ha
   have ihl:∀ (l:List Ty),(∀ u∈l,u∈p.args)->∀ (s:List Assign),zwY s θ->(Ci l (l.map (Ty.app θ)) s).2=true/\zwY (Ci l (l.map (Ty.app θ)) s).1 θ:=by
    intro l
    induction l with
    |nil=>intro _ s h;rw[List.map_nil,Ci];exact⟨rfl,h⟩;simp
    | cons u l ihl =>
      intro hsub s h;have hu:=hsub u (List.mem_cons_self ..);obtain⟨h1,h2⟩:=ih u hu (bN.1 (bS hp) u hu) h
      grind [Ci,List.mem_cons_of_mem]
   rw[GR];by_cases hk:p.kind=1
   . rw[if_pos hk];by_cases hh:qo s p.id=true
     . rw[if_pos hh];refine⟨?_,ha⟩;have h1:=BK.1 hh;refine decide_eq_true ?_;rw[kJ _ _ hp,jH,if_pos hk,jH,if_pos hk];unfold jq
       cases hl:bW s p.id with
       |none=>exact absurd hl h1
       |some x=>exact ha _ _ hl
     . rw[if_neg hh];exact⟨rfl,ha.snoc (by rw[jH,if_pos hk])⟩
   . rw[if_neg hk,if_pos (zli hk)]
     simp_all [jH]
theorem zos{a b:Ty}(hb:b.ay=true):y8 a b=true↔∃ θ:Int->Ty,b.app θ=a:=by
 constructor
 . intro h;exact⟨_,((zuo (t:=a) (s:=[]) hb).2 h).2⟩
 . rintro ⟨θ,rfl⟩;exact(zuq (s:=[]) hb (fun i u h=>by cases h)).1
theorem zup {p:Ty}:∀ {t:Ty} {s:List Assign},s.length<=(DU p t s).1.length/\(DU p t s).1.length<=s.length+p.size:=by
 induction p using Ty.ind with
 | h p ih =>
   intro t s
   have ihl:∀ (l:List Ty),(∀ u∈l,u∈p.args)->∀ (m:List Ty) (s:List Assign),s.length<=(Ci l m s).1.length/\(Ci l m s).1.length<=s.length+Ty.sizes l:=by
    intro l
    induction l with
    |nil=>intro _ m s;rw[Ci];exact⟨Nat.le_refl _,Nat.le_add_right ..⟩;simp
    | cons u l ihl =>
      intro hsub m s
      cases m with
      |nil=>rw[Ci];exact⟨Nat.le_refl _,Nat.le_add_right ..⟩;simp
      | cons t m =>
        have h1:=ih u (hsub u (List.mem_cons_self ..)) (t:=t) (s:=s);have h2:=ihl (fun v hv=>hsub v (List.mem_cons_of_mem _ hv)) m (DU u t s).1;rw[Ci,Ty.sizes]
        grind
   have h2:=ihl p.args (fun _ h=>h) t.args s;have h3:=Ty.size_eq p;rw[GR]
   grind
end Go.J
/- zlu: what its assignments are. -/
set_option maxRecDepth 100000
namespace Go.J
open Enc (enc)
theorem OE{p t:Ty}{l m:List Ty}{s:List Assign}:Ci (p::l) (t::m) s=if (DU p t s).2 then Ci l m (DU p t s).1 else ((DU p t s).1,false):=by rw[Ci]
theorem Uj{m:List Ty}{s:List Assign}:Ci [] m s=(s,true):=by rw[Ci];simp
def zmG(s:List Assign):Prop:=∀ a∈s,a.type.ok=true
theorem zlj{s:List Assign}(h:zmG s){i:Int}{t:Ty}(ht:t.ok=true):zmG (s++[⟨i,t⟩]):=by
 intro a ha;rcases List.mem_append.1 ha with ha|ha
 . exact h a ha
 . rw[List.mem_singleton.1 ha];exact ht
theorem zur {p:Ty}:∀ {t:Ty} {s:List Assign},t.ok=true->zmG s->zmG (DU p t s).1:=by
 induction p using Ty.ind with
 | h p ih =>
   intro t s ht hs
   have ihl:∀ (l:List Ty),(∀ u∈l,u∈p.args)->∀ (m:List Ty) (s:List Assign),(∀ v∈m,v.ok=true)->zmG s->zmG (Ci l m s).1:=by
    intro l
    induction l with
    |nil=>intro _ m s _ h;rw[Uj];exact h
    | cons u l ihl =>
      intro hsub m s hm h
      cases m with
      |nil=>rw[Ci];exact h;simp
      | cons v m =>
        rw[OE];have h1:=ih u (hsub u (List.mem_cons_self ..)) (hm v (List.mem_cons_self ..)) h;split
        . exact ihl (fun w hw=>hsub w (List.mem_cons_of_mem _ hw)) m _ (fun w hw=>hm w (List.mem_cons_of_mem _ hw)) h1
        . exact h1
   rw[GR];split
   . split
     . exact hs
     . exact zlj hs ht
   . split
     . exact ihl _ (fun _ h=>h) _ _ (fun v hv=>Ty.mH ht hv) hs
     . exact hs
end Go.J
