import Derived.Test.YtfgmnebfhemnpaaGreatJI
import Derived.Test.YtfgmnebfhemnpaaGreatJN
set_option linter.all false
noncomputable section
/- Comparing types: a model,and that it says 0 at equal types alone. -/
namespace Go.J
open Enc (enc)
def zJQ(a b:Int):Int:=if a<b then -1 else if a>b then 1 else 0
def zSZ(a b:List Nat):Int:=if zvT a b=true then -1 else if a=b then 0 else 1
def nzM:List Int->Int
 | []=>0
 |a::l=>if a≠0 then a else nzM l
def zEV(a b:Ty):List Int:=[zJQ a.kind b.kind,zSZ a.name b.name,zJQ a.id b.id,zJQ a.home b.home,zJQ (a.args.length:Int) (b.args.length:Int)]
mutual
def zGr:Ty->Ty->Int
 |.mk k n i h l,b=>if nzM (zEV (.mk k n i h l) b)≠0 then nzM (zEV (.mk k n i h l) b)else zGs l b.args
def zGs:List Ty->List Ty->Int
 | [],[]=>0
 | [],_::_=>-1
 |_::_,[]=>1
 |a::l,b::m=>if zGr a b≠0 then zGr a b else zGs l m
end
end Go.J
/- Matching of types: the model of lattice.match,and what it finds. -/
namespace Go.J
open Enc (enc)
theorem zrA{s:List Assign}{i:Int}{t:Ty}(h:zaW s i=some t):∃ a∈s,a.type=t:=by
 induction s with
 |nil=>cases h
 | cons a s ih =>
   rw[zaW]at h;split at h
   . cases h;exact⟨a,List.mem_cons_self ..,rfl⟩
   . obtain⟨b,hb,e⟩:=ih h;exact⟨b,List.mem_cons_of_mem _ hb,e⟩
def znj(s:List Assign)(i:Int):Bool:=s.any fun a=>decide (a.id=i)
theorem hasA_iff{s:List Assign}{i:Int}:znj s i=true↔zaW s i≠none:=by
 induction s with
 |nil=>simp[znj,zaW]
 | cons a s ih =>
   simp only[znj,List.any_cons,zaW]at ih ⊢;by_cases h:a.id=i
   . simp[h]
   . simp[h,ih]
def Ty.same(a b:Ty):Bool:=decide (a.kind=b.kind)&&decide (a.name=b.name)&&decide (a.id=b.id)&&decide (a.home=b.home)&&decide (a.args.length=b.args.length)
theorem same_iff{a b:Ty}:a.same b=true↔a.kind=b.kind/\a.name=b.name/\a.id=b.id/\a.home=b.home/\a.args.length=b.args.length:=by
 simp[Ty.same,and_assoc]
mutual
def mtM:Ty->Ty->List Assign->List Assign×Bool
 | .mk k n i h l,t,s=>if k=1 then (if znj s i then (s,decide ((Ty.mk k n i h l).repl s=t))else (s++[⟨i,t⟩],true))
   else if (Ty.mk k n i h l).same t then mtL l t.args s else (s,false)
def mtL:List Ty->List Ty->List Assign->List Assign×Bool
 |p::l,t::m,s=>if (mtM p t s).2 then mtL l m (mtM p t s).1 else ((mtM p t s).1,false)
 |_,_,s=>(s,true)
end
theorem zlr(p t:Ty)(s:List Assign):mtM p t s=if p.kind=1 then (if znj s p.id then (s,decide (p.repl s=t))else (s++[⟨p.id,t⟩],true))else if p.same t then mtL p.args t.args s else (s,false):=by
 cases p;rw[mtM];simp only[Ty.kind_mk,Ty.id_mk,Ty.args_mk]
def zqh(a b:Ty):Bool:=(mtM b a []).2
mutual
def Ty.app(θ:Int->Ty):Ty->Ty
 |.mk k n i h l=>if k=1 then θ i else .mk k n i h (Ty.apps θ l)
def Ty.apps(θ:Int->Ty):List Ty->List Ty
 | []=>[]
 |t::l=>Ty.app θ t::Ty.apps θ l
end
theorem z9Y(θ:Int->Ty)(l:List Ty):Ty.apps θ l=l.map (Ty.app θ):=by
 induction l with
 |nil=>simp[Ty.apps]
 |cons t l ih=>simp[Ty.apps,ih]
theorem zeo(θ:Int->Ty)(t:Ty):t.app θ=if t.kind=1 then θ t.id else .mk t.kind t.name t.id t.home (t.args.map (Ty.app θ)):=by
 cases t;simp only[Ty.app,Ty.kind_mk,Ty.name_mk,Ty.id_mk,Ty.home_mk,Ty.args_mk,z9Y]
def fnA(s:List Assign)(i:Int):Ty:=(zaW s i).getD (zad i)
theorem zoa(s:List Assign)(t:Ty):t.vplain=true->t.repl s=t.app (fnA s):=by
 induction t using Ty.ind with
 | h t ih =>
   intro hp;rw[zhl,zeo];split
   . rename_i hk;rw[zbH hp hk];rfl
   . congr 1
     exact List.map_congr_left fun u hu=>ih u hu (vplains_iff.1 (zcF hp) u hu)
theorem zGS(t:Ty):t.vplain=true->t.app zad=t:=by
 induction t using Ty.ind with
 | h t ih =>
   intro hp;rw[zeo];split
   . rename_i hk;exact(zbH hp hk).symm
   . rw[List.map_congr_left (g:=id) fun u hu=>ih u hu (vplains_iff.1 (zcF hp) u hu)];simp
theorem zy2{θ:Int->Ty}{t:Ty}(hk:t.kind≠1):t.same (t.app θ)=true:=by
 rw[zeo,if_neg hk,same_iff];simp
mutual
def Ty.occ(j:Int):Ty->Bool
 |.mk k _ i _ l=>if k=1 then decide (i=j)else Ty.occs j l
def Ty.occs(j:Int):List Ty->Bool
 | []=>false
 |t::l=>Ty.occ j t||Ty.occs j l
end
theorem z8k(j:Int)(l:List Ty):Ty.occs j l=l.any (Ty.occ j):=by
 induction l with
 |nil=>simp[Ty.occs]
 |cons t l ih=>simp[Ty.occs,ih]
theorem zlo(j:Int)(t:Ty):t.occ j=if t.kind=1 then decide (t.id=j)else t.args.any (Ty.occ j):=by
 cases t;simp only[Ty.occ,Ty.kind_mk,Ty.id_mk,Ty.args_mk,z8k]
theorem zv7{θ η:Int->Ty}(t:Ty):(∀ j,t.occ j=true->θ j=η j)->t.app θ=t.app η:=by
 induction t using Ty.ind with
 | h t ih =>
   intro h;rw[zeo,zeo];by_cases hk:t.kind=1
   . rw[if_pos hk,if_pos hk];exact h _ (by rw[zlo,if_pos hk];simp)
   . rw[if_neg hk,if_neg hk]
     congr 1
     exact List.map_congr_left fun u hu=>ih u hu fun j hj=>h j (by rw[zlo,if_neg hk];exact List.any_eq_true.2 ⟨u,hu,hj⟩)
def ExtA(s1 s2:List Assign):Prop:=∃ u,s2=s1++u
theorem ExtA.refl(s:List Assign):ExtA s s:=⟨[],by simp⟩
theorem ExtA.trans{a b c:List Assign}(h:ExtA a b)(g:ExtA b c):ExtA a c:=by
 obtain⟨u,rfl⟩:=h;obtain⟨v,rfl⟩:=g;exact⟨u++v,by simp⟩
theorem ExtA.look{a b:List Assign}(h:ExtA a b){i:Int}(hi:zaW a i≠none):zaW b i=zaW a i:=by
 obtain⟨u,rfl⟩:=h;rw[zdX]
 cases hl:zaW a i with
 |none=>exact absurd hl hi
 |some x=>rfl
theorem ExtA.has{a b:List Assign}(h:ExtA a b){i:Int}(hi:zaW a i≠none):zaW b i≠none:=by rw[h.look hi];exact hi
theorem zE9 {p:Ty}:∀ {t:Ty} {s:List Assign},p.vplain=true->ExtA s (mtM p t s).1/\((mtM p t s).2=true->(∀ j,p.occ j=true->zaW (mtM p t s).1 j≠none)/\p.app (fnA (mtM p t s).1)=t):=by
 induction p using Ty.ind with
 | h p ih =>
   intro t s hp
   have ihl:∀ (l:List Ty),(∀ u∈l,u∈p.args)->∀ (m:List Ty) (s:List Assign),ExtA s (mtL l m s).1/\(l.length=m.length->(mtL l m s).2=true->(∀ u∈l,∀ j,u.occ j=true->zaW (mtL l m s).1 j≠none)/\l.map (Ty.app (fnA (mtL l m s).1))=m):=by
    intro l
    induction l with
    | nil =>
      intro _ m s;refine⟨by rw[mtL];exact ExtA.refl s;simp,fun hl _=>⟨fun u hu=>(by cases hu),?_⟩⟩
      cases m with
      |nil=>rfl
      |cons _ _=>simp at hl
    | cons u l ihl =>
      intro hsub m s
      cases m with
      |nil=>exact⟨by rw[mtL];exact ExtA.refl s;simp,fun hl=>by simp at hl⟩
      | cons t m =>
        have hu:=hsub u (List.mem_cons_self ..);obtain⟨h1,h2⟩:=ih u hu (t:=t) (s:=s) (vplains_iff.1 (zcF hp) u hu);obtain⟨h3,h4⟩:=ihl (fun v hv=>hsub v (List.mem_cons_of_mem _ hv)) m (mtM u t s).1;rw[mtL];by_cases hb:(mtM u t s).2=true
        . rw[if_pos hb];refine⟨h1.trans h3,fun hl hr=>?_⟩;obtain⟨h5,h6⟩:=h4 (by simpa using hl) hr;obtain⟨h7,h8⟩:=h2 hb;refine⟨fun v hv j hj=>?_,?_⟩
          . rcases List.mem_cons.1 hv with rfl|hv
            . exact h3.has (h7 j hj)
            . exact h5 v hv j hj
          . rw[List.map_cons,h6]
            congr 1
            refine(zv7 _ fun j hj=>?_).trans h8;unfold fnA;rw[h3.look (h7 j hj)]
        . rw[if_neg hb];exact⟨h1,fun _ h=>absurd h (by simp)⟩
   rw[zlr];by_cases hk:p.kind=1
   . rw [if_pos hk];by_cases hh:znj s p.id=true
     . rw[if_pos hh];refine⟨ExtA.refl s,fun h=>⟨fun j hj=>?_,?_⟩⟩
       . rw[zlo,if_pos hk]at hj;rw[<- of_decide_eq_true hj];exact hasA_iff.1 hh
       . rw[<- zoa _ _ hp];exact of_decide_eq_true h
     . rw[if_neg hh]
       have hn:zaW s p.id=none:=by
        cases hl:zaW s p.id with
        |none=>rfl
        |some x=>exact absurd (hasA_iff.2 (by rw[hl];simp)) hh
       have hl:zaW (s++[⟨p.id,t⟩]) p.id=some t:=by rw[zdX,hn];simp[zaW]
       refine⟨⟨_,rfl⟩,fun _=>⟨fun j hj=>?_,?_⟩⟩
       . rw[zlo,if_pos hk]at hj;rw[<- of_decide_eq_true hj];show zaW (s++[⟨p.id,t⟩]) p.id≠none;rw[hl];simp
       . rw[zeo,if_pos hk];show (zaW (s++[⟨p.id,t⟩]) p.id).getD _=t;rw[hl];rfl
   . rw [if_neg hk];by_cases hs:p.same t=true
     . rw[if_pos hs];obtain⟨e1,e2,e3,e4,e5⟩:=same_iff.1 hs;obtain⟨h1,h2⟩:=ihl p.args (fun _ h=>h) t.args s;refine⟨h1,fun h=>?_⟩;obtain⟨h3,h4⟩:=h2 e5 h;refine⟨fun j hj=>?_,?_⟩
       . rw[zlo,if_neg hk]at hj;obtain⟨u,hu,hj⟩:=List.any_eq_true.1 hj;exact h3 u hu j hj
       . rw[zeo,if_neg hk,h4];exact Ty.ext' (by simpa using e1) (by simpa using e2) (by simpa using e3) (by simpa using e4) (by simp)
     . rw[if_neg hs];exact⟨ExtA.refl s,fun h=>absurd h (by simp)⟩
def Agr(s:List Assign)(θ:Int->Ty):Prop:=∀ i u,zaW s i=some u->u=θ i
theorem Agr.snoc{s:List Assign}{θ:Int->Ty}(h:Agr s θ){i:Int}{t:Ty}(e:θ i=t):Agr (s++[⟨i,t⟩]) θ:=by
 intro j u hu;rw[zdX]at hu
 cases hl:zaW s j with
 | some x =>
   rw[hl]at hu;have e:x=u:=by simpa using hu
   exact e ▸ h j x hl
 | none =>
   rw[hl]at hu;simp only[Option.none_or,zaW]at hu;split at hu
   . rename_i e2;cases hu;subst e2;exact e.symm
   . cases hu
theorem zEB {θ:Int->Ty} {p:Ty}:∀ {s:List Assign},p.vplain=true->Agr s θ->(mtM p (p.app θ) s).2=true/\Agr (mtM p (p.app θ) s).1 θ:=by
 induction p using Ty.ind with
 | h p ih =>
   intro s hp ha
   have ihl:∀ (l:List Ty),(∀ u∈l,u∈p.args)->∀ (s:List Assign),Agr s θ->(mtL l (l.map (Ty.app θ)) s).2=true/\Agr (mtL l (l.map (Ty.app θ)) s).1 θ:=by
    intro l
    induction l with
    |nil=>intro _ s h;rw[List.map_nil,mtL];exact⟨rfl,h⟩;simp
    | cons u l ihl =>
      intro hsub s h;have hu:=hsub u (List.mem_cons_self ..);obtain⟨h1,h2⟩:=ih u hu (vplains_iff.1 (zcF hp) u hu) h;rw[List.map_cons,mtL,if_pos h1];exact ihl (fun v hv=>hsub v (List.mem_cons_of_mem _ hv)) _ h2
   rw[zlr];by_cases hk:p.kind=1
   . rw[if_pos hk];by_cases hh:znj s p.id=true
     . rw[if_pos hh];refine⟨?_,ha⟩;have h1:=hasA_iff.1 hh;refine decide_eq_true ?_;rw[zoa _ _ hp,zeo,if_pos hk,zeo,if_pos hk];unfold fnA
       cases hl:zaW s p.id with
       |none=>exact absurd hl h1
       |some x=>exact ha _ _ hl
     . rw[if_neg hh];exact⟨rfl,ha.snoc (by rw[zeo,if_pos hk])⟩
   . rw[if_neg hk,if_pos (zy2 hk)];rw[zeo,if_neg hk];exact ihl p.args (fun _ h=>h) s ha
theorem z88{a b:Ty}(hb:b.vplain=true):zqh a b=true↔∃ θ:Int->Ty,b.app θ=a:=by
 constructor
 . intro h;exact⟨_,((zE9 (t:=a) (s:=[]) hb).2 h).2⟩
 . rintro ⟨θ,rfl⟩;exact(zEB (s:=[]) hb (fun i u h=>by cases h)).1
theorem zx8{a:Ty}(ha:a.vplain=true):zqh a a=true:=(z88 ha).2 ⟨zad,zGS a ha⟩
theorem zEA {p:Ty}:∀ {t:Ty} {s:List Assign},s.length<=(mtM p t s).1.length/\(mtM p t s).1.length<=s.length+p.size:=by
 induction p using Ty.ind with
 | h p ih =>
   intro t s
   have ihl:∀ (l:List Ty),(∀ u∈l,u∈p.args)->∀ (m:List Ty) (s:List Assign),s.length<=(mtL l m s).1.length/\(mtL l m s).1.length<=s.length+Ty.sizes l:=by
    intro l
    induction l with
    |nil=>intro _ m s;rw[mtL];exact⟨Nat.le_refl _,Nat.le_add_right ..⟩;simp
    | cons u l ihl =>
      intro hsub m s
      cases m with
      |nil=>rw[mtL];exact⟨Nat.le_refl _,Nat.le_add_right ..⟩;simp
      | cons t m =>
        have h1:=ih u (hsub u (List.mem_cons_self ..)) (t:=t) (s:=s);have h2:=ihl (fun v hv=>hsub v (List.mem_cons_of_mem _ hv)) m (mtM u t s).1;rw[mtL,Ty.sizes];split
        . omega
        . show _<=(mtM u t s).1.length/\(mtM u t s).1.length<=_;omega
   have h2:=ihl p.args (fun _ h=>h) t.args s;have h3:=Ty.size_eq p;rw[zlr];split
   . split
     . exact⟨Nat.le_refl _,Nat.le_add_right ..⟩
     . simp;omega
   . split
     . omega
     . exact⟨Nat.le_refl _,Nat.le_add_right ..⟩
end Go.J
/- Matching: what its assignments are. -/
set_option maxRecDepth 100000
namespace Go.J
open Enc (enc)
theorem zof{p t:Ty}{l m:List Ty}{s:List Assign}:mtL (p::l) (t::m) s=if (mtM p t s).2 then mtL l m (mtM p t s).1 else ((mtM p t s).1,false):=by rw[mtL]
theorem zr6{m:List Ty}{s:List Assign}:mtL [] m s=(s,true):=by rw[mtL];simp
def aok(s:List Assign):Prop:=∀ a∈s,a.type.ok=true
theorem zy3{s:List Assign}(h:aok s){i:Int}{t:Ty}(ht:t.ok=true):aok (s++[⟨i,t⟩]):=by
 intro a ha;rcases List.mem_append.1 ha with ha|ha
 . exact h a ha
 . rw[List.mem_singleton.1 ha];exact ht
theorem zEC {p:Ty}:∀ {t:Ty} {s:List Assign},t.ok=true->aok s->aok (mtM p t s).1:=by
 induction p using Ty.ind with
 | h p ih =>
   intro t s ht hs
   have ihl:∀ (l:List Ty),(∀ u∈l,u∈p.args)->∀ (m:List Ty) (s:List Assign),(∀ v∈m,v.ok=true)->aok s->aok (mtL l m s).1:=by
    intro l
    induction l with
    |nil=>intro _ m s _ h;rw[zr6];exact h
    | cons u l ihl =>
      intro hsub m s hm h
      cases m with
      |nil=>rw[mtL];exact h;simp
      | cons v m =>
        rw[zof];have h1:=ih u (hsub u (List.mem_cons_self ..)) (hm v (List.mem_cons_self ..)) h;split
        . exact ihl (fun w hw=>hsub w (List.mem_cons_of_mem _ hw)) m _ (fun w hw=>hm w (List.mem_cons_of_mem _ hw)) h1
        . exact h1
   rw[zlr];split
   . split
     . exact hs
     . exact zy3 hs ht
   . split
     . exact ihl _ (fun _ h=>h) _ _ (fun v hv=>Ty.ok_arg ht hv) hs
     . exact hs
end Go.J
