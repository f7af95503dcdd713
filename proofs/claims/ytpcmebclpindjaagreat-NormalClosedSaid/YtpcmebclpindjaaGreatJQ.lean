import Derived.Test.YtpcmebclpindjaaGreatJN
import Derived.Test.YtpcmebclpindjaaGreatJL
set_option linter.all false
noncomputable section
/- Matching of types: the model of lattice.match,and what it finds. -/
namespace Go.J
open Enc (enc)
theorem zhf{s:List Assign}{i:Int}{t:Ty}(h:zP s i=some t):∃ a∈s,a.type=t:=by
 induction s with
 |nil=>cases h
 | cons a s ih =>
   rw[zP]at h
   grind
def z5C(s:List Assign)(i:Int):Bool:=s.any fun a=>decide (a.id=i)
theorem zxp{s:List Assign}{i:Int}:z5C s i=true↔zP s i≠none:=by
 induction s with
 |nil=>simp[z5C,zP]
 | cons a s ih =>
   grind [z5C,zP]
def Ty.same(a b:Ty):Bool:=decide (a.kind=b.kind)&&decide (a.name=b.name)&&decide (a.id=b.id)&&decide (a.home=b.home)&&decide (a.args.length=b.args.length)
theorem same_iff{a b:Ty}:a.same b=true↔a.kind=b.kind/\a.name=b.name/\a.id=b.id/\a.home=b.home/\a.args.length=b.args.length:=by
 simp[Ty.same,and_assoc]
mutual
def mtM:Ty->Ty->List Assign->List Assign×Bool
 | .mk k n i h l,t,s=>if k=1 then (if z5C s i then (s,decide ((Ty.mk k n i h l).repl s=t))else (s++[⟨i,t⟩],true))
   else if (Ty.mk k n i h l).same t then mtL l t.args s else (s,false)
def mtL:List Ty->List Ty->List Assign->List Assign×Bool
 |p::l,t::m,s=>if (mtM p t s).2 then mtL l m (mtM p t s).1 else ((mtM p t s).1,false)
 |_,_,s=>(s,true)
end
mutual
def Ty.app(θ:Int->Ty):Ty->Ty
 |.mk k n i h l=>if k=1 then θ i else .mk k n i h (Ty.apps θ l)
def Ty.apps(θ:Int->Ty):List Ty->List Ty
 | []=>[]
 |t::l=>Ty.app θ t::Ty.apps θ l
end
theorem z6L(θ:Int->Ty)(l:List Ty):Ty.apps θ l=l.map (Ty.app θ):=by
 induction l with
 |nil=>simp[Ty.apps]
 |cons t l ih=>simp[Ty.apps,ih]
theorem zdo(θ:Int->Ty)(t:Ty):t.app θ=if t.kind=1 then θ t.id else .mk t.kind t.name t.id t.home (t.args.map (Ty.app θ)):=by
 cases t;simp only[Ty.app,Ty.kind_mk,Ty.name_mk,Ty.id_mk,Ty.home_mk,Ty.args_mk,z6L]
def fnA(s:List Assign)(i:Int):Ty:=(zP s i).getD (za0 i)
theorem zeu(s:List Assign)(t:Ty):t.vplain=true->t.repl s=t.app (fnA s):=by
 induction t using Ty.ind with
 | h t ih =>
   intro hp;rw[zeI,zdo];split
   . rename_i hk;rw[zZ hp hk];rfl
   grind [List.map_congr_left,vplains_iff,zad]
theorem zDz(t:Ty):t.vplain=true->t.app za0=t:=by
 induction t using Ty.ind with
 | h t ih =>
   intro hp;rw[zdo];split
   . grind [zZ]
   . rw[List.map_congr_left (g:=id) fun u hu=>ih u hu (vplains_iff.1 (zad hp) u hu)];simp
theorem zel(θ η:Int->Ty)(t:Ty):(t.app θ).app η=t.app fun i=>(θ i).app η:=by
 induction t using Ty.ind with
 | h t ih =>
   rw[zdo θ t,zdo _ t];by_cases hk:t.kind=1
   . grind
   . rw[if_neg hk,if_neg hk,zdo]
     simp_all
mutual
def Ty.occ(j:Int):Ty->Bool
 |.mk k _ i _ l=>if k=1 then decide (i=j)else Ty.occs j l
def Ty.occs(j:Int):List Ty->Bool
 | []=>false
 |t::l=>Ty.occ j t||Ty.occs j l
end
theorem zmm(j:Int)(l:List Ty):Ty.occs j l=l.any (Ty.occ j):=by
 induction l with
 |nil=>simp[Ty.occs]
 |cons t l ih=>simp[Ty.occs,ih]
theorem zd6(j:Int)(t:Ty):t.occ j=if t.kind=1 then decide (t.id=j)else t.args.any (Ty.occ j):=by
 cases t;simp only[Ty.occ,Ty.kind_mk,Ty.id_mk,Ty.args_mk,zmm]
theorem zek{θ η:Int->Ty}(t:Ty):(∀ j,t.occ j=true->θ j=η j)->t.app θ=t.app η:=by
 induction t using Ty.ind with
 | h t ih =>
   grind [zdo,zd6,List.map_congr_left,List.any_eq_true]
def ExtA(s1 s2:List Assign):Prop:=∃ u,s2=s1++u
theorem ExtA.refl(s:List Assign):ExtA s s:=⟨[],by simp⟩
theorem ExtA.trans{a b c:List Assign}(h:ExtA a b)(g:ExtA b c):ExtA a c:=by
 obtain⟨u,rfl⟩:=h;obtain⟨v,rfl⟩:=g;exact⟨u++v,by simp⟩
theorem ExtA.look{a b:List Assign}(h:ExtA a b){i:Int}(hi:zP a i≠none):zP b i=zP a i:=by
 obtain⟨u,rfl⟩:=h;rw[zbu]
 cases hl:zP a i with
 |none=>exact absurd hl hi
 |some x=>rfl
theorem ExtA.has{a b:List Assign}(h:ExtA a b){i:Int}(hi:zP a i≠none):zP b i≠none:=by rw[h.look hi];exact hi
def Agr(s:List Assign)(θ:Int->Ty):Prop:=∀ i u,zP s i=some u->u=θ i
theorem Agr.snoc{s:List Assign}{θ:Int->Ty}(h:Agr s θ){i:Int}{t:Ty}(e:θ i=t):Agr (s++[⟨i,t⟩]) θ:=by
 intro j u hu;rw[zbu]at hu
 cases hl:zP s j with
 | some x =>
   rw[hl]at hu;have e:x=u:=by simpa using hu
   exact e ▸ h j x hl
 | none =>
   grind [zP]
end Go.J
/- The most special common generalization: the model of lattice.common,and what it is. -/
namespace Go.J
open Enc (enc)
def ixP(L:List Pair)(a b:Ty):Option Nat:=L.findIdx? fun p=>decide (p.a=a)&&decide (p.b=b)
mutual
def cmM:Ty->Ty->List Pair->Ty×List Pair
 | .mk k n i h l,b,L=>if (Ty.mk k n i h l).same b=true/\k≠1 then (.mk k n i h (cmL l b.args L).1,(cmL l b.args L).2)else
   match ixP L (.mk k n i h l) b with
   |some j=>(za0 (j:Int),L)
   |none=>(za0 (L.length:Int),L++[⟨.mk k n i h l,b⟩])
def cmL:List Ty->List Ty->List Pair->List Ty×List Pair
 |a::l,b::m,L=>((cmM a b L).1::(cmL l m (cmM a b L).2).1,(cmL l m (cmM a b L).2).2)
 |_,_,L=>([],L)
end
mutual
def gnM(L:List Pair):Ty->Ty->Ty
 |.mk k n i h l,b=>if (Ty.mk k n i h l).same b=true/\k≠1 then .mk k n i h (gnL L l b.args)else za0 (((ixP L (.mk k n i h l) b).getD 0:Nat):Int)
def gnL(L:List Pair):List Ty->List Ty->List Ty
 |a::l,b::m=>gnM L a b::gnL L l m
 |_,_=>[]
end
mutual
def Cov(L:List Pair):Ty->Ty->Prop
 |.mk k n i h l,b=>((Ty.mk k n i h l).same b=true/\k≠1->zN6 L l b.args)/\(¬ ((Ty.mk k n i h l).same b=true/\k≠1)->ixP L (.mk k n i h l) b≠none)
def zN6(L:List Pair):List Ty->List Ty->Prop
 |a::l,b::m=>Cov L a b/\zN6 L l m
 |_,_=>True
end
end Go.J
/- Types that chapter 15's laws make: their sizes,and what substitutions make of them. -/
namespace Go.J
open Enc (enc)
structure Nc(B:Nat)(t:Ty):Prop where
 pl:t.vplain=true
 ok:t.ok=true
 sz:t.size<=B
theorem Nc.mono{B C:Nat}{t:Ty}(h:Nc B t)(hle:B<=C):Nc C t:=⟨h.pl,h.ok,Nat.le_trans h.sz hle⟩
end Go.J
