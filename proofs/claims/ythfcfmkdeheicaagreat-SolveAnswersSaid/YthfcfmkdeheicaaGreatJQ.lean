import Derived.Test.YthfcfmkdeheicaaGreatJN
import Derived.Test.YthfcfmkdeheicaaGreatJI
import Derived.Test.YthfcfmkdeheicaaGreatJL
set_option linter.all false
noncomputable section
/- Matching of types: the model of lattice.match,and what it finds. -/
namespace Go.J
open Enc (enc)
theorem zdk{s:List Assign}{i:Int}{t:Ty}(h:zq s i=some t):∃ a∈s,a.type=t:=by
 induction s with
 |nil=>cases h
 | cons a s ih =>
   rw[zq]at h
   split at h
   · cases h;exact⟨a,List.mem_cons_self ..,rfl⟩
   · obtain⟨b,hb,e⟩:=ih h
     exact⟨b,List.mem_cons_of_mem _ hb,e⟩
def hasA(s:List Assign)(i:Int):Bool:=s.any fun a=>decide (a.id=i)
theorem hasA_iff{s:List Assign}{i:Int}:hasA s i=true↔zq s i≠none:=by
 induction s with
 |nil=>simp[hasA,zq]
 | cons a s ih =>
   simp only[hasA,List.any_cons,zq]at ih ⊢
   by_cases h:a.id=i
   · simp[h]
   · simp[h,ih]
def Ty.same(a b:Ty):Bool:=decide (a.kind=b.kind)&&decide (a.name=b.name)&&decide (a.id=b.id)&&decide (a.home=b.home)&&decide (a.args.length=b.args.length)
theorem same_iff{a b:Ty}:a.same b=true↔a.kind=b.kind∧a.name=b.name∧a.id=b.id∧a.home=b.home∧a.args.length=b.args.length:=by
 simp[Ty.same,and_assoc]
mutual
def mtM:Ty→Ty→List Assign→List Assign×Bool
 | .mk k n i h l,t,s=>if k=1 then (if hasA s i then (s,decide ((Ty.mk k n i h l).repl s=t))else (s++[⟨i,t⟩],true))
   else if (Ty.mk k n i h l).same t then mtL l t.args s else (s,false)
def mtL:List Ty→List Ty→List Assign→List Assign×Bool
 |p::l,t::m,s=>if (mtM p t s).2 then mtL l m (mtM p t s).1 else ((mtM p t s).1,false)
 |_,_,s=>(s,true)
end
mutual
def Ty.app(θ:Int→Ty):Ty→Ty
 |.mk k n i h l=>if k=1 then θ i else .mk k n i h (Ty.apps θ l)
def Ty.apps(θ:Int→Ty):List Ty→List Ty
 | []=>[]
 |t::l=>Ty.app θ t::Ty.apps θ l
end
theorem apps_eq(θ:Int→Ty)(l:List Ty):Ty.apps θ l=l.map (Ty.app θ):=by
 induction l with
 |nil=>simp[Ty.apps]
 |cons t l ih=>simp[Ty.apps,ih]
theorem zgQ(θ:Int→Ty)(t:Ty):t.app θ=if t.kind=1 then θ t.id else .mk t.kind t.name t.id t.home (t.args.map (Ty.app θ)):=by
 cases t;simp only[Ty.app,Ty.kind_mk,Ty.name_mk,Ty.id_mk,Ty.home_mk,Ty.args_mk,apps_eq]
def fnA(s:List Assign)(i:Int):Ty:=(zq s i).getD (zD i)
theorem zV(s:List Assign)(t:Ty):t.vplain=true→t.repl s=t.app (fnA s):=by
 induction t using Ty.ind with
 | h t ih =>
   intro hp
   rw[zmi,zgQ]
   split
   · rename_i hk
     rw[zK hp hk];rfl
   · congr 1
     exact List.map_congr_left fun u hu=>ih u hu (vplains_iff.1 (z8 hp) u hu)
theorem zjk(t:Ty):t.vplain=true→t.app zD=t:=by
 induction t using Ty.ind with
 | h t ih =>
   intro hp
   rw[zgQ]
   split
   · rename_i hk
     exact(zK hp hk).symm
   · rw[List.map_congr_left (g:=id) fun u hu=>ih u hu (vplains_iff.1 (z8 hp) u hu)]
     simp
theorem zfP(θ η:Int→Ty)(t:Ty):(t.app θ).app η=t.app fun i=>(θ i).app η:=by
 induction t using Ty.ind with
 | h t ih =>
   rw[zgQ θ t,zgQ _ t]
   by_cases hk:t.kind=1
   · rw[if_pos hk,if_pos hk]
   · rw[if_neg hk,if_neg hk,zgQ]
     simp only[Ty.kind_mk,if_neg hk,Ty.name_mk,Ty.id_mk,Ty.home_mk,Ty.args_mk,List.map_map]
     congr 1
     exact List.map_congr_left fun u hu=>ih u hu
mutual
def Ty.occ(j:Int):Ty→Bool
 |.mk k _ i _ l=>if k=1 then decide (i=j)else Ty.occs j l
def Ty.occs(j:Int):List Ty→Bool
 | []=>false
 |t::l=>Ty.occ j t||Ty.occs j l
end
theorem occs_eq(j:Int)(l:List Ty):Ty.occs j l=l.any (Ty.occ j):=by
 induction l with
 |nil=>simp[Ty.occs]
 |cons t l ih=>simp[Ty.occs,ih]
theorem zdi(j:Int)(t:Ty):t.occ j=if t.kind=1 then decide (t.id=j)else t.args.any (Ty.occ j):=by
 cases t;simp only[Ty.occ,Ty.kind_mk,Ty.id_mk,Ty.args_mk,occs_eq]
theorem zcu{θ η:Int→Ty}(t:Ty):(∀ j,t.occ j=true→θ j=η j)→t.app θ=t.app η:=by
 induction t using Ty.ind with
 | h t ih =>
   intro h
   rw[zgQ,zgQ]
   by_cases hk:t.kind=1
   · rw[if_pos hk,if_pos hk]
     exact h _ (by rw[zdi,if_pos hk];simp)
   · rw[if_neg hk,if_neg hk]
     congr 1
     exact List.map_congr_left fun u hu=>ih u hu fun j hj=>h j (by rw[zdi,if_neg hk];exact List.any_eq_true.2 ⟨u,hu,hj⟩)
def ExtA(s1 s2:List Assign):Prop:=∃ u,s2=s1++u
theorem ExtA.refl(s:List Assign):ExtA s s:=⟨[],by simp⟩
theorem ExtA.trans{a b c:List Assign}(h:ExtA a b)(g:ExtA b c):ExtA a c:=by
 obtain⟨u,rfl⟩:=h;obtain⟨v,rfl⟩:=g;exact⟨u++v,by simp⟩
theorem ExtA.look{a b:List Assign}(h:ExtA a b){i:Int}(hi:zq a i≠none):zq b i=zq a i:=by
 obtain⟨u,rfl⟩:=h
 rw[za2]
 cases hl:zq a i with
 |none=>exact absurd hl hi
 |some x=>rfl
theorem ExtA.has{a b:List Assign}(h:ExtA a b){i:Int}(hi:zq a i≠none):zq b i≠none:=by rw[h.look hi];exact hi
def Agr(s:List Assign)(θ:Int→Ty):Prop:=∀ i u,zq s i=some u→u=θ i
theorem Agr.snoc{s:List Assign}{θ:Int→Ty}(h:Agr s θ){i:Int}{t:Ty}(e:θ i=t):Agr (s++[⟨i,t⟩]) θ:=by
 intro j u hu
 rw[za2]at hu
 cases hl:zq s j with
 | some x =>
   rw[hl]at hu
   have e:x=u:=by simpa using hu
   exact e ▸ h j x hl
 | none =>
   rw[hl]at hu
   simp only[Option.none_or,zq]at hu
   split at hu
   · rename_i e2;cases hu;subst e2;exact e.symm
   · cases hu
end Go.J
/- Comparing types: a model,and that it says 0 at equal types alone. -/
namespace Go.J
open Enc (enc)
theorem ltNs_cons{a b:Nat}{l m:List Nat}:ltNs (a::l) (b::m)=(decide (a<b)||(decide (a=b)&&ltNs l m)):=by
 show bi (Nat.blt a b) true (et (Nat.beq a b) (ltNs l m))=_
 rw[Bool.eq_iff_iff]
 simp only[zaq,Bool.or_eq_true,Bool.and_eq_true,decide_eq_true_eq]
 by_cases h:Nat.blt a b=true
 · simp[h,blt_true.1 h]
 · have h2:¬ a<b:=fun e=>h (blt_true.2 e)
   simp[h,h2,et_true,beq_true]
theorem ltNs_irr:∀ l:List Nat,ltNs l l=false:=by
 intro l
 induction l with
 |nil=>rfl
 |cons a l ih=>rw[ltNs_cons,ih];simp
def cmpI(a b:Int):Int:=if a<b then -1 else if a>b then 1 else 0
def cmpS(a b:List Nat):Int:=if ltNs a b=true then -1 else if a=b then 0 else 1
theorem cmpI_zero{a b:Int}:cmpI a b=0↔a=b:=by
 unfold cmpI
 split
 · constructor
   · intro h;cases h
   · omega
 · split
   · constructor
     · intro h;cases h
     · omega
   · constructor
     · intro _;omega
     · intro _;rfl
theorem cmpS_zero{a b:List Nat}:cmpS a b=0↔a=b:=by
 unfold cmpS
 constructor
 · intro h
   split at h
   · cases h
   · split at h
     · assumption
     · cases h
 · intro h
   subst h
   rw[ltNs_irr];simp
def nzM:List Int→Int
 | []=>0
 |a::l=>if a≠0 then a else nzM l
theorem nzM_zero:∀ {l:List Int},nzM l=0↔∀ a∈l,a=0:=by
 intro l
 induction l with
 |nil=>simp[nzM]
 | cons a l ih =>
   rw[nzM]
   by_cases h:a=0
   · rw[if_neg (by simpa using h),ih];simp[h]
   · rw[if_pos h]
     constructor
     · intro e;exact absurd e h
     · intro e;exact e a (List.mem_cons_self ..)
def headC(a b:Ty):List Int:=[cmpI a.kind b.kind,cmpS a.name b.name,cmpI a.id b.id,cmpI a.home b.home,cmpI (a.args.length:Int) (b.args.length:Int)]
mutual
def zlN:Ty→Ty→Int
 |.mk k n i h l,b=>if nzM (headC (.mk k n i h l) b)≠0 then nzM (headC (.mk k n i h l) b)else zjf l b.args
def zjf:List Ty→List Ty→Int
 | [],[]=>0
 | [],_::_=>-1
 |_::_,[]=>1
 |a::l,b::m=>if zlN a b≠0 then zlN a b else zjf l m
end
theorem cmpTy_eq(a b:Ty):zlN a b=if nzM (headC a b)≠0 then nzM (headC a b)else zjf a.args b.args:=by
 cases a;rw[zlN];simp only[Ty.args_mk]
theorem cmpTy_zero {a:Ty}:∀ {b:Ty},zlN a b=0↔a=b:=by
 induction a using Ty.ind with
 | h a ih =>
   intro b
   have ihl:∀ l:List Ty,(∀ u∈l,u∈a.args)→∀ m,zjf l m=0↔l=m:=by
    intro l
    induction l with
    |nil=>intro _ m;cases m<;>simp[zjf]
    | cons u l ihl =>
      intro hs m
      cases m with
      |nil=>simp[zjf]
      | cons v m =>
        rw[zjf]
        have h1:=ih u (hs u (List.mem_cons_self ..)) (b:=v)
        have h2:=ihl (fun w hw=>hs w (List.mem_cons_of_mem _ hw)) m
        by_cases h:zlN u v=0
        · rw[if_neg (by simpa using h),h2,h1.1 h];simp
        · rw[if_pos h]
          constructor
          · intro e;exact absurd e h
          · intro e;rw[List.cons.injEq]at e;exact absurd (h1.2 e.1) h
   rw[cmpTy_eq,Ty.eq_iff]
   have hz:nzM (headC a b)=0↔a.kind=b.kind∧a.name=b.name∧a.id=b.id∧a.home=b.home∧a.args.length=b.args.length:=by
    rw[nzM_zero]
    simp only[headC,List.mem_cons,List.not_mem_nil,or_false,forall_eq_or_imp,forall_eq,cmpI_zero,cmpS_zero]
    simp
    intros
    omega
   by_cases h:nzM (headC a b)=0
   · rw[if_neg (by simpa using h),ihl a.args (fun _ h=>h)]
     obtain⟨h1,h2,h3,h4,_⟩:=hz.1 h
     exact⟨fun e=>⟨h1,h2,h3,h4,e⟩,fun e=>e.2.2.2.2⟩
   · rw[if_pos h]
     constructor
     · intro e;exact absurd e h
     · rintro ⟨h1,h2,h3,h4,h5⟩
       exact absurd (hz.2 ⟨h1,h2,h3,h4,by rw[h5]⟩) h
end Go.J
/- The most special common generalization: the model of lattice.common,and what it is. -/
namespace Go.J
open Enc (enc)
def ixP(L:List Pair)(a b:Ty):Option Nat:=L.findIdx? fun p=>decide (p.a=a)&&decide (p.b=b)
mutual
def cmM:Ty→Ty→List Pair→Ty×List Pair
 | .mk k n i h l,b,L=>if (Ty.mk k n i h l).same b=true∧k≠1 then (.mk k n i h (cmL l b.args L).1,(cmL l b.args L).2)else
   match ixP L (.mk k n i h l) b with
   |some j=>(zD (j:Int),L)
   |none=>(zD (L.length:Int),L++[⟨.mk k n i h l,b⟩])
def cmL:List Ty→List Ty→List Pair→List Ty×List Pair
 |a::l,b::m,L=>((cmM a b L).1::(cmL l m (cmM a b L).2).1,(cmL l m (cmM a b L).2).2)
 |_,_,L=>([],L)
end
mutual
def gnM(L:List Pair):Ty→Ty→Ty
 |.mk k n i h l,b=>if (Ty.mk k n i h l).same b=true∧k≠1 then .mk k n i h (gnL L l b.args)else zD (((ixP L (.mk k n i h l) b).getD 0:Nat):Int)
def gnL(L:List Pair):List Ty→List Ty→List Ty
 |a::l,b::m=>gnM L a b::gnL L l m
 |_,_=>[]
end
mutual
def Cov(L:List Pair):Ty→Ty→Prop
 |.mk k n i h l,b=>((Ty.mk k n i h l).same b=true∧k≠1→CovL L l b.args)∧(¬ ((Ty.mk k n i h l).same b=true∧k≠1)→ixP L (.mk k n i h l) b≠none)
def CovL(L:List Pair):List Ty→List Ty→Prop
 |a::l,b::m=>Cov L a b∧CovL L l m
 |_,_=>True
end
end Go.J
/- Types that chapter 15's laws make: their sizes,and what substitutions make of them. -/
namespace Go.J
open Enc (enc)
structure Nc(B:Nat)(t:Ty):Prop where
 pl:t.vplain=true
 ok:t.ok=true
 sz:t.size≤B
theorem Nc.mono{B C:Nat}{t:Ty}(h:Nc B t)(hle:B≤C):Nc C t:=⟨h.pl,h.ok,Nat.le_trans h.sz hle⟩
theorem nc_var{B:Nat}(i:Int)(h:1≤B):Nc B (zD i):=⟨zW i,by simp[zD,Ty.ok,Ty.oks],by simpa [zD,Ty.size,Ty.sizes]using h⟩
theorem nc_rigid{B:Nat}(a b:Int)(h:1≤B):Nc B (zbG a b):=⟨by simp[zbG,Ty.vplain,Ty.vplains],by simp[zbG,Ty.ok,Ty.oks],by simpa [zbG,Ty.size,Ty.sizes]using h⟩
theorem typeM_okT{D:List Decl}(hD:DOk3 D){Lv:List Ty}(hl:∀ l∈Lv,l.ok=true)(d:Nat)(t:Tp):(typeM d t D Lv).2.ok=true :=
 zlk (P:=fun t=>t.ok=true) hl (by decide) (fun dd hdd l hlen hx=>Ty.ok_iff.2 ⟨by have:=hD dd hdd;show l.length≤10000;omega,hx⟩)
  (fun a b h1 h2=>Ty.ok_iff.2 ⟨by show ([a,b]:List Ty).length≤10000;simp,fun x hx=>by
    have hx:x∈([a,b]:List Ty):=hx
    simp only[List.mem_cons,List.not_mem_nil,or_false]at hx
    rcases hx with rfl|rfl
    · exact h1
    · exact h2⟩) d t
theorem typeM_nc{D:List Decl}(hD:DOk3 D){Lv:List Ty}(hl:∀ l∈Lv,Nc 1 l)(d:Nat)(t:Tp){B:Nat}(hB:2 ^ (d+1)≤B+1):Nc B (typeM d t D Lv).2 :=
 ⟨typeM_vplain (fun l h=>(hl l h).pl) d t,typeM_okT hD (fun l h=>(hl l h).ok) d t,by have:=typeM_size hD (fun l h=>(hl l h).sz) d t;omega⟩
theorem varTs_nc(n:Nat):∀ l∈zbj n,Nc 1 l:=by
 intro l hl
 obtain⟨i,_,rfl⟩:=List.mem_map.1 hl
 exact nc_var _ (Nat.le_refl _)
theorem leaves_nc{n:Nat}{u:Ty}(hu:Nc 1 u):∀ l∈zbj n++[u],Nc 1 l:=by
 intro l hl
 rcases List.mem_append.1 hl with hl|hl
 · exact varTs_nc n l hl
 · rw[List.mem_singleton.1 hl];exact hu
def madeX(t:Tp)(D:List Decl):Tp×Ty:=typeM 2 t D (zbj 3++[zbG 0 0])
def madeM (t:Tp) (D:List Decl):Ty×Ty×Ty×Tp :=
 let x:=madeX t D
 let s1:=substM x.1 D 3 3
 let s2:=substM s1.1 D 3 3
 let c:=s2.1.next 3
 if c.2=0 then
  let y:=typeM 2 c.1 D (zbj 3++[zbG 0 1])
  (x.2.repl s1.2,y.2,x.2,y.1)
 else (x.2.repl s1.2,x.2.repl s2.2,x.2,c.1)
end Go.J
