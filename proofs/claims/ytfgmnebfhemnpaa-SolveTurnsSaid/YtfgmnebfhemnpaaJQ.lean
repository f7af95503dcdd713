import Derived.Test.YtfgmnebfhemnpaaJN
import Derived.Test.YtfgmnebfhemnpaaJI
import Derived.Test.YtfgmnebfhemnpaaJL
set_option linter.all false
noncomputable section
/- Matching of types: the model of lattice.match,and what it finds. -/
namespace Go.J
open Enc (enc)
theorem lookA_mem{s:List Assign}{i:Int}{t:Ty}(h:lookA s i=some t):∃ a∈s,a.type=t:=by
 induction s with
 |nil=>cases h
 | cons a s ih =>
   rw[lookA]at h
   split at h
   · cases h;exact⟨a,List.mem_cons_self ..,rfl⟩
   · obtain⟨b,hb,e⟩:=ih h
     exact⟨b,List.mem_cons_of_mem _ hb,e⟩
def hasA(s:List Assign)(i:Int):Bool:=s.any fun a=>decide (a.id=i)
theorem hasA_iff{s:List Assign}{i:Int}:hasA s i=true↔lookA s i≠none:=by
 induction s with
 |nil=>simp[hasA,lookA]
 | cons a s ih =>
   simp only[hasA,List.any_cons,lookA]at ih ⊢
   by_cases h:a.id=i
   · simp[h]
   · simp[h,ih]
def Ty.same(a b:Ty):Bool:=decide (a.kind=b.kind)&&decide (a.name=b.name)&&decide (a.id=b.id)&&decide (a.home=b.home)&&decide (a.args.length=b.args.length)
theorem same_iff{a b:Ty}:a.same b=true↔a.kind=b.kind∧a.name=b.name∧a.id=b.id∧a.home=b.home∧a.args.length=b.args.length:=by
 simp[Ty.same,and_assoc]
mutual
def mtM:Ty→Ty→List Assign→List Assign×Bool
 | .mk k n i h l,t,s=>if k=1 then (if hasA s i then (s,decide ((Ty.mk k n i h l).repl s=t))else (s++[⟨i,t⟩],true))
   else if (Ty.mk k n i h l).same t then mtL l t.args s else (s,false)
def mtL:List Ty→List Ty→List Assign→List Assign×Bool
 |p::l,t::m,s=>if (mtM p t s).2 then mtL l m (mtM p t s).1 else ((mtM p t s).1,false)
 |_,_,s=>(s,true)
end
theorem mtM_eq(p t:Ty)(s:List Assign):mtM p t s=if p.kind=1 then (if hasA s p.id then (s,decide (p.repl s=t))else (s++[⟨p.id,t⟩],true))else if p.same t then mtL p.args t.args s else (s,false):=by
 cases p;rw[mtM];simp only[Ty.kind_mk,Ty.id_mk,Ty.args_mk]
mutual
def Ty.app(θ:Int→Ty):Ty→Ty
 |.mk k n i h l=>if k=1 then θ i else .mk k n i h (Ty.apps θ l)
def Ty.apps(θ:Int→Ty):List Ty→List Ty
 | []=>[]
 |t::l=>Ty.app θ t::Ty.apps θ l
end
theorem apps_eq(θ:Int→Ty)(l:List Ty):Ty.apps θ l=l.map (Ty.app θ):=by
 induction l with
 |nil=>simp[Ty.apps]
 |cons t l ih=>simp[Ty.apps,ih]
theorem app_eq(θ:Int→Ty)(t:Ty):t.app θ=if t.kind=1 then θ t.id else .mk t.kind t.name t.id t.home (t.args.map (Ty.app θ)):=by
 cases t;simp only[Ty.app,Ty.kind_mk,Ty.name_mk,Ty.id_mk,Ty.home_mk,Ty.args_mk,apps_eq]
def fnA(s:List Assign)(i:Int):Ty:=(lookA s i).getD (tVar i)
theorem repl_app(s:List Assign)(t:Ty):t.vplain=true→t.repl s=t.app (fnA s):=by
 induction t using Ty.ind with
 | h t ih =>
   intro hp
   rw[repl_eq,app_eq]
   split
   · rename_i hk
     rw[vplain_var hp hk];rfl
   · congr 1
     exact List.map_congr_left fun u hu=>ih u hu (vplains_iff.1 (vplain_args hp) u hu)
theorem app_id(t:Ty):t.vplain=true→t.app tVar=t:=by
 induction t using Ty.ind with
 | h t ih =>
   intro hp
   rw[app_eq]
   split
   · rename_i hk
     exact(vplain_var hp hk).symm
   · rw[List.map_congr_left (g:=id) fun u hu=>ih u hu (vplains_iff.1 (vplain_args hp) u hu)]
     simp
theorem app_app(θ η:Int→Ty)(t:Ty):(t.app θ).app η=t.app fun i=>(θ i).app η:=by
 induction t using Ty.ind with
 | h t ih =>
   rw[app_eq θ t,app_eq _ t]
   by_cases hk:t.kind=1
   · rw[if_pos hk,if_pos hk]
   · rw[if_neg hk,if_neg hk,app_eq]
     simp only[Ty.kind_mk,if_neg hk,Ty.name_mk,Ty.id_mk,Ty.home_mk,Ty.args_mk,List.map_map]
     congr 1
     exact List.map_congr_left fun u hu=>ih u hu
theorem app_same{θ:Int→Ty}{t:Ty}(hk:t.kind≠1):t.same (t.app θ)=true:=by
 rw[app_eq,if_neg hk,same_iff];simp
mutual
def Ty.occ(j:Int):Ty→Bool
 |.mk k _ i _ l=>if k=1 then decide (i=j)else Ty.occs j l
def Ty.occs(j:Int):List Ty→Bool
 | []=>false
 |t::l=>Ty.occ j t||Ty.occs j l
end
theorem occs_eq(j:Int)(l:List Ty):Ty.occs j l=l.any (Ty.occ j):=by
 induction l with
 |nil=>simp[Ty.occs]
 |cons t l ih=>simp[Ty.occs,ih]
theorem occ_eq(j:Int)(t:Ty):t.occ j=if t.kind=1 then decide (t.id=j)else t.args.any (Ty.occ j):=by
 cases t;simp only[Ty.occ,Ty.kind_mk,Ty.id_mk,Ty.args_mk,occs_eq]
theorem app_congr{θ η:Int→Ty}(t:Ty):(∀ j,t.occ j=true→θ j=η j)→t.app θ=t.app η:=by
 induction t using Ty.ind with
 | h t ih =>
   intro h
   rw[app_eq,app_eq]
   by_cases hk:t.kind=1
   · rw[if_pos hk,if_pos hk]
     exact h _ (by rw[occ_eq,if_pos hk];simp)
   · rw[if_neg hk,if_neg hk]
     congr 1
     exact List.map_congr_left fun u hu=>ih u hu fun j hj=>h j (by rw[occ_eq,if_neg hk];exact List.any_eq_true.2 ⟨u,hu,hj⟩)
def ExtA(s1 s2:List Assign):Prop:=∃ u,s2=s1++u
theorem ExtA.refl(s:List Assign):ExtA s s:=⟨[],by simp⟩
theorem ExtA.trans{a b c:List Assign}(h:ExtA a b)(g:ExtA b c):ExtA a c:=by
 obtain⟨u,rfl⟩:=h;obtain⟨v,rfl⟩:=g;exact⟨u++v,by simp⟩
theorem ExtA.look{a b:List Assign}(h:ExtA a b){i:Int}(hi:lookA a i≠none):lookA b i=lookA a i:=by
 obtain⟨u,rfl⟩:=h
 rw[lookA_app]
 cases hl:lookA a i with
 |none=>exact absurd hl hi
 |some x=>rfl
theorem ExtA.has{a b:List Assign}(h:ExtA a b){i:Int}(hi:lookA a i≠none):lookA b i≠none:=by rw[h.look hi];exact hi
def Agr(s:List Assign)(θ:Int→Ty):Prop:=∀ i u,lookA s i=some u→u=θ i
theorem Agr.snoc{s:List Assign}{θ:Int→Ty}(h:Agr s θ){i:Int}{t:Ty}(e:θ i=t):Agr (s++[⟨i,t⟩]) θ:=by
 intro j u hu
 rw[lookA_app]at hu
 cases hl:lookA s j with
 | some x =>
   rw[hl]at hu
   have e:x=u:=by simpa using hu
   exact e ▸ h j x hl
 | none =>
   rw[hl]at hu
   simp only[Option.none_or,lookA]at hu
   split at hu
   · rename_i e2;cases hu;subst e2;exact e.symm
   · cases hu
theorem mt_cpl {θ:Int→Ty} {p:Ty}:∀ {s:List Assign},p.vplain=true→Agr s θ→(mtM p (p.app θ) s).2=true∧Agr (mtM p (p.app θ) s).1 θ:=by
 induction p using Ty.ind with
 | h p ih =>
   intro s hp ha
   have ihl:∀ (l:List Ty),(∀ u∈l,u∈p.args)→∀ (s:List Assign),Agr s θ→(mtL l (l.map (Ty.app θ)) s).2=true∧Agr (mtL l (l.map (Ty.app θ)) s).1 θ:=by
    intro l
    induction l with
    |nil=>intro _ s h;rw[List.map_nil,mtL];exact⟨rfl,h⟩;simp
    | cons u l ihl =>
      intro hsub s h
      have hu:=hsub u (List.mem_cons_self ..)
      obtain⟨h1,h2⟩:=ih u hu (vplains_iff.1 (vplain_args hp) u hu) h
      rw[List.map_cons,mtL,if_pos h1]
      exact ihl (fun v hv=>hsub v (List.mem_cons_of_mem _ hv)) _ h2
   rw[mtM_eq]
   by_cases hk:p.kind=1
   · rw[if_pos hk]
     by_cases hh:hasA s p.id=true
     · rw[if_pos hh]
       refine⟨?_,ha⟩
       have h1:=hasA_iff.1 hh
       refine decide_eq_true ?_
       rw[repl_app _ _ hp,app_eq,if_pos hk,app_eq,if_pos hk]
       unfold fnA
       cases hl:lookA s p.id with
       |none=>exact absurd hl h1
       |some x=>exact ha _ _ hl
     · rw[if_neg hh]
       exact⟨rfl,ha.snoc (by rw[app_eq,if_pos hk])⟩
   · rw[if_neg hk,if_pos (app_same hk)]
     rw[app_eq,if_neg hk]
     exact ihl p.args (fun _ h=>h) s ha
theorem mt_len {p:Ty}:∀ {t:Ty} {s:List Assign},s.length≤(mtM p t s).1.length∧(mtM p t s).1.length≤s.length+p.size:=by
 induction p using Ty.ind with
 | h p ih =>
   intro t s
   have ihl:∀ (l:List Ty),(∀ u∈l,u∈p.args)→∀ (m:List Ty) (s:List Assign),s.length≤(mtL l m s).1.length∧(mtL l m s).1.length≤s.length+Ty.sizes l:=by
    intro l
    induction l with
    |nil=>intro _ m s;rw[mtL];exact⟨Nat.le_refl _,Nat.le_add_right ..⟩;simp
    | cons u l ihl =>
      intro hsub m s
      cases m with
      |nil=>rw[mtL];exact⟨Nat.le_refl _,Nat.le_add_right ..⟩;simp
      | cons t m =>
        have h1:=ih u (hsub u (List.mem_cons_self ..)) (t:=t) (s:=s)
        have h2:=ihl (fun v hv=>hsub v (List.mem_cons_of_mem _ hv)) m (mtM u t s).1
        rw[mtL,Ty.sizes]
        split
        · omega
        · show _≤(mtM u t s).1.length∧(mtM u t s).1.length≤_
          omega
   have h2:=ihl p.args (fun _ h=>h) t.args s
   have h3:=Ty.size_eq p
   rw[mtM_eq]
   split
   · split
     · exact⟨Nat.le_refl _,Nat.le_add_right ..⟩
     · simp;omega
   · split
     · omega
     · exact⟨Nat.le_refl _,Nat.le_add_right ..⟩
end Go.J
/- Comparing types: a model,and that it says 0 at equal types alone. -/
namespace Go.J
open Enc (enc)
theorem ltNs_cons{a b:Nat}{l m:List Nat}:ltNs (a::l) (b::m)=(decide (a<b)||(decide (a=b)&&ltNs l m)):=by
 show bi (Nat.blt a b) true (et (Nat.beq a b) (ltNs l m))=_
 rw[Bool.eq_iff_iff]
 simp only[bi_eq,Bool.or_eq_true,Bool.and_eq_true,decide_eq_true_eq]
 by_cases h:Nat.blt a b=true
 · simp[h,blt_true.1 h]
 · have h2:¬ a<b:=fun e=>h (blt_true.2 e)
   simp[h,h2,et_true,beq_true]
theorem ltNs_irr:∀ l:List Nat,ltNs l l=false:=by
 intro l
 induction l with
 |nil=>rfl
 |cons a l ih=>rw[ltNs_cons,ih];simp
def cmpI(a b:Int):Int:=if a<b then -1 else if a>b then 1 else 0
def cmpS(a b:List Nat):Int:=if ltNs a b=true then -1 else if a=b then 0 else 1
theorem cmpI_zero{a b:Int}:cmpI a b=0↔a=b:=by
 unfold cmpI
 split
 · constructor
   · intro h;cases h
   · omega
 · split
   · constructor
     · intro h;cases h
     · omega
   · constructor
     · intro _;omega
     · intro _;rfl
theorem cmpS_zero{a b:List Nat}:cmpS a b=0↔a=b:=by
 unfold cmpS
 constructor
 · intro h
   split at h
   · cases h
   · split at h
     · assumption
     · cases h
 · intro h
   subst h
   rw[ltNs_irr];simp
def nzM:List Int→Int
 | []=>0
 |a::l=>if a≠0 then a else nzM l
theorem nzM_zero:∀ {l:List Int},nzM l=0↔∀ a∈l,a=0:=by
 intro l
 induction l with
 |nil=>simp[nzM]
 | cons a l ih =>
   rw[nzM]
   by_cases h:a=0
   · rw[if_neg (by simpa using h),ih];simp[h]
   · rw[if_pos h]
     constructor
     · intro e;exact absurd e h
     · intro e;exact e a (List.mem_cons_self ..)
def headC(a b:Ty):List Int:=[cmpI a.kind b.kind,cmpS a.name b.name,cmpI a.id b.id,cmpI a.home b.home,cmpI (a.args.length:Int) (b.args.length:Int)]
mutual
def cmpTy:Ty→Ty→Int
 |.mk k n i h l,b=>if nzM (headC (.mk k n i h l) b)≠0 then nzM (headC (.mk k n i h l) b)else cmpTs l b.args
def cmpTs:List Ty→List Ty→Int
 | [],[]=>0
 | [],_::_=>-1
 |_::_,[]=>1
 |a::l,b::m=>if cmpTy a b≠0 then cmpTy a b else cmpTs l m
end
theorem cmpTy_eq(a b:Ty):cmpTy a b=if nzM (headC a b)≠0 then nzM (headC a b)else cmpTs a.args b.args:=by
 cases a;rw[cmpTy];simp only[Ty.args_mk]
theorem cmpTy_zero {a:Ty}:∀ {b:Ty},cmpTy a b=0↔a=b:=by
 induction a using Ty.ind with
 | h a ih =>
   intro b
   have ihl:∀ l:List Ty,(∀ u∈l,u∈a.args)→∀ m,cmpTs l m=0↔l=m:=by
    intro l
    induction l with
    |nil=>intro _ m;cases m<;>simp[cmpTs]
    | cons u l ihl =>
      intro hs m
      cases m with
      |nil=>simp[cmpTs]
      | cons v m =>
        rw[cmpTs]
        have h1:=ih u (hs u (List.mem_cons_self ..)) (b:=v)
        have h2:=ihl (fun w hw=>hs w (List.mem_cons_of_mem _ hw)) m
        by_cases h:cmpTy u v=0
        · rw[if_neg (by simpa using h),h2,h1.1 h];simp
        · rw[if_pos h]
          constructor
          · intro e;exact absurd e h
          · intro e;rw[List.cons.injEq]at e;exact absurd (h1.2 e.1) h
   rw[cmpTy_eq,Ty.eq_iff]
   have hz:nzM (headC a b)=0↔a.kind=b.kind∧a.name=b.name∧a.id=b.id∧a.home=b.home∧a.args.length=b.args.length:=by
    rw[nzM_zero]
    simp only[headC,List.mem_cons,List.not_mem_nil,or_false,forall_eq_or_imp,forall_eq,cmpI_zero,cmpS_zero]
    simp
    intros
    omega
   by_cases h:nzM (headC a b)=0
   · rw[if_neg (by simpa using h),ihl a.args (fun _ h=>h)]
     obtain⟨h1,h2,h3,h4,_⟩:=hz.1 h
     exact⟨fun e=>⟨h1,h2,h3,h4,e⟩,fun e=>e.2.2.2.2⟩
   · rw[if_pos h]
     constructor
     · intro e;exact absurd e h
     · rintro ⟨h1,h2,h3,h4,h5⟩
       exact absurd (hz.2 ⟨h1,h2,h3,h4,by rw[h5]⟩) h
end Go.J
/- The most special common generalization: the model of lattice.common,and what it is. -/
namespace Go.J
open Enc (enc)
def ixP(L:List Pair)(a b:Ty):Option Nat:=L.findIdx? fun p=>decide (p.a=a)&&decide (p.b=b)
mutual
def cmM:Ty→Ty→List Pair→Ty×List Pair
 | .mk k n i h l,b,L=>if (Ty.mk k n i h l).same b=true∧k≠1 then (.mk k n i h (cmL l b.args L).1,(cmL l b.args L).2)else
   match ixP L (.mk k n i h l) b with
   |some j=>(tVar (j:Int),L)
   |none=>(tVar (L.length:Int),L++[⟨.mk k n i h l,b⟩])
def cmL:List Ty→List Ty→List Pair→List Ty×List Pair
 |a::l,b::m,L=>((cmM a b L).1::(cmL l m (cmM a b L).2).1,(cmL l m (cmM a b L).2).2)
 |_,_,L=>([],L)
end
mutual
def gnM(L:List Pair):Ty→Ty→Ty
 |.mk k n i h l,b=>if (Ty.mk k n i h l).same b=true∧k≠1 then .mk k n i h (gnL L l b.args)else tVar (((ixP L (.mk k n i h l) b).getD 0:Nat):Int)
def gnL(L:List Pair):List Ty→List Ty→List Ty
 |a::l,b::m=>gnM L a b::gnL L l m
 |_,_=>[]
end
mutual
def Cov(L:List Pair):Ty→Ty→Prop
 |.mk k n i h l,b=>((Ty.mk k n i h l).same b=true∧k≠1→CovL L l b.args)∧(¬ ((Ty.mk k n i h l).same b=true∧k≠1)→ixP L (.mk k n i h l) b≠none)
def CovL(L:List Pair):List Ty→List Ty→Prop
 |a::l,b::m=>Cov L a b∧CovL L l m
 |_,_=>True
end
end Go.J
/- Types that chapter 15's laws make: their sizes,and what substitutions make of them. -/
namespace Go.J
open Enc (enc)
structure Nc(B:Nat)(t:Ty):Prop where
 pl:t.vplain=true
 ok:t.ok=true
 sz:t.size≤B
theorem Nc.mono{B C:Nat}{t:Ty}(h:Nc B t)(hle:B≤C):Nc C t:=⟨h.pl,h.ok,Nat.le_trans h.sz hle⟩
theorem nc_var{B:Nat}(i:Int)(h:1≤B):Nc B (tVar i):=⟨vplain_tVar i,by simp[tVar,Ty.ok,Ty.oks],by simpa [tVar,Ty.size,Ty.sizes]using h⟩
theorem nc_rigid{B:Nat}(a b:Int)(h:1≤B):Nc B (tRigid a b):=⟨by simp[tRigid,Ty.vplain,Ty.vplains],by simp[tRigid,Ty.ok,Ty.oks],by simpa [tRigid,Ty.size,Ty.sizes]using h⟩
theorem typeM_okT{D:List Decl}(hD:DOk3 D){Lv:List Ty}(hl:∀ l∈Lv,l.ok=true)(d:Nat)(t:Tp):(typeM d t D Lv).2.ok=true :=
 typeM_ind (P:=fun t=>t.ok=true) hl (by decide) (fun dd hdd l hlen hx=>Ty.ok_iff.2 ⟨by have:=hD dd hdd;show l.length≤10000;omega,hx⟩)
  (fun a b h1 h2=>Ty.ok_iff.2 ⟨by show ([a,b]:List Ty).length≤10000;simp,fun x hx=>by
    have hx:x∈([a,b]:List Ty):=hx
    simp only[List.mem_cons,List.not_mem_nil,or_false]at hx
    rcases hx with rfl|rfl
    · exact h1
    · exact h2⟩) d t
theorem typeM_nc{D:List Decl}(hD:DOk3 D){Lv:List Ty}(hl:∀ l∈Lv,Nc 1 l)(d:Nat)(t:Tp){B:Nat}(hB:2 ^ (d+1)≤B+1):Nc B (typeM d t D Lv).2 :=
 ⟨typeM_vplain (fun l h=>(hl l h).pl) d t,typeM_okT hD (fun l h=>(hl l h).ok) d t,by have:=typeM_size hD (fun l h=>(hl l h).sz) d t;omega⟩
theorem varTs_nc(n:Nat):∀ l∈varTs n,Nc 1 l:=by
 intro l hl
 obtain⟨i,_,rfl⟩:=List.mem_map.1 hl
 exact nc_var _ (Nat.le_refl _)
theorem leaves_nc{n:Nat}{u:Ty}(hu:Nc 1 u):∀ l∈varTs n++[u],Nc 1 l:=by
 intro l hl
 rcases List.mem_append.1 hl with hl|hl
 · exact varTs_nc n l hl
 · rw[List.mem_singleton.1 hl];exact hu
def madeX(t:Tp)(D:List Decl):Tp×Ty:=typeM 2 t D (varTs 3++[tRigid 0 0])
def madeM (t:Tp) (D:List Decl):Ty×Ty×Ty×Tp :=
 let x:=madeX t D
 let s1:=substM x.1 D 3 3
 let s2:=substM s1.1 D 3 3
 let c:=s2.1.next 3
 if c.2=0 then
  let y:=typeM 2 c.1 D (varTs 3++[tRigid 0 1])
  (x.2.repl s1.2,y.2,x.2,y.1)
 else (x.2.repl s1.2,x.2.repl s2.2,x.2,c.1)
end Go.J
