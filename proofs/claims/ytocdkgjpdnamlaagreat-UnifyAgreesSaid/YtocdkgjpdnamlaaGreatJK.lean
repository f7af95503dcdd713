import Derived.Test.YtocdkgjpdnamlaaGreatJI
set_option linter.all false
noncomputable section
/- Calls that work on objects of their caller: run on a small heap that holds these objects alone. -/
namespace Go.J
open Enc (enc)
def rU(H:PT Obj):List (Nat×Obj)->PT Obj
 | []=>H
 |p::l=>(rU H l).set p.1 p.2
theorem DK{H:PT Obj}{id:Nat}:∀ {l:List (Nat×Obj)},(∀ p∈l,p.1≠id)->(rU H l).get id=H.get id:=by
 intro l
 induction l with
 |nil=>intro _;rfl
 | cons p l ih =>
   intro h;show ((rU H l).set p.1 p.2).get id=_;rw[PT.bD,if_neg (fun e=>h p (List.mem_cons_self ..) e.symm)]
   grind
theorem Oo{H:PT Obj}{p:Nat×Obj}:∀ {l:List (Nat×Obj)},(l.map Prod.fst).Nodup->p∈l->(rU H l).get p.1=some p.2:=by
 intro l
 induction l with
 |nil=>intro _ h;cases h
 | cons q l ih =>
   intro hnd h;rw[List.map_cons,List.nodup_cons]at hnd;show ((rU H l).set q.1 q.2).get p.1=_;rw[PT.bD]
   grind
theorem xx{α:Type}{p:Nat×α}:∀ {l:List (Nat×α)},(l.map Prod.fst).Nodup->p∈l->(di l).get p.1=some p.2:=by
 intro l
 induction l with
 |nil=>intro _ h;cases h
 | cons q l ih =>
   intro hnd h;rw[List.map_cons,List.nodup_cons]at hnd;show ((di l).set q.1 q.2).get p.1=_;rw[PT.bD]
   grind
section
variable {ρ:Nat->Value}{P:Program}{w w':World}{F F':Nat->Prop}{μ μ':Nat->Nat->Option MI}
end
def aj(k:Nat)(v0:V)(OL:List (Nat×Obj))(v:V)(hs:HS):Prop:=∃ v1,(v1=v0\/dL v1=v0)/\Less k (PT.leaf.set 0 v) hs (di [(0,v1)]) { H:=di OL,n:=0,log:=[] }
section
variable {ρ:Nat->Value}{E:Env}{f:FuncId}{fn:Func}{sc:SC}{vs0:List V}{T:PT V}{v0:V}{OL OL':List (Nat×Obj)}{k k':Nat}
def news(n k:Nat)(π:Nat->Nat)(j:Nat):Nat:=if j<k then π j else n+(j-k)
def sK(hs:HS)(k k':Nat)(π:Nat->Nat)(OL':List (Nat×Obj)):HS :=
 { H:=rU hs.H (OL'.map fun p=>(news hs.n k π p.1,p.2.ren (news hs.n k π))),n:=hs.n+(k'-k),log:=(OL'.map fun p=>news hs.n k π p.1)++hs.log }
def MZ(k:Nat)(v0:V)(OL:List (Nat×Obj))(v:V)(hs:HS):Prop:=∃ q,iE v hs=some q/\aj k v0 OL q.1 q.2
theorem zFB{P:Program}{s:Start}{K:V->HS->Prop}{k:Nat}{v0:V}{OL:List (Nat×Obj)}(hK:∀ v hs,K v hs->aj k v0 OL v hs\/MZ k v0 OL v hs){e:Ending}{w:World}(h:EA ρ P s K e w):EA ρ P s (aj k v0 OL) e w:=by
 cases e with
 |panicked c=>exact h
 |outgrown=>exact h
 | returned x =>
   obtain⟨v,hs',F',μ',q,hL,hR,hD,hx⟩:=h;rcases hK _ _ q with h|⟨p,hp,hg⟩
   . exact⟨v,hs',F',μ',h,hL,hR,hD,hx⟩
   . obtain⟨F2,R2,f2,_,P2⟩:=oF hR hx hp;exact⟨p.1,p.2,F2,μ',hg,hL.step f2,R2,fun id g hg=>(jM hp).hm id (hD id g hg),.pure P2⟩
theorem Yg {K:V->HS->Prop} (hf:E.P.funcs[f]?=some fn) (hb:fn.body.bind aB=some sc) (he:iI fn.ntmps vs0 0 .leaf=some T)
 (h:Ls ρ E k fn.ntmps sc T { H:=di OL,n:=k,log:=[] } (Leaves E.P fn K)) (hK:∀ (s:Start) (e:Ending) (w:World),EA ρ E.P s K e w->EA ρ E.P s (aj k v0 OL') e w)
 (zrb:OL.map Prod.fst=List.range k) (Mg:OL'.map Prod.fst=List.range k') (hk:k<=k') (hin:∀ p∈OL,p.2.in (dom OL)=true) (hin':∀ p∈OL',p.2.in (dom OL')=true/\p.2.fz=false) (hv0:v0.nk (dom OL')=true) (ha0:∀ v∈vs0,v.nk (dom OL)=true)
 {hs:HS} {π:Nat->Nat} (hπ:∀ i j,i<k->j<k->π i=π j->i=j) (hH:∀ p∈OL,hs.H.get (π p.1)=some (p.2.ren π)) (hn:∀ i,i<k'-k->hs.H.get (hs.n+i)=none) (hpn:∀ i,i<k->π i<hs.n) :
 aA ρ E.P f (vs0.map (V.ren π)) hs (v0.ren (news hs.n k π)) (sK hs k k' π OL'):=by
 have hd:∀ i,dom OL i=true↔i<k:=by
  intro i;rw[<- List.mem_range,<- zrb];unfold dom;rw[List.any_eq_true];exact⟨fun ⟨p,h1,h2⟩=>List.mem_map.2 ⟨p,h1,beq_true.1 h2⟩,fun h=>let ⟨p,h1,h2⟩:=List.mem_map.1 h;⟨p,h1,beq_true.2 h2⟩⟩
 have hd':∀ i,dom OL' i=true↔i<k':=by
  intro i;rw[<- List.mem_range,<- Mg];unfold dom;rw[List.any_eq_true];exact⟨fun ⟨p,h1,h2⟩=>List.mem_map.2 ⟨p,h1,beq_true.1 h2⟩,fun h=>let ⟨p,h1,h2⟩:=List.mem_map.1 h;⟨p,h1,beq_true.2 h2⟩⟩
 have hnd:(OL.map Prod.fst).Nodup:=by rw[zrb];exact List.nodup_range
 have hnd':(OL'.map Prod.fst).Nodup:=by rw[Mg];exact List.nodup_range
 have hget:∀ i o,(di OL).get i=some o->(i,o)∈OL:=fun i o h=>yG h
 have zC7:∀ i o,(di OL').get i=some o->(i,o)∈OL':=fun i o h=>yG h
 have hex:∀ i,i<k->∃ o,(i,o)∈OL:=by
  intro i hi;have:i∈OL.map Prod.fst:=by rw[zrb];exact List.mem_range.2 hi
  obtain⟨p,hp,rfl⟩:=List.mem_map.1 this;exact⟨p.2,hp⟩
 have hex':∀ i,i<k'->∃ o,(i,o)∈OL':=by
  intro i hi;have:i∈OL'.map Prod.fst:=by rw[Mg];exact List.mem_range.2 hi
  obtain⟨p,hp,rfl⟩:=List.mem_map.1 this;exact⟨p.2,hp⟩
 have hlt:∀ p∈OL,p.1<k:=fun p hp=>List.mem_range.1 (by rw[<- zrb];exact List.mem_map.2 ⟨p,hp,rfl⟩)
 have hlt':∀ p∈OL',p.1<k':=fun p hp=>List.mem_range.1 (by rw[<- Mg];exact List.mem_map.2 ⟨p,hp,rfl⟩)
 have zul:∀ j,j<k->news hs.n k π j=π j:=fun j hj=>if_pos hj
 have zyq:∀ j,k<=j->news hs.n k π j=hs.n+(j-k):=fun j hj=>if_neg (by omega)
 have zB5:∀ i j,i<k'->j<k'->news hs.n k π i=news hs.n k π j->i=j:=by
  intro i j hi hj e;by_cases h1:i<k<;>by_cases h2:j<k
  . rw[zul i h1,zul j h2]at e;exact hπ i j h1 h2 e
  . rw[zul i h1,zyq j (by omega)]at e;have:=hpn i h1;omega
  . rw[zyq i (by omega),zul j h2]at e;have:=hpn j h2;omega
  . rw[zyq i (by omega),zyq j (by omega)]at e;omega
 intro X w F μ xs hR hD hO hA
 let μ0:Nat->Nat->Option MI:=fun i g=>if i<k then μ (π i) g else none
 have zc7:∀ i,i<k->∀ g,μ0 i g=μ (π i) g:=fun i hi g=>if_pos hi
 have zuR:∀ i,¬ i<k->∀ g,μ0 i g=none:=fun i hi g=>if_neg hi
 have hR0:R ρ w F μ0 E.P { H:=di OL,n:=k,log:=[] }:=by
  refine⟨fun i g m hm=>?_,hR.sI,fun i o ho=>?_,fun i j o o' m m' ho ho' hm hm' hb=>?_,fun i o ho g hg=>?_⟩
  . by_cases hi:i<k
    . rw[zc7 i hi]at hm;exact hR.lt _ _ _ hm
    . rw[zuR i hi]at hm;cases hm
  . have hp:=hget i o ho;have hi:=hlt _ hp;refine oU.anew (π:=π) (A:=dom OL) (hR.obj _ _ (hH _ hp)) (hin _ hp) (fun g m hm=>by rw[zc7 i hi]at hm;exact hm) (fun j hj g m hm=>by rw[zc7 j ((hd j).1 hj)];exact hm)
  . have hp:=hget i o ho;have hp':=hget j o' ho';rw[zc7 i (hlt _ hp)]at hm;rw[zc7 j (hlt _ hp')]at hm';exact hπ i j (hlt _ hp) (hlt _ hp') (hR.inj _ _ _ _ m m' (hH _ hp) (hH _ hp') (by rw[Obj.jP];exact hm) (by rw[Obj.jP];exact hm') hb)
  . have hp:=hget i o ho;rw[zc7 i (hlt _ hp)];exact hR.nU _ _ (hH _ hp) g (by rw[Obj.jP];exact hg)
 have hown0:∀ b,nV { H:=di OL,n:=k,log:=[] } μ0 b->∃ i o m,(i,o)∈OL/\o.fz=false/\μ (π i) o.gen=some m/\m.b=b:=by
  rintro b ⟨i,o,m,ho,hz,hm,rfl⟩;have hp:=hget i o ho;rw[zc7 i (hlt _ hp)]at hm;exact⟨i,o,m,hp,hz,hm,rfl⟩
 have Uw:∀ b,nV { H:=di OL,n:=k,log:=[] } μ0 b->nV hs μ b:=by
  intro b hb;obtain⟨i,o,m,hp,hz,hm,rfl⟩:=hown0 b hb;exact⟨π i,o.ren π,m,hH _ hp,by rw[Obj.zcj];exact hz,by rw[Obj.jP];exact hm,rfl⟩
 have hL0:Loc ⟨nV { H:=di OL,n:=k,log:=[] } μ0,w,F,k,μ0⟩ w F μ0 { H:=di OL,n:=k,log:=[] } :=
  ⟨⟨rfl,rfl,rfl⟩,Nat.le_refl _,fun _ _ _=>rfl,fun _ h=>h,fun _ h=>.inl h,fun _ _ _ _ h=>h,fun b hb=>.inl hb,fun i hi=>by
    obtain⟨o,ho⟩:=hex i hi;show (di OL).get i≠none
    rw[xx hnd ho];simp,fun _ _ h=>h,fun i g m hm=>.inr ⟨i,g,m,hm,rfl⟩⟩
 have hD0:M0 μ0 { H:=di OL,n:=k,log:=[] }:=by
  intro i g hg;by_cases hi:i<k
  . obtain⟨o,ho⟩:=hex i hi;show (di OL).get i≠none;rw[xx hnd ho];simp
  . rw[zuR i hi]at hg;exact absurd rfl hg
 have zLC:Fq ρ w F μ0 vs0 xs:=by
  refine⟨by simpa using hA.1,fun i v hi=>?_⟩;obtain⟨x,hx,hr⟩:=hA.2 i (v.ren π) (by simp[hi]);exact⟨x,hx,hr.anew (A:=dom OL) (ha0 v (List.mem_of_getElem? hi)) fun j hj g m hm=>by rw[zc7 j ((hd j).1 hj)];exact hm⟩
 refine((Qd hf hb he h rfl hL0 hR0 hD0 zLC).mono fun e w' he=>hK _ e w' he).mono fun e w' he=>?_
 cases e with
 |panicked c=>exact he
 |outgrown=>exact he
 | returned x =>
   obtain⟨v,hs1,F1,μ1,⟨v1,hv1,hless⟩,hL1,g1,_,g2⟩:=he
   have hT1:fZ ρ w' F1 μ1 (PT.leaf.set 0 v) #[x]:=by
    intro t u hu;rw[PT.bD]at hu;split at hu
    . rename_i e;subst e;cases hu;exact⟨x,rfl,g2⟩
    . cases hu
   obtain⟨μ2,hL2,hR2,hD2,Uz⟩:=hless.state (s:=⟨nV { H:=di OL,n:=k,log:=[] } μ0,w,F,k,μ0⟩) hL1 g1 hT1;obtain⟨x',hx',hr2⟩:=Uz 0 v1 (by show ((PT.leaf.set 0 v1).get 0)=_;rw[PT.bD,if_pos rfl]);cases hx';have hr3:bR ρ w' F1 μ2 v0 x:=hv1.elim (fun e=>e ▸ hr2) fun e=>e ▸ hr2.norm
   have zRg:∀ i,¬ i<k'->∀ g,μ2 i g=none:=by
    intro i hi g;refine Classical.byContradiction fun hg=>?_
    have hne:=hD2 i g hg;obtain⟨o,ho⟩:=Option.ne_none_iff_exists'.1 hne;exact hi (hlt' _ (zC7 i o ho))
   let inv:Nat->Option Nat:=fun id=>(List.range k').find? fun j=>news hs.n k π j == id
   have hinv:∀ j,j<k'->inv (news hs.n k π j)=some j:=by
    intro j hj
    have h1:((List.range k').find? fun i=>news hs.n k π i == news hs.n k π j).isSome=true:=by
     rw[List.find?_isSome];exact⟨j,List.mem_range.2 hj,by simp⟩
    obtain⟨i,hi⟩:=Option.isSome_iff_exists.1 h1;show (List.range k').find? _=_;rw[hi];have h2:=List.find?_some hi;have h3:=List.mem_range.1 (List.mem_of_find?_eq_some hi);exact congrArg some (zB5 i j h3 hj (by simpa using h2))
   have Ho:∀ id j,inv id=some j->j<k'/\news hs.n k π j=id:=by
    intro id j h;exact⟨List.mem_range.1 (List.mem_of_find?_eq_some h),by simpa using List.find?_some h⟩
   let μ':Nat->Nat->Option MI:=fun id g=>match inv id with
    |some j=>μ2 j g
    |none=>μ id g
   have ZK:∀ j,j<k'->∀ g,μ' (news hs.n k π j) g=μ2 j g:=by
    intro j hj g;show (match inv (news hs.n k π j)with|some j=>μ2 j g|none=>_)=_;rw[hinv j hj]
   have zaK:∀ id,inv id=none->∀ g,μ' id g=μ id g:=by
    intro id hid g;show (match inv id with|some j=>μ2 j g|none=>_)=_;rw[hid]
   have hmm:∀ id g m,μ id g=some m->μ' id g=some m:=by
    intro id g m hm
    cases hi:inv id with
    |none=>rw[zaK id hi];exact hm
    | some j =>
      obtain⟨hj,rfl⟩:=Ho id j hi;rw[ZK j hj];by_cases hjk:j<k
      . rw[zul j hjk]at hm;exact hL2.mm j g m hjk (by show μ0 j g=_;rw[zc7 j hjk];exact hm)
      . rw[zyq j (by omega)]at hm;exfalso;rcases hD.1 (hs.n+(j-k)) g (by rw[hm];simp)with h1|h1
        . exact h1 (hn _ (by omega))
        . exact hD.2 _ (by omega) h1
   have hkeys:((OL'.map fun p=>(news hs.n k π p.1,p.2.ren (news hs.n k π))).map Prod.fst).Nodup:=by
    rw[List.map_map];have:(OL'.map (Prod.fst ∘ fun p=>(news hs.n k π p.1,p.2.ren (news hs.n k π))))=(OL'.map Prod.fst).map (news hs.n k π):=by rw[List.map_map];rfl
    rw[this,Mg];refine List.pairwise_map.2 (List.Pairwise.imp_of_mem (fun {a b} ha hb hne e=>hne (zB5 a b (List.mem_range.1 ha) (List.mem_range.1 hb) e)) List.nodup_range)
   have hin1:∀ j o,(j,o)∈OL'->(sK hs k k' π OL').H.get (news hs.n k π j)=some (o.ren (news hs.n k π)):=by
    intro j o hp;exact Oo (p:=(news hs.n k π j,o.ren (news hs.n k π))) hkeys (List.mem_map.2 ⟨(j,o),hp,rfl⟩)
   have hout:∀ id,inv id=none->(sK hs k k' π OL').H.get id=hs.H.get id:=by
    intro id hid;refine DK fun p hp e=>?_
    obtain⟨q,hq,rfl⟩:=List.mem_map.1 hp;have:=hinv q.1 (hlt' q hq);rw[show news hs.n k π q.1=id from e,hid]at this;cases this
   have hcase:∀ id o,(sK hs k k' π OL').H.get id=some o->(inv id=none/\hs.H.get id=some o)\/∃ j o0,j<k'/\news hs.n k π j=id/\(j,o0)∈OL'/\o=o0.ren (news hs.n k π):=by
    intro id o ho
    cases hi:inv id with
    |none=>rw[hout id hi]at ho;exact .inl ⟨rfl,ho⟩
    | some j =>
      obtain⟨hj,rfl⟩:=Ho id j hi;obtain⟨o0,h0⟩:=hex' j hj;rw[hin1 j o0 h0]at ho;cases ho;exact .inr ⟨j,o0,hj,rfl,h0,rfl⟩
   have hsep:∀ id o m,inv id=none->hs.H.get id=some o->μ id o.gen=some m->¬ nV { H:=di OL,n:=k,log:=[] } μ0 m.b:=by
    intro id o m hid ho hm hown;obtain⟨i,oi,mi,hp,hz,zq4,hb⟩:=hown0 _ hown;have e:=hR.inj _ _ _ _ mi m (hH _ hp) ho (by rw[Obj.jP];exact zq4) hm hb;have hi:=hlt _ hp;have:=hinv i (by omega);rw[zul i hi]at this;dsimp only at e;rw[e,hid]at this;cases this
   have zRK:∀ b,F b->w'.heap[b]?=w.heap[b]?:=fun b hb=>hL2.keep b (hR.sI b hb) (fun ho=>hR.kW hb (Uw b ho))
   have zRE:R ρ w' F1 μ' E.P (sK hs k k' π OL'):=by
    refine⟨fun id g m hm=>?_,hR2.sI,fun id o ho=>?_,fun id id' o o' m m' ho ho' hm hm' hb=>?_,fun id o ho g hg=>?_⟩
    . cases hi:inv id with
      |none=>rw[zaK id hi]at hm;exact Nat.lt_of_lt_of_le (hR.lt _ _ _ hm) hL2.size
      | some j =>
        obtain⟨hj,rfl⟩:=Ho id j hi;rw[ZK j hj]at hm;exact hR2.lt _ _ _ hm
    . rcases hcase id o ho with⟨hi,h1⟩|⟨j,o0,hj,rfl,h0,rfl⟩
      . refine(hR.obj id o h1).mono hL2.fm zRK hmm (fun m hm=>by rw[zaK id hi]at hm;exact hm) (fun m hm=>?_) (fun m hm _ hnF hF1=>?_)
        . exact hL2.keep m.b (hR.lt _ _ _ hm) (hsep id o m hi h1 hm)
        . rcases hL2.pQ m.b hF1 with h2|h2|h2
          . exact hnF h2
          . exact absurd (hR.lt _ _ _ hm) (Nat.not_lt.2 h2)
          . exact hsep id o m hi h1 hm h2
      . exact oU.back (A:=dom OL') (hR2.obj j o0 (xx (p:=(j,o0)) hnd' h0)) (hin' _ h0).1 (fun g m hm=>by rw[ZK j hj]at hm;exact hm) (fun i hi g m hm=>by rw[ZK i ((hd' i).1 hi)];exact hm)
    . have key:∀ (id':Nat) (o':Obj) (m m':MI) (j:Nat) (o0:Obj),j<k'->(j,o0)∈OL'->μ2 j o0.gen=some m->inv id'=none->hs.H.get id'=some o'->μ id' o'.gen=some m'->m.b=m'.b->False:=by
       intro id' o' m m' j o0 hj h0 hm hi ho' hm' hb;rcases hL2.own m.b ⟨j,o0,m,xx (p:=(j,o0)) hnd' h0,(hin' _ h0).2,hm,rfl⟩with h2|h2
       . rw[hb]at h2;exact hsep id' o' m' hi ho' hm' h2
       . rw[hb]at h2;exact absurd (hR.lt _ _ _ hm') (Nat.not_lt.2 h2)
      rcases hcase id o ho with⟨hi,h1⟩|⟨j,o0,hj,rfl,h0,rfl⟩<;>rcases hcase id' o' ho' with⟨hi',h1'⟩|⟨j',zKq,hj',rfl,h0',rfl⟩
      . rw[zaK id hi]at hm;rw[zaK id' hi']at hm';exact hR.inj _ _ _ _ m m' h1 h1' hm hm' hb
      . rw[zaK id hi]at hm;rw[Obj.jP,ZK j' hj']at hm';exact(key id o m' m j' zKq hj' h0' hm' hi h1 hm hb.symm).elim
      . rw[zaK id' hi']at hm';rw[Obj.jP,ZK j hj]at hm;exact(key id' o' m m' j o0 hj h0 hm hi' h1' hm' hb).elim
      . rw[Obj.jP,ZK j hj]at hm;rw[Obj.jP,ZK j' hj']at hm';rw[hR2.inj j j' o0 zKq m m' (xx (p:=(j,o0)) hnd' h0) (xx (p:=(j',zKq)) hnd' h0') hm hm' hb]
    . rcases hcase id o ho with⟨hi,h1⟩|⟨j,o0,hj,rfl,h0,rfl⟩
      . rw[zaK id hi];exact hR.nU id o h1 g hg
      . rw[ZK j hj];exact hR2.nU j o0 (xx (p:=(j,o0)) hnd' h0) g (by rw[Obj.jP]at hg;exact hg)
   refine⟨F1,μ',zRE,hr3.back (A:=dom OL') hv0 (fun i hi g m hm=>by rw[ZK i ((hd' i).1 hi)];exact hm),?_⟩;refine⟨hL2.io,hL2.size,fun b hb hno=>hL2.keep b hb (fun ho=>hno (Uw b ho)),hL2.fm,fun b hb=>?_,hmm,?_,fun id hid=>?_,fun id hid g=>?_,fun id hid hg g=>?_,fun id g m hm=>?_⟩
   . rcases hL2.pQ b hb with h2|h2|h2
     . exact .inl h2
     . exact .inr (.inl h2)
     . exact .inr (.inr (Uw b h2))
   . rintro b ⟨id,o,m,ho,hz,hm,rfl⟩;rcases hcase id o ho with⟨hi,h1⟩|⟨j,o0,hj,rfl,h0,rfl⟩
     . rw[zaK id hi]at hm;exact .inl ⟨id,o,m,h1,hz,hm,rfl⟩
     . rw[Obj.jP,ZK j hj]at hm;rcases hL2.own m.b ⟨j,o0,m,xx (p:=(j,o0)) hnd' h0,(hin' _ h0).2,hm,rfl⟩with h2|h2
       . exact .inl (Uw _ h2)
       . exact .inr h2
   . cases hi:inv id with
     |none=>rw[hout id hi];exact hid
     | some j =>
       obtain⟨hj,rfl⟩:=Ho id j hi;obtain⟨o0,h0⟩:=hex' j hj;rw[hin1 j o0 h0];simp
   . cases hi:inv id with
     |none=>exact zaK id hi g
     | some j =>
       obtain⟨hj,rfl⟩:=Ho id j hi;obtain⟨o0,h0⟩:=hex' j hj;rw[hin1 j o0 h0]at hid;cases hid
   . cases hi:inv id with
     |none=>rw[zaK id hi];exact hg g
     | some j =>
       obtain⟨hj,rfl⟩:=Ho id j hi;rw[ZK j hj];by_cases hjk:j<k
       . refine hL2.dm j hjk (fun g=>?_) g;show μ0 j g=none;rw[zc7 j hjk,<- zul j hjk];exact hg g
       . rw[zyq j (by omega)]at hid;exact absurd (hn _ (by omega)) hid
   . cases hi:inv id with
     |none=>rw[zaK id hi]at hm;exact .inr ⟨id,g,m,hm,rfl⟩
     | some j =>
       obtain⟨hj,rfl⟩:=Ho id j hi;rw[ZK j hj]at hm;rcases hL2.mn j g m hm with h2|⟨i,g',m0,h2,h3⟩
       . exact .inl h2
       . by_cases hik:i<k
         . exact .inr ⟨π i,g',m0,by rw[<- zc7 i hik];exact h2,h3⟩
         . replace h2:μ0 i g'=some m0:=h2;rw[zuR i hik]at h2;cases h2
theorem zo7{K:V->HS->Prop}(hf:E.P.funcs[f]?=some fn)(hb:fn.body.bind aB=some sc)(he:iI fn.ntmps vs0 0 .leaf=some T)
 (h:Ls ρ E k fn.ntmps sc T { H:=di OL,n:=k,log:=[] } (Leaves E.P fn K)) (hK:∀ v hs,K v hs->aj k v0 OL' v hs\/MZ k v0 OL' v hs)
 (zrb:OL.map Prod.fst=List.range k) (Mg:OL'.map Prod.fst=List.range k') (hk:k<=k') (hin:∀ p∈OL,p.2.in (dom OL)=true) (hin':∀ p∈OL',p.2.in (dom OL')=true/\p.2.fz=false) (hv0:v0.nk (dom OL')=true) (ha0:∀ v∈vs0,v.nk (dom OL)=true)
 {hs:HS} {π:Nat->Nat} (hπ:∀ i j,i<k->j<k->π i=π j->i=j) (hH:∀ p∈OL,hs.H.get (π p.1)=some (p.2.ren π)) (hn:∀ i,i<k'-k->hs.H.get (hs.n+i)=none) (hpn:∀ i,i<k->π i<hs.n) :
 aA ρ E.P f (vs0.map (V.ren π)) hs (v0.ren (news hs.n k π)) (sK hs k k' π OL'):=Yg hf hb he h (fun _ _ _ he=>zFB hK he) zrb Mg hk hin hin' hv0 ha0 hπ hH hn hpn
theorem Aw(hf:E.P.funcs[f]?=some fn)(hb:fn.body.bind aB=some sc)(he:iI fn.ntmps vs0 0 .leaf=some T)
 (h:Ls ρ E k fn.ntmps sc T { H:=di OL,n:=k,log:=[] } (Leaves E.P fn (aj k v0 OL')))
 (zrb:OL.map Prod.fst=List.range k) (Mg:OL'.map Prod.fst=List.range k') (hk:k<=k') (hin:∀ p∈OL,p.2.in (dom OL)=true) (hin':∀ p∈OL',p.2.in (dom OL')=true/\p.2.fz=false) (hv0:v0.nk (dom OL')=true) (ha0:∀ v∈vs0,v.nk (dom OL)=true)
 {hs:HS} {π:Nat->Nat} (hπ:∀ i j,i<k->j<k->π i=π j->i=j) (hH:∀ p∈OL,hs.H.get (π p.1)=some (p.2.ren π)) (hn:∀ i,i<k'-k->hs.H.get (hs.n+i)=none) (hpn:∀ i,i<k->π i<hs.n) :
 aA ρ E.P f (vs0.map (V.ren π)) hs (v0.ren (news hs.n k π)) (sK hs k k' π OL') :=
 zo7 hf hb he h (fun _ _ h=>.inl h) zrb Mg hk hin hin' hv0 ha0 hπ hH hn hpn
end
end Go.J
/- Functions of typed values that change one object of their caller. -/
namespace Go.J
open Enc (enc)
theorem V.CK{π:Nat->Nat}{v:V}(h:v.wL (fun _=>false)=true):v.jI π=v:=by
 cases v<;>first|rfl|cases h
theorem map_id'{f:V->V}:∀ {l:List V},(∀ v∈l,f v=v)->l.map f=l:=by
 intro l
 induction l with
 |nil=>intro _;rfl
 |cons a l ih=>intro h;rw[List.map_cons,h a (List.mem_cons_self ..),ih fun v hv=>h v (List.mem_cons_of_mem _ hv)]
theorem V.uH{π:Nat->Nat}{v:V}(h:v.o5 (fun _=>false)=true):v.iy π=v:=by
 cases v with
 |agg cs=>exact congrArg V.agg (map_id' fun v hv=>V.CK (List.all_eq_true.1 h v hv))
 |func f cs=>exact congrArg (V.func f) (map_id' fun v hv=>V.CK (List.all_eq_true.1 h v hv))
 |iface t v=>exact congrArg (V.iface t) (V.CK h)
 |_=>first|rfl|cases h
theorem V.jy{π:Nat->Nat}{v:V}(h:v.nk (fun _=>false)=true):v.ren π=v:=by
 cases v with
 |tuple cs=>exact congrArg V.tuple (map_id' fun v hv=>V.uH (List.all_eq_true.1 h v hv))
 |agg cs=>exact V.uH (v:=.agg cs) h
 |func f cs=>exact V.uH (v:=.func f cs) h
 |iface t v=>exact V.uH (v:=.iface t v) h
 |_=>first|rfl|cases h
theorem V.Hd{A B:Nat->Bool}(Qv:∀ i,A i=true->B i=true){v:V}(h:v.wL A=true):v.wL B=true:=by
 cases v<;>first|exact h|exact Qv _ h
theorem V.xG{A B:Nat->Bool}(Qv:∀ i,A i=true->B i=true){v:V}(h:v.o5 A=true):v.o5 B=true:=by
 cases v with
 |agg cs=>exact List.all_eq_true.2 fun v hv=>V.Hd Qv (List.all_eq_true.1 h v hv)
 |func f cs=>exact List.all_eq_true.2 fun v hv=>V.Hd Qv (List.all_eq_true.1 h v hv)
 |iface t v=>exact V.Hd (v:=v) Qv h
 |_=>first|exact h|exact Qv _ h
theorem V.Ha{A B:Nat->Bool}(Qv:∀ i,A i=true->B i=true){v:V}(h:v.nk A=true):v.nk B=true:=by
 cases v with
 |tuple cs=>exact List.all_eq_true.2 fun v hv=>V.xG Qv (List.all_eq_true.1 h v hv)
 |agg cs=>exact V.xG (v:=.agg cs) Qv h
 |func f cs=>exact V.xG (v:=.func f cs) Qv h
 |iface t v=>exact V.xG (v:=.iface t v) Qv h
 |_=>first|exact h|exact Qv _ h
theorem V.C8{A:Nat->Bool}{v:V}(h:v.aI=true):v.o5 A=true:=by
 cases v with
 | func f cs=>cases cs with
   |nil=>rfl
   |cons _ _=>cases h
 | iface t v =>
   replace h:v.rW=true:=h;cases v<;>first|rfl|cases h
 |agg _=>cases h
 |_=>first|rfl|cases h
theorem V.eO{A:Nat->Bool}{v:V}(h:v.pure=true):v.nk A=true:=by
 cases v with
 | agg cs =>
   replace h:Cb cs=true:=h;rw[MS]at h;refine List.all_eq_true.2 fun v hv=>?_
   have:=h v hv;cases v<;>first|rfl|exact this|cases this
 |tuple cs=>cases h
 |func f cs=>exact V.C8 (v:=.func f cs) h
 |iface t v=>exact V.C8 (v:=.iface t v) h
 |_=>first|rfl|cases h
theorem Ri{v:V}(h:v.rW=true):(dL v).rW=true:=by
 cases v<;>first|(cases h;done)|(simp[dL,V.rW])
theorem Gt{v:V}(h:v.aI=true):(dL v).aI=true:=by
 cases v with
 | iface t v =>
   simp only[dL];exact Ri (v:=v) h
 | func f cs=>cases cs with
   |nil=>simp[dL,V.aI]
   |cons _ _=>cases h
 |_=>first|(cases h;done)|(simp[dL,V.aI,V.rW])
theorem Zl{v:V}(h:v.pure=true):(dL v).pure=true:=by
 cases v with
 | agg cs =>
   replace h:Cb cs=true:=h;simp only[dL];show Cb (dB cs)=true
   grind [MS,gY,Gt]
 | iface t v =>
   have:=Gt (v:=.iface t v) h;simp only[dL]at this ⊢;exact this
 | func f cs =>
   simp_all
 |_=>first|(cases h;done)|(simp only[dL];rfl)
theorem qZ{vs:List V}(h:aR vs=true):aR (dB vs)=true:=by
 rw[SE]at h ⊢;intro v hv;rw[gY]at hv;obtain⟨y,hy,rfl⟩:=List.mem_map.1 hv;exact Zl (h y hy)
theorem aj.keep{k:Nat}{v0 v:V}{OL:List (Nat×Obj)}{hs:HS}(hi:nodupB (OL.map fun p=>p.1)=true)(hk:(List.range k).all (fun i=>dom OL i)=true)(hn:dL v=v0)(hv:v.nk (dom OL)=true)
 (hH:∀ p∈OL,p.2.in (dom OL)=true/\hs.H.get p.1=some p.2):aj k v0 OL v hs :=
 ⟨v,.inr hn,Less.keep 0 (fun p hp=>by
   simp only[List.mem_singleton]at hp;subst hp
   exact⟨hv,by rw[PT.bD,if_pos rfl]⟩) hH hi hk⟩
theorem aj.lit(π:Nat->Nat){k:Nat}{v0 v v1:V}{OL:List (Nat×Obj)}{hs:HS}(hi:nodupB (OL.map fun p=>π p.1)=true)(hk:(List.range k).all (fun i=>Nat.beq (π i) i&&dom OL i)=true)(hn:dL v1=v0)(hv:v1.nk (dom OL)=true/\v=v1.ren π)
 (hH:∀ p∈OL,p.2.in (dom OL)=true/\hs.H.get (π p.1)=some (p.2.ren π)):aj k v0 OL v hs :=
 ⟨v1,.inr hn,Less.lit π 0 (fun p hp=>by
   simp only[List.mem_singleton]at hp;subst hp
   exact⟨hv.1,by rw[PT.bD,if_pos rfl,hv.2]⟩) hH hi hk⟩
theorem aj.bO{k:Nat}{v:V}{OL:List (Nat×Obj)}{hs:HS}(hi:nodupB (OL.map fun p=>p.1)=true)(hk:(List.range k).all (fun i=>dom OL i)=true)(hv:v.nk (dom OL)=true)
 (hH:∀ p∈OL,p.2.in (dom OL)=true/\hs.H.get p.1=some p.2):aj k v OL v hs :=
 ⟨v,.inl rfl,Less.keep 0 (fun p hp=>by
   simp only[List.mem_singleton]at hp;subst hp
   exact⟨hv,by rw[PT.bD,if_pos rfl]⟩) hH hi hk⟩
theorem aj.JB(π:Nat->Nat){k:Nat}{v v1:V}{OL:List (Nat×Obj)}{hs:HS}(hi:nodupB (OL.map fun p=>π p.1)=true)(hk:(List.range k).all (fun i=>Nat.beq (π i) i&&dom OL i)=true)(hv:v1.nk (dom OL)=true/\v=v1.ren π)
 (hH:∀ p∈OL,p.2.in (dom OL)=true/\hs.H.get (π p.1)=some (p.2.ren π)):aj k v1 OL v hs :=
 ⟨v1,.inl rfl,Less.lit π 0 (fun p hp=>by
   simp only[List.mem_singleton]at hp;subst hp
   exact⟨hv.1,by rw[PT.bD,if_pos rfl,hv.2]⟩) hH hi hk⟩
def box(c:List V):Obj:=.arr (aN c) 0 [c] true false false
def KE(o:Obj):Option (List V) :=
 match o with
 |.arr _ 0 [c] true false false=>some c
 |_=>none
section
variable {ρ:Nat->Value}{E:Env}{f:FuncId}{fn:Func}{sc:SC}{vs:List V}{T:PT V}{r:V}{c c':List V}
theorem ztu(hρ:Good ρ)(hcon:aZ ρ E)(hP:E.P.follows .mixedOrders=true)(hN:nW E.P)(hf:E.P.funcs[f]?=some fn)(hb:fn.body.bind aB=some sc)(he:iI fn.ntmps (.ptr 0 0 0::vs) 0 .leaf=some T)(hp:aR vs=true)
 (hc:c.all V.aI=true) (hc':c'.all V.aI=true) (hr:r.nk (fun _=>false)=true)
 (h:Wp ρ E 1 fn.ntmps sc T { H:=di [(0,box c)],n:=1,log:=[] } (Leaves E.P fn (aj 1 r [(0,box c')]))) {hs:HS} {id:Nat} (hid:id<hs.n) (hg:hs.H.get id=some (box c)):aA ρ E.P f (.ptr id 0 0::vs) hs r (hs.wr id (box c')):=by
 have zCV:∀ (π:Nat->Nat) (c:List V),c.all V.aI=true->(box c).ren π=box c:=by
  intro π c hc;show Obj.arr _ _ [c.map (V.iy π)] _ _ _=_;rw[map_id' fun v hv=>V.jb (List.all_eq_true.1 hc v hv)];rfl
 have zoO:∀ (A:Nat->Bool) (c:List V),c.all V.aI=true->(box c).in A=true:=by
  intro A c hc;show ([c].all fun e=>e.all fun v=>v.o5 A)=true;simp only[List.all_cons,List.all_nil,Bool.and_true];exact List.all_eq_true.2 fun v hv=>V.C8 (List.all_eq_true.1 hc v hv)
 have hps:=gP hp
 have key:=Aw (k:=1) (k':=1) (OL:=[(0,box c)]) (OL':=[(0,box c')]) (v0:=r) (vs0:=.ptr 0 0 0::vs) hf hb he (zK hρ hcon hP hN h) rfl rfl (Nat.le_refl _)
  (fun p hp=>by simp only[List.mem_singleton]at hp;subst hp;exact zoO _ _ hc)
  (fun p hp=>by simp only[List.mem_singleton]at hp;subst hp;exact⟨zoO _ _ hc',rfl⟩)
  (V.Ha (fun _ h=>by cases h) hr)
  (fun v hv=>by
    rcases List.mem_cons.1 hv with rfl|hv
    . rfl
    . exact V.eO (hps v hv))
  (hs:=hs) (π:=fun _=>id) (fun i j hi hj _=>by omega) (fun p hp=>by simp only[List.mem_singleton]at hp;subst hp;rw[zCV _ _ hc];exact hg) (fun i hi=>absurd hi (by omega)) (fun _ _=>hid)
 rw[V.jy hr]at key
 have e1:(V.ptr 0 0 0::vs).map (V.ren fun _=>id)=.ptr id 0 0::vs:=by
  rw[List.map_cons,map_id' fun v hv=>V.jy (V.eO (hps v hv))];rfl
 rw[e1]at key
 have e2:sK hs 1 1 (fun _=>id) [(0,box c')]=hs.wr id (box c'):=by
  show ({ H:=(hs.H.set (news hs.n 1 (fun _=>id) 0) ((box c').ren _)),n:=hs.n+0,log:=[news hs.n 1 (fun _=>id) 0]++hs.log }:HS)=_;rw[zCV _ _ hc'];rfl
 grind
end
def K5{σ:Type} [fB σ](F:σ->List V->Option (σ×V)):Spec:=fun vs hs =>
 match vs with
 |.ptr id 0 0::rest=>ob (gq rest hs) fun q=>gd (Nat.blt id q.2.n) (ob (q.2.H.get id) fun o=>ob (KE o) fun c=>ob (fB.dec c) fun s=>gd (aR q.1) (ob (F s (dB q.1)) fun r=>some (r.2,q.2.wr id (box (fB.cells r.1)))))
 |_=>none
theorem zk7{o:Obj}{c:List V}(h:KE o=some c):∃ n,o=.arr n 0 [c] true false false:=by
 unfold KE at h
 grind
section
variable {ρ:Nat->Value}{P:Program}{f:Nat}{σ:Type} [fB σ]{F:σ->List V->Option (σ×V)}
theorem aA.box{vs:List V}{hs hs':HS}{v:V}{id n:Nat}{c:List V}(hg:hs.H.get id=some (.arr n 0 [c] true false false))(h:n=aN c->aA ρ P f vs hs v hs')(hp:∃ rest,vs=.ptr id 0 0::rest):aA ρ P f vs hs v hs':=by
 intro X w F μ xs hR hD hO hA;obtain⟨rest,rfl⟩:=hp;obtain⟨x,_,hx⟩:=hA.2 0 (.ptr id 0 0) rfl;obtain⟨m,hm,_⟩:=bR.nE ρ hx;have:=(hR.obj id _ hg m hm).hlen c (List.mem_singleton.2 rfl);exact h (by rw[bJ];exact this.symm) X w F μ xs hR hD hO hA
theorem Valid.st (hf:lW P f) (h:∀ s vs r,aR vs=true->F s vs=some r->∀ (hs:HS) (id:Nat),id<hs.n->hs.H.get id=some (J.box (fB.cells s))->aA ρ P f (.ptr id 0 0::vs) hs r.2 (hs.wr id (J.box (fB.cells r.1)))):Valid ρ P f (K5 F) where
 fn:=hf
 ok := by
  intro vs hs v hs' hq;unfold K5 at hq;split at hq
  . rename_i id rest;simp only[aD,af]at hq;obtain⟨⟨vs',hs1⟩,hp,hid,o,ho,c,mM,s,hs0,BH,r,hr,hq⟩:=hq;cases hq;rw[dO]at hid;obtain⟨n,rfl⟩:=zk7 mM;rw[fB.aU _ _ hs0]at ho;have hpn:aR (dB vs')=true:=qZ BH;intro X w F1 μ xs hR hD hO hA
    have hxs:xs.toList≠[]:=by
     have:=hA.1;intro e;rw[List.length_cons]at this;have:xs.size=0:=by rw[<- Array.length_toList,e];rfl
     omega
    obtain⟨F',k1,k2,k3,k4,k5⟩:=rV (xs:=xs.toList.drop 1) hp hR (fun i u hi=>by
     obtain⟨x,hx,hr⟩:=hA.2 (i+1) u (by simpa using hi)
     exact⟨x,by simpa [Nat.add_comm]using hx,hr⟩)
    have hc0:aA ρ P f (.ptr id 0 0::dB vs') hs1 r.2 (hs1.wr id (J.box (fB.cells r.1))) :=
     aA.box ho (fun e=>h s _ r hpn hr hs1 id hid (by rw[ho,e];rfl)) ⟨_,rfl⟩
    obtain⟨x0,hx0,hr0⟩:=hA.2 0 (.ptr id 0 0) rfl;refine(hc0 X w F' μ xs k1 (k2.dom k3.le hD) hO ⟨by rw[List.length_cons,gY,List.length_map,k4];exact hA.1,fun i u hi=>?_⟩).mono fun e w' he=>?_
    . cases i with
      |zero=>cases hi;exact⟨x0,hx0,k2.rep hR hr0⟩
      | succ i =>
        rw[List.getElem?_cons_succ,gY,List.getElem?_map,Option.map_eq_some_iff]at hi;obtain⟨u0,h0,rfl⟩:=hi;obtain⟨x,hx,hr⟩:=k5 i u0 h0;exact⟨x,by simpa [Nat.add_comm]using hx,.pure hr.norm⟩
    . cases e with
      | returned x =>
        obtain⟨F2,μ2,g1,g2,g3⟩:=he;exact⟨F2,μ2,g1,g2,k2.trans g3⟩
      |panicked c=>exact he
      |outgrown=>exact he
  . cases hq
 kept:=by
  intro vs hs q hq;unfold K5 at hq;split at hq
  . simp only[aD,af]at hq;obtain⟨⟨vs',hs1⟩,hp,_,o,ho,c,mM,s,hs0,BH,r,hr,hq⟩:=hq;cases hq;exact(nD hp).trans (jl _ _ _)
  . cases hq
end
section
variable {α β γ δ σ:Type} [fB σ] [Enc α] [Enc β] [Enc γ] [Enc δ]
def zJW(F:σ->Option (σ×δ))(s:σ)(vs:List V):Option (σ×V):=match vs with
 | []=>ob (F s) fun r=>some (r.1,enc r.2)
 |_=>none
def K7(F:σ->α->Option (σ×δ))(s:σ)(vs:List V):Option (σ×V):=match vs with
 | [x]=>ob (Enc.dec x) fun a=>ob (F s a) fun r=>some (r.1,enc r.2)
 |_=>none
def znA(F:σ->α->β->Option (σ×δ))(s:σ)(vs:List V):Option (σ×V):=match vs with
 | [x,y]=>ob (Enc.dec x) fun a=>ob (Enc.dec y) fun b=>ob (F s a b) fun r=>some (r.1,enc r.2)
 |_=>none
def K6(F:σ->α->β->γ->Option (σ×δ))(s:σ)(vs:List V):Option (σ×V):=match vs with
 | [x,y,z]=>ob (Enc.dec x) fun a=>ob (Enc.dec y) fun b=>ob (Enc.dec z) fun c=>ob (F s a b c) fun r=>some (r.1,enc r.2)
 |_=>none
@[simp] theorem zJV {F:σ->Option (σ×δ)} {s:σ}:zJW F s []=ob (F s) fun r=>some (r.1,enc r.2):=(rfl)
@[simp] theorem zJU {F:σ->α->Option (σ×δ)} {s:σ} {x:V}:K7 F s [x]=ob (Enc.dec x) fun a=>ob (F s a) fun r=>some (r.1,enc r.2):=(rfl)
@[simp] theorem zJT {F:σ->α->β->Option (σ×δ)} {s:σ} {x y:V}:znA F s [x,y]=ob (Enc.dec x) fun a=>ob (Enc.dec y) fun b=>ob (F s a b) fun r=>some (r.1,enc r.2):=(rfl)
@[simp] theorem zJS {F:σ->α->β->γ->Option (σ×δ)} {s:σ} {x y z:V}:K6 F s [x,y,z]=ob (Enc.dec x) fun a=>ob (Enc.dec y) fun b=>ob (Enc.dec z) fun c=>ob (F s a b c) fun r=>some (r.1,enc r.2):=(rfl)
theorem zbT{F:σ->α->Option (σ×δ)}{s:σ}{vs:List V}{r:σ×V}(h:K7 F s vs=some r):∃ a q,vs=[enc a]/\F s a=some q/\r=(q.1,enc q.2):=by
 unfold K7 at h;split at h
 . simp only[af]at h;obtain⟨a,ha,q,hq,h⟩:=h;cases h;exact⟨a,q,by rw[Enc.aU _ _ ha],hq,rfl⟩
 . cases h
theorem zbS{F:σ->α->β->Option (σ×δ)}{s:σ}{vs:List V}{r:σ×V}(h:znA F s vs=some r):∃ a b q,vs=[enc a,enc b]/\F s a b=some q/\r=(q.1,enc q.2):=by
 unfold znA at h;split at h
 . simp only[af]at h;obtain⟨a,ha,b,hb,q,hq,h⟩:=h;cases h;exact⟨a,b,q,by rw[Enc.aU _ _ ha,Enc.aU _ _ hb],hq,rfl⟩
 . cases h
theorem zbR{F:σ->α->β->γ->Option (σ×δ)}{s:σ}{vs:List V}{r:σ×V}(h:K6 F s vs=some r):∃ a b c q,vs=[enc a,enc b,enc c]/\F s a b c=some q/\r=(q.1,enc q.2):=by
 unfold K6 at h;split at h
 . simp only[af]at h;obtain⟨a,ha,b,hb,c,hc,q,hq,h⟩:=h;cases h;exact⟨a,b,c,q,by rw[Enc.aU _ _ ha,Enc.aU _ _ hb,Enc.aU _ _ hc],hq,rfl⟩
 . cases h
end
section
variable {σ:Type} [fB σ]{F:σ->List V->Option (σ×V)}{hs:HS}{id:Nat}{rest:List V}{K:V×HS->Prop}
@[simp] theorem zJR:qI (K5 F (.ptr id 0 0::rest) hs) K=qI (gq rest hs) fun q=>id<q.2.n/\qI (q.2.H.get id) fun o=>qI (KE o) fun c=>qI (fB.dec c) fun s=>aR q.1=true/\qI (F s (dB q.1)) fun r=>K (r.2,q.2.wr id (box (fB.cells r.1))):=by
  show ok (K5 F (.ptr id 0 0::rest) hs) K=ok (gq rest hs) fun q=>id<q.2.n/\ok (q.2.H.get id) fun o=>ok (KE o) fun c=>ok (fB.dec c) fun s=>aR q.1=true/\ok (F s (dB q.1)) fun r=>K (r.2,q.2.wr id (box (fB.cells r.1)))
  simp only[K5,jA,dA,aW,dO]
@[simp] theorem zIS {n:Nat} {c:List V}:KE (.arr n 0 [c] true false false)=some c:=(rfl)
@[simp] theorem zO7 {c:List V}:box c=.arr (aN c) 0 [c] true false false:=(rfl)
end
end Go.J
/- Functions of typed values that hand back a row that nobody else has. -/
namespace Go.J
open Enc (enc)
def oV(r:Nat)(l:List (List V)):V :=
 match l with
 | []=>.snil
 |_::_=>.own r (l.length-1) 0 l.length none
def oO(sz:Nat)(l:List (List V)):Obj:=.arr sz (l.length-1) l false false true
def oH(r sz:Nat)(l:List (List V)):List (Nat×Obj) :=
 match l with
 | []=>[]
 |_::_=>[(r,oO sz l)]
section
variable {r sz:Nat}{x:List V}{l:List (List V)}
@[simp] theorem zKp:oV r []=.snil:=(rfl)
@[simp] theorem zHd:oV r (x::l)=.own r l.length 0 (l.length+1) none:=(rfl)
@[simp] theorem zcG:oH r sz []=[]:=(rfl)
@[simp] theorem yF:oH r sz (x::l)=[(r,.arr sz l.length (x::l) false false true)]:=(rfl)
theorem Uf:oO sz (x::l)=.arr sz l.length (x::l) false false true:=(rfl)
end
def Q5(sz:Nat)(s:List V->Option (List (List V))):Spec:=fun vs hs=>ob (gq vs hs) fun q=>gd (et (aR q.1) (cB q.2 q.2.n)) (ob (s (dB q.1)) fun es =>
 gd (es.all fun e=>e.all V.aI) (some (oV q.2.n es,bi (Nat.beq (aN es) 0) q.2 { H:=q.2.H.set q.2.n (oO sz es),n:=q.2.n+1,log:=q.2.n::q.2.log })))
section
variable {ρ:Nat->Value}{E:Env}{f:FuncId}{fn:Func}{sc:SC}{vs:List V}{T:PT V}{es:List (List V)}{sz:Nat}
theorem vP{f:V->V}{es:List (List V)}(h:∀ e∈es,∀ v∈e,f v=v):(es.map fun e=>e.map f)=es:=by
 induction es with
 |nil=>rfl
 |cons a l ih=>rw[List.map_cons,map_id' (h a (List.mem_cons_self ..)),ih fun e he=>h e (List.mem_cons_of_mem _ he)]
theorem znO (hρ:Good ρ) (hcon:aZ ρ E) (hP:E.P.follows .mixedOrders=true) (hN:nW E.P) (hf:E.P.funcs[f]?=some fn) (hb:fn.body.bind aB=some sc) (he:iI fn.ntmps vs 0 .leaf=some T) (hp:aR vs=true)
 (hes:(es.all fun e=>e.all V.aI)=true)
 (h:Wp ρ E 0 fn.ntmps sc T { H:=di [],n:=0,log:=[] } (Leaves E.P fn (aj 0 (oV 0 es) (oH 0 sz es)))) {hs:HS} (hv:hs.H.get hs.n=none) :
 aA ρ E.P f vs hs (oV hs.n es) (bi (Nat.beq (aN es) 0) hs { H:=hs.H.set hs.n (oO sz es),n:=hs.n+1,log:=hs.n::hs.log }):=by
 have hps:=gP hp;have hvs:∀ π:Nat->Nat,vs.map (V.ren π)=vs:=fun π=>map_id' fun v hv=>V.jy (V.eO (hps v hv))
 cases es with
 | nil =>
   have key:=Aw (k:=0) (k':=0) (OL:=[]) (OL':=[]) (v0:=oV 0 []) (vs0:=vs) hf hb he (zK hρ hcon hP hN h) rfl rfl (Nat.le_refl _) (fun p hp=>by cases hp) (fun p hp=>by cases hp)
    (by rfl) (fun v hv=>V.eO (hps v hv)) (hs:=hs) (π:=fun i=>i) (fun i j hi=>by omega) (fun p hp=>by cases hp) (fun i hi=>by omega) (fun i hi=>by omega)
   rw[hvs]at key;have e2:sK hs 0 0 (fun i=>i) []=hs:=rfl;rw[e2]at key;exact key
 | cons e es =>
   have e0:oV 0 (e::es)=.own 0 es.length 0 (es.length+1) none:=by simp
   have key:=Aw (k:=0) (k':=1) (OL:=[]) (OL':=oH 0 sz (e::es)) (v0:=oV 0 (e::es)) (vs0:=vs) hf hb he (zK hρ hcon hP hN h) rfl rfl (Nat.zero_le _) (fun p hp=>by cases hp)
    (fun p hp=>by
      simp only[yF,List.mem_singleton]at hp;subst hp
      exact⟨hes,rfl⟩)
    (by rw[e0];rfl) (fun v hv=>V.eO (hps v hv)) (hs:=hs) (π:=fun i=>i) (fun i j hi=>by omega) (fun p hp=>by cases hp) (fun i hi=>by
      have:i=0:=by omega
      subst this;exact hv) (fun i hi=>by omega)
   rw[hvs,e0]at key;have e1:(V.own 0 es.length 0 (es.length+1) none).ren (news hs.n 0 fun i=>i)=oV hs.n (e::es):=by simp[news]
   rw[e1]at key
   have e2:sK hs 0 1 (fun i=>i) (oH 0 sz (e::es))={ H:=hs.H.set hs.n (oO sz (e::es)),n:=hs.n+1,log:=hs.n::hs.log }:=by
    have:((e::es).map fun x=>x.map (V.iy (news hs.n 0 fun i=>i)))=e::es:=vP fun x hx v hv=>V.jb (List.all_eq_true.1 (List.all_eq_true.1 hes x hx) v hv)
    show ({ H:=hs.H.set (news hs.n 0 (fun i=>i) 0) (.arr sz es.length ((e::es).map fun x=>x.map (V.iy (news hs.n 0 fun i=>i))) false false true),n:=hs.n+1,log:=[news hs.n 0 (fun i=>i) 0]++hs.log }:HS)=_;rw[this];rfl
   simp_all
end
section
variable {ρ:Nat->Value}{P:Program}{f:Nat}{sz:Nat}{s:List V->Option (List (List V))}
theorem Valid.row (hf:lW P f) (h:∀ vs es,aR vs=true->s vs=some es->∀ hs:HS,hs.H.get hs.n=none->aA ρ P f vs hs (oV hs.n es) (bi (Nat.beq (aN es) 0) hs { H:=hs.H.set hs.n (oO sz es),n:=hs.n+1,log:=hs.n::hs.log })):Valid ρ P f (Q5 sz s) where
 fn:=hf
 ok := by
  intro vs hs v hs' hq;simp only[Q5,aD,af,bA]at hq;obtain⟨⟨vs',hs1⟩,hp,⟨BH,iQ⟩,es,hes,_,hq⟩:=hq;have hq':=hq;cases hq;rw[ae]at iQ;intro X w F μ xs hR hD hO hA;obtain⟨F',k1,k2,k3,k4,k5⟩:=rV (xs:=xs.toList) hp hR (fun i u hi=>by simpa using hA.2 i u hi);have hc:=(h _ _ (qZ BH) hes hs1 iQ).norm BH;refine(hc X w F' μ xs k1 (k2.dom k3.le hD) hO ⟨by rw[k4];exact hA.1,fun i u hi=>?_⟩).mono fun e w' he=>?_
  . obtain⟨x,hx,hr⟩:=k5 i u hi;exact⟨x,by simpa using hx,.pure hr⟩
  . cases e with
    | returned x =>
      obtain⟨F2,μ2,g1,g2,g3⟩:=he;exact⟨F2,μ2,g1,g2,k2.trans g3⟩
    |panicked c=>exact he
    |outgrown=>exact he
 kept:=by
  intro vs hs q hq;simp only[Q5,aD,af,bA]at hq;obtain⟨⟨vs',hs1⟩,hp,⟨_,iQ⟩,es,_,_,hq⟩:=hq;cases hq;rw[ae]at iQ;refine(nD hp).trans ?_;show Kept hs1 (bi (Nat.beq (aN es) 0) hs1 _);rw[dX];split
  . exact .refl _
  . refine⟨fun k hk=>List.mem_cons_of_mem _ hk,fun k o ho hn=>?_,Nat.le_succ _,fun k hk=>?_⟩
    . show (hs1.H.set hs1.n _).get k=_;rw[PT.bD];split
      . rename_i e;subst e;rw[iQ]at ho;cases ho
      . exact ho
    . show (hs1.H.set hs1.n _).get k≠none;rw[PT.bD];split
      . simp
      . exact hk
end
section
variable {sz:Nat}{s:List V->Option (List (List V))}{vs:List V}{hs:HS}{K:V×HS->Prop}
@[simp] theorem zGC:qI (Q5 sz s vs hs) K=qI (gq vs hs) fun q=>(aR q.1=true/\q.2.H.get q.2.n=none)/\qI (s (dB q.1)) fun es=>(es.all fun e=>e.all V.aI)=true/\K (oV q.2.n es,bi (Nat.beq (aN es) 0) q.2 { H:=q.2.H.set q.2.n (oO sz es),n:=q.2.n+1,log:=q.2.n::q.2.log }):=by
  show ok (Q5 sz s vs hs) K=ok (gq vs hs) fun q=>(aR q.1=true/\q.2.H.get q.2.n=none)/\ok (s (dB q.1)) fun es=>(es.all fun e=>e.all V.aI)=true/\K (oV q.2.n es,bi (Nat.beq (aN es) 0) q.2 { H:=q.2.H.set q.2.n (oO sz es),n:=q.2.n+1,log:=q.2.n::q.2.log })
  simp only[Q5,jA,dA,aW,bA,ae]
end
end Go.J
/- Functions that are handed a slice that they may append to,and hand it back. -/
namespace Go.J
open Enc (enc)
def TS(sz m id g n:Nat)(o:Obj):Option (List (List V)) :=
 match o with
 |.arr s g' es false false true=>gd (et (Nat.beq s sz) (et (Nat.beq g g') (et (Nat.beq n (aN es)) (et (Nat.beq (g+1) n) (et (Nat.blt id m) (es.all fun e=>e.all V.aI)))))) (some es)
 |_=>none
def rowOf(sz:Nat)(hs:HS)(v:V):Option (List (List V)) :=
 match v with
 |.snil=>some []
 |.own id g 0 n none=>ob (hs.H.get id) fun o=>TS sz hs.n id g n o
 |_=>none
def fH(v:V):Nat :=
 match v with
 |.own id _ _ _ _=>id
 |_=>0
def iw(sz:Nat)(v:V)(es es':List (List V))(hs:HS):V×HS :=
 match es with
 | []=>(oV hs.n es',bi (Nat.beq (aN es') 0) hs { H:=hs.H.set hs.n (oO sz es'),n:=hs.n+1,log:=hs.n::hs.log })
 |_::_=>(oV (fH v) es',hs.wr (fH v) (oO sz es'))
def Qt(sz:Nat)(F:List (List V)->List V->Option (List (List V)×List V))(K:V->List V->V):Spec:=fun vs hs =>
 match vs with
 | v :: rest=>ob (gq rest hs) fun q=>gd (et (aR q.1) (cB q.2 q.2.n)) (ob (rowOf sz q.2 v) fun es=>ob (F es (dB q.1)) fun r =>
     gd (et (r.1.all fun e=>e.all V.aI) (et (r.2.all fun v=>v.o5 (fun _=>false)) (Nat.ble (aN es) (aN r.1)))) (some (K (iw sz v es r.1 q.2).1 r.2,(iw sz v es r.1 q.2).2)))
 |_=>none
theorem rq {sz:Nat} {hs:HS} {v:V} {es:List (List V)} (h:rowOf sz hs v=some es):(v=.snil/\es=[])\/∃ id,v=oV id es/\es≠[]/\hs.H.get id=some (oO sz es)/\id<hs.n/\(es.all fun e=>e.all V.aI)=true:=by
 unfold rowOf at h;split at h
 . cases h;exact .inl ⟨rfl,rfl⟩
 . rename_i id g n;simp only[af]at h;obtain⟨o,ho,h⟩:=h;unfold TS at h;split at h
   . rename_i s g' es';simp only[aD,bA,beq_true,dO]at h;obtain⟨⟨rfl,rfl,rfl,h4,h5,h6⟩,h⟩:=h;cases h;refine .inr ⟨id,?_,?_,?_,h5,h6⟩
     . cases es with
       |nil=>simp[bJ]at h4
       | cons e es =>
         simp_all
     . rintro rfl;simp[bJ]at h4
     . rw[ho];rw[bJ]at h4;unfold oO;rw[<- h4];rfl
   . cases h
 . cases h
section
variable {ρ:Nat->Value}{E:Env}{f:FuncId}{fn:Func}{sc:SC}{vs:List V}{T T':PT V}{es es':List (List V)}{rs:List V}{sz:Nat}
def vS(v:V)(_:List V):V:=v
def zCo(v:V)(rs:List V):V:=.tuple (v::rs)
theorem nH{π:Nat->Nat}(h:(es.all fun e=>e.all V.aI)=true):(oO sz es).ren π=oO sz es:=by
 show Obj.arr _ _ (es.map fun e=>e.map (V.iy π)) _ _ _=_;rw[vP fun x hx v hv=>V.jb (List.all_eq_true.1 (List.all_eq_true.1 h x hx) v hv)];rfl
theorem GJ{r:Nat}(h:es≠[]):oV r es=.own r (es.length-1) 0 es.length none:=by
 cases es with
 |nil=>exact absurd rfl h
 |cons x l=>rfl
theorem uM{r:Nat}(h:es≠[]):oH r sz es=[(r,oO sz es)]:=by
 cases es with
 |nil=>exact absurd rfl h
 |cons x l=>rfl
theorem zuG (hρ:Good ρ) (hcon:aZ ρ E) (hP:E.P.follows .mixedOrders=true) (hN:nW E.P) {K:V->List V->V} (hK:K=vS\/K=zCo) (hf:E.P.funcs[f]?=some fn) (hb:fn.body.bind aB=some sc) (he:iI fn.ntmps (oV 0 es::vs) 0 .leaf=some T) (hp:aR vs=true)
 (h0:(es.all fun e=>e.all V.aI)=true) (h1:(es'.all fun e=>e.all V.aI)=true) (hrs:(rs.all fun v=>v.o5 (fun _=>false))=true) (hle:es.length<=es'.length)
 (h:Wp ρ E (if es=[]then 0 else 1) fn.ntmps sc T { H:=di (oH 0 sz es),n:=if es=[]then 0 else 1,log:=[] } (Leaves E.P fn (aj (if es=[]then 0 else 1) (K (oV 0 es') rs) (oH 0 sz es'))))
 {hs:HS} {v:V} (hv:rowOf sz hs v=some es) (iQ:hs.H.get hs.n=none):aA ρ E.P f (v::vs) hs (K (iw sz v es es' hs).1 rs) (iw sz v es es' hs).2:=by
 have hps:=gP hp;have hvs:∀ π:Nat->Nat,vs.map (V.ren π)=vs:=fun π=>map_id' fun v hv=>V.jy (V.eO (hps v hv))
 have zK5:∀ π:Nat->Nat,rs.map (V.iy π)=rs:=fun π=>map_id' fun v hv=>V.uH (List.all_eq_true.1 hrs v hv)
 have hKr:∀ (π:Nat->Nat) (r:Nat),(K (oV r es') rs).ren π=K (oV (π r) es') rs:=by
  intro π r;rcases hK with rfl|rfl
  . cases es'<;>rfl
  . show V.tuple ((oV r es'::rs).map (V.iy π))=_;rw[List.map_cons,zK5];cases es'<;>rfl
 have zLy:(K (oV 0 es') rs).nk (dom (oH 0 sz es'))=true:=by
  have hr2:∀ v∈rs,v.o5 (dom (oH 0 sz es'))=true:=fun v hv=>V.xG (fun _ h=>by cases h) (List.all_eq_true.1 hrs v hv)
  rcases hK with rfl|rfl
  . cases es'<;>rfl
  . show ((oV 0 es'::rs).all (V.o5 (dom (oH 0 sz es'))))=true;rw[List.all_cons,Bool.and_eq_true];exact⟨by cases es'<;>rfl,List.all_eq_true.2 hr2⟩
 have hin':∀ p∈oH 0 sz es',p.2.in (dom (oH 0 sz es'))=true/\p.2.fz=false:=by
  intro p hp
  cases es' with
  |nil=>cases hp
  | cons a l =>
    simp only[yF,List.mem_singleton]at hp;subst hp;exact⟨h1,rfl⟩
 rcases rq hv with⟨rfl,rfl⟩|⟨id,rfl,hne,hg,hid,_⟩
 . rw [if_pos rfl]at h
   cases es' with
   | nil =>
     have key:=Aw (k:=0) (k':=0) (OL:=oH 0 sz []) (OL':=oH 0 sz []) (vs0:=.snil::vs) hf hb he (zK hρ hcon hP hN h) rfl rfl (Nat.le_refl _) (fun p hp=>by cases hp) hin' zLy
      (fun v hv=>by
        rcases List.mem_cons.1 hv with rfl|hv
        . rfl
        . exact V.eO (hps v hv)) (hs:=hs) (π:=fun i=>i) (fun i j hi=>by omega) (fun p hp=>by cases hp) (fun i hi=>by omega) (fun i hi=>by omega)
     rw[List.map_cons,hvs,hKr]at key;exact key
   | cons a l =>
     have key:=Aw (k:=0) (k':=1) (OL:=oH 0 sz []) (OL':=oH 0 sz (a::l)) (vs0:=.snil::vs) hf hb he (zK hρ hcon hP hN h) rfl rfl (Nat.zero_le _) (fun p hp=>by cases hp) hin' zLy
      (fun v hv=>by
        rcases List.mem_cons.1 hv with rfl|hv
        . rfl
        . exact V.eO (hps v hv)) (hs:=hs) (π:=fun i=>i) (fun i j hi=>by omega) (fun p hp=>by cases hp) (fun i hi=>by
          have:i=0:=by omega
          subst this;exact iQ) (fun i hi=>by omega)
     rw[List.map_cons,hvs,hKr]at key
     have e2:sK hs 0 1 (fun i=>i) (oH 0 sz (a::l))={ H:=hs.H.set hs.n (oO sz (a::l)),n:=hs.n+1,log:=hs.n::hs.log }:=by
      show ({ H:=hs.H.set (news hs.n 0 (fun i=>i) 0) ((oO sz (a::l)).ren _),n:=hs.n+1,log:=[news hs.n 0 (fun i=>i) 0]++hs.log }:HS)=_;rw[nH h1];rfl
     rw[e2]at key;exact key
 . rw [if_neg hne]at h
   have hne':es'≠[]:=by
    intro e;rw[e]at hle;exact hne (List.eq_nil_of_length_eq_zero (by simpa using hle))
   have key:=Aw (k:=1) (k':=1) (OL:=oH 0 sz es) (OL':=oH 0 sz es') (vs0:=oV 0 es::vs) hf hb he (zK hρ hcon hP hN h) (by rw[uM hne];rfl) (by rw[uM hne'];rfl) (Nat.le_refl _)
    (fun p hp=>by
      rw[uM hne]at hp;simp only[List.mem_singleton]at hp
      subst hp;exact h0) hin' zLy
    (fun v hv=>by
      rcases List.mem_cons.1 hv with rfl|hv
      . rw[GJ hne,uM hne];rfl
      . exact V.eO (hps v hv)) (hs:=hs) (π:=fun _=>id) (fun i j hi hj _=>by omega) (fun p hp=>by
        rw[uM hne]at hp;simp only[List.mem_singleton]at hp;subst hp
        rw[nH h0];exact hg) (fun i hi=>by omega) (fun _ _=>hid)
   rw[List.map_cons,hvs,hKr]at key;have e1:(oV 0 es).ren (fun _=>id)=oV id es:=by rw[GJ hne,GJ hne];rfl
   rw[e1]at key
   have e2:sK hs 1 1 (fun _=>id) (oH 0 sz es')=hs.wr id (oO sz es'):=by
    rw[uM hne'];show ({ H:=hs.H.set (news hs.n 1 (fun _=>id) 0) ((oO sz es').ren _),n:=hs.n+0,log:=[news hs.n 1 (fun _=>id) 0]++hs.log }:HS)=_;rw[nH h1];rfl
   rw[e2]at key
   have e3:iw sz (oV id es) es es' hs=(oV id es',hs.wr id (oO sz es')):=by
    cases es with
    |nil=>exact absurd rfl hne
    |cons a l=>rfl
   rw[e3];exact key
end
section
variable {ρ:Nat->Value}{P:Program}{f:Nat}{sz:Nat}{F:List (List V)->List V->Option (List (List V)×List V)}{K:V->List V->V}
theorem Valid.io (hf:lW P f) (h:∀ es vs r,aR vs=true->(es.all fun e=>e.all V.aI)=true->F es vs=some r->(r.1.all fun e=>e.all V.aI)=true->(r.2.all fun v=>v.o5 (fun _=>false))=true->es.length<=r.1.length ->
 ∀ (hs:HS) (v:V),rowOf sz hs v=some es->hs.H.get hs.n=none->aA ρ P f (v::vs) hs (K (iw sz v es r.1 hs).1 r.2) (iw sz v es r.1 hs).2):Valid ρ P f (Qt sz F K) where
 fn:=hf
 ok := by
  intro vs hs v hs' hq;unfold Qt at hq;split at hq
  . rename_i v0 rest;simp only[aD,af,bA]at hq;obtain⟨⟨vs',hs1⟩,hp,⟨BH,iQ⟩,es,hes,r,hr,⟨h1,h2,h3⟩,hq⟩:=hq;cases hq;rw[ae]at iQ;rw[dI,bJ,bJ]at h3
    have h0:(es.all fun e=>e.all V.aI)=true:=by
     rcases rq hes with⟨_,rfl⟩|⟨_,_,_,_,_,h⟩
     . rfl
     . exact h
    intro X w F1 μ xs hR hD hO hA
    obtain⟨F',k1,k2,k3,k4,k5⟩:=rV (xs:=xs.toList.drop 1) hp hR (fun i u hi=>by
     obtain⟨x,hx,hr⟩:=hA.2 (i+1) u (by simpa using hi)
     exact⟨x,by simpa [Nat.add_comm]using hx,hr⟩)
    have hc0:=h es _ r (qZ BH) h0 hr h1 h2 h3 hs1 v0 hes iQ;obtain⟨x0,hx0,hr0⟩:=hA.2 0 v0 rfl;refine(hc0 X w F' μ xs k1 (k2.dom k3.le hD) hO ⟨by rw[List.length_cons,gY,List.length_map,k4];exact hA.1,fun i u hi=>?_⟩).mono fun e w' he=>?_
    . cases i with
      |zero=>cases hi;exact⟨x0,hx0,k2.rep hR hr0⟩
      | succ i =>
        rw[List.getElem?_cons_succ,gY,List.getElem?_map,Option.map_eq_some_iff]at hi;obtain⟨u0,h0,rfl⟩:=hi;obtain⟨x,hx,hr⟩:=k5 i u0 h0;exact⟨x,by simpa [Nat.add_comm]using hx,.pure hr.norm⟩
    . cases e with
      | returned x =>
        obtain⟨F2,μ2,g1,g2,g3⟩:=he;exact⟨F2,μ2,g1,g2,k2.trans g3⟩
      |panicked c=>exact he
      |outgrown=>exact he
  . cases hq
 kept := by
  intro vs hs q hq;unfold Qt at hq;split at hq
  . rename_i v0 rest;simp only[aD,af,bA]at hq;obtain⟨⟨vs',hs1⟩,hp,⟨_,iQ⟩,es,hes,r,hr,_,hq⟩:=hq;cases hq;rw[ae]at iQ;refine(nD hp).trans ?_;unfold iw
    cases es with
    | nil =>
      show Kept hs1 (bi (Nat.beq (aN r.1) 0) hs1 _);rw[dX];split
      . exact .refl _
      . refine⟨fun k hk=>List.mem_cons_of_mem _ hk,fun k o ho hn=>?_,Nat.le_succ _,fun k hk=>?_⟩
        . show (hs1.H.set hs1.n _).get k=_;rw[PT.bD];split
          . rename_i e;subst e;rw[iQ]at ho;cases ho
          . exact ho
        . show (hs1.H.set hs1.n _).get k≠none;rw[PT.bD];split
          . simp
          . exact hk
    |cons a l=>exact jl ..
  . cases hq
end
section
variable {sz:Nat}{F:List (List V)->List V->Option (List (List V)×List V)}{K:V->List V->V}{v:V}{rest:List V}{hs:HS}{Q:V×HS->Prop}{i:Nat}{x:List V}{l:List (List V)}
@[simp] theorem zKO:qI (Qt sz F K (v::rest) hs) Q=qI (gq rest hs) fun q=>(aR q.1=true/\q.2.H.get q.2.n=none)/\qI (rowOf sz q.2 v) fun es=>qI (F es (dB q.1)) fun r =>
 ((r.1.all fun e=>e.all V.aI)=true/\(r.2.all fun v=>v.o5 (fun _=>false))=true/\es.length<=r.1.length)/\Q (K (iw sz v es r.1 q.2).1 r.2,(iw sz v es r.1 q.2).2):=by
  show ok (Qt sz F K (v::rest) hs) Q=ok (gq rest hs) fun q=>(aR q.1=true/\q.2.H.get q.2.n=none)/\ok (rowOf sz q.2 v) fun es=>ok (F es (dB q.1)) fun r =>
   ((r.1.all fun e=>e.all V.aI)=true/\(r.2.all fun v=>v.o5 (fun _=>false))=true/\es.length<=r.1.length)/\Q (K (iw sz v es r.1 q.2).1 r.2,(iw sz v es r.1 q.2).2)
  simp only[Qt,jA,dA,aW,bA,ae,dI,bJ]
@[simp] theorem ztC:rowOf sz hs .snil=some []:=(rfl)
@[simp] theorem zxA:iw sz v [] l hs=(oV hs.n l,bi (Nat.beq (aN l) 0) hs { H:=hs.H.set hs.n (oO sz l),n:=hs.n+1,log:=hs.n::hs.log }):=(rfl)
@[simp] theorem zxz {g o n:Nat} {c:Option Nat} {e:List V} {es:List (List V)}:iw sz (.own i g o n c) (e::es) l hs=(oV i l,hs.wr i (oO sz l)):=(rfl)
@[simp] theorem zxB {g n:Nat}:rowOf sz hs (.own i g 0 n none)=ob (hs.H.get i) fun o=>TS sz hs.n i g n o:=(rfl)
@[simp] theorem zGD {m g n s g':Nat} {es:List (List V)}:TS sz m i g n (.arr s g' es false false true)=gd (et (Nat.beq s sz) (et (Nat.beq g g') (et (Nat.beq n (aN es)) (et (Nat.beq (g+1) n) (et (Nat.blt i m) (es.all fun e=>e.all V.aI)))))) (some es):=(rfl)
attribute [simp] Uf
end
end Go.J
/- Functions that write in a slice that was made by make. -/
namespace Go.J
open Enc (enc)
def mkV(id:Nat)(es:List (List V)):V:=.own id 0 0 es.length (some es.length)
def nS(sz:Nat)(es:List (List V)):Obj:=.arr sz 0 es true false true
def zon(sz m id n:Nat)(o:Obj):Option (Nat×List (List V)) :=
 match o with
 |.arr s 0 es true false true=>gd (et (Nat.beq s sz) (et (Nat.beq n (aN es)) (et (Nat.blt id m) (es.all fun e=>e.all V.aI)))) (some (id,es))
 |_=>none
def OH(sz:Nat)(hs:HS)(v:V):Option (Nat×List (List V)) :=
 match v with
 |.own id 0 0 n (some m)=>gd (Nat.beq n m) (ob (hs.H.get id) fun o=>zon sz hs.n id n o)
 |_=>none
theorem zcO{sz:Nat}{hs:HS}{v:V}{q:Nat×List (List V)}(h:OH sz hs v=some q):v=mkV q.1 q.2/\hs.H.get q.1=some (nS sz q.2)/\q.1<hs.n/\(q.2.all fun e=>e.all V.aI)=true:=by
 unfold OH at h;split at h
 . rename_i id n m;simp only[aD,af,beq_true]at h;obtain⟨rfl,o,ho,h⟩:=h;unfold zon at h;split at h
   . rename_i s es;simp only[aD,bA,beq_true,dO]at h;obtain⟨⟨rfl,h4,h5,h6⟩,h⟩:=h;cases h;rw[bJ]at h4;subst h4;exact⟨rfl,ho,h5,h6⟩
   . cases h
 . cases h
def zKy (p sz:Nat) (F:List (List V)->List V->Option (List (List V)×V)):Spec:=fun vs hs =>
 ob (mI vs p) fun v=>ob (OH sz hs v) fun q=>gd (aR (vs.eraseIdx p)) (ob (F q.2 (vs.eraseIdx p)) fun r =>
  gd (et (r.1.all fun e=>e.all V.aI) (et (r.2.nk fun _=>false) (Nat.beq (aN r.1) (aN q.2)))) (some (r.2,hs.wr q.1 (nS sz r.1))))
section
variable {ρ:Nat->Value}{E:Env}{f:FuncId}{fn:Func}{sc:SC}{pre post:List V}{T:PT V}{r:V}{es es':List (List V)}{sz:Nat}
theorem Bu{π:Nat->Nat}(h:(es.all fun e=>e.all V.aI)=true):(nS sz es).ren π=nS sz es:=by
 show Obj.arr _ _ (es.map fun e=>e.map (V.iy π)) _ _ _=_;rw[vP fun x hx v hv=>V.jb (List.all_eq_true.1 (List.all_eq_true.1 h x hx) v hv)];rfl
end
section
variable {p sz:Nat}{F:List (List V)->List V->Option (List (List V)×V)}{vs:List V}{hs:HS}{Q:V×HS->Prop}
@[simp] theorem zKx:qI (zKy p sz F vs hs) Q=qI (mI vs p) fun v=>qI (OH sz hs v) fun q=>aR (vs.eraseIdx p)=true/\qI (F q.2 (vs.eraseIdx p)) fun r =>
 ((r.1.all fun e=>e.all V.aI)=true/\r.2.nk (fun _=>false)=true/\r.1.length=q.2.length)/\Q (r.2,hs.wr q.1 (nS sz r.1)):=by
  show ok (zKy p sz F vs hs) Q=ok (mI vs p) fun v=>ok (OH sz hs v) fun q=>aR (vs.eraseIdx p)=true/\ok (F q.2 (vs.eraseIdx p)) fun r =>
   ((r.1.all fun e=>e.all V.aI)=true/\r.2.nk (fun _=>false)=true/\r.1.length=q.2.length)/\Q (r.2,hs.wr q.1 (nS sz r.1))
  simp only[zKy,jA,dA,aW,bA,beq_true,bJ]
@[simp] theorem zCf {i n m:Nat}:OH sz hs (.own i 0 0 n (some m))=gd (Nat.beq n m) (ob (hs.H.get i) fun o=>zon sz hs.n i n o):=(rfl)
@[simp] theorem zKE {m i n s:Nat} {es:List (List V)}:zon sz m i n (.arr s 0 es true false true)=gd (et (Nat.beq s sz) (et (Nat.beq n (aN es)) (et (Nat.blt i m) (es.all fun e=>e.all V.aI)))) (some (i,es)):=(rfl)
end
section
variable {α β γ δ ε:Type} [fB α] [Enc β] [Enc γ] [Enc δ] [Enc ε]
def zKC(F:List α->β->γ->Option (List α×ε))(es:List (List V))(vs:List V):Option (List (List V)×V):=match vs with
 | [x,y]=>ob (bQ es) fun s=>ob (Enc.dec x) fun a=>ob (Enc.dec y) fun b=>ob (F s a b) fun r=>some (r.1.map fB.cells,enc r.2)
 |_=>none
def zKA(F:List α->β->γ->δ->Option (List α×ε))(es:List (List V))(vs:List V):Option (List (List V)×V):=match vs with
 | [x,y,z]=>ob (bQ es) fun s=>ob (Enc.dec x) fun a=>ob (Enc.dec y) fun b=>ob (Enc.dec z) fun c=>ob (F s a b c) fun r=>some (r.1.map fB.cells,enc r.2)
 |_=>none
@[simp] theorem zKB {F:List α->β->γ->Option (List α×ε)} {es:List (List V)} {x y:V}:zKC F es [x,y]=ob (bQ es) fun s=>ob (Enc.dec x) fun a=>ob (Enc.dec y) fun b=>ob (F s a b) fun r=>some (r.1.map fB.cells,enc r.2):=(rfl)
@[simp] theorem zKz {F:List α->β->γ->δ->Option (List α×ε)} {es:List (List V)} {x y z:V}:zKA F es [x,y,z]=ob (bQ es) fun s=>ob (Enc.dec x) fun a=>ob (Enc.dec y) fun b=>ob (Enc.dec z) fun c=>ob (F s a b c) fun r=>some (r.1.map fB.cells,enc r.2):=(rfl)
end
end Go.J
/- Functions that work on several objects of their caller. -/
namespace Go.J
open Enc (enc)
structure fA where
 k:Nat
 k':Nat
 π:Nat->Nat
 OL:List (Nat×Obj)
 OL':List (Nat×Obj)
 vs0:List V
 v0:V
structure fA.Fits(D:fA)(vs:List V)(hs:HS):Prop where
 args:D.vs0.map (V.ren D.π)=vs
 inj:∀ i j,i<D.k->j<D.k->D.π i=D.π j->i=j
 obj:∀ p∈D.OL,hs.H.get (D.π p.1)=some (p.2.ren D.π)
 zNP:∀ i,i<D.k'-D.k->hs.H.get (hs.n+i)=none
 lt:∀ i,i<D.k->D.π i<hs.n
structure fA.Good(D:fA):Prop where
 ol:D.OL.map Prod.fst=List.range D.k
 zOw:D.OL'.map Prod.fst=List.range D.k'
 le:D.k<=D.k'
 zHu:∀ p∈D.OL,p.2.in (dom D.OL)=true
 zCs:∀ p∈D.OL',p.2.in (dom D.OL')=true/\p.2.fz=false
 v0:D.v0.nk (dom D.OL')=true
 vs0:∀ v∈D.vs0,v.nk (dom D.OL)=true
def dN(M:List V->HS->Option fA):Spec:=fun vs hs=>ob (M vs hs) fun D=>some (D.v0.ren (news hs.n D.k D.π),sK hs D.k D.k' D.π D.OL')
theorem Zk{H:PT Obj}{id:Nat}(h:H.get id≠none):∀ l:List (Nat×Obj),(rU H l).get id≠none:=by
 intro l
 induction l with
 |nil=>exact h
 | cons p l ih =>
   show ((rU H l).set p.1 p.2).get id≠none;rw[PT.bD]
   grind
theorem Z5{hs:HS}{k k':Nat}{π:Nat->Nat}{OL':List (Nat×Obj)}:Kept hs (sK hs k k' π OL') where
 log i hi:=List.mem_append_right _ hi
 obj i o ho hn:=by
  show (rU hs.H _).get i=some o
  rw[DK (fun p hp e=>hn (by
   obtain⟨q,hq,rfl⟩:=List.mem_map.1 hp
   exact List.mem_append_left _ (List.mem_map.2 ⟨q,hq,e⟩)))]
  exact ho
 le:=Nat.le_add_right ..
 hm i hi:=Zk hi _
theorem MF{ρ:Nat->Value}{E:Env}{f:FuncId}{fn:Func}{sc:SC}{T:PT V}{D:fA}(hρ:J.Good ρ)(hcon:aZ ρ E)(hP:E.P.follows .mixedOrders=true)(hN:nW E.P)(hf:E.P.funcs[f]?=some fn)(hb:fn.body.bind aB=some sc)(he:iI fn.ntmps D.vs0 0 .leaf=some T)
 (hg:D.Good) (h:Wp ρ E D.k fn.ntmps sc T { H:=di D.OL,n:=D.k,log:=[] } (Leaves E.P fn (aj D.k D.v0 D.OL'))) {vs:List V} {hs:HS} (hfit:D.Fits vs hs) :
 aA ρ E.P f vs hs (D.v0.ren (news hs.n D.k D.π)) (sK hs D.k D.k' D.π D.OL'):=by
 rw[<- hfit.args];exact Aw hf hb he (zK hρ hcon hP hN h) hg.ol hg.zOw hg.le hg.zHu hg.zCs hg.v0 hg.vs0 hfit.inj hfit.obj hfit.zNP hfit.lt
theorem Valid.PI{ρ:Nat->Value}{P:Program}{f:Nat}{M:List V->HS->Option fA}(hf:lW P f)(h:∀ vs hs D,M vs hs=some D->aA ρ P f vs hs (D.v0.ren (news hs.n D.k D.π)) (sK hs D.k D.k' D.π D.OL')):Valid ρ P f (dN M) where
 fn:=hf
 ok:=by
  intro vs hs v hs' hq;simp only[dN,af]at hq;obtain⟨D,hD,hq⟩:=hq;cases hq;exact h _ _ _ hD
 kept:=by
  intro vs hs q hq;simp only[dN,af]at hq;obtain⟨D,hD,hq⟩:=hq;cases hq;exact Z5
section
variable {M:List V->HS->Option fA}{vs:List V}{hs:HS}{Q:V×HS->Prop}{k k':Nat}{π:Nat->Nat}{H:PT Obj}{p:Nat×Obj}{l:List (Nat×Obj)}
def fA.heap(D:fA)(hs:HS):HS:=sK hs D.k D.k' D.π D.OL'
def fA.val(D:fA)(hs:HS):V:=D.v0.ren (news hs.n D.k D.π)
@[simp] theorem zIH:qI (dN M vs hs) Q=qI (M vs hs) fun D=>Q (D.val hs,D.heap hs):=by
  show ok (dN M vs hs) Q=ok (M vs hs) fun D=>Q (D.v0.ren (news hs.n D.k D.π),sK hs D.k D.k' D.π D.OL')
  simp only[dN,dA,aW]
end
def iH(s:Store)(o d:V):Obj:=.arr 4 0 [[.sl (s.slots.map aX) false,.sl (s.trail.map aV) false,o,d]] true false false
def Pm(o:Obj):Option (Store×V×V) :=
 match o with
 |.arr 4 0 [[sl,tr,o,d]] true false false=>ob (Enc.dec (.agg [sl,tr]):Option Store) fun s=>some (s,o,d)
 |_=>none
theorem ZW{o:Obj}{q:Store×V×V}(h:Pm o=some q):o=iH q.1 q.2.1 q.2.2:=by
 unfold Pm at h;split at h
 . simp only[af]at h;obtain⟨s,hs,h⟩:=h;cases h;have:=Enc.aU _ _ hs;simp at this;obtain⟨rfl,rfl⟩:=this;rfl
 . cases h
def nX(s:Store)(tv:V)(n:Nat)(id rd ro:Nat)(out out':List Int)(done done':List Bool):fA where
 k:=match out with | []=>2|_=>3
 k':=match out' with | []=>2|_=>3
 π:=fun i=>if i=0 then id else if i=1 then rd else ro
 OL:=[(0,iH s (oV 2 (out.map encI)) (.own 1 0 0 n (some n))),(1,nS 1 (done.map qy))]++oH 2 1 (out.map encI)
 OL':=[(0,iH s (oV 2 (out'.map encI)) (.own 1 0 0 n (some n))),(1,nS 1 (done'.map qy))]++oH 2 1 (out'.map encI)
 vs0:=[.ptr 0 0 0,tv]
 v0:=.tuple []
def Ja (F:Store->List Int->List Bool->Ty->Option (List Int×List Bool)) (vs:List V) (hs:HS):Option fA :=
 match vs with
 | [.ptr id 0 0,tv]=>ob (Enc.dec tv:Option Ty) fun t=>ob (hs.H.get id) fun o=>ob (Pm o) fun q=>ob (rowOf 1 hs q.2.1) fun oc=>ob (OH 1 hs q.2.2) fun dq =>
  ob (bQ oc:Option (List Int)) fun out=>ob (bQ dq.2:Option (List Bool)) fun done=>ob (F q.1 out done t) fun r =>
   gd (et (Nat.blt id hs.n) (et (nt (Nat.beq id dq.1)) (et (bi (Nat.beq (aN oc) 0) true (et (nt (Nat.beq id (fH q.2.1))) (nt (Nat.beq dq.1 (fH q.2.1))))) (et (Nat.beq (aN done) (aN r.2)) (et (Nat.ble (aN out) (aN r.1)) (cB hs hs.n))))))
    (some (nX q.1 tv (aN done) id dq.1 (fH q.2.1) out r.1 done r.2))
 |_=>none
theorem ku(l:List Int):((l.map encI).all fun e=>e.all V.aI)=true:=J3 l
theorem rD(l:List Bool):((l.map qy).all fun e=>e.all V.aI)=true:=Gs l
theorem JN {s:Store} {t:Ty} {n id rd ro:Nat} {out out':List Int} {done done':List Bool} (hle:out.length<=out'.length):(nX s (enc t) n id rd ro out out' done done').Good:=by
 have hin:∀ (out:List Int) (done:List Bool) (p:Nat×Obj),p∈([(0,iH s (oV 2 (out.map encI)) (.own 1 0 0 n (some n))),(1,nS 1 (done.map qy))]++oH 2 1 (out.map encI)) ->
  p.2.in (dom ([(0,iH s (oV 2 (out.map encI)) (.own 1 0 0 n (some n))),(1,nS 1 (done.map qy))]++oH 2 1 (out.map encI)))=true/\p.2.fz=false:=by
  intro out done p hp;rcases List.mem_append.1 hp with hp|hp
  . simp only[List.mem_cons,List.not_mem_nil,or_false]at hp;rcases hp with rfl|rfl
    . cases out<;>exact⟨rfl,rfl⟩
    . exact⟨rD done,rfl⟩
  . cases out with
    |nil=>cases hp
    | cons x l =>
      simp only[List.map_cons,yF,List.mem_singleton]at hp;subst hp;exact⟨ku (x::l),rfl⟩
 refine⟨?_,?_,?_,fun p hp=>(hin out done p hp).1,hin out' done',rfl,?_⟩
 . cases out<;>rfl
 . cases out'<;>rfl
 . cases out<;>cases out'<;>first|(simp at hle;done)|exact Nat.le_refl _|exact Nat.le_succ _
 . intro v hv;simp only[nX,List.mem_cons,List.not_mem_nil,or_false]at hv;rcases hv with rfl|rfl
   . cases out<;>rfl
   . exact V.eO (gP (vs:=[enc t]) (by simp) _ (List.mem_singleton.2 rfl))
theorem Nc {F:Store->List Int->List Bool->Ty->Option (List Int×List Bool)} {vs:List V} {hs:HS} {D:fA} (h:Ja F vs hs=some D) :
 ∃ s out done t r id rd ro,F s out done t=some r/\D=nX s (enc t) done.length id rd ro out r.1 done r.2/\done.length=r.2.length/\out.length<=r.1.length/\D.Good/\D.Fits vs hs:=by
 unfold Ja at h;split at h
 . rename_i id tv;simp only[af,aD,bA,dO,fV,bJ,beq_true,dI,ae]at h;obtain⟨t,ht,o,ho,q,hq,oc,hoc,dq,zOF,out,hout,done,hdone,r,hr,⟨h1,h2,h3,h4,h5,h6⟩,h⟩:=h;cases h;have e1:=Enc.aU _ _ ht;subst e1;have e2:=ZW hq;subst e2;have e3:=eZ hout;have e4:=eZ hdone;obtain⟨s,ov,dv⟩:=q;obtain⟨rd,dc⟩:=dq;simp only at hoc zOF e4 h1 h2 h3 hr;subst e3 e4;obtain⟨g1,g2,g3,g4⟩:=zcO zOF;simp only at g1 g2 g3;subst g1;refine⟨s,out,done,t,r,id,rd,fH ov,hr,rfl,h4,h5,JN h5,?_⟩;have hdl:(done.map qy).length=done.length:=List.length_map ..;have zCN:∀ π:Nat->Nat,(enc t:V).ren π=enc t:=fun π=>V.jy (V.eO (gP (vs:=[enc t]) (by simp) _ (List.mem_singleton.2 rfl)))
   rcases rq hoc with⟨e5,e6⟩|⟨ro,e5,e6,g5,g6,_⟩
   . subst e5;have e7:out=[]:=by cases out with|nil=>rfl|cons x l=>cases e6
     subst e7;refine⟨?_,?_,?_,?_,?_⟩
     . simp only[nX,List.map_cons,List.map_nil];rw[zCN];rfl
     . intro i j hi hj e;simp only[nX]at hi hj e;have:id≠rd:=by simpa using h2
       rcases(show i=0\/i=1 by omega)with rfl|rfl<;>rcases(show j=0\/j=1 by omega)with rfl|rfl<;>first|rfl|(simp at e;first|(exact absurd e this)|(exact absurd e.symm this))
     . intro p hp;simp only[nX,List.map_nil,zcG,List.append_nil,List.mem_cons,List.not_mem_nil,or_false]at hp;rcases hp with rfl|rfl
       . show hs.H.get id=_;rw[ho,<- hdl];rfl
       . show hs.H.get rd=_;rw[g2];exact congrArg some (Bu (rD done)).symm
     . intro i hi;simp only[nX]at hi
       have:i=0:=by
        cases hr1:r.1<;>rw[hr1]at hi<;>simp at hi<;>omega
       subst this;exact h6
     . intro i hi;simp only[nX]at hi ⊢;rcases(show i=0\/i=1 by omega)with rfl|rfl
       . exact h1
       . exact g3
   . subst e5
     cases out with
     |nil=>exact absurd rfl e6
     | cons x l =>
       have hro:fH (oV ro ((x::l).map fB.cells))=ro:=rfl;rw[hro]at h3 ⊢
       have hr1:∃ y m,r.1=y::m:=by
        cases hr1:r.1 with
        |nil=>rw[hr1]at h5;simp at h5
        |cons y m=>exact⟨y,m,rfl⟩
       obtain⟨y,m,hr1⟩:=hr1
       have h3':id≠ro/\rd≠ro:=by
        change et (nt (id.beq ro)) (nt (rd.beq ro))=true at h3;simpa using h3
       have h2':id≠rd:=by simpa using h2
       refine⟨?_,?_,?_,?_,?_⟩
       . simp only[nX,List.map_cons,List.map_nil];rw[zCN];rfl
       . intro i j hi hj e;simp only[nX]at hi hj e
         rcases(show i=0\/i=1\/i=2 by omega)with rfl|rfl|rfl<;>rcases(show j=0\/j=1\/j=2 by omega)with rfl|rfl|rfl <;>
          first|rfl|(simp at e;first|(exact absurd e h2')|(exact absurd e.symm h2')|(exact absurd e h3'.1)|(exact absurd e.symm h3'.1)|(exact absurd e h3'.2)|(exact absurd e.symm h3'.2))
       . intro p hp;simp only[nX,List.map_cons,yF,List.cons_append,List.nil_append,List.mem_cons,List.not_mem_nil,or_false]at hp;rcases hp with rfl|rfl|rfl
         . show hs.H.get id=_;rw[ho,<- hdl];rfl
         . show hs.H.get rd=_;rw[g2];exact congrArg some (Bu (rD done)).symm
         . show hs.H.get ro=_;rw[g5];exact congrArg some (nH (es:=(x::l).map encI) (ku (x::l))).symm
       . intro i hi;simp only[nX,hr1]at hi;simp at hi
       . intro i hi;simp only[nX]at hi ⊢;rcases(show i=0\/i=1\/i=2 by omega)with rfl|rfl|rfl
         . exact h1
         . exact g3
         . exact g6
 . cases h
section
variable {s:Store}{tv:V}{n id rd ro:Nat}{out out':List Int}{done done':List Bool}{x:Int}
theorem Eb{π:Nat->Nat}{es:List (List V)}(h:(es.all fun e=>e.all V.aI)=true):(es.map fun e=>e.map (V.iy π))=es:=vP fun x hx v hv=>V.jb (List.all_eq_true.1 (List.all_eq_true.1 h x hx) v hv)
@[simp] theorem zAD {hs:HS}:(nX s tv n id rd ro out out' done done').val hs=.tuple []:=(rfl)
theorem Nh{hs:HS}:(nX s tv n id rd ro [] [] done done').heap hs={ H:=(hs.H.set rd (nS 1 (done'.map qy))).set id (iH s .snil (.own rd 0 0 n (some n))),n:=hs.n,log:=id::rd::hs.log }:=by
 show ({ H:=(hs.H.set rd ((nS 1 (done'.map qy)).ren _)).set id _,n:=hs.n+0,log:=_ }:HS)=_;rw[Bu (rD done')];rfl
theorem Ng{hs:HS}:(nX s tv n id rd ro [] (x::out') done done').heap hs={ H:=((hs.H.set hs.n (oO 1 ((x::out').map encI))).set rd (nS 1 (done'.map qy))).set id (iH s (oV hs.n ((x::out').map encI)) (.own rd 0 0 n (some n))),n:=hs.n+1,log:=id::rd::hs.n::hs.log }:=by
 show ({ H:=((hs.H.set (hs.n+0) ((oO 1 ((x::out').map encI)).ren _)).set rd ((nS 1 (done'.map qy)).ren _)).set id _,n:=hs.n+1,log:=_ }:HS)=_;rw[Bu (rD done'),nH (ku (x::out'))];rfl
theorem Nf{hs:HS}{y:Int}:(nX s tv n id rd ro (y::out) (x::out') done done').heap hs={ H:=((hs.H.set ro (oO 1 ((x::out').map encI))).set rd (nS 1 (done'.map qy))).set id (iH s (oV ro ((x::out').map encI)) (.own rd 0 0 n (some n))),n:=hs.n,log:=id::rd::ro::hs.log }:=by
 show ({ H:=((hs.H.set ro ((oO 1 ((x::out').map encI)).ren _)).set rd ((nS 1 (done'.map qy)).ren _)).set id _,n:=hs.n+0,log:=_ }:HS)=_;rw[Bu (rD done'),nH (ku (x::out'))];rfl
attribute [simp] Nh Ng Nf
@[simp] theorem zGf:(nX s tv n id rd ro [] out' done done').k=2:=(rfl)
@[simp] theorem zGe:(nX s tv n id rd ro (x::out) out' done done').k=3:=(rfl)
@[simp] theorem zGg:(nX s tv n id rd ro out out' done done').OL=[(0,iH s (oV 2 (out.map encI)) (.own 1 0 0 n (some n))),(1,nS 1 (done.map qy))]++oH 2 1 (out.map encI):=(rfl)
@[simp] theorem zAE:(nX s tv n id rd ro out out' done done').OL'=[(0,iH s (oV 2 (out'.map encI)) (.own 1 0 0 n (some n))),(1,nS 1 (done'.map qy))]++oH 2 1 (out'.map encI):=(rfl)
@[simp] theorem zGd:(nX s tv n id rd ro out out' done done').v0=.tuple []:=(rfl)
@[simp] theorem zJy {F:Store→List Int→List Bool→Ty→Option (List Int×List Bool)} {hs:HS}:Ja F [.ptr id 0 0,tv] hs=ob (Enc.dec tv:Option Ty) fun t=>ob (hs.H.get id) fun o=>ob (Pm o) fun q=>ob (rowOf 1 hs q.2.1) fun oc=>ob (OH 1 hs q.2.2) fun dq =>
      ob (bQ oc:Option (List Int)) fun out=>ob (bQ dq.2:Option (List Bool)) fun done=>ob (F q.1 out done t) fun r =>
       gd (et (Nat.blt id hs.n) (et (nt (Nat.beq id dq.1)) (et (bi (Nat.beq (aN oc) 0) true (et (nt (Nat.beq id (fH q.2.1))) (nt (Nat.beq dq.1 (fH q.2.1))))) (et (Nat.beq (aN done) (aN r.2)) (et (Nat.ble (aN out) (aN r.1)) (cB hs hs.n))))))
        (some (nX q.1 tv (aN done) id dq.1 (fH q.2.1) out r.1 done r.2)):=(rfl)
@[simp] theorem zIr {sl tr o d:V}:Pm (.arr 4 0 [[sl,tr,o,d]] true false false)=ob (Enc.dec (.agg [sl,tr]):Option Store) fun s=>some (s,o,d):=(rfl)
@[simp] theorem zxD {i g o n:Nat} {c:Option Nat}:fH (.own i g o n c)=i:=(rfl)
@[simp] theorem ztG:fH .snil=0:=(rfl)
end
end Go.J
/- New numbers of objects,found by comparing what is wanted with what is there. -/
namespace Go.J
open Enc (enc)
def Kb:V->Option Nat
 |.ptr i _ _=>some i
 |.own i _ _ _ _=>some i
 |.map i=>some i
 |.yld i=>some i
 |_=>none
def zaF(v u:V)(k:Nat)(z:Nat):Nat :=
 match Kb v,Kb u with
 |some i,some j=>bif Nat.beq i k then j else z
 |_,_=>z
def Zn:List V->List V->Nat->Nat->Nat
 |v::vs,u::us,k,z=>zaF v u k (Zn vs us k z)
 |_,_,_,z=>z
def Qr(v u:V)(k z:Nat):Nat :=
 match v,u with
 |.agg a,.agg b=>Zn a b k z
 |.func _ a,.func _ b=>Zn a b k z
 |.tuple a,.tuple b=>Zn a b k z
 |v,u=>zaF v u k z
def zmf(T:PT V):List (Nat×V)->Nat->Nat->Nat
 | [],_,z=>z
 |p::l,k,z=>kF (zmf T l k z) (fun u=>Qr p.2 u k (zmf T l k z)) (T.get p.1)
def zxW(o u:Obj)(k z:Nat):Nat :=
 match o,u with
 |.arr _ _ [e] _ _ false,.arr _ _ [e'] _ _ false=>Zn e e' k z
 |_,_=>z
def zqo(H:PT Obj)(π:Nat->Nat):List (Nat×Obj)->Nat->Nat->Nat
 | [],_,z=>z
 |p::l,k,z=>kF (zqo H π l k z) (fun u=>zxW p.2 u k (zqo H π l k z)) (H.get (π p.1))
def auto(n:Nat)(TL:List (Nat×V))(HL:List (Nat×Obj))(T:PT V)(H:PT Obj)(k:Nat):Nat :=
 bif Nat.blt k n then k else zmf T TL k (zqo H (fun i=>bif Nat.blt i n then i else zmf T TL i i) HL k k)
@[simp] theorem zOS {es:List (V×V)}:Obj.fz (.mp es)=false:=(rfl)
@[simp] theorem zuk:nodupB []=true:=(rfl)
@[simp] theorem zqz {x:Nat} {l:List Nat}:nodupB (x::l)=(!(l.any (Nat.beq x))&&nodupB l):=(rfl)
@[simp] theorem zyr (n:Nat):Rw (n:Int)=some n:=(rfl)
section
variable {v u:V}{vs us:List V}{k z i j:Nat}
@[simp] theorem zHW {g o:Nat}:Kb (.ptr i g o)=some i:=(rfl)
@[simp] theorem zHX {g o n:Nat} {c:Option Nat}:Kb (.own i g o n c)=some i:=(rfl)
@[simp] theorem zHY:Kb (.map i)=some i:=(rfl)
@[simp] theorem zHZ {t:IntKind} {n:Int}:Kb (.int t n)=none:=(rfl)
@[simp] theorem zCF {b:Bool}:Kb (.bool b)=none:=(rfl)
@[simp] theorem zHV {b:List Nat}:Kb (.str b)=none:=(rfl)
@[simp] theorem zK0 {b:List (List V)} {t:Bool}:Kb (.sl b t)=none:=(rfl)
@[simp] theorem zCD:Kb .snil=none:=(rfl)
@[simp] theorem zuP:Kb .nilptr=none:=(rfl)
@[simp] theorem zq0:Kb .nilFunc=none:=(rfl)
@[simp] theorem zuQ:Kb .nilmap=none:=(rfl)
@[simp] theorem zH0 {l:List V}:Kb (.agg l)=none:=(rfl)
@[simp] theorem zCE {f:FuncId} {l:List V}:Kb (.func f l)=none:=(rfl)
@[simp] theorem zKh (h:Kb v=some i) (h':Kb u=some j):zaF v u k z=if i=k then j else z:=by
  unfold zaF;rw[h,h'];simp only[]
  cases hb:Nat.beq i k with
  |true=>rw[beq_true]at hb;simp[hb]
  |false=>rw[if_neg (fun e=>by rw[beq_true.2 e]at hb;cases hb)];rfl
@[simp] theorem zKj (h:Kb v=none):zaF v u k z=z:=by unfold zaF;rw[h]
@[simp] theorem zKi (h:Kb u=none):zaF v u k z=z:=by unfold zaF;rw[h];cases Kb v<;>rfl
@[simp] theorem zGV:Zn [] us k z=z:=by unfold Zn;rfl
@[simp] theorem zBR:Zn (v::vs) (u::us) k z=zaF v u k (Zn vs us k z):=(rfl)
@[simp] theorem zG2 {a b:List V}:Qr (.agg a) (.agg b) k z=Zn a b k z:=(rfl)
@[simp] theorem zBU {f g:FuncId} {a b:List V}:Qr (.func f a) (.func g b) k z=Zn a b k z:=(rfl)
@[simp] theorem zxX {a b:List V}:Qr (.tuple a) (.tuple b) k z=Zn a b k z:=(rfl)
@[simp] theorem zGY {g o:Nat}:Qr (.ptr i g o) u k z=zaF (.ptr i g o) u k z:=(rfl)
@[simp] theorem zGZ {g o n:Nat} {c:Option Nat}:Qr (.own i g o n c) u k z=zaF (.own i g o n c) u k z:=(rfl)
@[simp] theorem zG0:Qr (.map i) u k z=zaF (.map i) u k z:=(rfl)
@[simp] theorem zG1 {t:IntKind} {n:Int}:Qr (.int t n) u k z=z:=(rfl)
@[simp] theorem zBV {b:Bool}:Qr (.bool b) u k z=z:=(rfl)
@[simp] theorem zGX {b:List Nat}:Qr (.str b) u k z=z:=(rfl)
@[simp] theorem zKg {b:List (List V)} {t:Bool}:Qr (.sl b t) u k z=z:=(rfl)
@[simp] theorem zBT:Qr .snil u k z=z:=(rfl)
@[simp] theorem ztU:Qr .nilptr u k z=z:=(rfl)
@[simp] theorem zqp:Qr .nilFunc u k z=z:=(rfl)
@[simp] theorem ztV:Qr .nilmap u k z=z:=(rfl)
@[simp] theorem zGS {T:PT V}:zmf T [] k z=z:=(rfl)
@[simp] theorem zBQ {T:PT V} {p:Nat×V} {l:List (Nat×V)}:zmf T (p::l) k z=kF (zmf T l k z) (fun u=>Qr p.2 u k (zmf T l k z)) (T.get p.1):=(rfl)
@[simp] theorem zx6 {α β:Type} {z:β} {f:α->β} {a:α}:kF z f (some a)=f a:=(rfl)
@[simp] theorem zx7 {α β:Type} {z:β} {f:α->β}:kF z f none=z:=(rfl)
@[simp] theorem zGU {a b a' b':Nat} {e e':List V} {x y x' y':Bool}:zxW (.arr a b [e] x y false) (.arr a' b' [e'] x' y' false) k z=Zn e e' k z:=(rfl)
@[simp] theorem zGT {a b:Nat} {es:List (List V)} {x y:Bool} {o:Obj}:zxW (.arr a b es x y true) o k z=z:=by
  unfold zxW;split
  . simp_all
  . rfl
@[simp] theorem zGW {H:PT Obj} {π:Nat->Nat}:zqo H π [] k z=z:=(rfl)
@[simp] theorem zBS {H:PT Obj} {π:Nat->Nat} {p:Nat×Obj} {l:List (Nat×Obj)}:zqo H π (p::l) k z=kF (zqo H π l k z) (fun u=>zxW p.2 u k (zqo H π l k z)) (H.get (π p.1)):=(rfl)
@[simp] theorem zIX {n:Nat} {TL:List (Nat×V)} {HL:List (Nat×Obj)} {T:PT V} {H:PT Obj}:auto n TL HL T H k=if k<n then k else zmf T TL k (zqo H (fun i=>if i<n then i else zmf T TL i i) HL k k):=by
  have hb:∀ (i:Nat) (a b:Nat),(bif Nat.blt i n then a else b)=if i<n then a else b:=by
   intro i a b
   cases h:Nat.blt i n with
   |true=>rw[dO]at h;rw[if_pos h];rfl
   |false=>rw[if_neg (fun e=>by rw[dO.2 e]at h;cases h)];rfl
  unfold auto;rw[hb];simp only[hb]
end
section
variable {k:Nat}{T:PT V}{hs:HS}
theorem Less.auto{TL:List (Nat×V)}{HL:List (Nat×Obj)}{n:Nat}(hT:∀ p∈TL,p.2.nk (dom HL)=true/\T.get p.1=some (p.2.ren (J.auto k TL HL T hs.H)))
 (hH:∀ p∈HL,p.2.in (dom HL)=true/\hs.H.get (J.auto k TL HL T hs.H p.1)=some (p.2.ren (J.auto k TL HL T hs.H))) (hi:nodupB (HL.map fun p=>J.auto k TL HL T hs.H p.1)=true) (hk:(List.range k).all (fun i=>Nat.beq (J.auto k TL HL T hs.H i) i&&dom HL i)=true) :
 Less k T hs (di TL) { H:=di HL,n:=n,log:=[] }:=Less.lit _ n hT hH hi hk
end
@[simp] theorem zyP {f:Nat}:(V.func f []).pure=true:=(rfl)
@[simp] theorem zvo {f:Nat} {hs:HS}:gV hs (V.func f [])=some (V.func f []):=(rfl)
@[simp] theorem zrd {f:Nat} {hs:HS}:iG hs (V.func f [])=hs:=(rfl)
@[simp] theorem zyQ {f:Nat}:dL (V.func f [])=.func f []:=(rfl)
end Go.J
/- zl2 that read one variable of their maker,and functions that are handed such a closure. -/
namespace Go.J
open Enc (enc)
def zkW(g:Option Nat)(id:Nat):V:=match g with
 |none=>.ptr id 0 0
 |some g=>.func g [.ptr id 0 0]
def capOf (g:Option Nat) (v:V):Option Nat:=match g with
 | none=>(match v with
   |.ptr id 0 0=>some id
   |_=>none)
 | some g=>(match v with
   |.func g' [.ptr id 0 0]=>gd (Nat.beq g' g) (some id)
   |_=>none)
abbrev dn(v:V):Obj:=.arr 1 0 [[v]] true false false
def capB? (o:Obj):Option V:=match o with
 |.arr 1 0 [[v]] true false false=>some v
 |_=>none
theorem nN{o:Obj}{v:V}(h:capB? o=some v):o=dn v:=by
 unfold capB? at h
 grind
@[simp] theorem zNg {v:V}:capB? (.arr 1 0 [[v]] true false false)=some v:=(rfl)
def zpn(cs:V)(id:Nat)(vs0:List V)(v0:V):fA where
 k:=1
 k':=1
 π:=fun _=>id
 OL:=[(0,dn cs)]
 OL':=[(0,dn cs)]
 vs0:=vs0
 v0:=v0
section
variable {σ:Type} [Enc σ]
def zNf(g:Option Nat)(F:σ->Ty->Option Ty)(vs:List V)(hs:HS):Option fA:=match vs with
 | [tv,cv]=>ob (capOf g cv) fun id=>ob (hs.H.get id) fun o=>ob (capB? o) fun c=>ob (Enc.dec c:Option σ) fun s=>ob (Enc.dec tv:Option Ty) fun a=>ob (F s a) fun r =>
  gd (Nat.blt id hs.n) (some (zpn (enc s) id [tv,zkW g 0] (enc r)))
 |_=>none
@[simp] theorem zNe {g:Option Nat} {F:σ→Ty→Option Ty} {tv cv:V} {hs:HS}:zNf g F [tv,cv] hs=ob (capOf g cv) fun id=>ob (hs.H.get id) fun o=>ob (capB? o) fun c=>ob (Enc.dec c:Option σ) fun s=>ob (Enc.dec tv:Option Ty) fun a=>ob (F s a) fun r =>
      gd (Nat.blt id hs.n) (some (zpn (enc s) id [tv,zkW g 0] (enc r))):=(rfl)
@[simp] theorem zzw {id:Nat}:capOf none (.ptr id 0 0)=some id:=(rfl)
@[simp] theorem zwu {g id:Nat}:capOf (some g) (.func g [.ptr id 0 0])=some id:=by
  show gd (Nat.beq g g) (some id)=_
  simp_all
@[simp] theorem zzv {id:Nat}:zkW none id=.ptr id 0 0:=(rfl)
@[simp] theorem zzu {g id:Nat}:zkW (some g) id=.func g [.ptr id 0 0]:=(rfl)
theorem Dj(a:Ty):(enc a:V).pure=true:=gP (vs:=[enc a]) (by simp) _ (List.mem_singleton.2 rfl)
@[simp] theorem zFs {cs:V} {id:Nat} {vs0:List V} {v0:V} {hs:HS} (h:v0.nk (fun _=>false)=true):(zpn cs id vs0 v0).val hs=v0:=by
  show v0.ren _=_;exact V.jy h
@[simp] theorem zzx {cs:V} {id:Nat} {vs0:List V} {v0:V} {hs:HS} (h:cs.aI=true):(zpn cs id vs0 v0).heap hs={ H:=hs.H.set id (dn cs),n:=hs.n,log:=id::hs.log }:=by
  show ({ H:=hs.H.set id (Obj.arr 1 0 [[cs.iy _]] true false false),n:=hs.n+0,log:=id::hs.log }:HS)=_;rw[V.jb h];rfl
end
def ownB(i:Nat)(c:V):Bool:=match c with
 |.own id _ _ _ _=>Nat.beq id i
 |_=>false
theorem Ea {hs:HS} {i:Nat}:∀ {l:List V},(l.any (ownB i))=false->(ig hs l).H.get i=hs.H.get i:=by
 intro l
 induction l with
 |nil=>intro _;rfl
 | cons c l ih =>
   intro h;rw[List.any_cons,Bool.or_eq_false_iff]at h;show (iG (ig hs l) c).H.get i=_;rw[<- ih h.2];unfold iG;split
   . rename_i id _ _ _ _
     have hne:id≠i:=fun e=>by
      simp_all [ownB]
     unfold dQ
     cases hg:(ig hs l).H.get id with
     |none=>rfl
     | some o =>
       cases ha:o.arr? with
       |none=>simp only[kF,ha]
       | some a =>
         simp only[kF,ha];show ((ig hs l).H.set id _).get i=_;rw[PT.bD,if_neg (fun e=>hne e.symm)]
   . rfl
theorem MZ.keep{k:Nat}{v0 v:V}{OL:List (Nat×Obj)}{hs:HS}(hi:nodupB (OL.map fun p=>p.1)=true)(hk:(List.range k).all (fun i=>dom OL i)=true)(hn:ok (gV hs v) fun v'=>dL v'=v0/\v'.nk (dom OL)=true)
 (hH:∀ p∈OL,p.2.in (dom OL)=true/\(v.cells.any (ownB p.1))=false/\hs.H.get p.1=some p.2):MZ k v0 OL v hs:=by
 obtain⟨v',hv,e1,e2⟩:=hn;refine⟨(v',ig hs v.cells),by simp only[iE,hv];rfl,aj.keep hi hk e1 e2 fun p hp=>?_⟩
 grind [Ea]
end Go.J
