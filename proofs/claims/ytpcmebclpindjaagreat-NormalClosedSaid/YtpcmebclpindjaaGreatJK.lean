import Derived.Test.YtpcmebclpindjaaGreatJI
set_option linter.all false
noncomputable section
/- Calls that work on objects of their caller: run on a small heap that holds these objects alone. -/
namespace Go.J
open Enc (enc)
def zdM(H:PT Obj):List (Nat×Obj)->PT Obj
 | []=>H
 |p::l=>(zdM H l).set p.1 p.2
theorem zgS{H:PT Obj}{id:Nat}:∀ {l:List (Nat×Obj)},(∀ p∈l,p.1≠id)->(zdM H l).get id=H.get id:=by
 intro l
 induction l with
 |nil=>intro _;rfl
 | cons p l ih =>
   intro h;show ((zdM H l).set p.1 p.2).get id=_;rw[PT.set_get,if_neg (fun e=>h p (List.mem_cons_self ..) e.symm)]
   grind
theorem zmd{H:PT Obj}{p:Nat×Obj}:∀ {l:List (Nat×Obj)},(l.map Prod.fst).Nodup->p∈l->(zdM H l).get p.1=some p.2:=by
 intro l
 induction l with
 |nil=>intro _ h;cases h
 | cons q l ih =>
   intro hnd h;rw[List.map_cons,List.nodup_cons]at hnd;show ((zdM H l).set q.1 q.2).get p.1=_;rw[PT.set_get]
   grind
theorem zgb{α:Type}{p:Nat×α}:∀ {l:List (Nat×α)},(l.map Prod.fst).Nodup->p∈l->(mkP l).get p.1=some p.2:=by
 intro l
 induction l with
 |nil=>intro _ h;cases h
 | cons q l ih =>
   intro hnd h;rw[List.map_cons,List.nodup_cons]at hnd;show ((mkP l).set q.1 q.2).get p.1=_;rw[PT.set_get]
   grind
section
variable {ρ:Nat->Value}{P:Program}{w w':World}{F F':Nat->Prop}{μ μ':Nat->Nat->Option MI}
end
def GivesL(k:Nat)(v0:V)(OL:List (Nat×Obj))(v:V)(hs:HS):Prop:=∃ v1,(v1=v0\/zac v1=v0)/\Less k (PT.leaf.set 0 v) hs (mkP [(0,v1)]) { H:=mkP OL,n:=0,log:=[] }
section
variable {ρ:Nat->Value}{E:Env}{f:FuncId}{fn:Func}{sc:SC}{vs0:List V}{T:PT V}{v0:V}{OL OL':List (Nat×Obj)}{k k':Nat}
def news(n k:Nat)(π:Nat->Nat)(j:Nat):Nat:=if j<k then π j else n+(j-k)
def zg1(hs:HS)(k k':Nat)(π:Nat->Nat)(OL':List (Nat×Obj)):HS :=
 { H:=zdM hs.H (OL'.map fun p=>(news hs.n k π p.1,p.2.ren (news hs.n k π))),n:=hs.n+(k'-k),log:=(OL'.map fun p=>news hs.n k π p.1)++hs.log }
def GivesF(k:Nat)(v0:V)(OL:List (Nat×Obj))(v:V)(hs:HS):Prop:=∃ q,zaV v hs=some q/\GivesL k v0 OL q.1 q.2
theorem zJA{P:Program}{s:Start}{K:V->HS->Prop}{k:Nat}{v0:V}{OL:List (Nat×Obj)}(hK:∀ v hs,K v hs->GivesL k v0 OL v hs\/GivesF k v0 OL v hs){e:Ending}{w:World}(h:zpB ρ P s K e w):zpB ρ P s (GivesL k v0 OL) e w:=by
 cases e with
 |panicked c=>exact h
 |outgrown=>exact h
 | returned x =>
   obtain⟨v,hs',F',μ',q,hL,hR,hD,hx⟩:=h;rcases hK _ _ q with h|⟨p,hp,hg⟩
   . exact⟨v,hs',F',μ',h,hL,hR,hD,hx⟩
   . obtain⟨F2,R2,f2,_,P2⟩:=zda hR hx hp;exact⟨p.1,p.2,F2,μ',hg,hL.step f2,R2,fun id g hg=>(zbz hp).hm id (hD id g hg),.pure P2⟩
theorem z6a {K:V->HS->Prop} (hf:E.P.funcs[f]?=some fn) (hb:fn.body.bind zh=some sc) (he:zb3 fn.ntmps vs0 0 .leaf=some T)
 (h:Ls ρ E k fn.ntmps sc T { H:=mkP OL,n:=k,log:=[] } (Leaves E.P fn K)) (hK:∀ (s:Start) (e:Ending) (w:World),zpB ρ E.P s K e w->zpB ρ E.P s (GivesL k v0 OL') e w)
 (hOL:OL.map Prod.fst=List.range k) (hOL':OL'.map Prod.fst=List.range k') (hk:k<=k') (hin:∀ p∈OL,p.2.in (dom OL)=true) (hin':∀ p∈OL',p.2.in (dom OL')=true/\p.2.fz=false) (hv0:v0.in3 (dom OL')=true) (ha0:∀ v∈vs0,v.in3 (dom OL)=true)
 {hs:HS} {π:Nat->Nat} (hπ:∀ i j,i<k->j<k->π i=π j->i=j) (hH:∀ p∈OL,hs.H.get (π p.1)=some (p.2.ren π)) (hn:∀ i,i<k'-k->hs.H.get (hs.n+i)=none) (hpn:∀ i,i<k->π i<hs.n) :
 CallOk ρ E.P f (vs0.map (V.ren π)) hs (v0.ren (news hs.n k π)) (zg1 hs k k' π OL'):=by
 have hd:∀ i,dom OL i=true↔i<k:=by
  intro i;rw[<- List.mem_range,<- hOL];unfold dom;rw[List.any_eq_true];exact⟨fun ⟨p,h1,h2⟩=>List.mem_map.2 ⟨p,h1,beq_true.1 h2⟩,fun h=>let ⟨p,h1,h2⟩:=List.mem_map.1 h;⟨p,h1,beq_true.2 h2⟩⟩
 have hd':∀ i,dom OL' i=true↔i<k':=by
  intro i;rw[<- List.mem_range,<- hOL'];unfold dom;rw[List.any_eq_true];exact⟨fun ⟨p,h1,h2⟩=>List.mem_map.2 ⟨p,h1,beq_true.1 h2⟩,fun h=>let ⟨p,h1,h2⟩:=List.mem_map.1 h;⟨p,h1,beq_true.2 h2⟩⟩
 have hnd:(OL.map Prod.fst).Nodup:=by rw[hOL];exact List.nodup_range
 have hnd':(OL'.map Prod.fst).Nodup:=by rw[hOL'];exact List.nodup_range
 have hget:∀ i o,(mkP OL).get i=some o->(i,o)∈OL:=fun i o h=>zfM h
 have hget':∀ i o,(mkP OL').get i=some o->(i,o)∈OL':=fun i o h=>zfM h
 have hex:∀ i,i<k->∃ o,(i,o)∈OL:=by
  intro i hi;have:i∈OL.map Prod.fst:=by rw[hOL];exact List.mem_range.2 hi
  obtain⟨p,hp,rfl⟩:=List.mem_map.1 this;exact⟨p.2,hp⟩
 have hex':∀ i,i<k'->∃ o,(i,o)∈OL':=by
  intro i hi;have:i∈OL'.map Prod.fst:=by rw[hOL'];exact List.mem_range.2 hi
  obtain⟨p,hp,rfl⟩:=List.mem_map.1 this;exact⟨p.2,hp⟩
 have hlt:∀ p∈OL,p.1<k:=fun p hp=>List.mem_range.1 (by rw[<- hOL];exact List.mem_map.2 ⟨p,hp,rfl⟩)
 have hlt':∀ p∈OL',p.1<k':=fun p hp=>List.mem_range.1 (by rw[<- hOL'];exact List.mem_map.2 ⟨p,hp,rfl⟩)
 have nlt:∀ j,j<k->news hs.n k π j=π j:=fun j hj=>if_pos hj
 have nge:∀ j,k<=j->news hs.n k π j=hs.n+(j-k):=fun j hj=>if_neg (by omega)
 have ninj:∀ i j,i<k'->j<k'->news hs.n k π i=news hs.n k π j->i=j:=by
  intro i j hi hj e;by_cases h1:i<k<;>by_cases h2:j<k
  . rw[nlt i h1,nlt j h2]at e;exact hπ i j h1 h2 e
  . rw[nlt i h1,nge j (by omega)]at e;have:=hpn i h1;omega
  . rw[nge i (by omega),nlt j h2]at e;have:=hpn j h2;omega
  . rw[nge i (by omega),nge j (by omega)]at e;omega
 intro X w F μ xs hR hD hO hA
 let μ0:Nat->Nat->Option MI:=fun i g=>if i<k then μ (π i) g else none
 have hμ0:∀ i,i<k->∀ g,μ0 i g=μ (π i) g:=fun i hi g=>if_pos hi
 have hμ0n:∀ i,¬ i<k->∀ g,μ0 i g=none:=fun i hi g=>if_neg hi
 have hR0:R ρ w F μ0 E.P { H:=mkP OL,n:=k,log:=[] }:=by
  refine⟨fun i g m hm=>?_,hR.flt,fun i o ho=>?_,fun i j o o' m m' ho ho' hm hm' hb=>?_,fun i o ho g hg=>?_⟩
  . by_cases hi:i<k
    . rw[hμ0 i hi]at hm;exact hR.lt _ _ _ hm
    . rw[hμ0n i hi]at hm;cases hm
  . have hp:=hget i o ho;have hi:=hlt _ hp;refine ORel.anew (π:=π) (A:=dom OL) (hR.obj _ _ (hH _ hp)) (hin _ hp) (fun g m hm=>by rw[hμ0 i hi]at hm;exact hm) (fun j hj g m hm=>by rw[hμ0 j ((hd j).1 hj)];exact hm)
  . have hp:=hget i o ho;have hp':=hget j o' ho';rw[hμ0 i (hlt _ hp)]at hm;rw[hμ0 j (hlt _ hp')]at hm';exact hπ i j (hlt _ hp) (hlt _ hp') (hR.inj _ _ _ _ m m' (hH _ hp) (hH _ hp') (by rw[Obj.ren_gen];exact hm) (by rw[Obj.ren_gen];exact hm') hb)
  . have hp:=hget i o ho;rw[hμ0 i (hlt _ hp)];exact hR.gens _ _ (hH _ hp) g (by rw[Obj.ren_gen];exact hg)
 have hown0:∀ b,zdE { H:=mkP OL,n:=k,log:=[] } μ0 b->∃ i o m,(i,o)∈OL/\o.fz=false/\μ (π i) o.gen=some m/\m.b=b:=by
  rintro b ⟨i,o,m,ho,hz,hm,rfl⟩;have hp:=hget i o ho;rw[hμ0 i (hlt _ hp)]at hm;exact⟨i,o,m,hp,hz,hm,rfl⟩
 have hownC:∀ b,zdE { H:=mkP OL,n:=k,log:=[] } μ0 b->zdE hs μ b:=by
  intro b hb;obtain⟨i,o,m,hp,hz,hm,rfl⟩:=hown0 b hb;exact⟨π i,o.ren π,m,hH _ hp,by rw[Obj.ren_fz];exact hz,by rw[Obj.ren_gen];exact hm,rfl⟩
 have hL0:Loc ⟨zdE { H:=mkP OL,n:=k,log:=[] } μ0,w,F,k,μ0⟩ w F μ0 { H:=mkP OL,n:=k,log:=[] } :=
  ⟨⟨rfl,rfl,rfl⟩,Nat.le_refl _,fun _ _ _=>rfl,fun _ h=>h,fun _ h=>.inl h,fun _ _ _ _ h=>h,fun b hb=>.inl hb,fun i hi=>by
    obtain⟨o,ho⟩:=hex i hi;show (mkP OL).get i≠none
    rw[zgb hnd ho];simp,fun _ _ h=>h,fun i g m hm=>.inr ⟨i,g,m,hm,rfl⟩⟩
 have hD0:Dom0 μ0 { H:=mkP OL,n:=k,log:=[] }:=by
  intro i g hg;by_cases hi:i<k
  . obtain⟨o,ho⟩:=hex i hi;show (mkP OL).get i≠none;rw[zgb hnd ho];simp
  . rw[hμ0n i hi]at hg;exact absurd rfl hg
 have hA0:zv5 ρ w F μ0 vs0 xs:=by
  refine⟨by simpa using hA.1,fun i v hi=>?_⟩;obtain⟨x,hx,hr⟩:=hA.2 i (v.ren π) (by simp[hi]);exact⟨x,hx,hr.anew (A:=dom OL) (ha0 v (List.mem_of_getElem? hi)) fun j hj g m hm=>by rw[hμ0 j ((hd j).1 hj)];exact hm⟩
 refine((zox hf hb he h rfl hL0 hR0 hD0 hA0).mono fun e w' he=>hK _ e w' he).mono fun e w' he=>?_
 cases e with
 |panicked c=>exact he
 |outgrown=>exact he
 | returned x =>
   obtain⟨v,hs1,F1,μ1,⟨v1,hv1,hless⟩,hL1,g1,_,g2⟩:=he
   have hT1:zb6 ρ w' F1 μ1 (PT.leaf.set 0 v) #[x]:=by
    intro t u hu;rw[PT.set_get]at hu;split at hu
    . rename_i e;subst e;cases hu;exact⟨x,rfl,g2⟩
    . cases hu
   obtain⟨μ2,hL2,hR2,hD2,hT2⟩:=hless.state (s:=⟨zdE { H:=mkP OL,n:=k,log:=[] } μ0,w,F,k,μ0⟩) hL1 g1 hT1;obtain⟨x',hx',hr2⟩:=hT2 0 v1 (by show ((PT.leaf.set 0 v1).get 0)=_;rw[PT.set_get,if_pos rfl]);cases hx';have hr3:Rep ρ w' F1 μ2 v0 x:=hv1.elim (fun e=>e ▸ hr2) fun e=>e ▸ hr2.norm
   have hμ2n:∀ i,¬ i<k'->∀ g,μ2 i g=none:=by
    intro i hi g;refine Classical.byContradiction fun hg=>?_
    have hne:=hD2 i g hg;obtain⟨o,ho⟩:=Option.ne_none_iff_exists'.1 hne;exact hi (hlt' _ (hget' i o ho))
   let inv:Nat->Option Nat:=fun id=>(List.range k').find? fun j=>news hs.n k π j == id
   have hinv:∀ j,j<k'->inv (news hs.n k π j)=some j:=by
    intro j hj
    have h1:((List.range k').find? fun i=>news hs.n k π i == news hs.n k π j).isSome=true:=by
     rw[List.find?_isSome];exact⟨j,List.mem_range.2 hj,by simp⟩
    obtain⟨i,hi⟩:=Option.isSome_iff_exists.1 h1;show (List.range k').find? _=_;rw[hi];have h2:=List.find?_some hi;have h3:=List.mem_range.1 (List.mem_of_find?_eq_some hi);exact congrArg some (ninj i j h3 hj (by simpa using h2))
   have hinvS:∀ id j,inv id=some j->j<k'/\news hs.n k π j=id:=by
    intro id j h;exact⟨List.mem_range.1 (List.mem_of_find?_eq_some h),by simpa using List.find?_some h⟩
   let μ':Nat->Nat->Option MI:=fun id g=>match inv id with
    |some j=>μ2 j g
    |none=>μ id g
   have hμS:∀ j,j<k'->∀ g,μ' (news hs.n k π j) g=μ2 j g:=by
    intro j hj g;show (match inv (news hs.n k π j)with|some j=>μ2 j g|none=>_)=_;rw[hinv j hj]
   have hμN:∀ id,inv id=none->∀ g,μ' id g=μ id g:=by
    intro id hid g;show (match inv id with|some j=>μ2 j g|none=>_)=_;rw[hid]
   have hmm:∀ id g m,μ id g=some m->μ' id g=some m:=by
    intro id g m hm
    cases hi:inv id with
    |none=>rw[hμN id hi];exact hm
    | some j =>
      obtain⟨hj,rfl⟩:=hinvS id j hi;rw[hμS j hj];by_cases hjk:j<k
      . rw[nlt j hjk]at hm;exact hL2.mm j g m hjk (by show μ0 j g=_;rw[hμ0 j hjk];exact hm)
      . rw[nge j (by omega)]at hm;exfalso;rcases hD.1 (hs.n+(j-k)) g (by rw[hm];simp)with h1|h1
        . exact h1 (hn _ (by omega))
        . exact hD.2 _ (by omega) h1
   have hkeys:((OL'.map fun p=>(news hs.n k π p.1,p.2.ren (news hs.n k π))).map Prod.fst).Nodup:=by
    rw[List.map_map];have:(OL'.map (Prod.fst ∘ fun p=>(news hs.n k π p.1,p.2.ren (news hs.n k π))))=(OL'.map Prod.fst).map (news hs.n k π):=by rw[List.map_map];rfl
    rw[this,hOL'];refine List.pairwise_map.2 (List.Pairwise.imp_of_mem (fun {a b} ha hb hne e=>hne (ninj a b (List.mem_range.1 ha) (List.mem_range.1 hb) e)) List.nodup_range)
   have hin1:∀ j o,(j,o)∈OL'->(zg1 hs k k' π OL').H.get (news hs.n k π j)=some (o.ren (news hs.n k π)):=by
    intro j o hp;exact zmd (p:=(news hs.n k π j,o.ren (news hs.n k π))) hkeys (List.mem_map.2 ⟨(j,o),hp,rfl⟩)
   have hout:∀ id,inv id=none->(zg1 hs k k' π OL').H.get id=hs.H.get id:=by
    intro id hid;refine zgS fun p hp e=>?_
    obtain⟨q,hq,rfl⟩:=List.mem_map.1 hp;have:=hinv q.1 (hlt' q hq);rw[show news hs.n k π q.1=id from e,hid]at this;cases this
   have hcase:∀ id o,(zg1 hs k k' π OL').H.get id=some o->(inv id=none/\hs.H.get id=some o)\/∃ j o0,j<k'/\news hs.n k π j=id/\(j,o0)∈OL'/\o=o0.ren (news hs.n k π):=by
    intro id o ho
    cases hi:inv id with
    |none=>rw[hout id hi]at ho;exact .inl ⟨rfl,ho⟩
    | some j =>
      obtain⟨hj,rfl⟩:=hinvS id j hi;obtain⟨o0,h0⟩:=hex' j hj;rw[hin1 j o0 h0]at ho;cases ho;exact .inr ⟨j,o0,hj,rfl,h0,rfl⟩
   have hsep:∀ id o m,inv id=none->hs.H.get id=some o->μ id o.gen=some m->¬ zdE { H:=mkP OL,n:=k,log:=[] } μ0 m.b:=by
    intro id o m hid ho hm hown;obtain⟨i,oi,mi,hp,hz,hmi,hb⟩:=hown0 _ hown;have e:=hR.inj _ _ _ _ mi m (hH _ hp) ho (by rw[Obj.ren_gen];exact hmi) hm hb;have hi:=hlt _ hp;have:=hinv i (by omega);rw[nlt i hi]at this;dsimp only at e;rw[e,hid]at this;cases this
   have hFw:∀ b,F b->w'.heap[b]?=w.heap[b]?:=fun b hb=>hL2.keep b (hR.flt b hb) (fun ho=>hR.not_owned hb (hownC b ho))
   have hRf:R ρ w' F1 μ' E.P (zg1 hs k k' π OL'):=by
    refine⟨fun id g m hm=>?_,hR2.flt,fun id o ho=>?_,fun id id' o o' m m' ho ho' hm hm' hb=>?_,fun id o ho g hg=>?_⟩
    . cases hi:inv id with
      |none=>rw[hμN id hi]at hm;exact Nat.lt_of_lt_of_le (hR.lt _ _ _ hm) hL2.size
      | some j =>
        obtain⟨hj,rfl⟩:=hinvS id j hi;rw[hμS j hj]at hm;exact hR2.lt _ _ _ hm
    . rcases hcase id o ho with⟨hi,h1⟩|⟨j,o0,hj,rfl,h0,rfl⟩
      . refine(hR.obj id o h1).mono hL2.fm hFw hmm (fun m hm=>by rw[hμN id hi]at hm;exact hm) (fun m hm=>?_) (fun m hm _ hnF hF1=>?_)
        . exact hL2.keep m.b (hR.lt _ _ _ hm) (hsep id o m hi h1 hm)
        . rcases hL2.fnew m.b hF1 with h2|h2|h2
          . exact hnF h2
          . exact absurd (hR.lt _ _ _ hm) (Nat.not_lt.2 h2)
          . exact hsep id o m hi h1 hm h2
      . exact ORel.back (A:=dom OL') (hR2.obj j o0 (zgb (p:=(j,o0)) hnd' h0)) (hin' _ h0).1 (fun g m hm=>by rw[hμS j hj]at hm;exact hm) (fun i hi g m hm=>by rw[hμS i ((hd' i).1 hi)];exact hm)
    . have key:∀ (id':Nat) (o':Obj) (m m':MI) (j:Nat) (o0:Obj),j<k'->(j,o0)∈OL'->μ2 j o0.gen=some m->inv id'=none->hs.H.get id'=some o'->μ id' o'.gen=some m'->m.b=m'.b->False:=by
       intro id' o' m m' j o0 hj h0 hm hi ho' hm' hb;rcases hL2.own m.b ⟨j,o0,m,zgb (p:=(j,o0)) hnd' h0,(hin' _ h0).2,hm,rfl⟩with h2|h2
       . rw[hb]at h2;exact hsep id' o' m' hi ho' hm' h2
       . rw[hb]at h2;exact absurd (hR.lt _ _ _ hm') (Nat.not_lt.2 h2)
      rcases hcase id o ho with⟨hi,h1⟩|⟨j,o0,hj,rfl,h0,rfl⟩<;>rcases hcase id' o' ho' with⟨hi',h1'⟩|⟨j',o0',hj',rfl,h0',rfl⟩
      . rw[hμN id hi]at hm;rw[hμN id' hi']at hm';exact hR.inj _ _ _ _ m m' h1 h1' hm hm' hb
      . rw[hμN id hi]at hm;rw[Obj.ren_gen,hμS j' hj']at hm';exact(key id o m' m j' o0' hj' h0' hm' hi h1 hm hb.symm).elim
      . rw[hμN id' hi']at hm';rw[Obj.ren_gen,hμS j hj]at hm;exact(key id' o' m m' j o0 hj h0 hm hi' h1' hm' hb).elim
      . rw[Obj.ren_gen,hμS j hj]at hm;rw[Obj.ren_gen,hμS j' hj']at hm';rw[hR2.inj j j' o0 o0' m m' (zgb (p:=(j,o0)) hnd' h0) (zgb (p:=(j',o0')) hnd' h0') hm hm' hb]
    . rcases hcase id o ho with⟨hi,h1⟩|⟨j,o0,hj,rfl,h0,rfl⟩
      . rw[hμN id hi];exact hR.gens id o h1 g hg
      . rw[hμS j hj];exact hR2.gens j o0 (zgb (p:=(j,o0)) hnd' h0) g (by rw[Obj.ren_gen]at hg;exact hg)
   refine⟨F1,μ',hRf,hr3.back (A:=dom OL') hv0 (fun i hi g m hm=>by rw[hμS i ((hd' i).1 hi)];exact hm),?_⟩;refine⟨hL2.io,hL2.size,fun b hb hno=>hL2.keep b hb (fun ho=>hno (hownC b ho)),hL2.fm,fun b hb=>?_,hmm,?_,fun id hid=>?_,fun id hid g=>?_,fun id hid hg g=>?_,fun id g m hm=>?_⟩
   . rcases hL2.fnew b hb with h2|h2|h2
     . exact .inl h2
     . exact .inr (.inl h2)
     . exact .inr (.inr (hownC b h2))
   . rintro b ⟨id,o,m,ho,hz,hm,rfl⟩;rcases hcase id o ho with⟨hi,h1⟩|⟨j,o0,hj,rfl,h0,rfl⟩
     . rw[hμN id hi]at hm;exact .inl ⟨id,o,m,h1,hz,hm,rfl⟩
     . rw[Obj.ren_gen,hμS j hj]at hm;rcases hL2.own m.b ⟨j,o0,m,zgb (p:=(j,o0)) hnd' h0,(hin' _ h0).2,hm,rfl⟩with h2|h2
       . exact .inl (hownC _ h2)
       . exact .inr h2
   . cases hi:inv id with
     |none=>rw[hout id hi];exact hid
     | some j =>
       obtain⟨hj,rfl⟩:=hinvS id j hi;obtain⟨o0,h0⟩:=hex' j hj;rw[hin1 j o0 h0];simp
   . cases hi:inv id with
     |none=>exact hμN id hi g
     | some j =>
       obtain⟨hj,rfl⟩:=hinvS id j hi;obtain⟨o0,h0⟩:=hex' j hj;rw[hin1 j o0 h0]at hid;cases hid
   . cases hi:inv id with
     |none=>rw[hμN id hi];exact hg g
     | some j =>
       obtain⟨hj,rfl⟩:=hinvS id j hi;rw[hμS j hj];by_cases hjk:j<k
       . refine hL2.dm j hjk (fun g=>?_) g;show μ0 j g=none;rw[hμ0 j hjk,<- nlt j hjk];exact hg g
       . rw[nge j (by omega)]at hid;exact absurd (hn _ (by omega)) hid
   . cases hi:inv id with
     |none=>rw[hμN id hi]at hm;exact .inr ⟨id,g,m,hm,rfl⟩
     | some j =>
       obtain⟨hj,rfl⟩:=hinvS id j hi;rw[hμS j hj]at hm;rcases hL2.mn j g m hm with h2|⟨i,g',m0,h2,h3⟩
       . exact .inl h2
       . by_cases hik:i<k
         . exact .inr ⟨π i,g',m0,by rw[<- hμ0 i hik];exact h2,h3⟩
         . replace h2:μ0 i g'=some m0:=h2;rw[hμ0n i hik]at h2;cases h2
theorem zuV{K:V->HS->Prop}(hf:E.P.funcs[f]?=some fn)(hb:fn.body.bind zh=some sc)(he:zb3 fn.ntmps vs0 0 .leaf=some T)
 (h:Ls ρ E k fn.ntmps sc T { H:=mkP OL,n:=k,log:=[] } (Leaves E.P fn K)) (hK:∀ v hs,K v hs->GivesL k v0 OL' v hs\/GivesF k v0 OL' v hs)
 (hOL:OL.map Prod.fst=List.range k) (hOL':OL'.map Prod.fst=List.range k') (hk:k<=k') (hin:∀ p∈OL,p.2.in (dom OL)=true) (hin':∀ p∈OL',p.2.in (dom OL')=true/\p.2.fz=false) (hv0:v0.in3 (dom OL')=true) (ha0:∀ v∈vs0,v.in3 (dom OL)=true)
 {hs:HS} {π:Nat->Nat} (hπ:∀ i j,i<k->j<k->π i=π j->i=j) (hH:∀ p∈OL,hs.H.get (π p.1)=some (p.2.ren π)) (hn:∀ i,i<k'-k->hs.H.get (hs.n+i)=none) (hpn:∀ i,i<k->π i<hs.n) :
 CallOk ρ E.P f (vs0.map (V.ren π)) hs (v0.ren (news hs.n k π)) (zg1 hs k k' π OL'):=z6a hf hb he h (fun _ _ _ he=>zJA hK he) hOL hOL' hk hin hin' hv0 ha0 hπ hH hn hpn
theorem zgh(hf:E.P.funcs[f]?=some fn)(hb:fn.body.bind zh=some sc)(he:zb3 fn.ntmps vs0 0 .leaf=some T)
 (h:Ls ρ E k fn.ntmps sc T { H:=mkP OL,n:=k,log:=[] } (Leaves E.P fn (GivesL k v0 OL')))
 (hOL:OL.map Prod.fst=List.range k) (hOL':OL'.map Prod.fst=List.range k') (hk:k<=k') (hin:∀ p∈OL,p.2.in (dom OL)=true) (hin':∀ p∈OL',p.2.in (dom OL')=true/\p.2.fz=false) (hv0:v0.in3 (dom OL')=true) (ha0:∀ v∈vs0,v.in3 (dom OL)=true)
 {hs:HS} {π:Nat->Nat} (hπ:∀ i j,i<k->j<k->π i=π j->i=j) (hH:∀ p∈OL,hs.H.get (π p.1)=some (p.2.ren π)) (hn:∀ i,i<k'-k->hs.H.get (hs.n+i)=none) (hpn:∀ i,i<k->π i<hs.n) :
 CallOk ρ E.P f (vs0.map (V.ren π)) hs (v0.ren (news hs.n k π)) (zg1 hs k k' π OL') :=
 zuV hf hb he h (fun _ _ h=>.inl h) hOL hOL' hk hin hin' hv0 ha0 hπ hH hn hpn
end
end Go.J
/- Functions of typed values that change one object of their caller. -/
namespace Go.J
open Enc (enc)
theorem V.ren1_none{π:Nat->Nat}{v:V}(h:v.in1 (fun _=>false)=true):v.ren1 π=v:=by
 cases v<;>first|rfl|cases h
theorem map_id'{f:V->V}:∀ {l:List V},(∀ v∈l,f v=v)->l.map f=l:=by
 intro l
 induction l with
 |nil=>intro _;rfl
 |cons a l ih=>intro h;rw[List.map_cons,h a (List.mem_cons_self ..),ih fun v hv=>h v (List.mem_cons_of_mem _ hv)]
theorem V.ren2_none{π:Nat->Nat}{v:V}(h:v.in2 (fun _=>false)=true):v.ren2 π=v:=by
 cases v with
 |agg cs=>exact congrArg V.agg (map_id' fun v hv=>V.ren1_none (List.all_eq_true.1 h v hv))
 |func f cs=>exact congrArg (V.func f) (map_id' fun v hv=>V.ren1_none (List.all_eq_true.1 h v hv))
 |iface t v=>exact congrArg (V.iface t) (V.ren1_none h)
 |_=>first|rfl|cases h
theorem V.ren_none{π:Nat->Nat}{v:V}(h:v.in3 (fun _=>false)=true):v.ren π=v:=by
 cases v with
 |tuple cs=>exact congrArg V.tuple (map_id' fun v hv=>V.ren2_none (List.all_eq_true.1 h v hv))
 |agg cs=>exact V.ren2_none (v:=.agg cs) h
 |func f cs=>exact V.ren2_none (v:=.func f cs) h
 |iface t v=>exact V.ren2_none (v:=.iface t v) h
 |_=>first|rfl|cases h
theorem V.in1_mono{A B:Nat->Bool}(hAB:∀ i,A i=true->B i=true){v:V}(h:v.in1 A=true):v.in1 B=true:=by
 cases v<;>first|exact h|exact hAB _ h
theorem V.in2_mono{A B:Nat->Bool}(hAB:∀ i,A i=true->B i=true){v:V}(h:v.in2 A=true):v.in2 B=true:=by
 cases v with
 |agg cs=>exact List.all_eq_true.2 fun v hv=>V.in1_mono hAB (List.all_eq_true.1 h v hv)
 |func f cs=>exact List.all_eq_true.2 fun v hv=>V.in1_mono hAB (List.all_eq_true.1 h v hv)
 |iface t v=>exact V.in1_mono (v:=v) hAB h
 |_=>first|exact h|exact hAB _ h
theorem V.in3_mono{A B:Nat->Bool}(hAB:∀ i,A i=true->B i=true){v:V}(h:v.in3 A=true):v.in3 B=true:=by
 cases v with
 |tuple cs=>exact List.all_eq_true.2 fun v hv=>V.in2_mono hAB (List.all_eq_true.1 h v hv)
 |agg cs=>exact V.in2_mono (v:=.agg cs) hAB h
 |func f cs=>exact V.in2_mono (v:=.func f cs) hAB h
 |iface t v=>exact V.in2_mono (v:=.iface t v) hAB h
 |_=>first|exact h|exact hAB _ h
theorem V.in2_pure2{A:Nat->Bool}{v:V}(h:v.pure2=true):v.in2 A=true:=by
 cases v with
 | func f cs=>cases cs with
   |nil=>rfl
   |cons _ _=>cases h
 | iface t v =>
   replace h:v.pure1=true:=h;cases v<;>first|rfl|cases h
 |agg _=>cases h
 |_=>first|rfl|cases h
theorem V.in3_pure{A:Nat->Bool}{v:V}(h:v.pure=true):v.in3 A=true:=by
 cases v with
 | agg cs =>
   replace h:zo0 cs=true:=h;rw[zmS]at h;refine List.all_eq_true.2 fun v hv=>?_
   have:=h v hv;cases v<;>first|rfl|exact this|cases this
 |tuple cs=>cases h
 |func f cs=>exact V.in2_pure2 (v:=.func f cs) h
 |iface t v=>exact V.in2_pure2 (v:=.iface t v) h
 |_=>first|rfl|cases h
theorem zoP{v:V}(h:v.pure1=true):(zac v).pure1=true:=by
 cases v<;>first|(cases h;done)|(simp[zac,V.pure1])
theorem ziD{v:V}(h:v.pure2=true):(zac v).pure2=true:=by
 cases v with
 | iface t v =>
   simp only[zac];exact zoP (v:=v) h
 | func f cs=>cases cs with
   |nil=>simp[zac,V.pure2]
   |cons _ _=>cases h
 |_=>first|(cases h;done)|(simp[zac,V.pure2,V.pure1])
theorem zq9{v:V}(h:v.pure=true):(zac v).pure=true:=by
 cases v with
 | agg cs =>
   replace h:zo0 cs=true:=h;simp only[zac];show zo0 (zT cs)=true
   grind [zmS,za2,ziD]
 | iface t v =>
   have:=ziD (v:=.iface t v) h;simp only[zac]at this ⊢;exact this
 | func f cs =>
   simp_all
 |_=>first|(cases h;done)|(simp only[zac];rfl)
theorem zem{vs:List V}(h:zu vs=true):zu (zT vs)=true:=by
 rw[zp9]at h ⊢;intro v hv;rw[za2]at hv;obtain⟨y,hy,rfl⟩:=List.mem_map.1 hv;exact zq9 (h y hy)
theorem GivesL.keep{k:Nat}{v0 v:V}{OL:List (Nat×Obj)}{hs:HS}(hi:nodupB (OL.map fun p=>p.1)=true)(hk:(List.range k).all (fun i=>dom OL i)=true)(hn:zac v=v0)(hv:v.in3 (dom OL)=true)
 (hH:∀ p∈OL,p.2.in (dom OL)=true/\hs.H.get p.1=some p.2):GivesL k v0 OL v hs :=
 ⟨v,.inr hn,Less.keep 0 (fun p hp=>by
   simp only[List.mem_singleton]at hp;subst hp
   exact⟨hv,by rw[PT.set_get,if_pos rfl]⟩) hH hi hk⟩
theorem GivesL.lit(π:Nat->Nat){k:Nat}{v0 v v1:V}{OL:List (Nat×Obj)}{hs:HS}(hi:nodupB (OL.map fun p=>π p.1)=true)(hk:(List.range k).all (fun i=>Nat.beq (π i) i&&dom OL i)=true)(hn:zac v1=v0)(hv:v1.in3 (dom OL)=true/\v=v1.ren π)
 (hH:∀ p∈OL,p.2.in (dom OL)=true/\hs.H.get (π p.1)=some (p.2.ren π)):GivesL k v0 OL v hs :=
 ⟨v1,.inr hn,Less.lit π 0 (fun p hp=>by
   simp only[List.mem_singleton]at hp;subst hp
   exact⟨hv.1,by rw[PT.set_get,if_pos rfl,hv.2]⟩) hH hi hk⟩
theorem GivesL.keepX{k:Nat}{v:V}{OL:List (Nat×Obj)}{hs:HS}(hi:nodupB (OL.map fun p=>p.1)=true)(hk:(List.range k).all (fun i=>dom OL i)=true)(hv:v.in3 (dom OL)=true)
 (hH:∀ p∈OL,p.2.in (dom OL)=true/\hs.H.get p.1=some p.2):GivesL k v OL v hs :=
 ⟨v,.inl rfl,Less.keep 0 (fun p hp=>by
   simp only[List.mem_singleton]at hp;subst hp
   exact⟨hv,by rw[PT.set_get,if_pos rfl]⟩) hH hi hk⟩
theorem GivesL.litX(π:Nat->Nat){k:Nat}{v v1:V}{OL:List (Nat×Obj)}{hs:HS}(hi:nodupB (OL.map fun p=>π p.1)=true)(hk:(List.range k).all (fun i=>Nat.beq (π i) i&&dom OL i)=true)(hv:v1.in3 (dom OL)=true/\v=v1.ren π)
 (hH:∀ p∈OL,p.2.in (dom OL)=true/\hs.H.get (π p.1)=some (p.2.ren π)):GivesL k v1 OL v hs :=
 ⟨v1,.inl rfl,Less.lit π 0 (fun p hp=>by
   simp only[List.mem_singleton]at hp;subst hp
   exact⟨hv.1,by rw[PT.set_get,if_pos rfl,hv.2]⟩) hH hi hk⟩
def box(c:List V):Obj:=.arr (zC c) 0 [c] true false false
def zp2(o:Obj):Option (List V) :=
 match o with
 |.arr _ 0 [c] true false false=>some c
 |_=>none
section
variable {ρ:Nat->Value}{E:Env}{f:FuncId}{fn:Func}{sc:SC}{vs:List V}{T:PT V}{r:V}{c c':List V}
theorem zAg(hρ:Good ρ)(hcon:ConsOk ρ E)(hP:E.P.follows .mixedOrders=true)(hN:zeo E.P)(hf:E.P.funcs[f]?=some fn)(hb:fn.body.bind zh=some sc)(he:zb3 fn.ntmps (.ptr 0 0 0::vs) 0 .leaf=some T)(hp:zu vs=true)
 (hc:c.all V.pure2=true) (hc':c'.all V.pure2=true) (hr:r.in3 (fun _=>false)=true)
 (h:Wp ρ E 1 fn.ntmps sc T { H:=mkP [(0,box c)],n:=1,log:=[] } (Leaves E.P fn (GivesL 1 r [(0,box c')]))) {hs:HS} {id:Nat} (hid:id<hs.n) (hg:hs.H.get id=some (box c)):CallOk ρ E.P f (.ptr id 0 0::vs) hs r (hs.wr id (box c')):=by
 have hren:∀ (π:Nat->Nat) (c:List V),c.all V.pure2=true->(box c).ren π=box c:=by
  intro π c hc;show Obj.arr _ _ [c.map (V.ren2 π)] _ _ _=_;rw[map_id' fun v hv=>V.ren2_pure (List.all_eq_true.1 hc v hv)];rfl
 have hbin:∀ (A:Nat->Bool) (c:List V),c.all V.pure2=true->(box c).in A=true:=by
  intro A c hc;show ([c].all fun e=>e.all fun v=>v.in2 A)=true;simp only[List.all_cons,List.all_nil,Bool.and_true];exact List.all_eq_true.2 fun v hv=>V.in2_pure2 (List.all_eq_true.1 hc v hv)
 have hps:=zb5 hp
 have key:=zgh (k:=1) (k':=1) (OL:=[(0,box c)]) (OL':=[(0,box c')]) (v0:=r) (vs0:=.ptr 0 0 0::vs) hf hb he (zhX hρ hcon hP hN h) rfl rfl (Nat.le_refl _)
  (fun p hp=>by simp only[List.mem_singleton]at hp;subst hp;exact hbin _ _ hc)
  (fun p hp=>by simp only[List.mem_singleton]at hp;subst hp;exact⟨hbin _ _ hc',rfl⟩)
  (V.in3_mono (fun _ h=>by cases h) hr)
  (fun v hv=>by
    rcases List.mem_cons.1 hv with rfl|hv
    . rfl
    . exact V.in3_pure (hps v hv))
  (hs:=hs) (π:=fun _=>id) (fun i j hi hj _=>by omega) (fun p hp=>by simp only[List.mem_singleton]at hp;subst hp;rw[hren _ _ hc];exact hg) (fun i hi=>absurd hi (by omega)) (fun _ _=>hid)
 rw[V.ren_none hr]at key
 have e1:(V.ptr 0 0 0::vs).map (V.ren fun _=>id)=.ptr id 0 0::vs:=by
  rw[List.map_cons,map_id' fun v hv=>V.ren_none (V.in3_pure (hps v hv))];rfl
 rw[e1]at key
 have e2:zg1 hs 1 1 (fun _=>id) [(0,box c')]=hs.wr id (box c'):=by
  show ({ H:=(hs.H.set (news hs.n 1 (fun _=>id) 0) ((box c').ren _)),n:=hs.n+0,log:=[news hs.n 1 (fun _=>id) 0]++hs.log }:HS)=_;rw[hren _ _ hc'];rfl
 grind
end
def stS{σ:Type} [Cel σ](F:σ->List V->Option (σ×V)):Spec:=fun vs hs =>
 match vs with
 |.ptr id 0 0::rest=>ob (zas rest hs) fun q=>gd (Nat.blt id q.2.n) (ob (q.2.H.get id) fun o=>ob (zp2 o) fun c=>ob (Cel.dec c) fun s=>gd (zu q.1) (ob (F s (zT q.1)) fun r=>some (r.2,q.2.wr id (box (Cel.cells r.1)))))
 |_=>none
theorem zxP{o:Obj}{c:List V}(h:zp2 o=some c):∃ n,o=.arr n 0 [c] true false false:=by
 unfold zp2 at h
 grind
section
variable {ρ:Nat->Value}{P:Program}{f:Nat}{σ:Type} [Cel σ]{F:σ->List V->Option (σ×V)}
theorem CallOk.box{vs:List V}{hs hs':HS}{v:V}{id n:Nat}{c:List V}(hg:hs.H.get id=some (.arr n 0 [c] true false false))(h:n=zC c->CallOk ρ P f vs hs v hs')(hp:∃ rest,vs=.ptr id 0 0::rest):CallOk ρ P f vs hs v hs':=by
 intro X w F μ xs hR hD hO hA;obtain⟨rest,rfl⟩:=hp;obtain⟨x,_,hx⟩:=hA.2 0 (.ptr id 0 0) rfl;obtain⟨m,hm,_⟩:=Rep.ptr_inv ρ hx;have:=(hR.obj id _ hg m hm).hlen c (List.mem_singleton.2 rfl);exact h (by rw[zz];exact this.symm) X w F μ xs hR hD hO hA
theorem Valid.st (hf:zeT P f) (h:∀ s vs r,zu vs=true->F s vs=some r->∀ (hs:HS) (id:Nat),id<hs.n->hs.H.get id=some (J.box (Cel.cells s))->CallOk ρ P f (.ptr id 0 0::vs) hs r.2 (hs.wr id (J.box (Cel.cells r.1)))):Valid ρ P f (stS F) where
 fn:=hf
 ok := by
  intro vs hs v hs' hq;unfold stS at hq;split at hq
  . rename_i id rest;simp only[zl,zb]at hq;obtain⟨⟨vs',hs1⟩,hp,hid,o,ho,c,hbo,s,hs0,hpure,r,hr,hq⟩:=hq;cases hq;rw[blt_true]at hid;obtain⟨n,rfl⟩:=zxP hbo;rw[Cel.enc_dec _ _ hs0]at ho;have hpn:zu (zT vs')=true:=zem hpure;intro X w F1 μ xs hR hD hO hA
    have hxs:xs.toList≠[]:=by
     have:=hA.1;intro e;rw[List.length_cons]at this;have:xs.size=0:=by rw[<- Array.length_toList,e];rfl
     omega
    obtain⟨F',k1,k2,k3,k4,k5⟩:=zdb (xs:=xs.toList.drop 1) hp hR (fun i u hi=>by
     obtain⟨x,hx,hr⟩:=hA.2 (i+1) u (by simpa using hi)
     exact⟨x,by simpa [Nat.add_comm]using hx,hr⟩)
    have hc0:CallOk ρ P f (.ptr id 0 0::zT vs') hs1 r.2 (hs1.wr id (J.box (Cel.cells r.1))) :=
     CallOk.box ho (fun e=>h s _ r hpn hr hs1 id hid (by rw[ho,e];rfl)) ⟨_,rfl⟩
    obtain⟨x0,hx0,hr0⟩:=hA.2 0 (.ptr id 0 0) rfl;refine(hc0 X w F' μ xs k1 (k2.dom k3.le hD) hO ⟨by rw[List.length_cons,za2,List.length_map,k4];exact hA.1,fun i u hi=>?_⟩).mono fun e w' he=>?_
    . cases i with
      |zero=>cases hi;exact⟨x0,hx0,k2.rep hR hr0⟩
      | succ i =>
        rw[List.getElem?_cons_succ,za2,List.getElem?_map,Option.map_eq_some_iff]at hi;obtain⟨u0,h0,rfl⟩:=hi;obtain⟨x,hx,hr⟩:=k5 i u0 h0;exact⟨x,by simpa [Nat.add_comm]using hx,.pure hr.norm⟩
    . cases e with
      | returned x =>
        obtain⟨F2,μ2,g1,g2,g3⟩:=he;exact⟨F2,μ2,g1,g2,k2.trans g3⟩
      |panicked c=>exact he
      |outgrown=>exact he
  . cases hq
 kept:=by
  intro vs hs q hq;unfold stS at hq;split at hq
  . simp only[zl,zb]at hq;obtain⟨⟨vs',hs1⟩,hp,_,o,ho,c,hbo,s,hs0,hpure,r,hr,hq⟩:=hq;cases hq;exact(zce hp).trans (zbp _ _ _)
  . cases hq
end
section
variable {α β γ δ σ:Type} [Cel σ] [Enc α] [Enc β] [Enc γ] [Enc δ]
def zAh(F:σ->Option (σ×δ))(s:σ)(vs:List V):Option (σ×V):=match vs with
 | []=>ob (F s) fun r=>some (r.1,enc r.2)
 |_=>none
def zkk(F:σ->α->Option (σ×δ))(s:σ)(vs:List V):Option (σ×V):=match vs with
 | [x]=>ob (Enc.dec x) fun a=>ob (F s a) fun r=>some (r.1,enc r.2)
 |_=>none
def zEk(F:σ->α->β->Option (σ×δ))(s:σ)(vs:List V):Option (σ×V):=match vs with
 | [x,y]=>ob (Enc.dec x) fun a=>ob (Enc.dec y) fun b=>ob (F s a b) fun r=>some (r.1,enc r.2)
 |_=>none
def zjj(F:σ->α->β->γ->Option (σ×δ))(s:σ)(vs:List V):Option (σ×V):=match vs with
 | [x,y,z]=>ob (Enc.dec x) fun a=>ob (Enc.dec y) fun b=>ob (Enc.dec z) fun c=>ob (F s a b c) fun r=>some (r.1,enc r.2)
 |_=>none
@[simp] theorem zKs {F:σ->Option (σ×δ)} {s:σ}:zAh F s []=ob (F s) fun r=>some (r.1,enc r.2):=(rfl)
@[simp] theorem zKr {F:σ->α->Option (σ×δ)} {s:σ} {x:V}:zkk F s [x]=ob (Enc.dec x) fun a=>ob (F s a) fun r=>some (r.1,enc r.2):=(rfl)
@[simp] theorem zKq {F:σ->α->β->Option (σ×δ)} {s:σ} {x y:V}:zEk F s [x,y]=ob (Enc.dec x) fun a=>ob (Enc.dec y) fun b=>ob (F s a b) fun r=>some (r.1,enc r.2):=(rfl)
@[simp] theorem zKp {F:σ->α->β->γ->Option (σ×δ)} {s:σ} {x y z:V}:zjj F s [x,y,z]=ob (Enc.dec x) fun a=>ob (Enc.dec y) fun b=>ob (Enc.dec z) fun c=>ob (F s a b c) fun r=>some (r.1,enc r.2):=(rfl)
theorem zwu{F:σ->Option (σ×δ)}{s:σ}{vs:List V}{r:σ×V}(h:zAh F s vs=some r):∃ q,vs=[]/\F s=some q/\r=(q.1,enc q.2):=by
 grind [zAh,zb]
theorem zwt{F:σ->α->Option (σ×δ)}{s:σ}{vs:List V}{r:σ×V}(h:zkk F s vs=some r):∃ a q,vs=[enc a]/\F s a=some q/\r=(q.1,enc q.2):=by
 unfold zkk at h;split at h
 . simp only[zb]at h;obtain⟨a,ha,q,hq,h⟩:=h;cases h;exact⟨a,q,by rw[Enc.enc_dec _ _ ha],hq,rfl⟩
 . cases h
theorem zws{F:σ->α->β->Option (σ×δ)}{s:σ}{vs:List V}{r:σ×V}(h:zEk F s vs=some r):∃ a b q,vs=[enc a,enc b]/\F s a b=some q/\r=(q.1,enc q.2):=by
 unfold zEk at h;split at h
 . simp only[zb]at h;obtain⟨a,ha,b,hb,q,hq,h⟩:=h;cases h;exact⟨a,b,q,by rw[Enc.enc_dec _ _ ha,Enc.enc_dec _ _ hb],hq,rfl⟩
 . cases h
theorem zwr{F:σ->α->β->γ->Option (σ×δ)}{s:σ}{vs:List V}{r:σ×V}(h:zjj F s vs=some r):∃ a b c q,vs=[enc a,enc b,enc c]/\F s a b c=some q/\r=(q.1,enc q.2):=by
 unfold zjj at h;split at h
 . simp only[zb]at h;obtain⟨a,ha,b,hb,c,hc,q,hq,h⟩:=h;cases h;exact⟨a,b,c,q,by rw[Enc.enc_dec _ _ ha,Enc.enc_dec _ _ hb,Enc.enc_dec _ _ hc],hq,rfl⟩
 . cases h
end
section
variable {σ:Type} [Cel σ]{F:σ->List V->Option (σ×V)}{hs:HS}{id:Nat}{rest:List V}{K:V×HS->Prop}
@[simp] theorem zKo:okT (stS F (.ptr id 0 0::rest) hs) K=okT (zas rest hs) fun q=>id<q.2.n/\okT (q.2.H.get id) fun o=>okT (zp2 o) fun c=>okT (Cel.dec c) fun s=>zu q.1=true/\okT (F s (zT q.1)) fun r=>K (r.2,q.2.wr id (box (Cel.cells r.1))):=by
  show ok (stS F (.ptr id 0 0::rest) hs) K=ok (zas rest hs) fun q=>id<q.2.n/\ok (q.2.H.get id) fun o=>ok (zp2 o) fun c=>ok (Cel.dec c) fun s=>zu q.1=true/\ok (F s (zT q.1)) fun r=>K (r.2,q.2.wr id (box (Cel.cells r.1)))
  simp only[stS,zct,zab,zm,blt_true]
@[simp] theorem zJ5 {n:Nat} {c:List V}:zp2 (.arr n 0 [c] true false false)=some c:=(rfl)
@[simp] theorem zO4 {c:List V}:box c=.arr (zC c) 0 [c] true false false:=(rfl)
end
end Go.J
/- Functions of typed values that hand back a row that nobody else has. -/
namespace Go.J
open Enc (enc)
def oV(r:Nat)(l:List (List V)):V :=
 match l with
 | []=>.snil
 |_::_=>.own r (l.length-1) 0 l.length none
def oO(sz:Nat)(l:List (List V)):Obj:=.arr sz (l.length-1) l false false true
def oH(r sz:Nat)(l:List (List V)):List (Nat×Obj) :=
 match l with
 | []=>[]
 |_::_=>[(r,oO sz l)]
section
variable {r sz:Nat}{x:List V}{l:List (List V)}
@[simp] theorem zKA:oV r []=.snil:=(rfl)
@[simp] theorem zHS:oV r (x::l)=.own r l.length 0 (l.length+1) none:=(rfl)
@[simp] theorem zKB:oH r sz []=[]:=(rfl)
@[simp] theorem zjx:oH r sz (x::l)=[(r,.arr sz l.length (x::l) false false true)]:=(rfl)
theorem z4G:oO sz (x::l)=.arr sz l.length (x::l) false false true:=(rfl)
end
def zy1(sz:Nat)(s:List V->Option (List (List V))):Spec:=fun vs hs=>ob (zas vs hs) fun q=>gd (et (zu q.1) (zaz q.2 q.2.n)) (ob (s (zT q.1)) fun es =>
 gd (es.all fun e=>e.all V.pure2) (some (oV q.2.n es,bi (Nat.beq (zC es) 0) q.2 { H:=q.2.H.set q.2.n (oO sz es),n:=q.2.n+1,log:=q.2.n::q.2.log })))
section
variable {ρ:Nat->Value}{E:Env}{f:FuncId}{fn:Func}{sc:SC}{vs:List V}{T:PT V}{es:List (List V)}{sz:Nat}
theorem zhb{f:V->V}{es:List (List V)}(h:∀ e∈es,∀ v∈e,f v=v):(es.map fun e=>e.map f)=es:=by
 induction es with
 |nil=>rfl
 |cons a l ih=>rw[List.map_cons,map_id' (h a (List.mem_cons_self ..)),ih fun e he=>h e (List.mem_cons_of_mem _ he)]
theorem z4j (hρ:Good ρ) (hcon:ConsOk ρ E) (hP:E.P.follows .mixedOrders=true) (hN:zeo E.P) (hf:E.P.funcs[f]?=some fn) (hb:fn.body.bind zh=some sc) (he:zb3 fn.ntmps vs 0 .leaf=some T) (hp:zu vs=true)
 (hes:(es.all fun e=>e.all V.pure2)=true)
 (h:Wp ρ E 0 fn.ntmps sc T { H:=mkP [],n:=0,log:=[] } (Leaves E.P fn (GivesL 0 (oV 0 es) (oH 0 sz es)))) {hs:HS} (hv:hs.H.get hs.n=none) :
 CallOk ρ E.P f vs hs (oV hs.n es) (bi (Nat.beq (zC es) 0) hs { H:=hs.H.set hs.n (oO sz es),n:=hs.n+1,log:=hs.n::hs.log }):=by
 have hps:=zb5 hp;have hvs:∀ π:Nat->Nat,vs.map (V.ren π)=vs:=fun π=>map_id' fun v hv=>V.ren_none (V.in3_pure (hps v hv))
 cases es with
 | nil =>
   have key:=zgh (k:=0) (k':=0) (OL:=[]) (OL':=[]) (v0:=oV 0 []) (vs0:=vs) hf hb he (zhX hρ hcon hP hN h) rfl rfl (Nat.le_refl _) (fun p hp=>by cases hp) (fun p hp=>by cases hp)
    (by rfl) (fun v hv=>V.in3_pure (hps v hv)) (hs:=hs) (π:=fun i=>i) (fun i j hi=>by omega) (fun p hp=>by cases hp) (fun i hi=>by omega) (fun i hi=>by omega)
   rw[hvs]at key;have e2:zg1 hs 0 0 (fun i=>i) []=hs:=rfl;rw[e2]at key;exact key
 | cons e es =>
   have e0:oV 0 (e::es)=.own 0 es.length 0 (es.length+1) none:=by simp
   have key:=zgh (k:=0) (k':=1) (OL:=[]) (OL':=oH 0 sz (e::es)) (v0:=oV 0 (e::es)) (vs0:=vs) hf hb he (zhX hρ hcon hP hN h) rfl rfl (Nat.zero_le _) (fun p hp=>by cases hp)
    (fun p hp=>by
      simp only[zjx,List.mem_singleton]at hp;subst hp
      exact⟨hes,rfl⟩)
    (by rw[e0];rfl) (fun v hv=>V.in3_pure (hps v hv)) (hs:=hs) (π:=fun i=>i) (fun i j hi=>by omega) (fun p hp=>by cases hp) (fun i hi=>by
      have:i=0:=by omega
      subst this;exact hv) (fun i hi=>by omega)
   rw[hvs,e0]at key;have e1:(V.own 0 es.length 0 (es.length+1) none).ren (news hs.n 0 fun i=>i)=oV hs.n (e::es):=by simp[news]
   rw[e1]at key
   have e2:zg1 hs 0 1 (fun i=>i) (oH 0 sz (e::es))={ H:=hs.H.set hs.n (oO sz (e::es)),n:=hs.n+1,log:=hs.n::hs.log }:=by
    have:((e::es).map fun x=>x.map (V.ren2 (news hs.n 0 fun i=>i)))=e::es:=zhb fun x hx v hv=>V.ren2_pure (List.all_eq_true.1 (List.all_eq_true.1 hes x hx) v hv)
    show ({ H:=hs.H.set (news hs.n 0 (fun i=>i) 0) (.arr sz es.length ((e::es).map fun x=>x.map (V.ren2 (news hs.n 0 fun i=>i))) false false true),n:=hs.n+1,log:=[news hs.n 0 (fun i=>i) 0]++hs.log }:HS)=_;rw[this];rfl
   simp_all
end
section
variable {ρ:Nat->Value}{P:Program}{f:Nat}{sz:Nat}{s:List V->Option (List (List V))}
theorem Valid.row (hf:zeT P f) (h:∀ vs es,zu vs=true->s vs=some es->∀ hs:HS,hs.H.get hs.n=none->CallOk ρ P f vs hs (oV hs.n es) (bi (Nat.beq (zC es) 0) hs { H:=hs.H.set hs.n (oO sz es),n:=hs.n+1,log:=hs.n::hs.log })):Valid ρ P f (zy1 sz s) where
 fn:=hf
 ok := by
  intro vs hs v hs' hq;simp only[zy1,zl,zb,et_true]at hq;obtain⟨⟨vs',hs1⟩,hp,⟨hpure,hvac⟩,es,hes,_,hq⟩:=hq;have hq':=hq;cases hq;rw[vacant_eq]at hvac;intro X w F μ xs hR hD hO hA;obtain⟨F',k1,k2,k3,k4,k5⟩:=zdb (xs:=xs.toList) hp hR (fun i u hi=>by simpa using hA.2 i u hi);have hc:=(h _ _ (zem hpure) hes hs1 hvac).norm hpure;refine(hc X w F' μ xs k1 (k2.dom k3.le hD) hO ⟨by rw[k4];exact hA.1,fun i u hi=>?_⟩).mono fun e w' he=>?_
  . obtain⟨x,hx,hr⟩:=k5 i u hi;exact⟨x,by simpa using hx,.pure hr⟩
  . cases e with
    | returned x =>
      obtain⟨F2,μ2,g1,g2,g3⟩:=he;exact⟨F2,μ2,g1,g2,k2.trans g3⟩
    |panicked c=>exact he
    |outgrown=>exact he
 kept:=by
  intro vs hs q hq;simp only[zy1,zl,zb,et_true]at hq;obtain⟨⟨vs',hs1⟩,hp,⟨_,hvac⟩,es,_,_,hq⟩:=hq;cases hq;rw[vacant_eq]at hvac;refine(zce hp).trans ?_;show Kept hs1 (bi (Nat.beq (zC es) 0) hs1 _);rw[zal];split
  . exact .refl _
  . refine⟨fun k hk=>List.mem_cons_of_mem _ hk,fun k o ho hn=>?_,Nat.le_succ _,fun k hk=>?_⟩
    . show (hs1.H.set hs1.n _).get k=_;rw[PT.set_get];split
      . rename_i e;subst e;rw[hvac]at ho;cases ho
      . exact ho
    . show (hs1.H.set hs1.n _).get k≠none;rw[PT.set_get];split
      . simp
      . exact hk
end
section
variable {sz:Nat}{s:List V->Option (List (List V))}{vs:List V}{hs:HS}{K:V×HS->Prop}
@[simp] theorem zHw:okT (zy1 sz s vs hs) K=okT (zas vs hs) fun q=>(zu q.1=true/\q.2.H.get q.2.n=none)/\okT (s (zT q.1)) fun es=>(es.all fun e=>e.all V.pure2)=true/\K (oV q.2.n es,bi (Nat.beq (zC es) 0) q.2 { H:=q.2.H.set q.2.n (oO sz es),n:=q.2.n+1,log:=q.2.n::q.2.log }):=by
  show ok (zy1 sz s vs hs) K=ok (zas vs hs) fun q=>(zu q.1=true/\q.2.H.get q.2.n=none)/\ok (s (zT q.1)) fun es=>(es.all fun e=>e.all V.pure2)=true/\K (oV q.2.n es,bi (Nat.beq (zC es) 0) q.2 { H:=q.2.H.set q.2.n (oO sz es),n:=q.2.n+1,log:=q.2.n::q.2.log })
  simp only[zy1,zct,zab,zm,et_true,vacant_eq]
end
end Go.J
/- Functions that are handed a slice that they may append to,and hand it back. -/
namespace Go.J
open Enc (enc)
def zw7(sz m id g n:Nat)(o:Obj):Option (List (List V)) :=
 match o with
 |.arr s g' es false false true=>gd (et (Nat.beq s sz) (et (Nat.beq g g') (et (Nat.beq n (zC es)) (et (Nat.beq (g+1) n) (et (Nat.blt id m) (es.all fun e=>e.all V.pure2)))))) (some es)
 |_=>none
def rowOf(sz:Nat)(hs:HS)(v:V):Option (List (List V)) :=
 match v with
 |.snil=>some []
 |.own id g 0 n none=>ob (hs.H.get id) fun o=>zw7 sz hs.n id g n o
 |_=>none
def zcF(v:V):Nat :=
 match v with
 |.own id _ _ _ _=>id
 |_=>0
def zbA(sz:Nat)(v:V)(es es':List (List V))(hs:HS):V×HS :=
 match es with
 | []=>(oV hs.n es',bi (Nat.beq (zC es') 0) hs { H:=hs.H.set hs.n (oO sz es'),n:=hs.n+1,log:=hs.n::hs.log })
 |_::_=>(oV (zcF v) es',hs.wr (zcF v) (oO sz es'))
def ioS(sz:Nat)(F:List (List V)->List V->Option (List (List V)×List V))(K:V->List V->V):Spec:=fun vs hs =>
 match vs with
 | v :: rest=>ob (zas rest hs) fun q=>gd (et (zu q.1) (zaz q.2 q.2.n)) (ob (rowOf sz q.2 v) fun es=>ob (F es (zT q.1)) fun r =>
     gd (et (r.1.all fun e=>e.all V.pure2) (et (r.2.all fun v=>v.in2 (fun _=>false)) (Nat.ble (zC es) (zC r.1)))) (some (K (zbA sz v es r.1 q.2).1 r.2,(zbA sz v es r.1 q.2).2)))
 |_=>none
theorem zfe {sz:Nat} {hs:HS} {v:V} {es:List (List V)} (h:rowOf sz hs v=some es):(v=.snil/\es=[])\/∃ id,v=oV id es/\es≠[]/\hs.H.get id=some (oO sz es)/\id<hs.n/\(es.all fun e=>e.all V.pure2)=true:=by
 unfold rowOf at h;split at h
 . cases h;exact .inl ⟨rfl,rfl⟩
 . rename_i id g n;simp only[zb]at h;obtain⟨o,ho,h⟩:=h;unfold zw7 at h;split at h
   . rename_i s g' es';simp only[zl,et_true,beq_true,blt_true]at h;obtain⟨⟨rfl,rfl,rfl,h4,h5,h6⟩,h⟩:=h;cases h;refine .inr ⟨id,?_,?_,?_,h5,h6⟩
     . cases es with
       |nil=>simp[zz]at h4
       | cons e es =>
         simp_all
     . rintro rfl;simp[zz]at h4
     . rw[ho];rw[zz]at h4;unfold oO;rw[<- h4];rfl
   . cases h
 . cases h
section
variable {ρ:Nat->Value}{E:Env}{f:FuncId}{fn:Func}{sc:SC}{vs:List V}{T T':PT V}{es es':List (List V)}{rs:List V}{sz:Nat}
def zgs(v:V)(_:List V):V:=v
def zKL(v:V)(rs:List V):V:=.tuple (v::rs)
theorem zga{π:Nat->Nat}(h:(es.all fun e=>e.all V.pure2)=true):(oO sz es).ren π=oO sz es:=by
 show Obj.arr _ _ (es.map fun e=>e.map (V.ren2 π)) _ _ _=_;rw[zhb fun x hx v hv=>V.ren2_pure (List.all_eq_true.1 (List.all_eq_true.1 h x hx) v hv)];rfl
theorem zbX{r:Nat}(h:es≠[]):oV r es=.own r (es.length-1) 0 es.length none:=by
 cases es with
 |nil=>exact absurd rfl h
 |cons x l=>rfl
theorem zav{r:Nat}(h:es≠[]):oH r sz es=[(r,oO sz es)]:=by
 cases es with
 |nil=>exact absurd rfl h
 |cons x l=>rfl
theorem zBt (hρ:Good ρ) (hcon:ConsOk ρ E) (hP:E.P.follows .mixedOrders=true) (hN:zeo E.P) {K:V->List V->V} (hK:K=zgs\/K=zKL) (hf:E.P.funcs[f]?=some fn) (hb:fn.body.bind zh=some sc) (he:zb3 fn.ntmps (oV 0 es::vs) 0 .leaf=some T) (hp:zu vs=true)
 (h0:(es.all fun e=>e.all V.pure2)=true) (h1:(es'.all fun e=>e.all V.pure2)=true) (hrs:(rs.all fun v=>v.in2 (fun _=>false))=true) (hle:es.length<=es'.length)
 (h:Wp ρ E (if es=[]then 0 else 1) fn.ntmps sc T { H:=mkP (oH 0 sz es),n:=if es=[]then 0 else 1,log:=[] } (Leaves E.P fn (GivesL (if es=[]then 0 else 1) (K (oV 0 es') rs) (oH 0 sz es'))))
 {hs:HS} {v:V} (hv:rowOf sz hs v=some es) (hvac:hs.H.get hs.n=none):CallOk ρ E.P f (v::vs) hs (K (zbA sz v es es' hs).1 rs) (zbA sz v es es' hs).2:=by
 have hps:=zb5 hp;have hvs:∀ π:Nat->Nat,vs.map (V.ren π)=vs:=fun π=>map_id' fun v hv=>V.ren_none (V.in3_pure (hps v hv))
 have hrs':∀ π:Nat->Nat,rs.map (V.ren2 π)=rs:=fun π=>map_id' fun v hv=>V.ren2_none (List.all_eq_true.1 hrs v hv)
 have hKr:∀ (π:Nat->Nat) (r:Nat),(K (oV r es') rs).ren π=K (oV (π r) es') rs:=by
  intro π r;rcases hK with rfl|rfl
  . cases es'<;>rfl
  . show V.tuple ((oV r es'::rs).map (V.ren2 π))=_;rw[List.map_cons,hrs'];cases es'<;>rfl
 have hKi:(K (oV 0 es') rs).in3 (dom (oH 0 sz es'))=true:=by
  have hr2:∀ v∈rs,v.in2 (dom (oH 0 sz es'))=true:=fun v hv=>V.in2_mono (fun _ h=>by cases h) (List.all_eq_true.1 hrs v hv)
  rcases hK with rfl|rfl
  . cases es'<;>rfl
  . show ((oV 0 es'::rs).all (V.in2 (dom (oH 0 sz es'))))=true;rw[List.all_cons,Bool.and_eq_true];exact⟨by cases es'<;>rfl,List.all_eq_true.2 hr2⟩
 have hin':∀ p∈oH 0 sz es',p.2.in (dom (oH 0 sz es'))=true/\p.2.fz=false:=by
  intro p hp
  cases es' with
  |nil=>cases hp
  | cons a l =>
    simp only[zjx,List.mem_singleton]at hp;subst hp;exact⟨h1,rfl⟩
 rcases zfe hv with⟨rfl,rfl⟩|⟨id,rfl,hne,hg,hid,_⟩
 . rw [if_pos rfl]at h
   cases es' with
   | nil =>
     have key:=zgh (k:=0) (k':=0) (OL:=oH 0 sz []) (OL':=oH 0 sz []) (vs0:=.snil::vs) hf hb he (zhX hρ hcon hP hN h) rfl rfl (Nat.le_refl _) (fun p hp=>by cases hp) hin' hKi
      (fun v hv=>by
        rcases List.mem_cons.1 hv with rfl|hv
        . rfl
        . exact V.in3_pure (hps v hv)) (hs:=hs) (π:=fun i=>i) (fun i j hi=>by omega) (fun p hp=>by cases hp) (fun i hi=>by omega) (fun i hi=>by omega)
     rw[List.map_cons,hvs,hKr]at key;exact key
   | cons a l =>
     have key:=zgh (k:=0) (k':=1) (OL:=oH 0 sz []) (OL':=oH 0 sz (a::l)) (vs0:=.snil::vs) hf hb he (zhX hρ hcon hP hN h) rfl rfl (Nat.zero_le _) (fun p hp=>by cases hp) hin' hKi
      (fun v hv=>by
        rcases List.mem_cons.1 hv with rfl|hv
        . rfl
        . exact V.in3_pure (hps v hv)) (hs:=hs) (π:=fun i=>i) (fun i j hi=>by omega) (fun p hp=>by cases hp) (fun i hi=>by
          have:i=0:=by omega
          subst this;exact hvac) (fun i hi=>by omega)
     rw[List.map_cons,hvs,hKr]at key
     have e2:zg1 hs 0 1 (fun i=>i) (oH 0 sz (a::l))={ H:=hs.H.set hs.n (oO sz (a::l)),n:=hs.n+1,log:=hs.n::hs.log }:=by
      show ({ H:=hs.H.set (news hs.n 0 (fun i=>i) 0) ((oO sz (a::l)).ren _),n:=hs.n+1,log:=[news hs.n 0 (fun i=>i) 0]++hs.log }:HS)=_;rw[zga h1];rfl
     rw[e2]at key;exact key
 . rw [if_neg hne]at h
   have hne':es'≠[]:=by
    intro e;rw[e]at hle;exact hne (List.eq_nil_of_length_eq_zero (by simpa using hle))
   have key:=zgh (k:=1) (k':=1) (OL:=oH 0 sz es) (OL':=oH 0 sz es') (vs0:=oV 0 es::vs) hf hb he (zhX hρ hcon hP hN h) (by rw[zav hne];rfl) (by rw[zav hne'];rfl) (Nat.le_refl _)
    (fun p hp=>by
      rw[zav hne]at hp;simp only[List.mem_singleton]at hp
      subst hp;exact h0) hin' hKi
    (fun v hv=>by
      rcases List.mem_cons.1 hv with rfl|hv
      . rw[zbX hne,zav hne];rfl
      . exact V.in3_pure (hps v hv)) (hs:=hs) (π:=fun _=>id) (fun i j hi hj _=>by omega) (fun p hp=>by
        rw[zav hne]at hp;simp only[List.mem_singleton]at hp;subst hp
        rw[zga h0];exact hg) (fun i hi=>by omega) (fun _ _=>hid)
   rw[List.map_cons,hvs,hKr]at key;have e1:(oV 0 es).ren (fun _=>id)=oV id es:=by rw[zbX hne,zbX hne];rfl
   rw[e1]at key
   have e2:zg1 hs 1 1 (fun _=>id) (oH 0 sz es')=hs.wr id (oO sz es'):=by
    rw[zav hne'];show ({ H:=hs.H.set (news hs.n 1 (fun _=>id) 0) ((oO sz es').ren _),n:=hs.n+0,log:=[news hs.n 1 (fun _=>id) 0]++hs.log }:HS)=_;rw[zga h1];rfl
   rw[e2]at key
   have e3:zbA sz (oV id es) es es' hs=(oV id es',hs.wr id (oO sz es')):=by
    cases es with
    |nil=>exact absurd rfl hne
    |cons a l=>rfl
   rw[e3];exact key
end
section
variable {ρ:Nat->Value}{P:Program}{f:Nat}{sz:Nat}{F:List (List V)->List V->Option (List (List V)×List V)}{K:V->List V->V}
theorem Valid.io (hf:zeT P f) (h:∀ es vs r,zu vs=true->(es.all fun e=>e.all V.pure2)=true->F es vs=some r->(r.1.all fun e=>e.all V.pure2)=true->(r.2.all fun v=>v.in2 (fun _=>false))=true->es.length<=r.1.length ->
 ∀ (hs:HS) (v:V),rowOf sz hs v=some es->hs.H.get hs.n=none->CallOk ρ P f (v::vs) hs (K (zbA sz v es r.1 hs).1 r.2) (zbA sz v es r.1 hs).2):Valid ρ P f (ioS sz F K) where
 fn:=hf
 ok := by
  intro vs hs v hs' hq;unfold ioS at hq;split at hq
  . rename_i v0 rest;simp only[zl,zb,et_true]at hq;obtain⟨⟨vs',hs1⟩,hp,⟨hpure,hvac⟩,es,hes,r,hr,⟨h1,h2,h3⟩,hq⟩:=hq;cases hq;rw[vacant_eq]at hvac;rw[ble_true,zz,zz]at h3
    have h0:(es.all fun e=>e.all V.pure2)=true:=by
     rcases zfe hes with⟨_,rfl⟩|⟨_,_,_,_,_,h⟩
     . rfl
     . exact h
    intro X w F1 μ xs hR hD hO hA
    obtain⟨F',k1,k2,k3,k4,k5⟩:=zdb (xs:=xs.toList.drop 1) hp hR (fun i u hi=>by
     obtain⟨x,hx,hr⟩:=hA.2 (i+1) u (by simpa using hi)
     exact⟨x,by simpa [Nat.add_comm]using hx,hr⟩)
    have hc0:=h es _ r (zem hpure) h0 hr h1 h2 h3 hs1 v0 hes hvac;obtain⟨x0,hx0,hr0⟩:=hA.2 0 v0 rfl;refine(hc0 X w F' μ xs k1 (k2.dom k3.le hD) hO ⟨by rw[List.length_cons,za2,List.length_map,k4];exact hA.1,fun i u hi=>?_⟩).mono fun e w' he=>?_
    . cases i with
      |zero=>cases hi;exact⟨x0,hx0,k2.rep hR hr0⟩
      | succ i =>
        rw[List.getElem?_cons_succ,za2,List.getElem?_map,Option.map_eq_some_iff]at hi;obtain⟨u0,h0,rfl⟩:=hi;obtain⟨x,hx,hr⟩:=k5 i u0 h0;exact⟨x,by simpa [Nat.add_comm]using hx,.pure hr.norm⟩
    . cases e with
      | returned x =>
        obtain⟨F2,μ2,g1,g2,g3⟩:=he;exact⟨F2,μ2,g1,g2,k2.trans g3⟩
      |panicked c=>exact he
      |outgrown=>exact he
  . cases hq
 kept := by
  intro vs hs q hq;unfold ioS at hq;split at hq
  . rename_i v0 rest;simp only[zl,zb,et_true]at hq;obtain⟨⟨vs',hs1⟩,hp,⟨_,hvac⟩,es,hes,r,hr,_,hq⟩:=hq;cases hq;rw[vacant_eq]at hvac;refine(zce hp).trans ?_;unfold zbA
    cases es with
    | nil =>
      show Kept hs1 (bi (Nat.beq (zC r.1) 0) hs1 _);rw[zal];split
      . exact .refl _
      . refine⟨fun k hk=>List.mem_cons_of_mem _ hk,fun k o ho hn=>?_,Nat.le_succ _,fun k hk=>?_⟩
        . show (hs1.H.set hs1.n _).get k=_;rw[PT.set_get];split
          . rename_i e;subst e;rw[hvac]at ho;cases ho
          . exact ho
        . show (hs1.H.set hs1.n _).get k≠none;rw[PT.set_get];split
          . simp
          . exact hk
    |cons a l=>exact zbp ..
  . cases hq
end
section
variable {sz:Nat}{F:List (List V)->List V->Option (List (List V)×List V)}{K:V->List V->V}{v:V}{rest:List V}{hs:HS}{Q:V×HS->Prop}{i:Nat}{x:List V}{l:List (List V)}
@[simp] theorem zKM:okT (ioS sz F K (v::rest) hs) Q=okT (zas rest hs) fun q=>(zu q.1=true/\q.2.H.get q.2.n=none)/\okT (rowOf sz q.2 v) fun es=>okT (F es (zT q.1)) fun r =>
 ((r.1.all fun e=>e.all V.pure2)=true/\(r.2.all fun v=>v.in2 (fun _=>false))=true/\es.length<=r.1.length)/\Q (K (zbA sz v es r.1 q.2).1 r.2,(zbA sz v es r.1 q.2).2):=by
  show ok (ioS sz F K (v::rest) hs) Q=ok (zas rest hs) fun q=>(zu q.1=true/\q.2.H.get q.2.n=none)/\ok (rowOf sz q.2 v) fun es=>ok (F es (zT q.1)) fun r =>
   ((r.1.all fun e=>e.all V.pure2)=true/\(r.2.all fun v=>v.in2 (fun _=>false))=true/\es.length<=r.1.length)/\Q (K (zbA sz v es r.1 q.2).1 r.2,(zbA sz v es r.1 q.2).2)
  simp only[ioS,zct,zab,zm,et_true,vacant_eq,ble_true,zz]
@[simp] theorem z7A:rowOf sz hs .snil=some []:=(rfl)
@[simp] theorem zAo:zbA sz v [] l hs=(oV hs.n l,bi (Nat.beq (zC l) 0) hs { H:=hs.H.set hs.n (oO sz l),n:=hs.n+1,log:=hs.n::hs.log }):=(rfl)
@[simp] theorem zAn {g o n:Nat} {c:Option Nat} {e:List V} {es:List (List V)}:zbA sz (.own i g o n c) (e::es) l hs=(oV i l,hs.wr i (oO sz l)):=(rfl)
@[simp] theorem zAp {g n:Nat}:rowOf sz hs (.own i g 0 n none)=ob (hs.H.get i) fun o=>zw7 sz hs.n i g n o:=(rfl)
@[simp] theorem zHx {m g n s g':Nat} {es:List (List V)}:zw7 sz m i g n (.arr s g' es false false true)=gd (et (Nat.beq s sz) (et (Nat.beq g g') (et (Nat.beq n (zC es)) (et (Nat.beq (g+1) n) (et (Nat.blt i m) (es.all fun e=>e.all V.pure2)))))) (some es):=(rfl)
attribute [simp] z4G
end
end Go.J
/- Functions that write in a slice that was made by make. -/
namespace Go.J
open Enc (enc)
def mkO(sz:Nat)(es:List (List V)):Obj:=.arr sz 0 es true false true
def zIa(sz m id n:Nat)(o:Obj):Option (Nat×List (List V)) :=
 match o with
 |.arr s 0 es true false true=>gd (et (Nat.beq s sz) (et (Nat.beq n (zC es)) (et (Nat.blt id m) (es.all fun e=>e.all V.pure2)))) (some (id,es))
 |_=>none
def z8e(sz:Nat)(hs:HS)(v:V):Option (Nat×List (List V)) :=
 match v with
 |.own id 0 0 n (some m)=>gd (Nat.beq n m) (ob (hs.H.get id) fun o=>zIa sz hs.n id n o)
 |_=>none
def mtS (p sz:Nat) (F:List (List V)->List V->Option (List (List V)×V)):Spec:=fun vs hs =>
 ob (zeJ vs p) fun v=>ob (z8e sz hs v) fun q=>gd (zu (vs.eraseIdx p)) (ob (F q.2 (vs.eraseIdx p)) fun r =>
  gd (et (r.1.all fun e=>e.all V.pure2) (et (r.2.in3 fun _=>false) (Nat.beq (zC r.1) (zC q.2)))) (some (r.2,hs.wr q.1 (mkO sz r.1))))
section
variable {ρ:Nat->Value}{E:Env}{f:FuncId}{fn:Func}{sc:SC}{pre post:List V}{T:PT V}{r:V}{es es':List (List V)}{sz:Nat}
theorem zmr{π:Nat->Nat}(h:(es.all fun e=>e.all V.pure2)=true):(mkO sz es).ren π=mkO sz es:=by
 show Obj.arr _ _ (es.map fun e=>e.map (V.ren2 π)) _ _ _=_;rw[zhb fun x hx v hv=>V.ren2_pure (List.all_eq_true.1 (List.all_eq_true.1 h x hx) v hv)];rfl
end
section
variable {p sz:Nat}{F:List (List V)->List V->Option (List (List V)×V)}{vs:List V}{hs:HS}{Q:V×HS->Prop}
@[simp] theorem zKE:okT (mtS p sz F vs hs) Q=okT (zeJ vs p) fun v=>okT (z8e sz hs v) fun q=>zu (vs.eraseIdx p)=true/\okT (F q.2 (vs.eraseIdx p)) fun r =>
 ((r.1.all fun e=>e.all V.pure2)=true/\r.2.in3 (fun _=>false)=true/\r.1.length=q.2.length)/\Q (r.2,hs.wr q.1 (mkO sz r.1)):=by
  show ok (mtS p sz F vs hs) Q=ok (zeJ vs p) fun v=>ok (z8e sz hs v) fun q=>zu (vs.eraseIdx p)=true/\ok (F q.2 (vs.eraseIdx p)) fun r =>
   ((r.1.all fun e=>e.all V.pure2)=true/\r.2.in3 (fun _=>false)=true/\r.1.length=q.2.length)/\Q (r.2,hs.wr q.1 (mkO sz r.1))
  simp only[mtS,zct,zab,zm,et_true,beq_true,zz]
@[simp] theorem zFr {i n m:Nat}:z8e sz hs (.own i 0 0 n (some m))=gd (Nat.beq n m) (ob (hs.H.get i) fun o=>zIa sz hs.n i n o):=(rfl)
@[simp] theorem zKI {m i n s:Nat} {es:List (List V)}:zIa sz m i n (.arr s 0 es true false true)=gd (et (Nat.beq s sz) (et (Nat.beq n (zC es)) (et (Nat.blt i m) (es.all fun e=>e.all V.pure2)))) (some (i,es)):=(rfl)
end
section
variable {α β γ δ ε:Type} [Cel α] [Enc β] [Enc γ] [Enc δ] [Enc ε]
def zOr(F:List α->β->γ->Option (List α×ε))(es:List (List V))(vs:List V):Option (List (List V)×V):=match vs with
 | [x,y]=>ob (zN es) fun s=>ob (Enc.dec x) fun a=>ob (Enc.dec y) fun b=>ob (F s a b) fun r=>some (r.1.map Cel.cells,enc r.2)
 |_=>none
def zOq(F:List α->β->γ->δ->Option (List α×ε))(es:List (List V))(vs:List V):Option (List (List V)×V):=match vs with
 | [x,y,z]=>ob (zN es) fun s=>ob (Enc.dec x) fun a=>ob (Enc.dec y) fun b=>ob (Enc.dec z) fun c=>ob (F s a b c) fun r=>some (r.1.map Cel.cells,enc r.2)
 |_=>none
@[simp] theorem zKG {F:List α->β->γ->Option (List α×ε)} {es:List (List V)} {x y:V}:zOr F es [x,y]=ob (zN es) fun s=>ob (Enc.dec x) fun a=>ob (Enc.dec y) fun b=>ob (F s a b) fun r=>some (r.1.map Cel.cells,enc r.2):=(rfl)
@[simp] theorem zKF {F:List α->β->γ->δ->Option (List α×ε)} {es:List (List V)} {x y z:V}:zOq F es [x,y,z]=ob (zN es) fun s=>ob (Enc.dec x) fun a=>ob (Enc.dec y) fun b=>ob (Enc.dec z) fun c=>ob (F s a b c) fun r=>some (r.1.map Cel.cells,enc r.2):=(rfl)
end
end Go.J
/- Functions that work on several objects of their caller. -/
namespace Go.J
open Enc (enc)
structure EmbD where
 k:Nat
 k':Nat
 π:Nat->Nat
 OL:List (Nat×Obj)
 OL':List (Nat×Obj)
 vs0:List V
 v0:V
structure EmbD.Fits(D:EmbD)(vs:List V)(hs:HS):Prop where
 args:D.vs0.map (V.ren D.π)=vs
 inj:∀ i j,i<D.k->j<D.k->D.π i=D.π j->i=j
 obj:∀ p∈D.OL,hs.H.get (D.π p.1)=some (p.2.ren D.π)
 vac:∀ i,i<D.k'-D.k->hs.H.get (hs.n+i)=none
 lt:∀ i,i<D.k->D.π i<hs.n
structure EmbD.Good(D:EmbD):Prop where
 ol:D.OL.map Prod.fst=List.range D.k
 ol':D.OL'.map Prod.fst=List.range D.k'
 le:D.k<=D.k'
 inn:∀ p∈D.OL,p.2.in (dom D.OL)=true
 inn':∀ p∈D.OL',p.2.in (dom D.OL')=true/\p.2.fz=false
 v0:D.v0.in3 (dom D.OL')=true
 vs0:∀ v∈D.vs0,v.in3 (dom D.OL)=true
def zpD(M:List V->HS->Option EmbD):Spec:=fun vs hs=>ob (M vs hs) fun D=>some (D.v0.ren (news hs.n D.k D.π),zg1 hs D.k D.k' D.π D.OL')
theorem zq8{H:PT Obj}{id:Nat}(h:H.get id≠none):∀ l:List (Nat×Obj),(zdM H l).get id≠none:=by
 intro l
 induction l with
 |nil=>exact h
 | cons p l ih =>
   show ((zdM H l).set p.1 p.2).get id≠none;rw[PT.set_get]
   grind
theorem zuW{hs:HS}{k k':Nat}{π:Nat->Nat}{OL':List (Nat×Obj)}:Kept hs (zg1 hs k k' π OL') where
 log i hi:=List.mem_append_right _ hi
 obj i o ho hn:=by
  show (zdM hs.H _).get i=some o
  rw[zgS (fun p hp e=>hn (by
   obtain⟨q,hq,rfl⟩:=List.mem_map.1 hp
   exact List.mem_append_left _ (List.mem_map.2 ⟨q,hq,e⟩)))]
  exact ho
 le:=Nat.le_add_right ..
 hm i hi:=zq8 hi _
theorem zC7{ρ:Nat->Value}{E:Env}{f:FuncId}{fn:Func}{sc:SC}{T:PT V}{D:EmbD}(hρ:J.Good ρ)(hcon:ConsOk ρ E)(hP:E.P.follows .mixedOrders=true)(hN:zeo E.P)(hf:E.P.funcs[f]?=some fn)(hb:fn.body.bind zh=some sc)(he:zb3 fn.ntmps D.vs0 0 .leaf=some T)
 (hg:D.Good) (h:Wp ρ E D.k fn.ntmps sc T { H:=mkP D.OL,n:=D.k,log:=[] } (Leaves E.P fn (GivesL D.k D.v0 D.OL'))) {vs:List V} {hs:HS} (hfit:D.Fits vs hs) :
 CallOk ρ E.P f vs hs (D.v0.ren (news hs.n D.k D.π)) (zg1 hs D.k D.k' D.π D.OL'):=by
 rw[<- hfit.args];exact zgh hf hb he (zhX hρ hcon hP hN h) hg.ol hg.ol' hg.le hg.inn hg.inn' hg.v0 hg.vs0 hfit.inj hfit.obj hfit.vac hfit.lt
theorem Valid.emb{ρ:Nat->Value}{P:Program}{f:Nat}{M:List V->HS->Option EmbD}(hf:zeT P f)(h:∀ vs hs D,M vs hs=some D->CallOk ρ P f vs hs (D.v0.ren (news hs.n D.k D.π)) (zg1 hs D.k D.k' D.π D.OL')):Valid ρ P f (zpD M) where
 fn:=hf
 ok:=by
  intro vs hs v hs' hq;simp only[zpD,zb]at hq;obtain⟨D,hD,hq⟩:=hq;cases hq;exact h _ _ _ hD
 kept:=by
  intro vs hs q hq;simp only[zpD,zb]at hq;obtain⟨D,hD,hq⟩:=hq;cases hq;exact zuW
section
variable {M:List V->HS->Option EmbD}{vs:List V}{hs:HS}{Q:V×HS->Prop}{k k':Nat}{π:Nat->Nat}{H:PT Obj}{p:Nat×Obj}{l:List (Nat×Obj)}
def EmbD.heap(D:EmbD)(hs:HS):HS:=zg1 hs D.k D.k' D.π D.OL'
def EmbD.val(D:EmbD)(hs:HS):V:=D.v0.ren (news hs.n D.k D.π)
@[simp] theorem zJs:okT (zpD M vs hs) Q=okT (M vs hs) fun D=>Q (D.val hs,D.heap hs):=by
  show ok (zpD M vs hs) Q=ok (M vs hs) fun D=>Q (D.v0.ren (news hs.n D.k D.π),zg1 hs D.k D.k' D.π D.OL')
  simp only[zpD,zab,zm]
end
def z5L(s:Store)(o d:V):Obj:=.arr 4 0 [[.sl (s.slots.map zb1) false,.sl (s.trail.map zau) false,o,d]] true false false
def z5K(o:Obj):Option (Store×V×V) :=
 match o with
 |.arr 4 0 [[sl,tr,o,d]] true false false=>ob (Enc.dec (.agg [sl,tr]):Option Store) fun s=>some (s,o,d)
 |_=>none
def zpK(s:Store)(tv:V)(n:Nat)(id rd ro:Nat)(out out':List Int)(done done':List Bool):EmbD where
 k:=match out with | []=>2|_=>3
 k':=match out' with | []=>2|_=>3
 π:=fun i=>if i=0 then id else if i=1 then rd else ro
 OL:=[(0,z5L s (oV 2 (out.map encI)) (.own 1 0 0 n (some n))),(1,mkO 1 (done.map zjF))]++oH 2 1 (out.map encI)
 OL':=[(0,z5L s (oV 2 (out'.map encI)) (.own 1 0 0 n (some n))),(1,mkO 1 (done'.map zjF))]++oH 2 1 (out'.map encI)
 vs0:=[.ptr 0 0 0,tv]
 v0:=.tuple []
def zNG (F:Store->List Int->List Bool->Ty->Option (List Int×List Bool)) (vs:List V) (hs:HS):Option EmbD :=
 match vs with
 | [.ptr id 0 0,tv]=>ob (Enc.dec tv:Option Ty) fun t=>ob (hs.H.get id) fun o=>ob (z5K o) fun q=>ob (rowOf 1 hs q.2.1) fun oc=>ob (z8e 1 hs q.2.2) fun dq =>
  ob (zN oc:Option (List Int)) fun out=>ob (zN dq.2:Option (List Bool)) fun done=>ob (F q.1 out done t) fun r =>
   gd (et (Nat.blt id hs.n) (et (nt (Nat.beq id dq.1)) (et (bi (Nat.beq (zC oc) 0) true (et (nt (Nat.beq id (zcF q.2.1))) (nt (Nat.beq dq.1 (zcF q.2.1))))) (et (Nat.beq (zC done) (zC r.2)) (et (Nat.ble (zC out) (zC r.1)) (zaz hs hs.n))))))
    (some (zpK q.1 tv (zC done) id dq.1 (zcF q.2.1) out r.1 done r.2))
 |_=>none
theorem zfs(l:List Int):((l.map encI).all fun e=>e.all V.pure2)=true:=zk5 l
theorem zh2(l:List Bool):((l.map zjF).all fun e=>e.all V.pure2)=true:=ziC l
theorem zHT{A:Nat->Bool}{sz:Nat}{es:List (List V)}(h:(es.all fun e=>e.all V.pure2)=true):(oO sz es).in A=true:=h
section
variable {s:Store}{tv:V}{n id rd ro:Nat}{out out':List Int}{done done':List Bool}{x:Int}
theorem zbT{π:Nat->Nat}{es:List (List V)}(h:(es.all fun e=>e.all V.pure2)=true):(es.map fun e=>e.map (V.ren2 π))=es:=zhb fun x hx v hv=>V.ren2_pure (List.all_eq_true.1 (List.all_eq_true.1 h x hx) v hv)
@[simp] theorem zEa {hs:HS}:(zpK s tv n id rd ro out out' done done').val hs=.tuple []:=(rfl)
theorem zlL{hs:HS}:(zpK s tv n id rd ro [] [] done done').heap hs={ H:=(hs.H.set rd (mkO 1 (done'.map zjF))).set id (z5L s .snil (.own rd 0 0 n (some n))),n:=hs.n,log:=id::rd::hs.log }:=by
 show ({ H:=(hs.H.set rd ((mkO 1 (done'.map zjF)).ren _)).set id _,n:=hs.n+0,log:=_ }:HS)=_;rw[zmr (zh2 done')];rfl
theorem zlK{hs:HS}:(zpK s tv n id rd ro [] (x::out') done done').heap hs={ H:=((hs.H.set hs.n (oO 1 ((x::out').map encI))).set rd (mkO 1 (done'.map zjF))).set id (z5L s (oV hs.n ((x::out').map encI)) (.own rd 0 0 n (some n))),n:=hs.n+1,log:=id::rd::hs.n::hs.log }:=by
 show ({ H:=((hs.H.set (hs.n+0) ((oO 1 ((x::out').map encI)).ren _)).set rd ((mkO 1 (done'.map zjF)).ren _)).set id _,n:=hs.n+1,log:=_ }:HS)=_;rw[zmr (zh2 done'),zga (zfs (x::out'))];rfl
theorem zlJ{hs:HS}{y:Int}:(zpK s tv n id rd ro (y::out) (x::out') done done').heap hs={ H:=((hs.H.set ro (oO 1 ((x::out').map encI))).set rd (mkO 1 (done'.map zjF))).set id (z5L s (oV ro ((x::out').map encI)) (.own rd 0 0 n (some n))),n:=hs.n,log:=id::rd::ro::hs.log }:=by
 show ({ H:=((hs.H.set ro ((oO 1 ((x::out').map encI)).ren _)).set rd ((mkO 1 (done'.map zjF)).ren _)).set id _,n:=hs.n+0,log:=_ }:HS)=_;rw[zmr (zh2 done'),zga (zfs (x::out'))];rfl
attribute [simp] zlL zlK zlJ
@[simp] theorem zGT:(zpK s tv n id rd ro [] out' done done').k=2:=(rfl)
@[simp] theorem zGS:(zpK s tv n id rd ro (x::out) out' done done').k=3:=(rfl)
@[simp] theorem zGU:(zpK s tv n id rd ro out out' done done').OL=[(0,z5L s (oV 2 (out.map encI)) (.own 1 0 0 n (some n))),(1,mkO 1 (done.map zjF))]++oH 2 1 (out.map encI):=(rfl)
@[simp] theorem zEb:(zpK s tv n id rd ro out out' done done').OL'=[(0,z5L s (oV 2 (out'.map encI)) (.own 1 0 0 n (some n))),(1,mkO 1 (done'.map zjF))]++oH 2 1 (out'.map encI):=(rfl)
@[simp] theorem zGR:(zpK s tv n id rd ro out out' done done').v0=.tuple []:=(rfl)
@[simp] theorem zKi {F:Store→List Int→List Bool→Ty→Option (List Int×List Bool)} {hs:HS}:zNG F [.ptr id 0 0,tv] hs=ob (Enc.dec tv:Option Ty) fun t=>ob (hs.H.get id) fun o=>ob (z5K o) fun q=>ob (rowOf 1 hs q.2.1) fun oc=>ob (z8e 1 hs q.2.2) fun dq =>
      ob (zN oc:Option (List Int)) fun out=>ob (zN dq.2:Option (List Bool)) fun done=>ob (F q.1 out done t) fun r =>
       gd (et (Nat.blt id hs.n) (et (nt (Nat.beq id dq.1)) (et (bi (Nat.beq (zC oc) 0) true (et (nt (Nat.beq id (zcF q.2.1))) (nt (Nat.beq dq.1 (zcF q.2.1))))) (et (Nat.beq (zC done) (zC r.2)) (et (Nat.ble (zC out) (zC r.1)) (zaz hs hs.n))))))
        (some (zpK q.1 tv (zC done) id dq.1 (zcF q.2.1) out r.1 done r.2)):=(rfl)
@[simp] theorem zIU {sl tr o d:V}:z5K (.arr 4 0 [[sl,tr,o,d]] true false false)=ob (Enc.dec (.agg [sl,tr]):Option Store) fun s=>some (s,o,d):=(rfl)
@[simp] theorem zAr {i g o n:Nat} {c:Option Nat}:zcF (.own i g o n c)=i:=(rfl)
@[simp] theorem z7E:zcF .snil=0:=(rfl)
end
end Go.J
/- New numbers of objects,found by comparing what is wanted with what is there. -/
namespace Go.J
open Enc (enc)
def idV:V->Option Nat
 |.ptr i _ _=>some i
 |.own i _ _ _ _=>some i
 |.map i=>some i
 |.yld i=>some i
 |_=>none
def pi1(v u:V)(k:Nat)(z:Nat):Nat :=
 match idV v,idV u with
 |some i,some j=>bif Nat.beq i k then j else z
 |_,_=>z
def piL:List V->List V->Nat->Nat->Nat
 |v::vs,u::us,k,z=>pi1 v u k (piL vs us k z)
 |_,_,_,z=>z
def pi2(v u:V)(k z:Nat):Nat :=
 match v,u with
 |.agg a,.agg b=>piL a b k z
 |.func _ a,.func _ b=>piL a b k z
 |.tuple a,.tuple b=>piL a b k z
 |v,u=>pi1 v u k z
def piT(T:PT V):List (Nat×V)->Nat->Nat->Nat
 | [],_,z=>z
 |p::l,k,z=>orc (piT T l k z) (fun u=>pi2 p.2 u k (piT T l k z)) (T.get p.1)
def piO(o u:Obj)(k z:Nat):Nat :=
 match o,u with
 |.arr _ _ [e] _ _ false,.arr _ _ [e'] _ _ false=>piL e e' k z
 |_,_=>z
def piH(H:PT Obj)(π:Nat->Nat):List (Nat×Obj)->Nat->Nat->Nat
 | [],_,z=>z
 |p::l,k,z=>orc (piH H π l k z) (fun u=>piO p.2 u k (piH H π l k z)) (H.get (π p.1))
def auto(n:Nat)(TL:List (Nat×V))(HL:List (Nat×Obj))(T:PT V)(H:PT Obj)(k:Nat):Nat :=
 bif Nat.blt k n then k else piT T TL k (piH H (fun i=>bif Nat.blt i n then i else piT T TL i i) HL k k)
@[simp] theorem zOt {es:List (V×V)}:Obj.fz (.mp es)=false:=(rfl)
@[simp] theorem z8c:nodupB []=true:=(rfl)
@[simp] theorem z4L {x:Nat} {l:List Nat}:nodupB (x::l)=(!(l.any (Nat.beq x))&&nodupB l):=(rfl)
@[simp] theorem zBg (n:Nat):z4R (n:Int)=some n:=(rfl)
section
variable {v u:V}{vs us:List V}{k z i j:Nat}
@[simp] theorem zI6 {g o:Nat}:idV (.ptr i g o)=some i:=(rfl)
@[simp] theorem zI7 {g o n:Nat} {c:Option Nat}:idV (.own i g o n c)=some i:=(rfl)
@[simp] theorem zI8:idV (.map i)=some i:=(rfl)
@[simp] theorem zI9 {t:IntKind} {n:Int}:idV (.int t n)=none:=(rfl)
@[simp] theorem zFF {b:Bool}:idV (.bool b)=none:=(rfl)
@[simp] theorem zI5 {b:List Nat}:idV (.str b)=none:=(rfl)
@[simp] theorem zKS {b:List (List V)} {t:Bool}:idV (.sl b t)=none:=(rfl)
@[simp] theorem zFD:idV .snil=none:=(rfl)
@[simp] theorem z8y:idV .nilptr=none:=(rfl)
@[simp] theorem z5A:idV .nilFunc=none:=(rfl)
@[simp] theorem z8z:idV .nilmap=none:=(rfl)
@[simp] theorem zIA {l:List V}:idV (.agg l)=none:=(rfl)
@[simp] theorem zFE {f:FuncId} {l:List V}:idV (.func f l)=none:=(rfl)
@[simp] theorem zK3 (h:idV v=some i) (h':idV u=some j):pi1 v u k z=if i=k then j else z:=by
  unfold pi1;rw[h,h'];simp only[]
  cases hb:Nat.beq i k with
  |true=>rw[beq_true]at hb;simp[hb]
  |false=>rw[if_neg (fun e=>by rw[beq_true.2 e]at hb;cases hb)];rfl
@[simp] theorem zK5 (h:idV v=none):pi1 v u k z=z:=by unfold pi1;rw[h]
@[simp] theorem zK4 (h:idV u=none):pi1 v u k z=z:=by unfold pi1;rw[h];cases idV v<;>rfl
@[simp] theorem zHF:piL [] us k z=z:=by unfold piL;rfl
@[simp] theorem zES:piL (v::vs) (u::us) k z=pi1 v u k (piL vs us k z):=(rfl)
@[simp] theorem zHM {a b:List V}:pi2 (.agg a) (.agg b) k z=piL a b k z:=(rfl)
@[simp] theorem zEV {f g:FuncId} {a b:List V}:pi2 (.func f a) (.func g b) k z=piL a b k z:=(rfl)
@[simp] theorem zAE {a b:List V}:pi2 (.tuple a) (.tuple b) k z=piL a b k z:=(rfl)
@[simp] theorem zHI {g o:Nat}:pi2 (.ptr i g o) u k z=pi1 (.ptr i g o) u k z:=(rfl)
@[simp] theorem zHJ {g o n:Nat} {c:Option Nat}:pi2 (.own i g o n c) u k z=pi1 (.own i g o n c) u k z:=(rfl)
@[simp] theorem zHK:pi2 (.map i) u k z=pi1 (.map i) u k z:=(rfl)
@[simp] theorem zHL {t:IntKind} {n:Int}:pi2 (.int t n) u k z=z:=(rfl)
@[simp] theorem zEW {b:Bool}:pi2 (.bool b) u k z=z:=(rfl)
@[simp] theorem zHH {b:List Nat}:pi2 (.str b) u k z=z:=(rfl)
@[simp] theorem zK2 {b:List (List V)} {t:Bool}:pi2 (.sl b t) u k z=z:=(rfl)
@[simp] theorem zEU:pi2 .snil u k z=z:=(rfl)
@[simp] theorem z7L:pi2 .nilptr u k z=z:=(rfl)
@[simp] theorem z4x:pi2 .nilFunc u k z=z:=(rfl)
@[simp] theorem z7M:pi2 .nilmap u k z=z:=(rfl)
@[simp] theorem zHC {T:PT V}:piT T [] k z=z:=(rfl)
@[simp] theorem zER {T:PT V} {p:Nat×V} {l:List (Nat×V)}:piT T (p::l) k z=orc (piT T l k z) (fun u=>pi2 p.2 u k (piT T l k z)) (T.get p.1):=(rfl)
@[simp] theorem zAJ {α β:Type} {z:β} {f:α->β} {a:α}:orc z f (some a)=f a:=(rfl)
@[simp] theorem zAK {α β:Type} {z:β} {f:α->β}:orc z f none=z:=(rfl)
@[simp] theorem zHE {a b a' b':Nat} {e e':List V} {x y x' y':Bool}:piO (.arr a b [e] x y false) (.arr a' b' [e'] x' y' false) k z=piL e e' k z:=(rfl)
@[simp] theorem zHD {a b:Nat} {es:List (List V)} {x y:Bool} {o:Obj}:piO (.arr a b es x y true) o k z=z:=by
  unfold piO;split
  . simp_all
  . rfl
@[simp] theorem zHG {H:PT Obj} {π:Nat->Nat}:piH H π [] k z=z:=(rfl)
@[simp] theorem zET {H:PT Obj} {π:Nat->Nat} {p:Nat×Obj} {l:List (Nat×Obj)}:piH H π (p::l) k z=orc (piH H π l k z) (fun u=>piO p.2 u k (piH H π l k z)) (H.get (π p.1)):=(rfl)
@[simp] theorem zJB {n:Nat} {TL:List (Nat×V)} {HL:List (Nat×Obj)} {T:PT V} {H:PT Obj}:auto n TL HL T H k=if k<n then k else piT T TL k (piH H (fun i=>if i<n then i else piT T TL i i) HL k k):=by
  have hb:∀ (i:Nat) (a b:Nat),(bif Nat.blt i n then a else b)=if i<n then a else b:=by
   intro i a b
   cases h:Nat.blt i n with
   |true=>rw[blt_true]at h;rw[if_pos h];rfl
   |false=>rw[if_neg (fun e=>by rw[blt_true.2 e]at h;cases h)];rfl
  unfold auto;rw[hb];simp only[hb]
end
section
variable {k:Nat}{T:PT V}{hs:HS}
theorem Less.auto{TL:List (Nat×V)}{HL:List (Nat×Obj)}{n:Nat}(hT:∀ p∈TL,p.2.in3 (dom HL)=true/\T.get p.1=some (p.2.ren (J.auto k TL HL T hs.H)))
 (hH:∀ p∈HL,p.2.in (dom HL)=true/\hs.H.get (J.auto k TL HL T hs.H p.1)=some (p.2.ren (J.auto k TL HL T hs.H))) (hi:nodupB (HL.map fun p=>J.auto k TL HL T hs.H p.1)=true) (hk:(List.range k).all (fun i=>Nat.beq (J.auto k TL HL T hs.H i) i&&dom HL i)=true) :
 Less k T hs (mkP TL) { H:=mkP HL,n:=n,log:=[] }:=Less.lit _ n hT hH hi hk
end
@[simp] theorem zB1 {f:Nat}:(V.func f []).pure=true:=(rfl)
@[simp] theorem z8A {f:Nat} {hs:HS}:zaP hs (V.func f [])=some (V.func f []):=(rfl)
@[simp] theorem z5E {f:Nat} {hs:HS}:zaN hs (V.func f [])=hs:=(rfl)
@[simp] theorem zB2 {f:Nat}:zac (V.func f [])=.func f []:=(rfl)
end Go.J
/- Closures that read one variable of their maker,and functions that are handed such a closure. -/
namespace Go.J
open Enc (enc)
def zDe(g:Option Nat)(id:Nat):V:=match g with
 |none=>.ptr id 0 0
 |some g=>.func g [.ptr id 0 0]
def capOf (g:Option Nat) (v:V):Option Nat:=match g with
 | none=>(match v with
   |.ptr id 0 0=>some id
   |_=>none)
 | some g=>(match v with
   |.func g' [.ptr id 0 0]=>gd (Nat.beq g' g) (some id)
   |_=>none)
abbrev z6B(v:V):Obj:=.arr 1 0 [[v]] true false false
def zjK (o:Obj):Option V:=match o with
 |.arr 1 0 [[v]] true false false=>some v
 |_=>none
@[simp] theorem zNt {v:V}:zjK (.arr 1 0 [[v]] true false false)=some v:=(rfl)
def zGs(cs:V)(id:Nat)(vs0:List V)(v0:V):EmbD where
 k:=1
 k':=1
 π:=fun _=>id
 OL:=[(0,z6B cs)]
 OL':=[(0,z6B cs)]
 vs0:=vs0
 v0:=v0
section
variable {σ:Type} [Enc σ]
def zO0(g:Option Nat)(F:σ->Ty->Option Ty)(vs:List V)(hs:HS):Option EmbD:=match vs with
 | [tv,cv]=>ob (capOf g cv) fun id=>ob (hs.H.get id) fun o=>ob (zjK o) fun c=>ob (Enc.dec c:Option σ) fun s=>ob (Enc.dec tv:Option Ty) fun a=>ob (F s a) fun r =>
  gd (Nat.blt id hs.n) (some (zGs (enc s) id [tv,zDe g 0] (enc r)))
 |_=>none
@[simp] theorem zNs {g:Option Nat} {F:σ→Ty→Option Ty} {tv cv:V} {hs:HS}:zO0 g F [tv,cv] hs=ob (capOf g cv) fun id=>ob (hs.H.get id) fun o=>ob (zjK o) fun c=>ob (Enc.dec c:Option σ) fun s=>ob (Enc.dec tv:Option Ty) fun a=>ob (F s a) fun r =>
      gd (Nat.blt id hs.n) (some (zGs (enc s) id [tv,zDe g 0] (enc r))):=(rfl)
@[simp] theorem zDf {id:Nat}:capOf none (.ptr id 0 0)=some id:=(rfl)
@[simp] theorem z9l {g id:Nat}:capOf (some g) (.func g [.ptr id 0 0])=some id:=by
  show gd (Nat.beq g g) (some id)=_
  simp_all
@[simp] theorem zDd {id:Nat}:zDe none id=.ptr id 0 0:=(rfl)
@[simp] theorem zDc {g id:Nat}:zDe (some g) id=.func g [.ptr id 0 0]:=(rfl)
theorem zlg(a:Ty):(enc a:V).pure=true:=zb5 (vs:=[enc a]) (by simp) _ (List.mem_singleton.2 rfl)
@[simp] theorem zGr {cs:V} {id:Nat} {vs0:List V} {v0:V} {hs:HS} (h:v0.in3 (fun _=>false)=true):(zGs cs id vs0 v0).val hs=v0:=by
  show v0.ren _=_;exact V.ren_none h
@[simp] theorem zDh {cs:V} {id:Nat} {vs0:List V} {v0:V} {hs:HS} (h:cs.pure2=true):(zGs cs id vs0 v0).heap hs={ H:=hs.H.set id (z6B cs),n:=hs.n,log:=id::hs.log }:=by
  show ({ H:=hs.H.set id (Obj.arr 1 0 [[cs.ren2 _]] true false false),n:=hs.n+0,log:=id::hs.log }:HS)=_;rw[V.ren2_pure h];rfl
end
def ownB(i:Nat)(c:V):Bool:=match c with
 |.own id _ _ _ _=>Nat.beq id i
 |_=>false
theorem zhp {hs:HS} {i:Nat}:∀ {l:List V},(l.any (ownB i))=false->(zaG hs l).H.get i=hs.H.get i:=by
 intro l
 induction l with
 |nil=>intro _;rfl
 | cons c l ih =>
   intro h;rw[List.any_cons,Bool.or_eq_false_iff]at h;show (zaN (zaG hs l) c).H.get i=_;rw[<- ih h.2];unfold zaN;split
   . rename_i id _ _ _ _
     have hne:id≠i:=fun e=>by
      simp_all [ownB]
     unfold zM
     cases hg:(zaG hs l).H.get id with
     |none=>rfl
     | some o =>
       cases ha:o.arr? with
       |none=>simp only[orc,ha]
       | some a =>
         simp only[orc,ha];show ((zaG hs l).H.set id _).get i=_;rw[PT.set_get,if_neg (fun e=>hne e.symm)]
   . rfl
theorem GivesF.keep{k:Nat}{v0 v:V}{OL:List (Nat×Obj)}{hs:HS}(hi:nodupB (OL.map fun p=>p.1)=true)(hk:(List.range k).all (fun i=>dom OL i)=true)(hn:ok (zaP hs v) fun v'=>zac v'=v0/\v'.in3 (dom OL)=true)
 (hH:∀ p∈OL,p.2.in (dom OL)=true/\(v.cells.any (ownB p.1))=false/\hs.H.get p.1=some p.2):GivesF k v0 OL v hs:=by
 obtain⟨v',hv,e1,e2⟩:=hn;refine⟨(v',zaG hs v.cells),by simp only[zaV,hv];rfl,GivesL.keep hi hk e1 e2 fun p hp=>?_⟩
 grind [zhp]
end Go.J
