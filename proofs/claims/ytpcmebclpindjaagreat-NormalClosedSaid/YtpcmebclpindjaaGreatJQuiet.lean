import Derived.Test.YtpcmebclpindjaaGreatJG
set_option linter.all false
noncomputable section
/- Contracts of functions that read the heap and leave it as it was. -/
namespace Go.J
section
variable {ρ:Nat->Value}{P:Program}{w w':World}{F F':Nat->Prop}{μ μ':Nat->Nat->Option MI}{hs hs1:HS}
theorem PRep.part{v:V}{x0 x:Value}(h0:PRep ρ w F v x0)(h:Rep ρ w' F' μ' v x)(μ2:Nat->Nat->Option MI):Rep ρ w' F' μ2 v x:=by
 induction h0 generalizing x with
 |bool b=>cases h with|pure h=>exact .pure h
 |int k n=>cases h with|pure h=>exact .pure h
 |str s=>cases h with|pure h=>exact .pure h
 |nilptr=>cases h with|pure h=>exact .pure h
 |snil=>cases h with|pure h=>exact .pure h
 |nilmap=>cases h with|pure h=>exact .pure h
 |nilFunc=>cases h with|pure h=>exact .pure h
 |nilIface=>cases h with|pure h=>exact .pure h
 |sym k=>cases h with|pure h=>exact .pure h
 | func f =>
   obtain⟨ys,rfl,hs,hc⟩:=Rep.func_inv ρ h;exact .func f [] ys hs fun i v hi=>by simp at hi
 | iface t v y _ ih =>
   obtain⟨y',rfl,hy⟩:=Rep.iface_inv ρ h;exact .iface t v y' (ih hy)
 |ref cs b off ys=>exact .pure (Rep.ref_inv ρ h)
 |slE a c t=>exact .pure (Rep.sl_inv ρ h)
 |slC es b off size c t ys=>exact .pure (Rep.sl_inv ρ h)
 | agg cs ys hs _ ih =>
   obtain⟨zs,rfl,hz,hc⟩:=Rep.agg_inv ρ h;exact .agg cs zs hz fun i v hi=>ih i v hi (hc i v hi)
 | tuple cs ys hs _ ih =>
   obtain⟨zs,rfl,hz,hc⟩:=Rep.tuple_inv ρ h;exact .tuple cs zs hz fun i v hi=>ih i v hi (hc i v hi)
theorem Rep.part{v:V}{x0 x:Value}(h0:Rep ρ w F μ v x0)(h:Rep ρ w' F' μ' v x)(hm:∀ id g m,μ id g=some m->μ' id g=some m):Rep ρ w' F' μ v x:=by
 induction h0 generalizing x with
 |pure h0=>exact h0.part h μ
 | ptr id g off m hm0 =>
   obtain⟨m',h1,rfl⟩:=Rep.ptr_inv ρ h;rw[hm _ _ _ hm0]at h1;cases h1;exact .ptr id g off m hm0
 | own id g off len cap c m hm0 =>
   obtain⟨m',c',h1,rfl,h2,h3,h4,h5⟩:=Rep.own_inv ρ h;rw[hm _ _ _ hm0]at h1;cases h1;exact .own id g off len cap c' m hm0 h2 h3 h4 h5
 | map id m hm0 =>
   obtain⟨m',h1,rfl⟩:=Rep.map_inv ρ h;rw[hm _ _ _ hm0]at h1;cases h1;exact .map id m hm0
 | yld id m hm0 =>
   obtain⟨m',h1,rfl⟩:=Rep.yld_inv ρ h;rw[hm _ _ _ hm0]at h1;cases h1;exact .yld id m hm0
 | func f cs ys hs _ ih =>
   obtain⟨zs,rfl,hz,hc⟩:=Rep.func_inv ρ h;exact .func f cs zs hz fun i v hi=>ih i v hi (hc i v hi)
 | iface t v y _ ih =>
   obtain⟨y',rfl,hy⟩:=Rep.iface_inv ρ h;exact .iface t v y' (ih hy)
 | agg cs ys hs _ ih =>
   obtain⟨zs,rfl,hz,hc⟩:=Rep.agg_inv ρ h;exact .agg cs zs hz fun i v hi=>ih i v hi (hc i v hi)
 | tuple cs ys hs _ ih =>
   obtain⟨zs,rfl,hz,hc⟩:=Rep.tuple_inv ρ h;exact .tuple cs zs hz fun i v hi=>ih i v hi (hc i v hi)
theorem ORel.part{id:Nat}{o:Obj}(h0:ORel ρ w F μ P id o)(h:ORel ρ w' F' μ' P id o)(hm:∀ id g m,μ id g=some m->μ' id g=some m):ORel ρ w' F' μ P id o:=by
 cases o with
 | arr size gen es exact fz row =>
   intro m hm0;have a:=h m (hm _ _ _ hm0);have a0:=h0 m hm0;obtain⟨cells,el,c1,c2,c3,c4,c5⟩:=a.cells;obtain⟨cells0,el0,_,_,_,_,d5⟩:=a0.cells;refine⟨a.hsize,a.hlen,⟨cells,el,c1,c2,c3,c4,fun k e j v he hv=>?_⟩,a.hf,a.hn⟩;obtain⟨y,y1,y2,y3⟩:=c5 k e j v he hv;obtain⟨z,_,z2,_⟩:=d5 k e j v he hv;exact⟨y,y1,z2.part y2 hm,y3⟩
 |mp es=>exact fun m hm0=>h m (hm _ _ _ hm0)
 | lp fn T ps assign body busy =>
   intro m hm0;have a:=h m (hm _ _ _ hm0);have a0:=h0 m hm0;obtain⟨l,l1,l2,l4,l5,l6,l7,l8⟩:=a.rec_;obtain⟨k,_,_,_,_,_,k7,_⟩:=a0.rec_;refine⟨⟨l,l1,l2,l4,l5,l6,fun t v ht=>?_,l8⟩,a.hn⟩;obtain⟨x,x1,x2⟩:=l7 t v ht;obtain⟨z,_,z2⟩:=k7 t v ht;exact⟨x,x1,z2.part x2 hm⟩
theorem CallOk.quiet{f:FuncId}{vs:List V}{v:V}(h:CallOk ρ P f vs hs v hs1)(hv:v.pure=true)(hsub:∀ id o,hs.H.get id=some o->hs1.H.get id=some o)
 (hnew:∀ id,id<hs.n->hs.H.get id=none->hs1.H.get id=none):CallOk ρ P f vs hs v hs:=by
 intro X w F μ xs hR hD hO hA;have hO1:Off X hs1:=fun id hx=>hnew id (Nat.lt_of_not_le fun hle=>hD.2 id hle hx) (hO id hx)
 refine CallsIn.mono (h X w F μ xs hR hD hO1 hA) fun e w' he=>?_
 cases e with
 | returned x =>
   obtain⟨F1,μ1,g1,g2,g3⟩:=he
   refine⟨F1,μ,⟨fun id g m hm=>Nat.lt_of_lt_of_le (hR.lt id g m hm) g3.size,g1.flt,fun id o ho=>?_,hR.inj,hR.gens⟩,.pure (Rep.of_pure ρ g2 hv),
    ⟨g3.io,g3.size,g3.keep,g3.fm,g3.fnew,fun _ _ _ hm=>hm,fun b hb=>.inl hb,fun _ hh=>hh,fun _ _ _=>rfl,fun _ _ hh=>hh,fun id g m hm=>.inr ⟨id,g,m,hm,rfl⟩⟩⟩
   exact(hR.obj id o ho).part (g1.obj id o (hsub id o ho)) g3.mm
 |panicked c=>exact he
 |outgrown=>exact he
theorem CallOk.atN{f:FuncId}{vs:List V}{v:V}{n:Nat}{log:List Nat}(hn:hs.n<=n)(h:CallOk ρ P f vs { H:=hs.H,n:=n,log:=log } v { H:=hs.H,n:=n,log:=log }):CallOk ρ P f vs hs v hs:=by
 intro X w F μ xs hR hD hO hA;refine CallsIn.mono (h X w F μ xs (hR.atN n log) (hD.atN hn log) hO hA) fun e w' he=>?_
 cases e with
 | returned x =>
   obtain⟨F1,μ1,g1,g2,g3⟩:=he;exact⟨F1,μ1,⟨g1.lt,g1.flt,g1.obj,g1.inj,g1.gens⟩,g2,⟨g3.io,g3.size,g3.keep,g3.fm,g3.fnew,g3.mm,g3.own,g3.hm,g3.sm,g3.dm,g3.mn⟩⟩
 |panicked c=>exact he
 |outgrown=>exact he
end
theorem PT.fin{α:Type}(T:PT α):∃ n,∀ k,n<=k->T.get k=none:=by
 induction T with
 |leaf=>exact⟨0,fun k _=>rfl⟩
 | node l v r h1 h2 =>
   obtain⟨a,ha⟩:=h1;obtain⟨b,hb⟩:=h2;refine⟨2*(a+b)+2,fun k hk=>?_⟩
   cases k with
   |zero=>omega
   | succ m =>
     rw[PT.get_node_succ]
     grind
def zq7(s:List V->PT Obj->Option V):Spec:=fun vs hs=>ob (s vs hs.H) fun v=>gd v.pure (some (v,hs))
theorem Valid.quiet{ρ:Nat->Value}(hρ:Good ρ){P:Program}(hP:P.follows .mixedOrders=true)(hN:zeo P){f:Nat}{s:List V->PT Obj->Option V}(hf:zeT P f)
 (h:∀ vs H n v,(∀ k,n<=k->H.get k=none)->s vs H=some v->v.pure=true->∃ E m hs1,ConsOk ρ E/\E.P=P/\(evJ E m).call f vs { H:=H,n:=n,log:=[] }=some (v,hs1) /\
   (∀ id o,H.get id=some o->hs1.H.get id=some o)/\∀ id,id<n->H.get id=none->hs1.H.get id=none):Valid ρ P f (zq7 s) where
 fn:=hf
 ok:=by
  intro vs hs v hs' hq;simp only[zq7,zb,zl]at hq;obtain⟨v',hv,hp,hq⟩:=hq;cases hq;obtain⟨n0,hn0⟩:=PT.fin hs.H;have hfr:∀ k,max hs.n n0<=k->hs.H.get k=none:=fun k hk=>hn0 k (by omega)
  obtain⟨E,m,hs1,hc,rfl,hr,h1,h2⟩:=h vs hs.H (max hs.n n0) _ hfr hv hp;exact CallOk.atN (n:=max hs.n n0) (log:=[]) (by omega) (((zom hρ hc hP hN m).call hr).quiet hp h1 h2)
 kept:=by
  intro vs hs q hq;simp only[zq7,zb,zl]at hq;obtain⟨v',_,_,hq⟩:=hq;cases hq;exact .refl _
end Go.J
