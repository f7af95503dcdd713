import Derived.Test.YtfgmnebfhemnpaaGreatLX4
import Derived.Test.YtfgmnebfhemnpaaGreatJP
set_option linter.all false
noncomputable section
namespace Go.Proofs.YtfgmnebfhemnpaaGreat
open Go.J
open Go.J.Enc (enc)
set_option maxRecDepth 100000
set_option maxHeartbeats 4000000
section
variable {ρ:Nat->Value}(hρ:J.Good ρ){E:Env}(hE:E.P=Tryz.prog)(hcon:ConsOk ρ E)
include hρ hE hcon
theorem zgF {s:Store} {v:Slot} {t:Ty} {id:Int} {vars:List Int} {l:List Ty} (hl:l.length<=10000) {Q:Ex->PT V->HS->Prop}
 (hf:(∃ x∈l,v.home<x.home)->Q .ret (mkP [(6,.ptr 2 0 0),(7,.int .i64 13)]) { H:=mkP [(2,box (zH s))],n:=4,log:=[] })
 (ht:(¬ ∃ x∈l,v.home<x.home)->Q (.exit 0) (mkP [(1,.int .i64 id),(3,.ptr 0 0 0),(5,.ptr 1 0 0),(6,.ptr 2 0 0),(8,.ptr 3 0 0),(9,.sl (vars.map encI) false)]) { H:=mkP [(0,box (zH s)),(1,box (zw t)),(2,.arr 2 0 [[.snil,.snil]] true false false),(3,box (zG v))],n:=4,log:=[] }) :
 ∀ (n i:Nat),i+n=l.length->(¬ ∃ x∈l.take i,v.home<x.home) ->
   LsN ρ E 0 149 zlE (LessQ 0 Q) (n+1) (mkP [(16,.int .i64 (i:Int)),(15,.sl (l.map zw) false),(1,.int .i64 id),(3,.ptr 0 0 0),(5,.ptr 1 0 0),(6,.ptr 2 0 0),(8,.ptr 3 0 0),(9,.sl (vars.map encI) false)])
    { H:=mkP [(0,box (zH s)),(1,box (zw t)),(2,.arr 2 0 [[.snil,.snil]] true false false),(3,box (zG v))],n:=4,log:=[] }:=by
 intro n
 induction n with
 | zero =>
   intro i hi he;have hil:¬ (i:Int)<l.length:=by omega
   rw[List.take_of_length_le (by omega)]at he;refine lp hρ hE hcon fun K hK=>?_
   simp [zlE,hE,hil];exact LessQ.mk (Less.keep 4 (by simp) (by simp) rfl rfl) (ht he)
 | succ n ih =>
   intro i hi he;have hil:i<l.length:=by omega
   have hil':(i:Int)<l.length:=by omega
   have hw:IntKind.i64.wrap ((i:Int)+1)=((i+1:Nat):Int):=zK (by omega);refine lp hρ hE hcon fun K hK=>?_
   by_cases hb:v.home<l[i].home
   . simp [zlE,hE,hil',hil,hb];exact LessQ.mk (Less.keep 4 (by simp) (by simp) rfl rfl) (hf ⟨_,List.getElem_mem hil,hb⟩)
   . have hnx:¬ ∃ x∈l.take (i+1),v.home<x.home:=by
      have he':∀ x∈l.take i,¬ v.home<x.home:=fun x hx h=>he ⟨x,hx,h⟩
      exact fun ⟨x,hx,h⟩=>zdE hil he' hb x hx h
     simp [zlE,hE,hil',hil,hb,hw,-Int.natCast_add];exact hK _ _ (zJ (Less.keep 4 (by simp[-Int.natCast_add]) (by simp) rfl rfl) (ih (i+1) (by omega) hnx))
theorem zgE {s:Store} {v:Slot} {t:Ty} {id:Int} {vars:List Int} (hl:vars.length<=100000) {Q:Ex->PT V->HS->Prop}
 (hf:(∃ x∈vars,(s.slots.length:Int)<=x/\v.home<0)->Q .ret (mkP [(6,.ptr 2 0 0),(7,.int .i64 13)]) { H:=mkP [(2,box (zH s))],n:=4,log:=[] })
 (ht:(¬ ∃ x∈vars,(s.slots.length:Int)<=x/\v.home<0)->Q (.exit 2) (mkP [(1,.int .i64 id),(3,.ptr 0 0 0),(5,.ptr 1 0 0),(6,.ptr 2 0 0),(8,.ptr 3 0 0),(9,.sl (vars.map encI) false)]) { H:=mkP [(0,box (zH s)),(1,box (zw t)),(2,.arr 2 0 [[.snil,.snil]] true false false),(3,box (zG v))],n:=4,log:=[] }) :
 ∀ (n i:Nat),i+n=vars.length->(¬ ∃ x∈vars.take i,(s.slots.length:Int)<=x/\v.home<0) ->
   LsN ρ E 0 149 zjn (LessQ 0 Q) (n+1) (mkP [(17,.int .i64 (i:Int)),(1,.int .i64 id),(3,.ptr 0 0 0),(5,.ptr 1 0 0),(6,.ptr 2 0 0),(8,.ptr 3 0 0),(9,.sl (vars.map encI) false)])
    { H:=mkP [(0,box (zH s)),(1,box (zw t)),(2,.arr 2 0 [[.snil,.snil]] true false false),(3,box (zG v))],n:=4,log:=[] }:=by
 intro n
 induction n with
 | zero =>
   intro i hi he;have hil:¬ (i:Int)<vars.length:=by omega
   rw[List.take_of_length_le (by omega)]at he;refine lp hρ hE hcon fun K hK=>?_
   simp [zjn,hE,hil];exact LessQ.mk (Less.keep 4 (by simp) (by simp) rfl rfl) (ht he)
 | succ n ih =>
   intro i hi he;have hil:i<vars.length:=by omega
   have hil':(i:Int)<vars.length:=by omega
   have hw:IntKind.i64.wrap ((i:Int)+1)=((i+1:Nat):Int):=zK (by omega)
   have hnx:¬ ((s.slots.length:Int)<=vars[i]/\v.home<0)->¬ ∃ x∈vars.take (i+1),(s.slots.length:Int)<=x/\v.home<0:=by
    intro hb;have he':∀ x∈vars.take i,¬ ((s.slots.length:Int)<=x/\v.home<0):=fun x hx h=>he ⟨x,hx,h⟩
    exact fun ⟨x,hx,h⟩=>zdE hil he' hb x hx h
   refine lp hρ hE hcon fun K hK=>?_
   by_cases h1:(s.slots.length:Int)<=vars[i]
   . by_cases h2:v.home<0
     . simp [zjn,hE,hil',hil,h1,h2];exact LessQ.mk (Less.keep 4 (by simp) (by simp) rfl rfl) (hf ⟨_,List.getElem_mem hil,h1,h2⟩)
     . simp [zjn,hE,hil',hil,h1,h2,hw,-Int.natCast_add];exact hK _ _ (zJ (Less.keep 4 (by simp[-Int.natCast_add]) (by simp) rfl rfl) (ih (i+1) (by omega) (hnx fun h=>h2 h.2)))
   . simp [zjn,hE,hil',hil,h1,hw,-Int.natCast_add];exact hK _ _ (zJ (Less.keep 4 (by simp[-Int.natCast_add]) (by simp) rfl rfl) (ih (i+1) (by omega) (hnx fun h=>h1 h.1)))
theorem zct (hSet:E.con 78=fnS (zaK fun (s:Store) (i:Int) (x:Slot)=>if s.small then some (s.set i x)else none)) {v:Slot} {t:Ty} {id:Int} {vars:List Int} {len:Nat} (hlen:len<=1000) (hv0:∀ x∈vars,0<=x) (hl:vars.length<=1000) {R:Store} {Q:Ex->PT V->HS->Prop}
 (ht:Q (.exit 4) (mkP [(1,.int .i64 id),(3,.ptr 0 0 0),(5,.ptr 1 0 0),(6,.ptr 2 0 0),(8,.ptr 3 0 0)]) { H:=mkP [(0,box (zH R)),(1,box (zw t)),(2,.arr 2 0 [[.snil,.snil]] true false false),(3,box (zG v))],n:=4,log:=[] }) :
 ∀ (n i:Nat) (s:Store),i+n=vars.length->s.slots.length=len->s.trail.length+n<=1000->(vars.drop i).foldl (Store.lowerOne v.home) s=R ->
   LsN ρ E 0 149 zjm (LessQ 0 Q) (n+1) (mkP [(18,.int .i64 (i:Int)),(1,.int .i64 id),(3,.ptr 0 0 0),(5,.ptr 1 0 0),(6,.ptr 2 0 0),(8,.ptr 3 0 0),(9,.sl (vars.map encI) false)])
    { H:=mkP [(0,box (zH s)),(1,box (zw t)),(2,.arr 2 0 [[.snil,.snil]] true false false),(3,box (zG v))],n:=4,log:=[] }:=by
 intro n
 induction n with
 | zero =>
   intro i s hi hsl htr hR;have hil:¬ (i:Int)<vars.length:=by omega
   rw[List.drop_of_length_le (by omega)]at hR;simp only[List.foldl_nil]at hR;subst hR;refine lp hρ hE hcon fun K hK=>?_
   simp [zjm,hE,hil];exact LessQ.mk (Less.keep 4 (by simp) (by simp) rfl rfl) ht
 | succ n ih =>
   intro i s hi hsl htr hR;have hil:i<vars.length:=by omega
   have hil':(i:Int)<vars.length:=by omega
   have hw:IntKind.i64.wrap ((i:Int)+1)=((i+1:Nat):Int):=zK (by omega);have hx0:=hv0 _ (List.getElem_mem hil);rw[List.drop_eq_getElem_cons hil,List.foldl_cons]at hR;obtain⟨k,hk⟩:=Int.eq_ofNat_of_zero_le hx0;rw[hk]at hR;refine lp hρ hE hcon fun K hK=>?_
   by_cases h1:(k:Int)<s.slots.length
   . have hkl:k<s.slots.length:=by omega
     have hsd:s.slot? (k:Int)=some s.slots[k]:=by rw[Store.slot?_nat,List.getElem?_eq_getElem hkl]
     have hsD:s.slotD (k:Int)=s.slots[k]:=by unfold Store.slotD;rw[hsd];rfl
     generalize hX:s.slots[k]=x at hsd hsD;have hd1:(k*8+6) / 8=k:=by omega
     have hd2:(k*8+6) % 8=6:=by omega
     by_cases h2:v.home<x.home
     . have hlo:Store.lowerOne v.home s k=(s.set k { x with home:=v.home }).1:=by
        unfold Store.lowerOne;rw[hsD,if_pos ⟨h1,h2⟩]
       rw[hlo]at hR;have hsm:s.small:=⟨by omega,by omega⟩
       have hset:(s.set (k:Int) { x with home:=v.home }).1.slots.length=s.slots.length/\(s.set (k:Int) { x with home:=v.home }).1.trail.length=s.trail.length+1:=by
        unfold Store.set;rw[hsd];simp
       obtain⟨xb,xt,xh,xg⟩:=x;simp only at h2 hR hset;simp [zjm,hE,hil',hil,hk,hkl,h1,h2,hX,hSet,hsm,ze0,hw,-Int.natCast_add];exact hK _ _ (zJ (Less.keep 4 (by simp[-Int.natCast_add]) (by simp) rfl rfl) (ih (i+1) _ (by omega) (by omega) (by omega) hR))
     . have hlo:Store.lowerOne v.home s k=s:=by
        unfold Store.lowerOne;rw[hsD,if_neg fun h=>h2 h.2]
       rw[hlo]at hR;simp [zjm,hE,hil',hil,hk,hkl,h1,h2,hX,hw,-Int.natCast_add];exact hK _ _ (zJ (Less.keep 4 (by simp[-Int.natCast_add]) (by simp) rfl rfl) (ih (i+1) _ (by omega) (by omega) (by omega) hR))
   . have hlo:Store.lowerOne v.home s k=s:=by
      unfold Store.lowerOne;rw[if_neg fun h=>h1 h.1]
     rw[hlo]at hR;have hkl:¬ k<s.slots.length:=by omega
     simp [zjm,hE,hil',hil,hk,hkl,h1,hw,-Int.natCast_add];exact hK _ _ (zJ (Less.keep 4 (by simp[-Int.natCast_add]) (by simp) rfl rfl) (ih (i+1) _ (by omega) (by omega) (by omega) hR))
omit hρ hE hcon in
theorem zeT:∀ (l:List Int) (h:Int) (s:Store),(l.foldl (Store.lowerOne h) s).slots.length=s.slots.length/\(l.foldl (Store.lowerOne h) s).trail.length<=s.trail.length+l.length:=by
 intro l
 induction l with
 |nil=>intro h s;exact⟨rfl,Nat.le_refl _⟩
 | cons v l ih =>
   intro h s
   have hset:∀ (i:Int) (x:Slot),(s.set i x).1.slots.length=s.slots.length/\(s.set i x).1.trail.length<=s.trail.length+1:=by
    intro i x;unfold Store.set;split
    . exact⟨by simp,by simp⟩
    . exact⟨rfl,Nat.le_succ _⟩
   have h1:(Store.lowerOne h s v).slots.length=s.slots.length/\(Store.lowerOne h s v).trail.length<=s.trail.length+1:=by
    unfold Store.lowerOne;split
    . exact hset _ _
    . exact⟨rfl,Nat.le_succ _⟩
   have h2:=ih h (Store.lowerOne h s v);rw[List.foldl_cons,List.length_cons];exact⟨h2.1.trans h1.1,by omega⟩
theorem zi6 (hSet:E.con 78=fnS (zaK fun (s:Store) (i:Int) (x:Slot)=>if s.small then some (s.set i x)else none)) (hVars:E.con 79=fnS (zV fun (s:Store) (l:List Ty)=>if zbv s l then some (varsS s l)else none))
 (hHas:E.con 66=fnC (zV fun (l:List Int) (x:Int)=>if l.length<=1000000 then some (decide (x∈l))else none)) (hArr:E.con 30=fnS (zaE fun t:Ty=>some (zaG t)))
 (hRes:E.con 18=fnS (zV fun (s:Store) (t:Ty)=>if s.tysOk/\t.ok=true then some (zR s.w16 t)else none)) (hRig:E.con 31=fnS (zaE fun l:List Ty=>if Ty.oks l=true/\l.length<=10000/\Ty.sizes l<=10000 then some (zbk l)else none))
 {s:Store} {id:Int} {t:Ty} (hs:s.tysOk) (ht:t.ok=true) (hv:zbv s [t]) (hv0:∀ x∈varsS s [t],0<=x) (hl:s.trail.length+(varsS s [t]).length<1000) (hid:(s.slot? id).isSome=true) (hrr:(zR s.w16 t).1.ok=true/\(zR s.w16 t).1.size<=10000) (hs0:HS) :
 CallOk ρ Tryz.prog 62 [enc s,enc id,enc t] hs0 (enc (s.bindM id t)) hs0:=by
 refine fn hρ hE hcon Tryz.func62 zRN rfl (by simp) ?_ hs0;obtain⟨v,hv1⟩:=Option.isSome_iff_exists.1 hid;obtain⟨a,ha,rfl,hav⟩:=Store.slot?_at hv1;have hsD:s.slotD (a:Int)=v:=by unfold Store.slotD;rw[hv1];rfl
 have hd1:a*8 / 8=a:=by omega
 have hd2:a*8 % 8=0:=by omega
 unfold Store.bindM;rw[hsD];generalize hvs:varsS s [t]=vars at *;have hvl:vars.length<=1000000:=by omega
 by_cases h1:(a:Int)∈vars
 . rw[if_pos h1];simp [hE,ha,hav,hVars,hv,hvs,hHas,hvl,h1]
 rw[if_neg h1];by_cases h2:(zaG t).c=true/\v.base=true
 . rw[if_pos h2];obtain⟨h2a,h2b⟩:=h2;generalize hq:zaG t=q at h2a;obtain⟨qa,qb,qc⟩:=q;simp only at h2a;subst h2a;obtain⟨vb,vt,vh,vg⟩:=v;simp only at h2b;subst h2b;simp [hE,ha,hav,hVars,hv,hvs,hHas,hvl,h1,hArr,hq]
 rw[if_neg h2];have hoks:Ty.oks [(zR s.w16 t).1]=true:=by simp[Ty.oks,hrr.1]
 have hszs:Ty.sizes [(zR s.w16 t).1]<=10000:=by simp[Ty.sizes];exact hrr.2
 generalize hrs:zR s.w16 t=rs at *;obtain⟨rt,rb⟩:=rs;simp only at hoks hszs
 have hrl:(zbk [rt]).length<=10000:=by
  have:=(zcc 3 [rt] []).2;simp only[List.length_nil]at this;have h2:(zbk [rt]).length=(zQ 3 [rt] []).length:=rfl;omega
 have hvlen:vars.length<=100000:=by omega
 have lo0:=fun Q=>zgF hρ hE hcon (s:=s) (v:=v) (t:=t) (id:=(a:Int)) (vars:=vars) (l:=zbk [rt]) hrl (Q:=Q)
 have lo1:=fun Q=>zgE hρ hE hcon (s:=s) (v:=v) (t:=t) (id:=(a:Int)) (vars:=vars) hvlen (Q:=Q)
 have hcase:∀ q,zaG t=q->¬ (q.c=true/\v.base=true):=fun q e=>e ▸ h2
 generalize hq:zaG t=q at h2;obtain⟨qa,qb,qc⟩:=q;obtain⟨vb,vt,vh,vg⟩:=v;simp only at h2;cases qc<;>cases vg<;>simp at h2
 . simp [hE,ha,hav,hVars,hv,hvs,hHas,hvl,h1,hArr,hq,hRes,hs,ht,hrs,hRig,hoks,hszs];refine zae (zcP (Less.auto (TL:=[(16,.int .i64 ((0:Nat):Int)),(15,.sl ((zbk [rt]).map zw) false),(1,.int .i64 (a:Int)),(3,.ptr 0 0 0),(5,.ptr 1 0 0),(6,.ptr 2 0 0),(8,.ptr 3 0 0),(9,.sl (vars.map encI) false)]) (HL:=[(0,box (zH s)),(1,box (zw t)),(2,.arr 2 0 [[.snil,.snil]] true false false),(3,box (zG ⟨vb,vt,vh,false⟩))]) (n:=4) (by simp) (by simp) (by simp) (by simp)) (zaw (lo0 _ ?_ ?_ (zbk [rt]).length 0 (by omega) (by simp))))
   . intro h3;simp only at h3;simp [hE,h3]
   . intro h3;simp only at h3;simp [hE];refine zae (zcP (Less.auto (TL:=[(17,.int .i64 ((0:Nat):Int)),(1,.int .i64 (a:Int)),(3,.ptr 0 0 0),(5,.ptr 1 0 0),(6,.ptr 2 0 0),(8,.ptr 3 0 0),(9,.sl (vars.map encI) false)]) (HL:=[(0,box (zH s)),(1,box (zw t)),(2,.arr 2 0 [[.snil,.snil]] true false false),(3,box (zG ⟨vb,vt,vh,false⟩))]) (n:=4) (by simp) (by simp) (by simp) (by simp)) (zaw (lo1 _ ?_ ?_ vars.length 0 (by omega) (by simp))))
     . intro h4;simp only at h4;simp [hE,h3,h4]
     . intro h4;simp only at h4;rw[if_neg h3,if_neg h4];simp [hE];refine zae (zcP (Less.auto (TL:=[(18,.int .i64 ((0:Nat):Int)),(1,.int .i64 (a:Int)),(3,.ptr 0 0 0),(5,.ptr 1 0 0),(6,.ptr 2 0 0),(8,.ptr 3 0 0),(9,.sl (vars.map encI) false)]) (HL:=[(0,box (zH s)),(1,box (zw t)),(2,.arr 2 0 [[.snil,.snil]] true false false),(3,box (zG ⟨vb,vt,vh,false⟩))]) (n:=4) (by simp) (by simp) (by simp) (by simp)) (zaw (zct hρ hE hcon hSet (v:=⟨vb,vt,vh,false⟩) (R:=vars.foldl (Store.lowerOne vh) s) (len:=s.slots.length) hs.1 hv0 (by omega) ?_ vars.length 0 s (by omega) rfl (by omega) (by simp))));have hR:=zeT vars vh s;generalize vars.foldl (Store.lowerOne vh) s=R at hR;have hRs:R.small:=⟨by rw[hR.1];exact hs.1,by omega⟩;have haR:(R.slot? (a:Int)).isSome=true:=by rw[Store.slot?_nat];simp[hR.1,ha]
       simp [hE,hSet,hRs,ze0]
 . simp [hE,ha,hav,hVars,hv,hvs,hHas,hvl,h1,hArr,hq,hRes,hs,ht,hrs,hRig,hoks,hszs];refine zae (zcP (Less.auto (TL:=[(16,.int .i64 ((0:Nat):Int)),(15,.sl ((zbk [rt]).map zw) false),(1,.int .i64 (a:Int)),(3,.ptr 0 0 0),(5,.ptr 1 0 0),(6,.ptr 2 0 0),(8,.ptr 3 0 0),(9,.sl (vars.map encI) false)]) (HL:=[(0,box (zH s)),(1,box (zw t)),(2,.arr 2 0 [[.snil,.snil]] true false false),(3,box (zG ⟨vb,vt,vh,true⟩))]) (n:=4) (by simp) (by simp) (by simp) (by simp)) (zaw (lo0 _ ?_ ?_ (zbk [rt]).length 0 (by omega) (by simp))))
   . intro h3;simp only at h3;simp [hE,h3]
   . intro h3;simp only at h3;simp [hE];refine zae (zcP (Less.auto (TL:=[(17,.int .i64 ((0:Nat):Int)),(1,.int .i64 (a:Int)),(3,.ptr 0 0 0),(5,.ptr 1 0 0),(6,.ptr 2 0 0),(8,.ptr 3 0 0),(9,.sl (vars.map encI) false)]) (HL:=[(0,box (zH s)),(1,box (zw t)),(2,.arr 2 0 [[.snil,.snil]] true false false),(3,box (zG ⟨vb,vt,vh,true⟩))]) (n:=4) (by simp) (by simp) (by simp) (by simp)) (zaw (lo1 _ ?_ ?_ vars.length 0 (by omega) (by simp))))
     . intro h4;simp only at h4;simp [hE,h3,h4]
     . intro h4;simp only at h4;rw[if_neg h3,if_neg h4];simp [hE];refine zae (zcP (Less.auto (TL:=[(18,.int .i64 ((0:Nat):Int)),(1,.int .i64 (a:Int)),(3,.ptr 0 0 0),(5,.ptr 1 0 0),(6,.ptr 2 0 0),(8,.ptr 3 0 0),(9,.sl (vars.map encI) false)]) (HL:=[(0,box (zH s)),(1,box (zw t)),(2,.arr 2 0 [[.snil,.snil]] true false false),(3,box (zG ⟨vb,vt,vh,true⟩))]) (n:=4) (by simp) (by simp) (by simp) (by simp)) (zaw (zct hρ hE hcon hSet (v:=⟨vb,vt,vh,true⟩) (R:=vars.foldl (Store.lowerOne vh) s) (len:=s.slots.length) hs.1 hv0 (by omega) ?_ vars.length 0 s (by omega) rfl (by omega) (by simp))));have hR:=zeT vars vh s;generalize vars.foldl (Store.lowerOne vh) s=R at hR;have hRs:R.small:=⟨by rw[hR.1];exact hs.1,by omega⟩;have haR:(R.slot? (a:Int)).isSome=true:=by rw[Store.slot?_nat];simp[hR.1,ha]
       simp [hE,hSet,hRs,ze0]
 . simp [hE,ha,hav,hVars,hv,hvs,hHas,hvl,h1,hArr,hq,hRes,hs,ht,hrs,hRig,hoks,hszs];refine zae (zcP (Less.auto (TL:=[(16,.int .i64 ((0:Nat):Int)),(15,.sl ((zbk [rt]).map zw) false),(1,.int .i64 (a:Int)),(3,.ptr 0 0 0),(5,.ptr 1 0 0),(6,.ptr 2 0 0),(8,.ptr 3 0 0),(9,.sl (vars.map encI) false)]) (HL:=[(0,box (zH s)),(1,box (zw t)),(2,.arr 2 0 [[.snil,.snil]] true false false),(3,box (zG ⟨vb,vt,vh,false⟩))]) (n:=4) (by simp) (by simp) (by simp) (by simp)) (zaw (lo0 _ ?_ ?_ (zbk [rt]).length 0 (by omega) (by simp))))
   . intro h3;simp only at h3;simp [hE,h3]
   . intro h3;simp only at h3;simp [hE];refine zae (zcP (Less.auto (TL:=[(17,.int .i64 ((0:Nat):Int)),(1,.int .i64 (a:Int)),(3,.ptr 0 0 0),(5,.ptr 1 0 0),(6,.ptr 2 0 0),(8,.ptr 3 0 0),(9,.sl (vars.map encI) false)]) (HL:=[(0,box (zH s)),(1,box (zw t)),(2,.arr 2 0 [[.snil,.snil]] true false false),(3,box (zG ⟨vb,vt,vh,false⟩))]) (n:=4) (by simp) (by simp) (by simp) (by simp)) (zaw (lo1 _ ?_ ?_ vars.length 0 (by omega) (by simp))))
     . intro h4;simp only at h4;simp [hE,h3,h4]
     . intro h4;simp only at h4;rw[if_neg h3,if_neg h4];simp [hE];refine zae (zcP (Less.auto (TL:=[(18,.int .i64 ((0:Nat):Int)),(1,.int .i64 (a:Int)),(3,.ptr 0 0 0),(5,.ptr 1 0 0),(6,.ptr 2 0 0),(8,.ptr 3 0 0),(9,.sl (vars.map encI) false)]) (HL:=[(0,box (zH s)),(1,box (zw t)),(2,.arr 2 0 [[.snil,.snil]] true false false),(3,box (zG ⟨vb,vt,vh,false⟩))]) (n:=4) (by simp) (by simp) (by simp) (by simp)) (zaw (zct hρ hE hcon hSet (v:=⟨vb,vt,vh,false⟩) (R:=vars.foldl (Store.lowerOne vh) s) (len:=s.slots.length) hs.1 hv0 (by omega) ?_ vars.length 0 s (by omega) rfl (by omega) (by simp))));have hR:=zeT vars vh s;generalize vars.foldl (Store.lowerOne vh) s=R at hR;have hRs:R.small:=⟨by rw[hR.1];exact hs.1,by omega⟩;have haR:(R.slot? (a:Int)).isSome=true:=by rw[Store.slot?_nat];simp[hR.1,ha]
       simp [hE,hSet,hRs,ze0]
end
section
variable {ρ:Nat->Value}(hρ:J.Good ρ){E:Env}(hE:E.P=Tryz.prog)(hcon:ConsOk ρ E)
include hρ hE hcon
theorem zhw {F:Store->Ty->Ty->Option (Store×Int)} {rec:Store->Ty->Ty->Store×Int} (hc:E.con 39=fnS (zaK F))
 (hS:E.con 17=fnS (zaK fun (s:Store) (t:Ty) (m:Int)=>if s.tysOk/\t.ok=true/\m<1000000 then some ((sz s.w16 t (max m 0).toNat:Nat):Int)else none))
 (hw:E.con 59=fnS (zV fun (s:Store) (t:Ty)=>if s.slots.length<=1000000 then some (s.w16 t)else none)) (hsl:E.con 60=fnS (zV fun (s:Store) (t:Ty)=>some (s.isSlot t)))
 (hj:E.con 61=fnS (zaK fun (s:Store) (x y:Ty)=>if s.slots.length<=1000/\s.trail.length<=990/\s.isSlot x=true/\s.isSlot y=true then some (s.join x.id y.id)else none))
 (hb:E.con 62=fnS (zaK Store.bindF)) {s:Store} {a b:Ty} (hs:s.tysOk) (htr:s.trail.length<=990) (ha:a.ok=true) (hbo:b.ok=true)
 (hx:s.isSlot (s.w16 a)=true->s.isSlot (s.w16 b)=false->s.bindPre (s.w16 b)) (hy:s.isSlot (s.w16 b)=true->s.isSlot (s.w16 a)=false->s.bindPre (s.w16 a))
 (hu:¬ (200<sz s.w16 a 200\/200<sz s.w16 b 200)->s.isSlot (s.w16 a)=false->s.isSlot (s.w16 b)=false->¬ Store.clash (s.w16 a) (s.w16 b)->Store.uOk F rec (s.w16 a).args (s.w16 b).args s) (hs0:HS) :
 CallOk ρ Tryz.prog 39 [enc s,enc a,enc b] hs0 (enc (Store.uStep rec s a b)) hs0:=by
 refine fn hρ hE hcon Tryz.func39 zNB rfl (by simp) ?_ hs0;have hn:=hs.1;have hn2:s.slots.length<=1000000:=by omega
 have hxo:(s.w16 a).ok=true:=Store.walkN_ok hs _ ha;have hyo:(s.w16 b).ok=true:=Store.walkN_ok hs _ hbo;have hm1:(max (200:Int) 0).toNat=200:=rfl;unfold Store.uStep;by_cases c1:200<sz s.w16 a 200
 . rw[if_pos (.inl c1)];have i1:¬ ((sz s.w16 a 200:Nat):Int)<=200:=by omega
   have j1:(200:Int)<((sz s.w16 a 200:Nat):Int):=by omega
   simp [hE,hS,hs,ha,hm1,i1,j1]
 by_cases c2:200<sz s.w16 b 200
 . rw[if_pos (.inr c2)];have i1:((sz s.w16 a 200:Nat):Int)<=200:=by omega
   have i2:¬ ((sz s.w16 b 200:Nat):Int)<=200:=by omega
   have j1:¬ (200:Int)<((sz s.w16 a 200:Nat):Int):=by omega
   have j2:(200:Int)<((sz s.w16 b 200:Nat):Int):=by omega
   simp [hE,hS,hs,ha,hbo,hm1,i1,i2,j1,j2]
 rw[if_neg (fun h=>h.elim c1 c2)];have c1':((sz s.w16 a 200:Nat):Int)<=200:=by omega
 have c2':((sz s.w16 b 200:Nat):Int)<=200:=by omega
 have k1:¬ (200:Int)<((sz s.w16 a 200:Nat):Int):=by omega
 have k2:¬ (200:Int)<((sz s.w16 b 200:Nat):Int):=by omega
 replace hu:=hu (fun h=>h.elim c1 c2);generalize hX:s.w16 a=x at hx hy hu hxo;generalize hY:s.w16 b=y at hx hy hu hyo
 cases d1:s.isSlot x with
 | true =>
   have e1:=Store.isSlot_some d1
   cases d2:s.isSlot y with
   | true =>
     simp [hE,hS,hs,ha,hbo,hm1,c1',c2',k1,k2,hw,hn,hn2,hX,hY,hsl,d1,d2,hj,htr]
   | false =>
     have hbf:Store.bindF s x.id y=some (s.bindM x.id y):=if_pos ⟨hs,hyo,hx d1 d2,e1⟩;generalize s.bindM x.id y=r at hbf;obtain⟨r1,r2⟩:=r;simp [hE,hS,hs,ha,hbo,hm1,c1',c2',k1,k2,hw,hn,hn2,hX,hY,hsl,d1,d2,hb,hbf]
 | false =>
   cases d2:s.isSlot y with
   | true =>
     have e2:=Store.isSlot_some d2;have hbf:Store.bindF s y.id x=some (s.bindM y.id x):=if_pos ⟨hs,hxo,hy d2 d1,e2⟩;generalize s.bindM y.id x=r at hbf;obtain⟨r1,r2⟩:=r;simp [hE,hS,hs,ha,hbo,hm1,c1',c2',k1,k2,hw,hn,hn2,hX,hY,hsl,d1,d2,hb,hbf]
   | false =>
     replace hu:=hu d1 d2;by_cases hcl:Store.clash x y
     . rw [if_neg (by simp),if_neg (by simp),if_pos hcl];by_cases q1:x.kind=y.kind
       . have p1 := eq_true q1;by_cases q2:x.name=y.name
         . have p2:=eq_true q2;by_cases q3:x.id=y.id
           . have p3:=eq_true q3;by_cases q4:x.home=y.home
             . have p4:=eq_true q4;by_cases q5:x.args.length=y.args.length
               . exact absurd hcl (by unfold Store.clash;simp[q1,q2,q3,q4,q5])
               . have q5i:¬ (x.args.length:Int)=(y.args.length:Int):=by omega
                 simp [hE,hS,hs,ha,hbo,hm1,c1',c2',k1,k2,hw,hn,hn2,hX,hY,hsl,d1,d2,p1,p2,p3,p4,q5i]
             . simp [hE,hS,hs,ha,hbo,hm1,c1',c2',k1,k2,hw,hn,hn2,hX,hY,hsl,d1,d2,p1,p2,p3,q4]
           . simp [hE,hS,hs,ha,hbo,hm1,c1',c2',k1,k2,hw,hn,hn2,hX,hY,hsl,d1,d2,p1,p2,q3]
         . simp [hE,hS,hs,ha,hbo,hm1,c1',c2',k1,k2,hw,hn,hn2,hX,hY,hsl,d1,d2,p1,q2]
       . simp [hE,hS,hs,ha,hbo,hm1,c1',c2',k1,k2,hw,hn,hn2,hX,hY,hsl,d1,d2,q1]
     . rw [if_neg (by simp),if_neg (by simp),if_neg hcl];replace hu:=hu hcl;unfold Store.clash at hcl;simp only[not_or,Classical.not_not]at hcl;obtain⟨q1,q2,q3,q4,q5⟩:=hcl;have p1:=eq_true q1;have p2:=eq_true q2;have p3:=eq_true q3;have p4:=eq_true q4;have p5:((x.args.length:Int)=(y.args.length:Int))=True:=eq_true (by omega);simp [hE,hS,hs,ha,hbo,hm1,c1',c2',k1,k2,hw,hn,hn2,hX,hY,hsl,d1,d2,p1,p2,p3,p4,p5];generalize hR:Store.uL rec x.args y.args s=R;clear hx hy c1 c2 c1' c2' k1 k2 hX hY htr;have hxl:=Ty.ok_len hxo
       refine lpi hρ hE hcon x.args.length (nn:=4) (fun i (p:Store×Int)=>[(3,.ptr 0 0 0),(6,.ptr 1 0 0),(8,.ptr 2 0 0),(9,.ptr 3 0 0),(10,.int .i64 p.2),(11,.int .i64 (i:Int))])
        (fun i p=>[(0,box (zH p.1)),(1,box [.snil,.snil]),(2,box (zw x)),(3,box (zw y))])
        (fun i p=>(p.2=0->Store.uOk F rec (x.args.drop i) (y.args.drop i) p.1/\Store.uL rec (x.args.drop i) (y.args.drop i) p.1=R)/\(p.2≠0->p=R)) (s,0)
        (Less.auto (by simp) (by simp) (by simp) (by simp)) ⟨fun _=>⟨by simpa using hu,by simpa using hR⟩,fun h=>absurd rfl h⟩ ?_ ?_
       . rintro ⟨s1,e1⟩ ⟨g1,g2⟩ K
         have hfin:(s1,e1)=R:=by
          by_cases he:e1=0
          . have:=(g1 he).2;rw[List.drop_length]at this;rw[<- this,he];rfl
          . exact g2 he
         rw[<- hfin];simp [zou,hE];refine LessQ.mk (Less.auto (TL:=[(3,.ptr 0 0 0),(6,.ptr 1 0 0),(10,.int .i64 e1)]) (HL:=[(0,box (zH s1)),(1,box [.snil,.snil])]) (n:=4) (by simp) (by simp) (by simp) (by simp)) ?_;simp [hE]
       . rintro i ⟨s1,e1⟩ hi ⟨g1,g2⟩ K hK;have hi':(i:Int)<x.args.length:=by omega
         by_cases he:e1=0
         . subst he;obtain⟨g3,g4⟩:=g1 rfl;have hiy:i<y.args.length:=by omega
           rw[List.drop_eq_getElem_cons hi,List.drop_eq_getElem_cons hiy]at g3 g4;simp only[Store.uOk]at g3;rw[Store.uL]at g4;obtain⟨g5,g6⟩:=g3;have hnew:=hK (rec s1 x.args[i] y.args[i]) ⟨fun h=>⟨g6 h,by rw[if_pos h]at g4;exact g4⟩,fun h=>by rw[if_neg h]at g4;exact g4⟩;generalize rec s1 x.args[i] y.args[i]=r at g5 hnew;obtain⟨r1,r2⟩:=r;have hw2:IntKind.i64.wrap ((i:Int)+1)=((i+1:Nat):Int):=zK (by omega);simp [zou,hE,hi,hi',hiy,hc,g5,hw2,-Int.natCast_add];exact hnew _ _ (Less.auto (by simp[-Int.natCast_add]) (by simp) (by simp) (by simp))
         . rw[<- g2 he];simp [zou,hE,hi',he];refine LessQ.mk (Less.auto (TL:=[(3,.ptr 0 0 0),(6,.ptr 1 0 0),(10,.int .i64 e1)]) (HL:=[(0,box (zH s1)),(1,box [.snil,.snil])]) (n:=4) (by simp) (by simp) (by simp) (by simp)) ?_;simp [hE]
end
end Go.Proofs.YtfgmnebfhemnpaaGreat
