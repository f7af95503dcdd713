import Derived.Test.YtfgmnebfhemnpaaGreatLX2
import Derived.Test.YtfgmnebfhemnpaaGreatJL
set_option linter.all false
noncomputable section
namespace Go.Proofs.YtfgmnebfhemnpaaGreat
open Go.J
open Go.J.Enc (enc)
set_option maxRecDepth 100000
set_option maxHeartbeats 4000000
section
variable {ρ:Nat->Value}(hρ:J.Good ρ){E:Env}(hE:E.P=Tryz.prog)(hcon:ConsOk ρ E)
include hρ hE hcon
theorem zge {s:Store} (h1:s.trail.length<=1000) {Q:Ex->PT V->HS->Prop}
 (hf:(¬ ∀ c∈s.trail,0<=c.id/\c.id<s.slots.length)->Q .ret (mkP [(2,.bool false)]) { H:=mkP [],n:=0,log:=[] })
 (hq:(∀ c∈s.trail,0<=c.id/\c.id<s.slots.length)->Q (.exit 0) (mkP [(1,.ptr 0 0 0)]) { H:=mkP [(0,box (z8 s))],n:=1,log:=[] }) :
 ∀ (n i:Nat),i+n=s.trail.length->(∀ c∈s.trail.take i,0<=c.id/\c.id<s.slots.length)->LsN ρ E 0 92 zjB (LessQ 0 Q) (n+1) (mkP [(1,.ptr 0 0 0),(3,.int .i64 (i:Int))]) { H:=mkP [(0,box (z8 s))],n:=1,log:=[] }:=by
 intro n
 induction n with
 | zero =>
   intro i hi he;have hil:¬ (i:Int)<s.trail.length:=by omega
   refine lp hρ hE hcon fun K hK=>?_
   simp [zjB,hE,hil];exact LessQ.mk (Less.keep 1 (by simp) (by simp) rfl rfl) (hq (zcK (by omega) he))
 | succ n ih =>
   intro i hi he;have hil:i<s.trail.length:=by omega
   have hil':(i:Int)<s.trail.length:=by omega
   have hw:IntKind.i64.wrap ((i:Int)+1)=((i+1:Nat):Int):=zH (by omega);refine lp hρ hE hcon fun K hK=>?_
   by_cases hb0:s.trail[i].id<0
   . simp [zjB,hE,hil',hil,hb0];exact LessQ.mk (Less.keep 0 (by simp) (by simp) rfl rfl) (hf fun h=>by have:=h _ (List.getElem_mem hil);omega)
   . by_cases hb:s.trail[i].id<s.slots.length
     . have hb':¬ ((s.slots.length:Int)<=s.trail[i].id):=by omega
       simp [zjB,hE,hil',hil,hb0,hb,hb',hw,-Int.natCast_add];exact hK _ _ (zz (Less.keep 1 (by simp[-Int.natCast_add]) (by simp) rfl rfl) (ih (i+1) (by omega) (zbp hil he ⟨by omega,hb⟩)))
     . have hb':((s.slots.length:Int)<=s.trail[i].id):=by omega
       simp [zjB,hE,hil',hil,hb0,hb'];exact LessQ.mk (Less.keep 0 (by simp) (by simp) rfl rfl) (hf fun h=>by have:=h _ (List.getElem_mem hil);omega)
theorem zgd{s:Store}{L:List Int}(hl:L.length<=10000){Q:Ex->PT V->HS->Prop}{i4:Int}
 (hf:(¬ ∀ v∈L,v<s.slots.length)->Q .ret (mkP [(2,.bool false)]) { H:=mkP [],n:=0,log:=[] })
 (hq:(∀ v∈L,v<s.slots.length)->Q (.exit 4) (mkP [(1,.ptr 0 0 0),(4,.int .i64 i4)]) { H:=mkP [(0,box (z8 s))],n:=1,log:=[] }) :
 ∀ (n i:Nat),i+n=L.length->(∀ v∈L.take i,v<s.slots.length)->LsN ρ E 0 92 zmp (LessQ 0 Q) (n+1) (mkP [(1,.ptr 0 0 0),(4,.int .i64 i4),(6,.sl (L.map encI) false),(7,.int .i64 (i:Int))]) { H:=mkP [(0,box (z8 s))],n:=1,log:=[] }:=by
 intro n
 induction n with
 | zero =>
   intro i hi he;have hil:¬ (i:Int)<L.length:=by omega
   refine lp hρ hE hcon fun K hK=>?_
   simp [zmp,hE,hil];exact LessQ.mk (Less.keep 1 (by simp) (by simp) rfl rfl) (hq (zcK (by omega) he))
 | succ n ih =>
   intro i hi he;have hil:i<L.length:=by omega
   have hil':(i:Int)<L.length:=by omega
   have hw:IntKind.i64.wrap ((i:Int)+1)=((i+1:Nat):Int):=zH (by omega);refine lp hρ hE hcon fun K hK=>?_
   by_cases hb:L[i]<s.slots.length
   . have hb':¬ ((s.slots.length:Int)<=L[i]):=by omega
     simp [zmp,hE,hil',hil,hb,hb',hw,-Int.natCast_add];exact hK _ _ (zz (Less.keep 1 (by simp[-Int.natCast_add]) (by simp) rfl rfl) (ih (i+1) (by omega) (zbp hil he hb)))
   . have hb':((s.slots.length:Int)<=L[i]):=by omega
     simp [zmp,hE,hil',hil,hb'];exact LessQ.mk (Less.keep 0 (by simp) (by simp) rfl rfl) (hf fun h=>hb (h _ (List.getElem_mem hil)))
theorem zgc (hEq:E.con 40=fnS (zV fun a b:Ty=>if a.ok=true then some (decide (a=b))else none)) (hVa:E.con 41=fnS (zW fun t:Ty=>if t.size<=10000/\t.short=true then some t.valid else none))
 (hV:E.con 42=fnS (zW fun l:List Ty=>if Ty.oks l=true/\l.length<=10000/\Ty.sizes l<=10000 then some (zbL l)else none))
 {s:Store} (hfi:s.fine) {Q:Ex->PT V->HS->Prop}
 (hf:(¬ ∀ x∈s.slots,s.slotOk x)->Q .ret (mkP [(2,.bool false)]) { H:=mkP [],n:=0,log:=[] })
 (hq:(∀ x∈s.slots,s.slotOk x)->Q (.exit 2) (mkP [(1,.ptr 0 0 0)]) { H:=mkP [(0,box (z8 s))],n:=1,log:=[] }) :
 ∀ (n i:Nat),i+n=s.slots.length->(∀ x∈s.slots.take i,s.slotOk x)->LsN ρ E 0 92 zie (LessQ 0 Q) (n+1) (mkP [(1,.ptr 0 0 0),(4,.int .i64 (i:Int))]) { H:=mkP [(0,box (z8 s))],n:=1,log:=[] }:=by
 intro n
 induction n with
 | zero =>
   intro i hi he;have hil:¬ (i:Int)<s.slots.length:=by omega
   refine lp hρ hE hcon fun K hK=>?_
   simp [zie,hE,hil];exact LessQ.mk (Less.keep 1 (by simp) (by simp) rfl rfl) (hq (zcK (by omega) he))
 | succ n ih =>
   intro i hi he;have hil:i<s.slots.length:=by omega
   have hil':(i:Int)<s.slots.length:=by omega
   have hfl:=hfi.1;have hw:IntKind.i64.wrap ((i:Int)+1)=((i+1:Nat):Int):=zH (by omega);have hm:=List.getElem_mem hil;obtain⟨g1,g2,g3⟩:=hfi.2.2 _ hm;have hnx:=fun h=>ih (i+1) (by omega) (zbp hil he h)
   have hno:¬ s.slotOk s.slots[i]->¬ ∀ x∈s.slots,s.slotOk x:=fun h hh=>h (hh _ hm)
   generalize hx:s.slots[i]=x at g1 g2 g3 hnx hno;obtain⟨b,t,ho,ba⟩:=x;simp only at g1 g2 g3;refine lp hρ hE hcon fun K hK=>?_
   cases b with
   | false =>
     by_cases ht:t=ty0
     . have hok:s.slotOk ⟨false,t,ho,ba⟩:=by simp[Store.slotOk,ht]
       replace hnx:=hnx hok;obtain rfl:t=Ty.mk 0 [] 0 0 []:=ht;simp [zie,hE,hil',hil,hx,hEq,g1,hw,-Int.natCast_add];exact hK _ _ (zz (Less.keep 1 (by simp[-Int.natCast_add]) (by simp) rfl rfl) hnx)
     . have hok:¬ s.slotOk ⟨false,t,ho,ba⟩:=by simp[Store.slotOk,ht]
       have ht':¬ t=Ty.mk 0 [] 0 0 []:=ht;simp [zie,hE,hil',hil,hx,hEq,g1,ht'];exact LessQ.mk (Less.keep 0 (by simp) (by simp) rfl rfl) (hf (hno hok))
   | true =>
     by_cases hv:t.valid=true
     . have hoks:Ty.oks [t]=true:=by simp[Ty.oks,g1]
       have hszs:Ty.sizes [t]<=10000:=by simp[Ty.sizes];exact g3
       have hlen:(zbL [t]).length<=10000:=by
        have e1:=zhV (zJ 1 [t] []);have e2:=(zaE 1 [t] []).2;simp at e2;unfold zbL;omega
       have hok:s.slotOk ⟨true,t,ho,ba⟩↔∀ v∈zbL [t],v<s.slots.length:=by simp[Store.slotOk,hv]
       generalize hL:zbL [t]=L at hok hlen;simp [zie,hE,hil',hil,hx,hVa,g1,g2,g3,hv,hV,hoks,hszs,hL]
       refine zU (zZ (zz (Less.keep (TL:=[(1,.ptr 0 0 0),(4,.int .i64 (i:Int)),(6,.sl (L.map encI) false),(7,.int .i64 ((0:Nat):Int))]) (HL:=[(0,box (z8 s))]) 1 (by simp) (by simp) rfl rfl)
        (zgd hρ hE hcon hlen ?_ ?_ L.length 0 (by omega) (by simp))))
       . intro h;simp [hE];exact LessQ.mk (Less.keep 0 (by simp) (by simp) rfl rfl) (hf (hno fun e=>h (hok.1 e)))
       . intro h;simp [hE,hw,-Int.natCast_add];exact hK _ _ (zz (Less.keep 1 (by simp[-Int.natCast_add]) (by simp) rfl rfl) (hnx (hok.2 h)))
     . have hok:¬ s.slotOk ⟨true,t,ho,ba⟩:=by simp[Store.slotOk,hv]
       simp [zie,hE,hil',hil,hx,hVa,g1,g2,g3,hv];exact LessQ.mk (Less.keep 0 (by simp) (by simp) rfl rfl) (hf (hno hok))
theorem zgb (hcy:E.con 43=mtS 2 1 (zpK fun S s i fr=>zkO (s.slots.length+1) S s i fr))
 {s:Store} (hcl:s.closed) {Q:Ex->PT V->HS->Prop}
 (hf:(¬ ∀ i∈List.range s.slots.length,s.cyc i=false)->Q .ret (mkP [(2,.bool false)]) { H:=mkP [],n:=0,log:=[] })
 (hq:(∀ i∈List.range s.slots.length,s.cyc i=false)->Q (.exit 6) (mkP []) { H:=mkP [],n:=0,log:=[] }) :
 ∀ (n i:Nat),i+n=s.slots.length->(∀ k∈List.range i,s.cyc k=false)->LsN ρ E 0 92 zmo (LessQ 0 Q) (n+1) (mkP [(1,.ptr 0 0 0),(8,.int .i64 (i:Int))]) { H:=mkP [(0,box (z8 s))],n:=1,log:=[] }:=by
 intro n
 induction n with
 | zero =>
   intro i hi he;have hil:¬ (i:Int)<s.slots.length:=by omega
   obtain rfl:i=s.slots.length:=by omega
   refine lp hρ hE hcon fun K hK=>?_
   simp [zmo,hE,hil];exact LessQ.mk (Less.keep 0 (by simp) (by simp) rfl rfl) (hq he)
 | succ n ih =>
   intro i hi he;have hil':(i:Int)<s.slots.length:=by omega
   have hll:=hcl.1;have hw:IntKind.i64.wrap ((i:Int)+1)=((i+1:Nat):Int):=zH (by omega);have hroom:s.slots.length*8<=1048576:=by omega
   have hroom2:s.slots.length<=1048576:=by omega
   have hF:zkO (s.slots.length+1) (List.replicate s.slots.length 0) s (i:Int) (i:Int)=some (zdf s i (s.slots.length+1) i (List.replicate s.slots.length 0)):=by
    unfold zkO;rw[if_pos ⟨hcl,by simp,by omega,hil',by have:=List.count_le_length (a:=(0:Int)) (l:=List.replicate s.slots.length 0);simp⟩]
   have hlen:=zgU s i (s.slots.length+1) i (List.replicate s.slots.length 0);have hcyc:s.cyc i=(zdf s i (s.slots.length+1) i (List.replicate s.slots.length 0)).2:=rfl;generalize zdf s i (s.slots.length+1) i (List.replicate s.slots.length 0)=r at hF hlen hcyc;obtain⟨S',b⟩:=r;have e1:List.replicate s.slots.length [V.int IntKind.i64 0]=(List.replicate s.slots.length (0:Int)).map encI:=by rw[List.map_replicate]
   refine lp hρ hE hcon fun K hK=>?_
   cases b with
   | true =>
     simp [zmo,hE,hil',hcy,hroom,hroom2,e1,hF,-List.map_replicate];refine⟨rfl,by simpa using hlen.1,?_⟩;exact LessQ.mk (Less.keep 0 (by simp) (by simp) rfl rfl) (hf fun h=>by have:=h i (List.mem_range.2 (by omega));rw[hcyc]at this;cases this)
   | false =>
     simp [zmo,hE,hil',hcy,hroom,hroom2,e1,hF,hw,-List.map_replicate,-Int.natCast_add];refine⟨rfl,by simpa using hlen.1,?_⟩
     have hnx:∀ k∈List.range (i+1),s.cyc k=false:=by
      intro k hk;rcases Nat.lt_succ_iff_lt_or_eq.1 (List.mem_range.1 hk)with h|rfl
      . exact he k (List.mem_range.2 h)
      . exact hcyc
     exact hK _ _ (zz (Less.keep 1 (by simp[-Int.natCast_add]) (by simp) rfl rfl) (ih (i+1) (by omega) hnx))
theorem zhA(hcy:E.con 43=mtS 2 1 (zpK fun S s i fr=>zkO (s.slots.length+1) S s i fr))(hEq:E.con 40=fnS (zV fun a b:Ty=>if a.ok=true then some (decide (a=b))else none))(hVa:E.con 41=fnS (zW fun t:Ty=>if t.size<=10000/\t.short=true then some t.valid else none))
 (hV:E.con 42=fnS (zW fun l:List Ty=>if Ty.oks l=true/\l.length<=10000/\Ty.sizes l<=10000 then some (zbL l)else none))
 {s:Store} (hfi:s.fine) (hs:HS):CallOk ρ Tryz.prog 14 [enc s] hs (enc s.valid) hs:=by
 refine fn hρ hE hcon Tryz.func14 zSB rfl (by simp) ?_ hs;simp [hE];refine zU (zZ (zz (Less.keep (TL:=[(1,.ptr 0 0 0),(3,.int .i64 ((0:Nat):Int))]) (HL:=[(0,box (z8 s))]) 1 (by simp) (by simp) rfl rfl) (zge hρ hE hcon hfi.2.1 ?_ ?_ s.trail.length 0 (by omega) (by simp))))
 . intro h1;have e:s.valid=false:=by unfold Store.valid;rw[decide_eq_false h1];rfl
   simp [hE,e]
 intro h1;simp [hE];refine zU (zZ (zz (Less.keep (TL:=[(1,.ptr 0 0 0),(4,.int .i64 ((0:Nat):Int))]) (HL:=[(0,box (z8 s))]) 1 (by simp) (by simp) rfl rfl) (zgc hρ hE hcon hEq hVa hV hfi ?_ ?_ s.slots.length 0 (by omega) (by simp))))
 . intro h2;have e:s.valid=false:=by unfold Store.valid;rw[decide_eq_false h2];simp
   simp [hE,e]
 intro h2;simp [hE];refine zU (zZ (zz (Less.keep (TL:=[(1,.ptr 0 0 0),(8,.int .i64 ((0:Nat):Int))]) (HL:=[(0,box (z8 s))]) 1 (by simp) (by simp) rfl rfl) (zgb hρ hE hcon hcy (Store.closed_of hfi h2) ?_ ?_ s.slots.length 0 (by omega) (by simp))))
 . intro h3;have e:s.valid=false:=by unfold Store.valid;rw[decide_eq_false h3];simp
   simp [hE,e]
 intro h3;have e:s.valid=true:=by unfold Store.valid;rw[decide_eq_true h1,decide_eq_true h2,decide_eq_true h3];rfl
 simp [hE,e]
end
end Go.Proofs.YtfgmnebfhemnpaaGreat
/- Ranges from the end,rolling back. -/
namespace Go.Proofs.YtfgmnebfhemnpaaGreat
open Go.J
open Go.J.Enc (enc)
set_option maxRecDepth 100000
set_option maxHeartbeats 1000000
section
variable {ρ:Nat->Value}(hρ:J.Good ρ){E:Env}(hE:E.P=Tryz.prog)(hcon:ConsOk ρ E)
include hρ hE hcon
theorem zeO{l:List Slot}(hs:HS):CallOk ρ Tryz.prog 38 [enc l] hs (enc l) hs:=by
 refine fn hρ hE hcon Tryz.func38 zSv rfl (by simp) ?_ hs;simp [hE,zbO,zkf,bounds,zkN,zQ,zaN]
end
end Go.Proofs.YtfgmnebfhemnpaaGreat
/- The contracts of small functions,joined. -/
namespace Go.Proofs.YtfgmnebfhemnpaaGreat
open Go.J
open Go.J.Enc (enc)
set_option maxRecDepth 100000
set_option maxHeartbeats 1000000
theorem zT{c:Prop}{_:Decidable c}{α:Type}{x r:α}(h:(if c then some x else none)=some r):c/\x=r:=by
 split at h
 . cases h;exact⟨‹_›,rfl⟩
 . cases h
theorem fo{f:Nat}{fn:Func}{sc:SC}(hf:Tryz.prog.funcs[f]?=some fn)(hb:fn.body.bind zx=some sc):zeA Tryz.prog f:=zKw hf (by
 cases h:fn.body with
 |none=>rw[h]at hb;cases hb
 |some c=>rfl)
abbrev EL(L:List (Nat×J.Spec)):Env:=zHb Tryz.prog pol L
section
variable {ρ:Nat->Value}(hρ:J.Good ρ)
include hρ
def zPC:J.Spec:=fnS (zV fun n m:Int=>if -1000000<=m/\m<=1000000 then some (zyb n m)else none)
theorem zTq:Valid ρ Tryz.prog 51 zPC:=v2 (fo Tryz.func51 zSt) fun a b r h hs=>by
 obtain⟨h1,rfl⟩:=zT h;exact zlJ hρ (E:=EL []) rfl (zt valid_nil) (by omega) (by omega) hs
def zGo:J.Spec:=fnS (zW fun l:List Int=>some (decide (l.length<=60)))
theorem zTs:Valid ρ Tryz.prog 9 zGo:=v1 (fo Tryz.func9 fB9) fun a r h hs=>by
 cases h;exact zlK hρ (E:=EL []) rfl (zt valid_nil) hs
def zKV:J.Spec:=fnS (zV fun (n:List Nat) (l:List Ty)=>if l.length<=10000 then some (zfO n l)else none)
theorem zLL:Valid ρ Tryz.prog 53 zKV:=v2 (fo Tryz.func53 zSr) fun a b r h hs=>by
 obtain⟨h1,rfl⟩:=zT h;exact zl0 hρ (E:=EL []) rfl (zt valid_nil) h1 hs
theorem zTr:Valid ρ Tryz.prog 52 (fnS (zfp tInt)):=v0 (fo Tryz.func52 zSs) fun hs =>
 zly hρ (E:=EL [(53,zKV)]) rfl (zt (zo (zLL hρ) valid_nil)) rfl hs
theorem zEw:Valid ρ Tryz.prog 54 (fnS (zV fun a b:Ty=>some (zcy a b))):=v2 (fo Tryz.func54 zSq) fun a b r h hs=>by
 cases h;exact ziI hρ (E:=EL [(53,zKV)]) rfl (zt (zo (zLL hρ) valid_nil)) rfl hs
theorem zIC:Valid ρ Tryz.prog 29 (fnS (zW fun i:Int=>some (zas i))):=v1 (fo Tryz.func29 zS3) fun a r h hs=>by
 cases h;exact zlx hρ (E:=EL []) rfl (zt valid_nil) hs
theorem zEv:Valid ρ Tryz.prog 34 (fnS (zW fun i:Int=>some (zco i))):=v1 (fo Tryz.func34 zSy) fun a r h hs=>by
 cases h;exact ziH hρ (E:=EL []) rfl (zt valid_nil) hs
theorem zzz:Valid ρ Tryz.prog 32 (fnS (zV fun h i:Int=>some (zaw h i))):=v2 (fo Tryz.func32 zS0) fun a b r h hs=>by
 cases h;exact ziG hρ (E:=EL []) rfl (zt valid_nil) hs
theorem zEq:Valid ρ Tryz.prog 23 (stS (zq2 zk2)):=s1 (fo Tryz.func23 zS5) fun s a q h hs id hid hg=>by
 obtain⟨⟨h1,h2⟩,rfl⟩:=zT h;exact zf4 hρ (E:=EL [(51,zPC)]) rfl (zt (zo (zTq hρ) valid_nil)) rfl h1.1 h1.2 h2 hs id hid hg
theorem vEq(d:Nat):Valid ρ Tryz.prog 40 (fnS (zV (eqF d)))/\Valid ρ Tryz.prog 63 (fnS (zV (zjE d))):=by
 have all:∀ d,Valid ρ Tryz.prog 40 (fnS (zV (eqF d)))->Valid ρ Tryz.prog 63 (fnS (zV (zjE d))):=fun d hv=>v2 (fo Tryz.func63 zSk) fun a b r h hs=>by
  obtain⟨⟨h1,h2,h3⟩,rfl⟩:=zT h;exact zfY hρ (E:=EL [(40,fnS (zV (eqF d)))]) rfl (zt (zo hv valid_nil)) rfl h1 h2 h3 hs
 have one:∀ d,Valid ρ Tryz.prog 40 (fnS (zV (eqF d))):=by
  intro d
  induction d with
  | zero =>
    refine v2 (fo Tryz.func40 zK3) fun a b r h hs=>?_
    obtain⟨⟨h1,h2⟩,rfl⟩:=zT h;have:=Ty.size_eq a;omega
  | succ d ih =>
    refine v2 (fo Tryz.func40 zK3) fun a b r h hs=>?_
    obtain⟨⟨h1,h2⟩,rfl⟩:=zT h;exact zeG hρ (E:=EL [(63,fnS (zV (zjE d)))]) rfl (zt (zo (all d ih) valid_nil)) rfl h1 h2 hs
 exact⟨one d,all d (one d)⟩
def zjC:J.Spec:=fnS (zV fun a b:Ty=>if a.ok=true then some (decide (a=b))else none)
theorem zqM:Valid ρ Tryz.prog 40 zjC:=v2 (fo Tryz.func40 zK3) fun a b r h hs=>by
 obtain⟨h1,rfl⟩:=zT h;exact zeG hρ (E:=EL [(63,fnS (zV (zjE a.size)))]) rfl (zt (zo (vEq hρ a.size).2 valid_nil)) rfl h1 (by omega) hs
theorem zqL(d:Nat):Valid ρ Tryz.prog 56 (ioS 5 (zpT (zb9 d)) zk7):=by
 induction d with
 | zero =>
   refine Valid.io (fo Tryz.func56 zNV) fun es vs r _ _ h0 _ _ _ hs v hv hvac=>?_
   obtain⟨l,a,b,q,rfl,rfl,h,rfl⟩:=zoC h0;obtain⟨⟨h1,h2,h3⟩,rfl⟩:=zT h;have:=Ty.size_eq a;omega
 | succ d ih =>
   refine Valid.io (fo Tryz.func56 zNV) fun es vs r _ _ h0 _ _ _ hs v hv hvac=>?_
   obtain⟨l,a,b,q,rfl,rfl,h,rfl⟩:=zoC h0;obtain⟨⟨h1,h2,h3,h4⟩,rfl⟩:=zT h;exact zh0 hρ (E:=EL [(40,zjC),(56,ioS 5 (zpT (zb9 d)) zk7)]) rfl (zt (zo (zqM hρ) (zo ih valid_nil))) rfl rfl h2 h1 h3 h4 hv hvac
def zj7:J.Spec:=fnC (zV fun (l:List Int) (x:Int)=>if l.length<=1000000 then some (decide (x∈l))else none)
theorem zLJ:Valid ρ Tryz.prog 66 zj7:=c2 (fo Tryz.func66 zSh) fun a b r h hs=>by
 obtain⟨h1,rfl⟩:=zT h;exact zlz hρ (E:=EL []) rfl (zt valid_nil) h1 hs
def zqB(d:Nat):J.Spec:=fnS (zW fun l:List Ty=>if Ty.oks l=true/\l.length<=10000/\Ty.sizes l<=d then some (zbL l)else none)
theorem zEg(d:Nat)(hd:d<=10000):Valid ρ Tryz.prog 42 (zqB d):=v1 (fo Tryz.func42 zSu) fun a r h hs=>by
 obtain⟨⟨h1,h2,h3⟩,rfl⟩:=zT h;exact zkk hρ (E:=EL [(66,zj7),(56,ioS 5 (zpT (zb9 d)) zk7)]) rfl (zt (zo (zLJ hρ) (zo (zqL hρ d) valid_nil))) rfl rfl h1 h2 h3 (by have:=(zaE 1 a []).2;simp at this;omega) hs
end
end Go.Proofs.YtfgmnebfhemnpaaGreat
/- The contracts of the functions on stores,joined. -/
namespace Go.Proofs.YtfgmnebfhemnpaaGreat
open Go.J
open Go.J.Enc (enc)
set_option maxRecDepth 100000
set_option maxHeartbeats 1000000
theorem znY(l:List Ty):l.length<=Ty.sizes l:=by
 induction l with
 |nil=>exact Nat.le_refl _
 |cons t l ih=>have:=Ty.size_pos t;simp only[Ty.sizes,List.length_cons];omega
section
variable {ρ:Nat->Value}(hρ:J.Good ρ)
include hρ
theorem zqI:Valid ρ Tryz.prog 81 (fnS (zW fun c:Byte=>some (lowerB c.n))):=v1 (fo Tryz.func81 zRZ) fun a r h hs=>by
 cases h;exact ziL hρ (E:=EL []) rfl (zt valid_nil) hs
theorem zqH:Valid ρ Tryz.prog 83 (fnS (zW fun c:Byte=>some (upperB c.n))):=v1 (fo Tryz.func83 zRX) fun a r h hs=>by
 cases h;exact ziK hρ (E:=EL []) rfl (zt valid_nil) hs
theorem z8Z:Valid ρ Tryz.prog 129 (fnS (zW fun c:Byte=>some (zg3 c.n))):=v1 (fo Tryz.func129 zGI) fun a r h hs=>by
 cases h;exact ziN hρ (E:=EL []) rfl (zt valid_nil) hs
theorem z8Y:Valid ρ Tryz.prog 106 (fnS (zW fun c:Byte=>some (zd0 c.n))):=v1 (fo Tryz.func106 zGN) fun a r h hs=>by
 cases h
 exact ziM hρ (E:=EL [(81,fnS (zW fun c:Byte=>some (lowerB c.n))),(83,fnS (zW fun c:Byte=>some (upperB c.n))),(129,fnS (zW fun c:Byte=>some (zg3 c.n)))]) rfl
  (zt (zo (zqI hρ) (zo (zqH hρ) (zo (z8Z hρ) valid_nil)))) rfl rfl rfl hs
def z8I:J.Spec:=fnS (zW fun s:List Nat=>if s.length<2^63 then some (zha s)else none)
theorem zz0:Valid ρ Tryz.prog 80 z8I:=v1 (fo Tryz.func80 zSa) fun a r h hs=>by
 obtain⟨h1,rfl⟩:=zT h;exact zkm hρ (E:=EL [(106,fnS (zW fun c:Byte=>some (zd0 c.n)))]) rfl (zt (zo (z8Y hρ) valid_nil)) rfl h1 hs
theorem zqJ:Valid ρ Tryz.prog 82 (fnS (zW fun s:List Nat=>some (decide (s∈keywords)))):=v1 (fo Tryz.func82 zRY) fun a r h hs=>by
 cases h;exact zgF hρ (E:=EL []) rfl (zt valid_nil) hs
def zzV:J.Spec:=fnS (zW fun s:List Nat=>if s.length<2^63 then some (zhQ s)else none)
theorem zwT:Valid ρ Tryz.prog 64 zzV:=v1 (fo Tryz.func64 zSj) fun a r h hs=>by
 obtain⟨h1,rfl⟩:=zT h
 exact ziP hρ (E:=EL [(80,z8I),(81,fnS (zW fun c:Byte=>some (lowerB c.n))),(82,fnS (zW fun s:List Nat=>some (decide (s∈keywords))))]) rfl
  (zt (zo (zz0 hρ) (zo (zqI hρ) (zo (zqJ hρ) valid_nil)))) rfl rfl rfl h1 hs
def zz1:J.Spec:=fnS (zW fun s:List Nat=>if s.length<2^63 then some (zdS s)else none)
theorem zwS:Valid ρ Tryz.prog 65 zz1:=v1 (fo Tryz.func65 zSi) fun a r h hs=>by
 obtain⟨h1,rfl⟩:=zT h;exact ziO hρ (E:=EL [(80,z8I),(83,fnS (zW fun c:Byte=>some (upperB c.n)))]) rfl (zt (zo (zz0 hρ) (zo (zqH hρ) valid_nil))) rfl rfl h1 hs
def znr(d:Nat):J.Spec:=fnS (zW fun t:Ty=>if t.size<=d/\t.short=true then some t.valid else none)
theorem z8X(d:Nat)(hd:d<=1000000):Valid ρ Tryz.prog 41 (znr d):=by
 induction d with
 | zero =>
   refine v1 (fo Tryz.func41 zNY) fun a r h hs=>?_
   obtain⟨⟨h1,h2⟩,rfl⟩:=zT h;have:=Ty.size_eq a;omega
 | succ d ih =>
   refine v1 (fo Tryz.func41 zNY) fun a r h hs=>?_
   obtain⟨⟨h1,h2⟩,rfl⟩:=zT h;refine ziF hρ (E:=EL [(41,znr d),(64,zzV),(65,zz1)]) rfl (zt (zo (ih (by omega)) (zo (zwT hρ) (zo (zwS hρ) valid_nil)))) rfl rfl rfl h1 ?_ h2 hs;have:=Ty.size_eq a;have:=znY a.args;omega
theorem zpd{d:Nat}{S:J.Spec}(hv:Valid ρ Tryz.prog 43 S)(hS:S=mtS 2 1 (zpK (zkO d))){s:Store}{i fr:Int}{S1:List Int}{R:List Int×Bool}(hR:zkO (d+1) S1 s i fr=some R)(hs:HS)(id:Nat)(hid:id<hs.n)(hg:hs.H.get id=some (mkO 1 (S1.map encI))) :
 CallOk ρ Tryz.prog 43 [enc s,enc i,mkV id (S1.map encI),enc fr] hs (enc R.2) (hs.wr id (mkO 1 (R.1.map encI))):=by
 subst hS;exact zgI hρ (E:=EL [(43,mtS 2 1 (zpK (zkO d))),(42,zqB 10000)]) rfl (zt (zo hv (zo (zEg hρ 10000 (by omega)) valid_nil))) rfl rfl hR hid hg
omit hρ in
theorem mt3{F:List Int->Store->Int->Int->Option (List Int×Bool)}{f:Nat}(hf:zeA Tryz.prog f)(h:∀ S s i fr r,F S s i fr=some r->∀ (hs:HS) (id:Nat),id<hs.n->hs.H.get id=some (mkO 1 (S.map encI))->CallOk ρ Tryz.prog f [enc s,enc i,mkV id (S.map encI),enc fr] hs (enc r.2) (hs.wr id (mkO 1 (r.1.map encI)))) :
 Valid ρ Tryz.prog f (mtS 2 1 (zpK F)):=Valid.mt hf fun es pre post r hp _ _ hF _ _ _ hs id hid hg=>by
 obtain⟨S,s,i,fr,q,rfl,hv,hq,rfl⟩:=zxZ hF
 obtain⟨x,y,rfl⟩:∃ x y,pre=[x,y]:=by
  match pre,hp with
  | [x,y],_=>exact⟨x,y,rfl⟩
 simp only[List.cons_append,List.nil_append,List.cons.injEq]at hv;obtain⟨rfl,rfl,rfl⟩:=hv;exact h S s i fr q hq hs id hid hg
theorem zTt(d:Nat):Valid ρ Tryz.prog 43 (mtS 2 1 (zpK (zkO d))):=by
 induction d with
 | zero =>
   refine mt3 (fo Tryz.func43 zK2) fun S s i fr r h hs id hid hg=>?_
   unfold zkO at h;obtain⟨⟨_,_,_,_,h1⟩,_⟩:=zT h;omega
 |succ d ih=>exact mt3 (fo Tryz.func43 zK2) fun S s i fr r h hs id hid hg=>zpd hρ ih rfl h hs id hid hg
theorem zLK:Valid ρ Tryz.prog 43 (mtS 2 1 (zpK fun S s i fr=>zkO (s.slots.length+1) S s i fr)) :=
 mt3 (fo Tryz.func43 zK2) fun S s i fr r h hs id hid hg=>zpd hρ (zTt hρ s.slots.length) rfl h hs id hid hg
def zgN:J.Spec:=fnS (zW fun s:Store=>if s.fine then some s.valid else none)
theorem zwP:Valid ρ Tryz.prog 14 zgN:=v1 (fo Tryz.func14 zSB) fun a r h hs=>by
 obtain⟨h1,rfl⟩:=zT h
 exact zhA hρ (E:=EL [(43,mtS 2 1 (zpK fun S s i fr=>zkO (s.slots.length+1) S s i fr)),(40,zjC),(41,znr 10000),(42,zqB 10000)]) rfl
  (zt (zo (zLK hρ) (zo (zqM hρ) (zo (z8X hρ 10000 (by omega)) (zo (zEg hρ 10000 (by omega)) valid_nil))))) rfl rfl rfl rfl h1 hs
theorem zqO:Valid ρ Tryz.prog 38 (fnS (zW fun l:List Slot=>some l)):=v1 (fo Tryz.func38 zSv) fun a r h hs=>by
 cases h;exact zeO hρ (E:=EL []) rfl (zt valid_nil) hs
end
end Go.Proofs.YtfgmnebfhemnpaaGreat
