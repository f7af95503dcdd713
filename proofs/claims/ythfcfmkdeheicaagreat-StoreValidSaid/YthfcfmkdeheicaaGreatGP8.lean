import Derived.Test.YthfcfmkdeheicaaGreatGVC
import Derived.Test.YthfcfmkdeheicaaGreatJW
import Derived.Test.YthfcfmkdeheicaaGreatJK
set_option linter.all false
noncomputable section
/- The program's search for cycles in a store. -/
namespace Go.Proofs.YthfcfmkdeheicaaGreat
open Go.J
open Go.J.Enc (enc)
set_option maxRecDepth 100000
set_option maxHeartbeats 1000000
section
variable {ρ:Nat→Value} (hρ:J.Good ρ)
include hρ
section
variable {E:Env} (hE:E.P=Tryz.prog) (hcon:ConsOk ρ E)
include hE hcon
theorem store_acyclic_loop {d:Nat} (hc:E.con 71=mtS 2 1 (mtF2 (acF d))) {s:Store} (hac:s.acOk) {k:Nat} (hk:k<s.slots.length) {L:List Int} (hL:∀ v∈L,0≤v∧v<s.slots.length) (hll:L.length≤10000) {S0:List Int} (hS0:S0.length=s.slots.length) (hn0:∀ x∈S0,0≤x) (hc0:S0.count 0<d)
    {R:List Int×Bool} (hR:acL (acM s d) L S0=R) {T:PT V} {hs:HS} {Q:Ex→PT V→HS→Prop}
    (hT:Less 1 T hs (mkP [(1,.int .i64 (k:Int)),(2,mkV 0 (S0.map encI)),(3,.ptr 1 0 0),(29,.sl (L.map encI) false),(30,.int .i64 (L.length:Int)),(31,.int .i64 ((0:Nat):Int))]) { H:=mkP [(0,mkO 1 (S0.map encI)),(1,box (encStore s))],n:=2,log:=[] })
    (hf:R.2=false→Q .ret (mkP [(6,.bool false)]) { H:=mkP [(0,mkO 1 (R.1.map encI))],n:=1,log:=[] })
    (ht:R.2=true→Q (.exit 0) (mkP [(1,.int .i64 (k:Int)),(2,mkV 0 (R.1.map encI))]) { H:=mkP [(0,mkO 1 (R.1.map encI))],n:=1,log:=[] }) :
    Ls ρ E 1 44 (.loop fS71l0) T hs Q:=by
  refine lpi hρ hE hcon L.length (nn:=2) (fun i (S:List Int)=>[(1,.int .i64 (k:Int)),(2,mkV 0 (S.map encI)),(3,.ptr 1 0 0),(29,.sl (L.map encI) false),(30,.int .i64 (L.length:Int)),(31,.int .i64 (i:Int))])
    (fun i S=>[(0,mkO 1 (S.map encI)),(1,box (encStore s))]) (fun i S=>S.length=s.slots.length∧(∀ x∈S,0≤x)∧S.count 0<d∧acL (acM s d) (L.drop i) S=R) S0 hT ⟨hS0,hn0,hc0,by simpa using hR⟩ ?_ ?_
  · rintro S ⟨h1,h2,h3,h4⟩ K
    rw[List.drop_length,acL] at h4
    subst h4
    simp[fS71l0,fS71r0,fS71r1,fS71r2,fS71r3,fS71r4,fS71r5,fS71r6,fS71r7,fS71r8,fS71b0,fS71r9,fS71b1,fS71r10,fS71r11,fS71,hE]
    exact LessQ.mk (Less.auto (by simp[mkV]) (by simp[mkO]) rfl rfl) (ht rfl)
  · rintro i S hi ⟨h1,h2,h3,h4⟩ K hK
    have hi':(i:Int)<L.length:=by omega
    have hw2:IntKind.i64.wrap ((i:Int)+1)=((i+1:Nat):Int):=wrap_succ (by omega)
    have hv:=hL _ (List.getElem_mem hi)
    rw[List.drop_eq_getElem_cons hi,acL] at h4
    obtain⟨v,hvv⟩:∃ v,L[i]=v:=⟨_,rfl⟩
    rw[hvv] at h4 hv
    have hF:acF d S s v=some (acM s d v S):=if_pos ⟨hac,h1,hv.1,hv.2,h2,h3⟩
    have hlen:=acM_len s d v S
    obtain⟨hq1,hq2⟩:=acM_keep s d v S
    generalize acM s d v S=r at hF hlen hq1 hq2 h4
    obtain⟨S',b⟩:=r
    simp only at hlen hq1 hq2 h4
    cases b with
    | true =>
      rw[if_pos rfl] at h4
      have hnew:=hK S' ⟨by omega,hq2 h2,by omega,h4⟩
      simp[fS71l0,fS71r0,fS71r1,fS71r2,fS71r3,fS71r4,fS71r5,fS71r6,fS71r7,fS71r8,fS71b0,fS71r9,fS71b1,fS71r10,fS71r11,fS71,hE,hi,hi',hvv,mkV,mkO,Nat.mod_one,Nat.div_one,hc,hF,hw2,hlen,-Int.natCast_add]
      exact hnew _ _ (Less.auto (by simp[mkV,hlen,-Int.natCast_add]) (by simp[mkV,mkO,hlen]) rfl rfl)
    | false =>
      rw[if_neg (by decide)] at h4
      subst h4
      simp[fS71l0,fS71r0,fS71r1,fS71r2,fS71r3,fS71r4,fS71r5,fS71r6,fS71r7,fS71r8,fS71b0,fS71r9,fS71b1,fS71r10,fS71r11,fS71,hE,hi,hi',hvv,mkV,mkO,Nat.mod_one,Nat.div_one,hc,hF,hlen]
      exact LessQ.mk (Less.auto (by simp) (by simp[mkO]) rfl rfl) (hf rfl)
theorem store_acyclic_run {d:Nat} (hc:E.con 71=mtS 2 1 (mtF2 (acF d))) (hV:E.con 66=tvarsS) {s:Store} {i:Int} {S:List Int} {R:List Int×Bool} (hR:acF (d+1) S s i=some R) {hs:HS} {id:Nat} (hid:id<hs.n) (hg:hs.H.get id=some (mkO 1 (S.map encI))) :
    CallOk ρ Tryz.prog 71 [enc s,enc i,mkV id (S.map encI)] hs (enc R.2) (hs.wr id (mkO 1 (R.1.map encI))):=by
  obtain⟨⟨hok,hSl,hi0,hil,hnn,h0⟩,rfl⟩:=acF_inv hR
  have hRl:=acM_len s (d+1) i S
  refine mt hρ hE hcon (pre:=[enc s,enc i]) (post:=[]) Tryz.func71 fB71 rfl (by simp) (by simp) (by simp) (by simpa using hRl) rfl ?_ hid hg
  clear hRl hR hid hg
  obtain⟨k,rfl⟩:=Int.eq_ofNat_of_zero_le hi0
  have hk:k<s.slots.length:=by omega
  have hkS:k<S.length:=by omega
  have hSk:S[k]?=some S[k]:=List.getElem?_eq_getElem hkS
  have hat:at0 S (k:Int)=S[k]:=by unfold at0; rw[Int.toNat_natCast,hSk]; rfl
  have hx0:0≤S[k]:=hnn _ (List.getElem_mem hkS)
  have hM:acM s (d+1) (k:Int) S=if S[k]>0 then (S,decide (S[k]=2)) else if (acL (acM s d) (s.sc k) (S.set k 1)).2=true then ((acL (acM s d) (s.sc k) (S.set k 1)).1.set k 2,true) else ((acL (acM s d) (s.sc k) (S.set k 1)).1,false):=by
    rw[acM,hat,Int.toNat_natCast]
  have hcnt:S[k]=0→(S.set k 1).count 0<d:=fun e=>by
    have:=count_set1 (S:=S) (k:=k) (by rw[hSk,e])
    omega
  generalize hx:S[k]=x at *
  by_cases hp:x>0
  · rw[if_pos hp] at hM
    rw[hM]
    have hp':(0:Int)<x:=hp
    clear hM hcnt
    by_cases h2:x=2<;>simp[fS71r0,fS71r1,fS71r2,fS71r3,fS71r4,fS71r5,fS71r6,fS71r7,fS71r8,fS71b0,fS71r9,fS71b1,fS71r10,fS71r11,fS71,hE,hk,hkS,hx,hp',h2,mkV,mkO,Nat.mod_one,Nat.div_one]
    all_goals exact GivesL.keep rfl rfl rfl rfl (by simp)
  · have hx00:x=0:=by omega
    subst hx00
    rw[if_neg (by omega)] at hM
    have hcnt:=hcnt rfl
    have hk0:s.slots[k]?=some s.slots[k]:=List.getElem?_eq_getElem hk
    obtain⟨g1,g2,g3,g4⟩:=hok.2 _ (List.getElem_mem hk)
    have hsc:s.sc (k:Int)=varsM [s.slots[k].type]:=by unfold Store.sc; rw[Int.toNat_natCast,hk0]
    rw[hsc] at hM
    have hlL:(colTs [s.slots[k].type] []).length≤10000:=by
      have:=(colTs_len [s.slots[k].type] []).2
      simp[Ty.sizes] at this
      omega
    rw[← g4] at hM g3
    have hoks:Ty.oks [s.slots[k].type]=true:=by simp[Ty.oks,g1]
    have hszs:Ty.sizes [s.slots[k].type]≤100000:=by simp[Ty.sizes]; omega
    generalize hLL:colTs [s.slots[k].type] []=L at hM g3 hlL
    generalize hy:s.slots[k]=y at hoks hszs hLL
    have e1:(S.map encI).set k [.int .i64 1]=(S.set k 1).map encI:=by rw[List.map_set]
    have hlR:=acL_len s d L (S.set k 1)
    rw[List.length_set] at hlR
    have lo:=fun T hs Q=>store_acyclic_loop hρ hE hcon hc hok hk g3 hlL (S0:=S.set k 1) (by rw[List.length_set]; exact hSl) (nn_set (by decide) hnn) hcnt rfl (T:=T) (hs:=hs) (Q:=Q)
    generalize acL (acM s d) L (S.set k 1)=R' at hM hlR lo
    obtain⟨S',b⟩:=R'
    simp only at hM hlR lo
    rw[hM]
    simp[fS71r0,fS71r1,fS71r2,fS71r3,fS71r4,fS71r5,fS71r6,fS71r7,fS71r8,fS71b0,fS71r9,fS71b1,fS71r10,fS71r11,fS71,hE,hk,hkS,hx,hy,mkV,mkO,Nat.mod_one,Nat.div_one,e1,hV,tvarsS,hoks,hszs,hLL,-List.map_set]
    refine lo _ _ _ (Less.auto (by simp[mkV,-List.map_set]) (by simp[mkV,mkO,-List.map_set]) rfl rfl) ?_ ?_
    · intro hb
      subst hb
      simp[fS71r0,fS71r1,fS71r2,fS71r3,fS71r4,fS71r5,fS71r6,fS71r7,fS71r8,fS71b0,fS71r9,fS71b1,fS71r10,fS71r11,fS71,hE]
      exact GivesL.keep rfl rfl rfl rfl (by simp[mkO])
    · intro hb
      subst hb
      have hkS':k<S'.length:=by omega
      have e2:(S'.map encI).set k [.int .i64 2]=(S'.set k 2).map encI:=by rw[List.map_set]
      simp[fS71r0,fS71r1,fS71r2,fS71r3,fS71r4,fS71r5,fS71r6,fS71r7,fS71r8,fS71b0,fS71r9,fS71b1,fS71r10,fS71r11,fS71,hE,hkS',mkV,mkO,Nat.mod_one,Nat.div_one,e2,-List.map_set]
      exact GivesL.keep rfl rfl rfl rfl (by simp[mkO,-List.map_set])
end
omit hρ in
theorem mt2a {F:List Int→Store→Int→Option (List Int×Bool)} {f:Nat} (hf:FnOk Tryz.prog f) (h:∀ S s i r,F S s i=some r→∀ (hs:HS) (id:Nat),id<hs.n→hs.H.get id=some (mkO 1 (S.map encI))→CallOk ρ Tryz.prog f [enc s,enc i,mkV id (S.map encI)] hs (enc r.2) (hs.wr id (mkO 1 (r.1.map encI)))) :
    Valid ρ Tryz.prog f (mtS 2 1 (mtF2 F)):=Valid.mt hf fun es pre post r hp _ _ hF _ _ _ hs id hid hg=>by
  obtain⟨S,s,i,q,rfl,hv,hq,rfl⟩:=mtF2_inv hF
  obtain⟨x,y,rfl⟩:∃ x y,pre=[x,y]:=by
    match pre,hp with
    | [x,y],_=>exact⟨x,y,rfl⟩
  simp only[List.cons_append,List.nil_append,List.cons.injEq] at hv
  obtain⟨rfl,rfl,rfl⟩:=hv
  exact h S s i q hq hs id hid hg
theorem ac_call {d:Nat} {S:J.Spec} (hv:Valid ρ Tryz.prog 71 S) (hS:S=mtS 2 1 (mtF2 (acF d))) {s:Store} {i:Int} {S1:List Int} {R:List Int×Bool} (hR:acF (d+1) S1 s i=some R) (hs:HS) (id:Nat) (hid:id<hs.n) (hg:hs.H.get id=some (mkO 1 (S1.map encI))) :
    CallOk ρ Tryz.prog 71 [enc s,enc i,mkV id (S1.map encI)] hs (enc R.2) (hs.wr id (mkO 1 (R.1.map encI))):=by
  subst hS
  exact store_acyclic_run hρ (E:=EL [(71,mtS 2 1 (mtF2 (acF d))),(66,tvarsS)]) rfl (consOk_list (valid_cons hv (valid_cons (vTVars hρ) valid_nil))) rfl rfl hR hid hg
theorem vAc (d:Nat):Valid ρ Tryz.prog 71 (mtS 2 1 (mtF2 (acF d))):=by
  induction d with
  | zero =>
    refine mt2a (fo Tryz.func71 fB71) fun S s i r h hs id hid hg=>?_
    obtain⟨⟨_,_,_,_,_,h1⟩,_⟩:=acF_inv h
    omega
  | succ d ih=>exact mt2a (fo Tryz.func71 fB71) fun S s i r h hs id hid hg=>ac_call hρ ih rfl h hs id hid hg
theorem vAcA:Valid ρ Tryz.prog 71 (mtS 2 1 (mtF2 fun S s i=>acF (s.slots.length+1) S s i)) :=
  mt2a (fo Tryz.func71 fB71) fun S s i r h hs id hid hg=>ac_call hρ (vAc hρ s.slots.length) rfl h hs id hid hg
end
end Go.Proofs.YthfcfmkdeheicaaGreat
/- Which stores the program calls valid. -/
namespace Go.Proofs.YthfcfmkdeheicaaGreat
open Go.J
open Go.J.Enc (enc)
set_option maxRecDepth 100000
set_option maxHeartbeats 1000000
theorem slot_isSome (s:Store) (i:Int):(s.slot? i).isSome=decide (0≤i∧i<s.slots.length):=by
  cases h:s.slot? i with
  | none =>
    have:=Store.slot?_none h
    rw[decide_eq_false (by omega)]; rfl
  | some x =>
    obtain⟨k,rfl,hk,_⟩:=Store.slot?_some h
    rw[decide_eq_true (by omega)]; rfl
theorem ixV_eq {L:List Int} {s:Store} (h:L.length≤100000):∃ q:Bool,ixFVB L s=some q∧(q=false↔∀ v∈L,0≤v∧v<s.slots.length):=by
  refine⟨L.any fun x=>(nhF x s).getD false,if_pos ⟨h,fun x _=>rfl⟩,?_⟩
  simp[nhF,slot_isSome]
theorem ixW_eq {L:List Change} {s:Store} (h:L.length≤100000):∃ q:Bool,ixFWB L s=some q∧(q=false↔∀ v∈L,0≤v.id∧v.id<s.slots.length):=by
  refine⟨L.any fun x=>(nhcF x s).getD false,if_pos ⟨h,fun x _=>rfl⟩,?_⟩
  simp[nhcF,slot_isSome]
section
variable {ρ:Nat→Value} (hρ:J.Good ρ)
include hρ
section
variable {E:Env} (hE:E.P=Tryz.prog) (hcon:ConsOk ρ E)
include hE hcon
theorem store_Valid_loop0 (hEq:E.con 63=tequalS) (hVa:E.con 64=tvalidS 10000) (hV:E.con 66=tvarsS) (hCI:E.con 65=rdS 1 (some 67) (rdF1 ixFVB))
    {s:Store} (hfi:s.fine) {T:PT V} {hs:HS} {Q:Ex→PT V→HS→Prop}
    (hT:Less 0 T hs (mkP [(1,.ptr 0 0 0),(8,.sl (s.slots.map encSlot) false),(9,.int .i64 (s.slots.length:Int)),(10,.int .i64 ((0:Nat):Int))]) { H:=mkP [(0,box (encStore s))],n:=1,log:=[] })
    (hf:(¬ ∀ x∈s.slots,s.slotOk x)→Q .ret (mkP [(2,.bool false)]) { H:=mkP [],n:=0,log:=[] })
    (hq:(∀ x∈s.slots,s.slotOk x)→Q (.exit 0) (mkP [(1,.ptr 0 0 0)]) { H:=mkP [(0,box (encStore s))],n:=1,log:=[] }) :
    Ls ρ E 0 63 (.loop fS17l0) T hs Q:=by
  refine lpi hρ hE hcon s.slots.length (nn:=1) (fun i (_:Unit)=>[(1,.ptr 0 0 0),(8,.sl (s.slots.map encSlot) false),(9,.int .i64 (s.slots.length:Int)),(10,.int .i64 (i:Int))]) (fun i _=>[(0,box (encStore s))]) (fun i _=>∀ x∈s.slots.take i,s.slotOk x) () hT (by simp) ?_ ?_
  · intro _ he K
    rw[List.take_length] at he
    simp[fS17l0,fS17r0,fS17r1,fS17r2,fS17r3,fS17r4,fS17r5,fS17r6,fS17r7,fS17b0,fS17b1,fS17r8,fS17b2,fS17r9,fS17r10,fS17r11,fS17r12,fS17r13,fS17r14,fS17r15,fS17r16,fS17b3,fS17r17,fS17b4,fS17r18,fS17,hE]
    exact LessQ.mk (Less.auto (by simp) (by simp) rfl rfl) (hq he)
  · intro i _ hi he K hK
    have hi':(i:Int)<s.slots.length:=by omega
    have hfl:=hfi.1
    have hw2:IntKind.i64.wrap ((i:Int)+1)=((i+1:Nat):Int):=wrap_succ (by omega)
    have hm:=List.getElem_mem hi
    obtain⟨g1,g2,g3⟩:=hfi.2.2 _ hm
    have hnx:=fun h=>hK () (forall_take_succ hi he h)
    have hno:¬ s.slotOk s.slots[i]→¬ ∀ x∈s.slots,s.slotOk x:=fun h hh=>h (hh _ hm)
    have hm5:(i*8) / 8=i:=by omega
    have hm6:(i*8) % 8=0:=by omega
    clear he hK hm
    generalize hx:s.slots[i]=x at g1 g2 g3 hnx hno
    obtain⟨b,t,ho,ba⟩:=x
    simp only at g1 g2 g3
    have hz:(Ty.mk 0 [] 0 0 []).ok=true:=rfl
    cases b with
    | false =>
      by_cases ht:t=ty0
      · have hok:s.slotOk ⟨false,t,ho,ba⟩:=by simp[Store.slotOk,ht]
        replace hnx:=hnx hok
        obtain rfl:t=Ty.mk 0 [] 0 0 []:=ht
        simp[fS17l0,fS17r0,fS17r1,fS17r2,fS17r3,fS17r4,fS17r5,fS17r6,fS17r7,fS17b0,fS17b1,fS17r8,fS17b2,fS17r9,fS17r10,fS17r11,fS17r12,fS17r13,fS17r14,fS17r15,fS17r16,fS17b3,fS17r17,fS17b4,fS17r18,fS17,hE,hi',hi,hm5,hm6,hx,hEq,tequalS,hz,g1,hw2,-Int.natCast_add]
        exact hnx _ _ (Less.auto (by simp[-Int.natCast_add]) (by simp) rfl rfl)
      · have hok:¬ s.slotOk ⟨false,t,ho,ba⟩:=by simp[Store.slotOk,ht]
        have ht':¬ t=Ty.mk 0 [] 0 0 []:=ht
        simp[fS17l0,fS17r0,fS17r1,fS17r2,fS17r3,fS17r4,fS17r5,fS17r6,fS17r7,fS17b0,fS17b1,fS17r8,fS17b2,fS17r9,fS17r10,fS17r11,fS17r12,fS17r13,fS17r14,fS17r15,fS17r16,fS17b3,fS17r17,fS17b4,fS17r18,fS17,hE,hi',hi,hm5,hm6,hx,hEq,tequalS,hz,g1,ht']
        exact LessQ.mk (Less.auto (by simp) (by simp) rfl rfl) (hf (hno hok))
    | true =>
      by_cases hv:t.valid=true
      · have hoks:Ty.oks [t]=true:=by simp[Ty.oks,g1]
        have hszs:Ty.sizes [t]≤100000:=by simp[Ty.sizes]; omega
        have hcv:=col_valid hv
        have hlen:(colTs [t] []).length≤100000:=by
          have:=(colTs_len [t] []).2
          simp[Ty.sizes] at this
          omega
        obtain⟨q,hq1,hq2⟩:=ixV_eq (s:=s) hlen
        have hok:s.slotOk ⟨true,t,ho,ba⟩↔q=false:=by
          rw[hq2,hcv]
          simp only[Store.slotOk,hv,true_and,if_true]
          exact⟨fun h v hm=>⟨(varsM_valid hv v hm).1,h v hm⟩,fun h v hm=>(h v hm).2⟩
        clear hq2 hcv
        generalize hL:colTs [t] []=L at hq1 hlen
        cases q with
        | true =>
          have hok':¬ s.slotOk ⟨true,t,ho,ba⟩:=fun h=>by have:=hok.1 h; cases this
          simp[fS17l0,fS17r0,fS17r1,fS17r2,fS17r3,fS17r4,fS17r5,fS17r6,fS17r7,fS17b0,fS17b1,fS17r8,fS17b2,fS17r9,fS17r10,fS17r11,fS17r12,fS17r13,fS17r14,fS17r15,fS17r16,fS17b3,fS17r17,fS17b4,fS17r18,fS17,hE,hi',hi,hm5,hm6,hx,hVa,tvalidS,g1,g2,g3,hv,hV,tvarsS,hoks,hszs,hL,hCI,hq1]
          exact LessQ.mk (Less.auto (by simp) (by simp) rfl rfl) (hf (hno hok'))
        | false =>
          replace hnx:=hnx (hok.2 rfl)
          simp[fS17l0,fS17r0,fS17r1,fS17r2,fS17r3,fS17r4,fS17r5,fS17r6,fS17r7,fS17b0,fS17b1,fS17r8,fS17b2,fS17r9,fS17r10,fS17r11,fS17r12,fS17r13,fS17r14,fS17r15,fS17r16,fS17b3,fS17r17,fS17b4,fS17r18,fS17,hE,hi',hi,hm5,hm6,hx,hVa,tvalidS,g1,g2,g3,hv,hV,tvarsS,hoks,hszs,hL,hCI,hq1,hw2,-Int.natCast_add]
          exact hnx _ _ (Less.auto (by simp[-Int.natCast_add]) (by simp) rfl rfl)
      · have hok:¬ s.slotOk ⟨true,t,ho,ba⟩:=by simp[Store.slotOk,hv]
        simp[fS17l0,fS17r0,fS17r1,fS17r2,fS17r3,fS17r4,fS17r5,fS17r6,fS17r7,fS17b0,fS17b1,fS17r8,fS17b2,fS17r9,fS17r10,fS17r11,fS17r12,fS17r13,fS17r14,fS17r15,fS17r16,fS17b3,fS17r17,fS17b4,fS17r18,fS17,hE,hi',hi,hm5,hm6,hx,hVa,tvalidS,g1,g2,g3,hv]
        exact LessQ.mk (Less.auto (by simp) (by simp) rfl rfl) (hf (hno hok))
theorem store_Valid_loop1 (hA:E.con 71=mtS 2 1 (mtF2 fun S s i=>acF (s.slots.length+1) S s i))
    {s:Store} (hac:s.acOk) {T:PT V} {hs:HS} {Q:Ex→PT V→HS→Prop}
    (hT:Less 0 T hs (mkP [(1,.ptr 0 0 0),(5,mkV 1 ((List.replicate s.slots.length (0:Int)).map encI)),(53,.int .i64 (s.slots.length:Int)),(54,.int .i64 ((0:Nat):Int))]) { H:=mkP [(0,box (encStore s)),(1,mkO 1 ((List.replicate s.slots.length (0:Int)).map encI))],n:=2,log:=[] })
    (hf:s.acAll=false→Q .ret (mkP [(2,.bool false)]) { H:=mkP [],n:=0,log:=[] })
    (hq:s.acAll=true→Q (.exit 3) (mkP []) { H:=mkP [],n:=0,log:=[] }) :
    Ls ρ E 0 63 (.loop fS17l1) T hs Q:=by
  have hsl:=hac.1
  have hall:s.acAll=(acL (acM s (s.slots.length+1)) ((List.range s.slots.length).map fun i:Nat=>(i:Int)) (List.replicate s.slots.length 0)).2:=rfl
  generalize hR:acL (acM s (s.slots.length+1)) ((List.range s.slots.length).map fun i:Nat=>(i:Int)) (List.replicate s.slots.length 0)=R at hall
  refine lpi hρ hE hcon s.slots.length (nn:=2) (fun i (S:List Int)=>[(1,.ptr 0 0 0),(5,mkV 1 (S.map encI)),(53,.int .i64 (s.slots.length:Int)),(54,.int .i64 (i:Int))]) (fun i S=>[(0,box (encStore s)),(1,mkO 1 (S.map encI))])
    (fun i S=>S.length=s.slots.length∧(∀ x∈S,0≤x)∧acL (acM s (s.slots.length+1)) (((List.range s.slots.length).map fun i:Nat=>(i:Int)).drop i) S=R) (List.replicate s.slots.length 0) hT ⟨by simp,fun x hx=>by rw[(List.mem_replicate.1 hx).2]; exact Int.le_refl _,by simpa using hR⟩ ?_ ?_
  · rintro S ⟨h1,h2,h3⟩ K
    rw[List.drop_eq_nil_of_le (by simp),acL] at h3
    simp[fS17l1,fS17r0,fS17r1,fS17r2,fS17r3,fS17r4,fS17r5,fS17r6,fS17r7,fS17b0,fS17b1,fS17r8,fS17b2,fS17r9,fS17r10,fS17r11,fS17r12,fS17r13,fS17r14,fS17r15,fS17r16,fS17b3,fS17r17,fS17b4,fS17r18,fS17,hE]
    exact LessQ.mk (Less.auto (by simp) (by simp) rfl rfl) (hq (by rw[hall,← h3]))
  · rintro i S hi ⟨h1,h2,h3⟩ K hK
    have hi':(i:Int)<s.slots.length:=by omega
    have hw2:IntKind.i64.wrap ((i:Int)+1)=((i+1:Nat):Int):=wrap_succ (by omega)
    have hil:i<((List.range s.slots.length).map fun i:Nat=>(i:Int)).length:=by simpa using hi
    rw[List.drop_eq_getElem_cons hil,acL,List.getElem_map,List.getElem_range] at h3
    have hcnt:S.count 0<s.slots.length+1:=by
      have:=List.count_le_length (a:=(0:Int)) (l:=S)
      omega
    have hF:acF (s.slots.length+1) S s (i:Int)=some (acM s (s.slots.length+1) (i:Int) S):=if_pos ⟨hac,h1,by omega,hi',h2,hcnt⟩
    have hlen:=acM_len s (s.slots.length+1) (i:Int) S
    obtain⟨_,hq2⟩:=acM_keep s (s.slots.length+1) (i:Int) S
    generalize acM s (s.slots.length+1) (i:Int) S=r at hF hlen hq2 h3
    obtain⟨S',b⟩:=r
    simp only at hlen hq2 h3
    clear hR
    cases b with
    | true =>
      rw[if_pos rfl] at h3
      have hnew:=hK S' ⟨by omega,hq2 h2,h3⟩
      simp[fS17l1,fS17r0,fS17r1,fS17r2,fS17r3,fS17r4,fS17r5,fS17r6,fS17r7,fS17b0,fS17b1,fS17r8,fS17b2,fS17r9,fS17r10,fS17r11,fS17r12,fS17r13,fS17r14,fS17r15,fS17r16,fS17b3,fS17r17,fS17b4,fS17r18,fS17,hE,hi,hi',mkV,mkO,Nat.mod_one,Nat.div_one,hA,hF,hw2,hlen,-Int.natCast_add]
      exact hnew _ _ (Less.auto (by simp[mkV,hlen,-Int.natCast_add]) (by simp[mkV,mkO,hlen]) rfl rfl)
    | false =>
      rw[if_neg (by decide)] at h3
      simp[fS17l1,fS17r0,fS17r1,fS17r2,fS17r3,fS17r4,fS17r5,fS17r6,fS17r7,fS17b0,fS17b1,fS17r8,fS17b2,fS17r9,fS17r10,fS17r11,fS17r12,fS17r13,fS17r14,fS17r15,fS17r16,fS17b3,fS17r17,fS17b4,fS17r18,fS17,hE,hi,hi',mkV,mkO,Nat.mod_one,Nat.div_one,hA,hF,hlen]
      exact LessQ.mk (Less.auto (by simp) (by simp[mkO]) rfl rfl) (hf (by rw[hall,← h3]))
theorem store_Valid_run (hEq:E.con 63=tequalS) (hVa:E.con 64=tvalidS 10000) (hV:E.con 66=tvarsS) (hCI:E.con 65=rdS 1 (some 67) (rdF1 ixFVB))
    (hCW:E.con 69=rdS 10 (some 70) (rdF1 ixFWB)) (hA:E.con 71=mtS 2 1 (mtF2 fun S s i=>acF (s.slots.length+1) S s i))
    {s:Store} (hfi:s.fine) (hs:HS):CallOk ρ Tryz.prog 17 [enc s] hs (enc s.valid) hs:=by
  refine fn hρ hE hcon Tryz.func17 fB17 rfl (by simp) ?_ hs
  rw[← Store.pv_eq hfi]
  have hft:=hfi.2.1
  have hfl:=hfi.1
  simp[fS17r0,fS17r1,fS17r2,fS17r3,fS17r4,fS17r5,fS17r6,fS17r7,fS17b0,fS17b1,fS17r8,fS17b2,fS17r9,fS17r10,fS17r11,fS17r12,fS17r13,fS17r14,fS17r15,fS17r16,fS17b3,fS17r17,fS17b4,fS17r18,fS17,hE]
  refine store_Valid_loop0 hρ hE hcon hEq hVa hV hCI hfi (Less.auto (by simp) (by simp) rfl rfl) ?_ ?_
  · intro h
    have e:s.pv=false:=by unfold Store.pv; rw[decide_eq_false h]; simp
    simp[fS17r0,fS17r1,fS17r2,fS17r3,fS17r4,fS17r5,fS17r6,fS17r7,fS17b0,fS17b1,fS17r8,fS17b2,fS17r9,fS17r10,fS17r11,fS17r12,fS17r13,fS17r14,fS17r15,fS17r16,fS17b3,fS17r17,fS17b4,fS17r18,fS17,hE,e]
  intro hsl
  obtain⟨q,hq1,hq2⟩:=ixW_eq (s:=s) (L:=s.trail) (by omega)
  cases q with
  | true =>
    have e:s.pv=false:=by
      have hn:¬ ∀ c∈s.trail,0≤c.id∧c.id<s.slots.length:=fun h=>by have:=hq2.2 h; cases this
      unfold Store.pv
      rw[decide_eq_false hn]; simp
    clear hq2
    simp[fS17r0,fS17r1,fS17r2,fS17r3,fS17r4,fS17r5,fS17r6,fS17r7,fS17b0,fS17b1,fS17r8,fS17b2,fS17r9,fS17r10,fS17r11,fS17r12,fS17r13,fS17r14,fS17r15,fS17r16,fS17b3,fS17r17,fS17b4,fS17r18,fS17,hE,hCW,hq1,e]
  | false =>
    have htr:=hq2.1 rfl
    have e:s.pv=s.acAll:=by unfold Store.pv; rw[decide_eq_true hsl,decide_eq_true htr]; rfl
    clear hq2 htr
    rw[e]
    have hac:=Store.acOk_of hfi hsl
    have hroom:s.slots.length*8≤1048576:=by omega
    have hroom2:s.slots.length≤1048576:=by omega
    have e1:List.replicate s.slots.length [V.int IntKind.i64 0]=(List.replicate s.slots.length (0:Int)).map encI:=by rw[List.map_replicate]
    have lo:=fun T hs Q=>store_Valid_loop1 hρ hE hcon hA hac (T:=T) (hs:=hs) (Q:=Q)
    generalize s.acAll=a at lo
    simp[fS17r0,fS17r1,fS17r2,fS17r3,fS17r4,fS17r5,fS17r6,fS17r7,fS17b0,fS17b1,fS17r8,fS17b2,fS17r9,fS17r10,fS17r11,fS17r12,fS17r13,fS17r14,fS17r15,fS17r16,fS17b3,fS17r17,fS17b4,fS17r18,fS17,hE,hCW,hq1,hroom,hroom2,e1,-List.map_replicate]
    refine lo _ _ _ (Less.auto (by simp[mkV,-List.map_replicate]) (by simp[mkV,mkO,-List.map_replicate]) rfl rfl) ?_ ?_
    · intro h
      subst h
      simp[fS17r0,fS17r1,fS17r2,fS17r3,fS17r4,fS17r5,fS17r6,fS17r7,fS17b0,fS17b1,fS17r8,fS17b2,fS17r9,fS17r10,fS17r11,fS17r12,fS17r13,fS17r14,fS17r15,fS17r16,fS17b3,fS17r17,fS17b4,fS17r18,fS17,hE]
    · intro h
      subst h
      simp[fS17r0,fS17r1,fS17r2,fS17r3,fS17r4,fS17r5,fS17r6,fS17r7,fS17b0,fS17b1,fS17r8,fS17b2,fS17r9,fS17r10,fS17r11,fS17r12,fS17r13,fS17r14,fS17r15,fS17r16,fS17b3,fS17r17,fS17b4,fS17r18,fS17,hE]
end
def pvalidS:J.Spec:=fnS (spec1 fun s:Store=>if s.fine then some s.valid else none)
theorem vPValid:Valid ρ Tryz.prog 17 pvalidS:=v1 (fo Tryz.func17 fB17) fun a r h hs=>by
  obtain⟨h1,rfl⟩:=ite_inv h
  exact store_Valid_run hρ (E:=EL [(63,tequalS),(64,tvalidS 10000),(66,tvarsS),(65,rdS 1 (some 67) (rdF1 ixFVB)),(69,rdS 10 (some 70) (rdF1 ixFWB)),(71,mtS 2 1 (mtF2 fun S s i=>acF (s.slots.length+1) S s i))]) rfl
    (consOk_list (valid_cons (vTEqual hρ) (valid_cons (vTValid hρ 10000 (by decide)) (valid_cons (vTVars hρ) (valid_cons (v_slices_ContainsFunc__intintV hρ) (valid_cons (v_slices_ContainsFunc__api_Changeapi_ChangeW hρ) (valid_cons (vAcA hρ) valid_nil))))))) rfl rfl rfl rfl rfl rfl h1 hs
end
end Go.Proofs.YthfcfmkdeheicaaGreat
/- The law StoreValid: what its function computes. -/
namespace Go.Proofs.YthfcfmkdeheicaaGreat
open Go.J
open Go.J.Enc (enc)
set_option maxRecDepth 100000
set_option maxHeartbeats 1000000
theorem okSz (n:Nat) (hn:n≤10000):∀ t:Ty,t.size≤n→t.ok=true:=by
  intro t
  induction t using Ty.ind with
  | h t ih =>
    intro h
    have h1:=Ty.size_eq t
    have h2:=args_le t.args
    exact Ty.ok_iff.2 ⟨by omega,fun x hx=>ih x hx (by have:=Ty.size_arg hx; omega)⟩
section
variable {ρ:Nat→Value} (hρ:J.Good ρ) {E:Env} (hE:E.P=Tryz.prog) (hcon:ConsOk ρ E)
include hρ hE hcon
theorem StoreValid_run (h1:E.con 8=yesS) (h2:E.con 9=fnS (spec1 fun s:Store=>some (decide s.few))) (h3:E.con 10=fewS) (h4:E.con 12=fnS (spec1 fun bits:Int=>some (datasOf bits))) (h5:E.con 11=stS (stF1 storeF))
    (h6:E.con 16=mkVarsS) (h7:E.con 15=stS (stF3 (typeF 2))) (h8:E.con 14=modS) (h9:E.con 13=setS) (h10:E.con 17=pvalidS) (h11:E.con 18=valid16S)
    {r:Store} (hsh:∀ x∈r.slots,x.type.short=true) {bits:Int} {codes:List Int} {id:Int} {more:List Int} (hs:HS):CallOk ρ Tryz.prog 3 [enc r,enc bits,enc codes,enc id,enc more] hs (.bool true) hs:=by
  refine fn hρ hE hcon Tryz.func3 fB3 rfl (by simp) ?_ hs
  by_cases c1:r.few
  case neg=>simp[fS3r0,fS3r1,fS3r2,fS3r3,fS3r4,fS3r5,fS3r6,fS3r7,fS3r8,fS3r9,fS3,hE,h1,h2,yesS,c1]
  by_cases c2:codes.length≤60
  case neg=>simp[fS3r0,fS3r1,fS3r2,fS3r3,fS3r4,fS3r5,fS3r6,fS3r7,fS3r8,fS3r9,fS3,hE,h1,h2,h3,yesS,fewS,c1,c2]
  by_cases c3:more.length≤60
  case neg=>simp[fS3r0,fS3r1,fS3r2,fS3r3,fS3r4,fS3r5,fS3r6,fS3r7,fS3r8,fS3r9,fS3,hE,h1,h2,h3,yesS,fewS,c1,c2,c3]
  obtain⟨d1,d2,d3,d4⟩:=c1
  have c1:r.few:=⟨d1,d2,d3,d4⟩
  have hfr:r.fine:=⟨by omega,by omega,fun x hx=>⟨okSz 20 (by omega) _ (d3 x hx),hsh x hx,by have:=d3 x hx; omega⟩⟩
  have htp:(⟨codes,0⟩:Tp).ok:=⟨Int.le_refl _,by show codes.length≤100000; omega⟩
  have hup:(⟨more,0⟩:Tp).ok:=⟨Int.le_refl _,by show more.length≤100000; omega⟩
  have hF:storeF ⟨codes,0⟩ (datasOf bits)=some (Store.storeM ⟨codes,0⟩ (datasOf bits)):=if_pos ⟨htp,datasOf_ok bits,datasOf_ok3 bits⟩
  obtain⟨s1,s2,s3,s4⟩:=Store.storeM_ok htp (datasOf_ok3 bits)
  obtain⟨s5,s6⟩:=Store.store_valid htp (datasOf_ok3 bits) (datasOf_val bits)
  have s7:=Store.storeN_le ⟨codes,0⟩
  rcases hq:Store.storeM ⟨codes,0⟩ (datasOf bits) with⟨t2,s⟩
  rw[hq] at hF
  simp only[hq] at s3 s4 s5 s6
  clear s1 s2
  generalize Store.storeN ⟨codes,0⟩=n at s3 s7
  have hlen:=s3.len
  have hwl:IntKind.i64.wrap ((s.slots.length:Int)+1)=((n+1:Nat):Int):=by rw[hlen,wrap_i64 (by omega) (by omega)]; rfl
  have hD:=datasOf_ok bits
  have hF1:typeF 2 ⟨more,0⟩ (datasOf bits) (varTs (n+1)) 2=some (typeM 2 ⟨more,0⟩ (datasOf bits) (varTs (n+1))):=if_pos ⟨hup,hD,by rw[varTs_len]; omega,by decide⟩
  have hto:=Store.typeM_tame (datasOf_ok3 bits) (Store.leaf_vars (n:=n+1)) 2 ⟨more,0⟩ (S:=7) (by decide)
  have htv:=typeM_valid (datasOf_val bits) (varTs_valid (n:=n+1) (by omega)) 2 ⟨more,0⟩
  rcases hq1:typeM 2 ⟨more,0⟩ (datasOf bits) (varTs (n+1)) with⟨t4,u⟩
  rw[hq1] at hF1
  simp only[hq1] at hto htv
  have hm1:-1000000≤(s.slots.length:Int):=by omega
  have hm2:(s.slots.length:Int)≤1000000:=by omega
  have hsm:s.small:=⟨by omega,by omega⟩
  have hxf:=Store.set_fine (id:=modI id (s.slots.length:Int)) (x:=⟨true,u,0,false⟩) s5 (by omega) hto.ok (valid_short _ htv) (by have:=hto.size; show u.size≤10000; omega)
  rcases hx:s.set (modI id (s.slots.length:Int)) ⟨true,u,0,false⟩ with⟨x,b⟩
  rw[hx] at hxf
  simp only at hxf
  have hn1:((n+1:Nat):Int)≤10000:=by omega
  have hn0:n+1≤10000:=by omega
  have hnn:(0:Int)≤((n+1:Nat):Int):=by omega
  have hlv:=varTs_len (n+1)
  generalize hV:varTs (n+1)=W at hF1 hlv
  rcases W with _ | ⟨v,W⟩
  · simp at hlv
  generalize hDq:datasOf bits=D at hF hF1
  obtain⟨uk,un,ui,uh,ua⟩:=u
  clear hD d3 d4
  simp[fS3r0,fS3r1,fS3r2,fS3r3,fS3r4,fS3r5,fS3r6,fS3r7,fS3r8,fS3r9,fS3,hE,h1,h2,h3,h4,h5,h6,h7,h8,h9,h10,h11,yesS,fewS,modS,mkVarsS,setS,pvalidS,valid16S,c1,c2,c3,hfr,hDq,hF,hwl,hn1,hn0,hV,hF1,hm1,hm2,hsm,hx,hxf,s5,s6,-Int.natCast_add]
  exact⟨rfl,rfl⟩
end
end Go.Proofs.YthfcfmkdeheicaaGreat
