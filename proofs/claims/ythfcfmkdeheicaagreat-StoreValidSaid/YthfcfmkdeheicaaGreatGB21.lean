import Derived.Test.YthfcfmkdeheicaaGreatGP5
set_option linter.all false
noncomputable section
namespace Go.Proofs.YthfcfmkdeheicaaGreat
open Go.J
open Go.J.Enc (enc)
set_option maxRecDepth 100000
set_option maxHeartbeats 4000000
section
variable {ρ:Nat→Value} (hρ:J.Good ρ) {E:Env} (hE:E.P=Tryz.prog) (hcon:ConsOk ρ E)
include hρ hE hcon
theorem ref17_bind_loop0 {s:Store} {v:Slot} {t:Ty} {id:Int} {vars:List Int} {l:List Ty} (hl:l.length≤10000) {Q:Ex→PT V→HS→Prop}
    (hf:(∃ x∈l,v.home<x.home)→Q .ret (mkP [(6,.ptr 2 0 0),(7,.int .i64 13)]) { H:=mkP [(2,box (encStore s))],n:=4,log:=[] })
    (ht:(¬ ∃ x∈l,v.home<x.home)→Q (.exit 0) (mkP [(1,.int .i64 id),(3,.ptr 0 0 0),(5,.ptr 1 0 0),(6,.ptr 2 0 0),(8,.ptr 3 0 0),(9,.sl (vars.map encI) false)]) { H:=mkP [(0,box (encStore s)),(1,box (encTy t)),(2,.arr 2 0 [[.snil,.snil]] true false false),(3,box (encSlot v))],n:=4,log:=[] }) :
    ∀ (n i:Nat),i+n=l.length→(¬ ∃ x∈l.take i,v.home<x.home) →
      LsN ρ E 0 149 fS138l0 (LessQ 0 Q) (n+1) (mkP [(16,.int .i64 (i:Int)),(15,.sl (l.map encTy) false),(1,.int .i64 id),(3,.ptr 0 0 0),(5,.ptr 1 0 0),(6,.ptr 2 0 0),(8,.ptr 3 0 0),(9,.sl (vars.map encI) false)])
        { H:=mkP [(0,box (encStore s)),(1,box (encTy t)),(2,.arr 2 0 [[.snil,.snil]] true false false),(3,box (encSlot v))],n:=4,log:=[] }:=by
  intro n
  induction n with
  | zero =>
    intro i hi he
    have hil:¬ (i:Int)<l.length:=by omega
    rw[List.take_of_length_le (by omega)] at he
    refine lp hρ hE hcon fun K hK=>?_
    simp[fS138l0,fS138r0,fS138r1,fS138r2,fS138r3,fS138r4,fS138r5,fS138r6,fS138r7,fS138r8,fS138r9,fS138r10,fS138r11,fS138r12,fS138r13,fS138b0,fS138r14,fS138b1,fS138r15,fS138r16,fS138r17,fS138r18,fS138b2,fS138r19,fS138b3,fS138r20,fS138r21,fS138r22,fS138r23,fS138r24,fS138r25,fS138b4,fS138r26,fS138b5,fS138r27,fS138r28,fS138r29,fS138,hE,hil]
    exact LessQ.mk (Less.keep 4 (by simp) (by simp) rfl rfl) (ht he)
  | succ n ih =>
    intro i hi he
    have hil:i<l.length:=by omega
    have hil':(i:Int)<l.length:=by omega
    have hw:IntKind.i64.wrap ((i:Int)+1)=((i+1:Nat):Int):=wrap_succ (by omega)
    refine lp hρ hE hcon fun K hK=>?_
    by_cases hb:v.home<l[i].home
    · simp[fS138l0,fS138r0,fS138r1,fS138r2,fS138r3,fS138r4,fS138r5,fS138r6,fS138r7,fS138r8,fS138r9,fS138r10,fS138r11,fS138r12,fS138r13,fS138b0,fS138r14,fS138b1,fS138r15,fS138r16,fS138r17,fS138r18,fS138b2,fS138r19,fS138b3,fS138r20,fS138r21,fS138r22,fS138r23,fS138r24,fS138r25,fS138b4,fS138r26,fS138b5,fS138r27,fS138r28,fS138r29,fS138,hE,hil',hil,hb]
      exact LessQ.mk (Less.keep 4 (by simp) (by simp) rfl rfl) (hf ⟨_,List.getElem_mem hil,hb⟩)
    · have hnx:¬ ∃ x∈l.take (i+1),v.home<x.home:=by
        have he':∀ x∈l.take i,¬ v.home<x.home:=fun x hx h=>he ⟨x,hx,h⟩
        exact fun ⟨x,hx,h⟩=>forall_take_succ hil he' hb x hx h
      simp[fS138l0,fS138r0,fS138r1,fS138r2,fS138r3,fS138r4,fS138r5,fS138r6,fS138r7,fS138r8,fS138r9,fS138r10,fS138r11,fS138r12,fS138r13,fS138b0,fS138r14,fS138b1,fS138r15,fS138r16,fS138r17,fS138r18,fS138b2,fS138r19,fS138b3,fS138r20,fS138r21,fS138r22,fS138r23,fS138r24,fS138r25,fS138b4,fS138r26,fS138b5,fS138r27,fS138r28,fS138r29,fS138,hE,hil',hil,hb,hw,-Int.natCast_add]
      exact hK _ _ (LsN_less (Less.keep 4 (by simp[-Int.natCast_add]) (by simp) rfl rfl) (ih (i+1) (by omega) hnx))
theorem ref17_bind_loop1 {s:Store} {v:Slot} {t:Ty} {id:Int} {vars:List Int} (hl:vars.length≤100000) {Q:Ex→PT V→HS→Prop}
    (hf:(∃ x∈vars,(s.slots.length:Int)≤x∧v.home<0)→Q .ret (mkP [(6,.ptr 2 0 0),(7,.int .i64 13)]) { H:=mkP [(2,box (encStore s))],n:=4,log:=[] })
    (ht:(¬ ∃ x∈vars,(s.slots.length:Int)≤x∧v.home<0)→Q (.exit 2) (mkP [(1,.int .i64 id),(3,.ptr 0 0 0),(5,.ptr 1 0 0),(6,.ptr 2 0 0),(8,.ptr 3 0 0),(9,.sl (vars.map encI) false)]) { H:=mkP [(0,box (encStore s)),(1,box (encTy t)),(2,.arr 2 0 [[.snil,.snil]] true false false),(3,box (encSlot v))],n:=4,log:=[] }) :
    ∀ (n i:Nat),i+n=vars.length→(¬ ∃ x∈vars.take i,(s.slots.length:Int)≤x∧v.home<0) →
      LsN ρ E 0 149 fS138l1 (LessQ 0 Q) (n+1) (mkP [(17,.int .i64 (i:Int)),(1,.int .i64 id),(3,.ptr 0 0 0),(5,.ptr 1 0 0),(6,.ptr 2 0 0),(8,.ptr 3 0 0),(9,.sl (vars.map encI) false)])
        { H:=mkP [(0,box (encStore s)),(1,box (encTy t)),(2,.arr 2 0 [[.snil,.snil]] true false false),(3,box (encSlot v))],n:=4,log:=[] }:=by
  intro n
  induction n with
  | zero =>
    intro i hi he
    have hil:¬ (i:Int)<vars.length:=by omega
    rw[List.take_of_length_le (by omega)] at he
    refine lp hρ hE hcon fun K hK=>?_
    simp[fS138l1,fS138r0,fS138r1,fS138r2,fS138r3,fS138r4,fS138r5,fS138r6,fS138r7,fS138r8,fS138r9,fS138r10,fS138r11,fS138r12,fS138r13,fS138b0,fS138r14,fS138b1,fS138r15,fS138r16,fS138r17,fS138r18,fS138b2,fS138r19,fS138b3,fS138r20,fS138r21,fS138r22,fS138r23,fS138r24,fS138r25,fS138b4,fS138r26,fS138b5,fS138r27,fS138r28,fS138r29,fS138,hE,hil]
    exact LessQ.mk (Less.keep 4 (by simp) (by simp) rfl rfl) (ht he)
  | succ n ih =>
    intro i hi he
    have hil:i<vars.length:=by omega
    have hil':(i:Int)<vars.length:=by omega
    have hw:IntKind.i64.wrap ((i:Int)+1)=((i+1:Nat):Int):=wrap_succ (by omega)
    have hnx:¬ ((s.slots.length:Int)≤vars[i]∧v.home<0)→¬ ∃ x∈vars.take (i+1),(s.slots.length:Int)≤x∧v.home<0:=by
      intro hb
      have he':∀ x∈vars.take i,¬ ((s.slots.length:Int)≤x∧v.home<0):=fun x hx h=>he ⟨x,hx,h⟩
      exact fun ⟨x,hx,h⟩=>forall_take_succ hil he' hb x hx h
    refine lp hρ hE hcon fun K hK=>?_
    by_cases h1:(s.slots.length:Int)≤vars[i]
    · by_cases h2:v.home<0
      · simp[fS138l1,fS138r0,fS138r1,fS138r2,fS138r3,fS138r4,fS138r5,fS138r6,fS138r7,fS138r8,fS138r9,fS138r10,fS138r11,fS138r12,fS138r13,fS138b0,fS138r14,fS138b1,fS138r15,fS138r16,fS138r17,fS138r18,fS138b2,fS138r19,fS138b3,fS138r20,fS138r21,fS138r22,fS138r23,fS138r24,fS138r25,fS138b4,fS138r26,fS138b5,fS138r27,fS138r28,fS138r29,fS138,hE,hil',hil,h1,h2]
        exact LessQ.mk (Less.keep 4 (by simp) (by simp) rfl rfl) (hf ⟨_,List.getElem_mem hil,h1,h2⟩)
      · simp[fS138l1,fS138r0,fS138r1,fS138r2,fS138r3,fS138r4,fS138r5,fS138r6,fS138r7,fS138r8,fS138r9,fS138r10,fS138r11,fS138r12,fS138r13,fS138b0,fS138r14,fS138b1,fS138r15,fS138r16,fS138r17,fS138r18,fS138b2,fS138r19,fS138b3,fS138r20,fS138r21,fS138r22,fS138r23,fS138r24,fS138r25,fS138b4,fS138r26,fS138b5,fS138r27,fS138r28,fS138r29,fS138,hE,hil',hil,h1,h2,hw,-Int.natCast_add]
        exact hK _ _ (LsN_less (Less.keep 4 (by simp[-Int.natCast_add]) (by simp) rfl rfl) (ih (i+1) (by omega) (hnx fun h=>h2 h.2)))
    · simp[fS138l1,fS138r0,fS138r1,fS138r2,fS138r3,fS138r4,fS138r5,fS138r6,fS138r7,fS138r8,fS138r9,fS138r10,fS138r11,fS138r12,fS138r13,fS138b0,fS138r14,fS138b1,fS138r15,fS138r16,fS138r17,fS138r18,fS138b2,fS138r19,fS138b3,fS138r20,fS138r21,fS138r22,fS138r23,fS138r24,fS138r25,fS138b4,fS138r26,fS138b5,fS138r27,fS138r28,fS138r29,fS138,hE,hil',hil,h1,hw,-Int.natCast_add]
      exact hK _ _ (LsN_less (Less.keep 4 (by simp[-Int.natCast_add]) (by simp) rfl rfl) (ih (i+1) (by omega) (hnx fun h=>h1 h.1)))
theorem ref17_bind_loop2 (hSet:E.con 13=fnS (spec3 fun (s:Store) (i:Int) (x:Slot)=>if s.small then some (s.set i x) else none)) {v:Slot} {t:Ty} {id:Int} {vars:List Int} {len:Nat} (hlen:len≤1000) (hv0:∀ x∈vars,0≤x) (hl:vars.length≤1000) {R:Store} {Q:Ex→PT V→HS→Prop}
    (ht:Q (.exit 4) (mkP [(1,.int .i64 id),(3,.ptr 0 0 0),(5,.ptr 1 0 0),(6,.ptr 2 0 0),(8,.ptr 3 0 0)]) { H:=mkP [(0,box (encStore R)),(1,box (encTy t)),(2,.arr 2 0 [[.snil,.snil]] true false false),(3,box (encSlot v))],n:=4,log:=[] }) :
    ∀ (n i:Nat) (s:Store),i+n=vars.length→s.slots.length=len→s.trail.length+n≤1000→(vars.drop i).foldl (Store.lowerOne v.home) s=R →
      LsN ρ E 0 149 fS138l2 (LessQ 0 Q) (n+1) (mkP [(18,.int .i64 (i:Int)),(1,.int .i64 id),(3,.ptr 0 0 0),(5,.ptr 1 0 0),(6,.ptr 2 0 0),(8,.ptr 3 0 0),(9,.sl (vars.map encI) false)])
        { H:=mkP [(0,box (encStore s)),(1,box (encTy t)),(2,.arr 2 0 [[.snil,.snil]] true false false),(3,box (encSlot v))],n:=4,log:=[] }:=by
  intro n
  induction n with
  | zero =>
    intro i s hi hsl htr hR
    have hil:¬ (i:Int)<vars.length:=by omega
    rw[List.drop_of_length_le (by omega)] at hR
    simp only[List.foldl_nil] at hR
    subst hR
    refine lp hρ hE hcon fun K hK=>?_
    simp[fS138l2,fS138r0,fS138r1,fS138r2,fS138r3,fS138r4,fS138r5,fS138r6,fS138r7,fS138r8,fS138r9,fS138r10,fS138r11,fS138r12,fS138r13,fS138b0,fS138r14,fS138b1,fS138r15,fS138r16,fS138r17,fS138r18,fS138b2,fS138r19,fS138b3,fS138r20,fS138r21,fS138r22,fS138r23,fS138r24,fS138r25,fS138b4,fS138r26,fS138b5,fS138r27,fS138r28,fS138r29,fS138,hE,hil]
    exact LessQ.mk (Less.keep 4 (by simp) (by simp) rfl rfl) ht
  | succ n ih =>
    intro i s hi hsl htr hR
    have hil:i<vars.length:=by omega
    have hil':(i:Int)<vars.length:=by omega
    have hw:IntKind.i64.wrap ((i:Int)+1)=((i+1:Nat):Int):=wrap_succ (by omega)
    have hx0:=hv0 _ (List.getElem_mem hil)
    rw[List.drop_eq_getElem_cons hil,List.foldl_cons] at hR
    obtain⟨k,hk⟩:=Int.eq_ofNat_of_zero_le hx0
    rw[hk] at hR
    refine lp hρ hE hcon fun K hK=>?_
    by_cases h1:(k:Int)<s.slots.length
    · have hkl:k<s.slots.length:=by omega
      have hsd:s.slot? (k:Int)=some s.slots[k]:=by rw[Store.slot?_nat,List.getElem?_eq_getElem hkl]
      have hsD:s.slotD (k:Int)=s.slots[k]:=by unfold Store.slotD; rw[hsd]; rfl
      generalize hX:s.slots[k]=x at hsd hsD
      have hd1:(k*8+6) / 8=k:=by omega
      have hd2:(k*8+6) % 8=6:=by omega
      by_cases h2:v.home<x.home
      · have hlo:Store.lowerOne v.home s k=(s.set k { x with home:=v.home }).1:=by
          unfold Store.lowerOne
          rw[hsD,if_pos ⟨h1,h2⟩]
        rw[hlo] at hR
        have hsm:s.small:=⟨by omega,by omega⟩
        have hset:(s.set (k:Int) { x with home:=v.home }).1.slots.length=s.slots.length∧(s.set (k:Int) { x with home:=v.home }).1.trail.length=s.trail.length+1:=by
          unfold Store.set
          rw[hsd]; simp
        obtain⟨xb,xt,xh,xg⟩:=x
        simp only at h2 hR hset
        simp[fS138l2,fS138r0,fS138r1,fS138r2,fS138r3,fS138r4,fS138r5,fS138r6,fS138r7,fS138r8,fS138r9,fS138r10,fS138r11,fS138r12,fS138r13,fS138b0,fS138r14,fS138b1,fS138r15,fS138r16,fS138r17,fS138r18,fS138b2,fS138r19,fS138b3,fS138r20,fS138r21,fS138r22,fS138r23,fS138r24,fS138r25,fS138b4,fS138r26,fS138b5,fS138r27,fS138r28,fS138r29,fS138,hE,hil',hil,hk,hkl,h1,h2,hX,hSet,hsm,enc_setp,hw,-Int.natCast_add]
        exact hK _ _ (LsN_less (Less.keep 4 (by simp[-Int.natCast_add]) (by simp) rfl rfl) (ih (i+1) _ (by omega) (by omega) (by omega) hR))
      · have hlo:Store.lowerOne v.home s k=s:=by
          unfold Store.lowerOne
          rw[hsD,if_neg fun h=>h2 h.2]
        rw[hlo] at hR
        simp[fS138l2,fS138r0,fS138r1,fS138r2,fS138r3,fS138r4,fS138r5,fS138r6,fS138r7,fS138r8,fS138r9,fS138r10,fS138r11,fS138r12,fS138r13,fS138b0,fS138r14,fS138b1,fS138r15,fS138r16,fS138r17,fS138r18,fS138b2,fS138r19,fS138b3,fS138r20,fS138r21,fS138r22,fS138r23,fS138r24,fS138r25,fS138b4,fS138r26,fS138b5,fS138r27,fS138r28,fS138r29,fS138,hE,hil',hil,hk,hkl,h1,h2,hX,hw,-Int.natCast_add]
        exact hK _ _ (LsN_less (Less.keep 4 (by simp[-Int.natCast_add]) (by simp) rfl rfl) (ih (i+1) _ (by omega) (by omega) (by omega) hR))
    · have hlo:Store.lowerOne v.home s k=s:=by
        unfold Store.lowerOne
        rw[if_neg fun h=>h1 h.1]
      rw[hlo] at hR
      have hkl:¬ k<s.slots.length:=by omega
      simp[fS138l2,fS138r0,fS138r1,fS138r2,fS138r3,fS138r4,fS138r5,fS138r6,fS138r7,fS138r8,fS138r9,fS138r10,fS138r11,fS138r12,fS138r13,fS138b0,fS138r14,fS138b1,fS138r15,fS138r16,fS138r17,fS138r18,fS138b2,fS138r19,fS138b3,fS138r20,fS138r21,fS138r22,fS138r23,fS138r24,fS138r25,fS138b4,fS138r26,fS138b5,fS138r27,fS138r28,fS138r29,fS138,hE,hil',hil,hk,hkl,h1,hw,-Int.natCast_add]
      exact hK _ _ (LsN_less (Less.keep 4 (by simp[-Int.natCast_add]) (by simp) rfl rfl) (ih (i+1) _ (by omega) (by omega) (by omega) hR))
omit hρ hE hcon in
theorem lower_keeps:∀ (l:List Int) (h:Int) (s:Store),(l.foldl (Store.lowerOne h) s).slots.length=s.slots.length∧(l.foldl (Store.lowerOne h) s).trail.length≤s.trail.length+l.length:=by
  intro l
  induction l with
  | nil=>intro h s; exact⟨rfl,Nat.le_refl _⟩
  | cons v l ih =>
    intro h s
    have hset:∀ (i:Int) (x:Slot),(s.set i x).1.slots.length=s.slots.length∧(s.set i x).1.trail.length≤s.trail.length+1:=by
      intro i x
      unfold Store.set
      split
      · exact⟨by simp,by simp⟩
      · exact⟨rfl,Nat.le_succ _⟩
    have h1:(Store.lowerOne h s v).slots.length=s.slots.length∧(Store.lowerOne h s v).trail.length≤s.trail.length+1:=by
      unfold Store.lowerOne
      split
      · exact hset _ _
      · exact⟨rfl,Nat.le_succ _⟩
    have h2:=ih h (Store.lowerOne h s v)
    rw[List.foldl_cons,List.length_cons]
    exact⟨h2.1.trans h1.1,by omega⟩
theorem ref17_bind_run (hSet:E.con 13=fnS (spec3 fun (s:Store) (i:Int) (x:Slot)=>if s.small then some (s.set i x) else none)) (hVars:E.con 165=fnS (spec2 fun (s:Store) (l:List Ty)=>if varsOk s l then some (varsS s l) else none))
    (hHas:E.con 34=fnC (spec2 fun (l:List Int) (x:Int)=>if l.length≤1000000 then some (decide (x∈l)) else none)) (hArr:E.con 166=fnS (spec1 fun t:Ty=>some (isArrow t)))
    (hRes:E.con 167=fnS (spec2 fun (s:Store) (t:Ty)=>if s.tysOk∧t.ok=true then some (resolveM s.w16 t) else none)) (hRig:E.con 168=fnS (spec1 fun l:List Ty=>if Ty.oks l=true∧l.length≤10000∧Ty.sizes l≤10000 then some (rigidsM l) else none))
    {s:Store} {id:Int} {t:Ty} (hs:s.tysOk) (ht:t.ok=true) (hv:varsOk s [t]) (hv0:∀ x∈varsS s [t],0≤x) (hl:s.trail.length+(varsS s [t]).length<1000) (hid:(s.slot? id).isSome=true) (hrr:(resolveM s.w16 t).1.ok=true∧(resolveM s.w16 t).1.size≤10000) (hs0:HS) :
    CallOk ρ Tryz.prog 138 [enc s,enc id,enc t] hs0 (enc (s.bindM id t)) hs0:=by
  refine fn hρ hE hcon Tryz.func138 fB138 rfl (by simp) ?_ hs0
  obtain⟨v,hv1⟩:=Option.isSome_iff_exists.1 hid
  obtain⟨a,ha,rfl,hav⟩:=Store.slot?_at hv1
  have hsD:s.slotD (a:Int)=v:=by unfold Store.slotD; rw[hv1]; rfl
  have hd1:a*8 / 8=a:=by omega
  have hd2:a*8 % 8=0:=by omega
  unfold Store.bindM
  rw[hsD]
  generalize hvs:varsS s [t]=vars at *
  have hvl:vars.length≤1000000:=by omega
  by_cases h1:(a:Int)∈vars
  · rw[if_pos h1]
    simp[fS138r0,fS138r1,fS138r2,fS138r3,fS138r4,fS138r5,fS138r6,fS138r7,fS138r8,fS138r9,fS138r10,fS138r11,fS138r12,fS138r13,fS138b0,fS138r14,fS138b1,fS138r15,fS138r16,fS138r17,fS138r18,fS138b2,fS138r19,fS138b3,fS138r20,fS138r21,fS138r22,fS138r23,fS138r24,fS138r25,fS138b4,fS138r26,fS138b5,fS138r27,fS138r28,fS138r29,fS138,hE,ha,hav,hVars,hv,hvs,hHas,hvl,h1]
  rw[if_neg h1]
  by_cases h2:(isArrow t).c=true∧v.base=true
  · rw[if_pos h2]
    obtain⟨h2a,h2b⟩:=h2
    generalize hq:isArrow t=q at h2a
    obtain⟨qa,qb,qc⟩:=q
    simp only at h2a
    subst h2a
    obtain⟨vb,vt,vh,vg⟩:=v
    simp only at h2b
    subst h2b
    simp[fS138r0,fS138r1,fS138r2,fS138r3,fS138r4,fS138r5,fS138r6,fS138r7,fS138r8,fS138r9,fS138r10,fS138r11,fS138r12,fS138r13,fS138b0,fS138r14,fS138b1,fS138r15,fS138r16,fS138r17,fS138r18,fS138b2,fS138r19,fS138b3,fS138r20,fS138r21,fS138r22,fS138r23,fS138r24,fS138r25,fS138b4,fS138r26,fS138b5,fS138r27,fS138r28,fS138r29,fS138,hE,ha,hav,hVars,hv,hvs,hHas,hvl,h1,hArr,hq]
  rw[if_neg h2]
  have hoks:Ty.oks [(resolveM s.w16 t).1]=true:=by simp[Ty.oks,hrr.1]
  have hszs:Ty.sizes [(resolveM s.w16 t).1]≤10000:=by simp[Ty.sizes]; exact hrr.2
  generalize hrs:resolveM s.w16 t=rs at *
  obtain⟨rt,rb⟩:=rs
  simp only at hoks hszs
  have hrl:(rigidsM [rt]).length≤10000:=by
    have:=(leavesL_len 3 [rt] []).2
    simp only[List.length_nil] at this
    have h2:(rigidsM [rt]).length=(leavesL 3 [rt] []).length:=rfl
    omega
  have hvlen:vars.length≤100000:=by omega
  have lo0:=fun Q=>ref17_bind_loop0 hρ hE hcon (s:=s) (v:=v) (t:=t) (id:=(a:Int)) (vars:=vars) (l:=rigidsM [rt]) hrl (Q:=Q)
  have lo1:=fun Q=>ref17_bind_loop1 hρ hE hcon (s:=s) (v:=v) (t:=t) (id:=(a:Int)) (vars:=vars) hvlen (Q:=Q)
  have hcase:∀ q,isArrow t=q→¬ (q.c=true∧v.base=true):=fun q e=>e ▸ h2
  generalize hq:isArrow t=q at h2
  obtain⟨qa,qb,qc⟩:=q
  obtain⟨vb,vt,vh,vg⟩:=v
  simp only at h2
  cases qc<;>cases vg<;>simp at h2
  · simp[fS138r0,fS138r1,fS138r2,fS138r3,fS138r4,fS138r5,fS138r6,fS138r7,fS138r8,fS138r9,fS138r10,fS138r11,fS138r12,fS138r13,fS138b0,fS138r14,fS138b1,fS138r15,fS138r16,fS138r17,fS138r18,fS138b2,fS138r19,fS138b3,fS138r20,fS138r21,fS138r22,fS138r23,fS138r24,fS138r25,fS138b4,fS138r26,fS138b5,fS138r27,fS138r28,fS138r29,fS138,hE,ha,hav,hVars,hv,hvs,hHas,hvl,h1,hArr,hq,hRes,hs,ht,hrs,hRig,hoks,hszs]
    refine Ls_lessQ (Ls_less (Less.auto (TL:=[(16,.int .i64 ((0:Nat):Int)),(15,.sl ((rigidsM [rt]).map encTy) false),(1,.int .i64 (a:Int)),(3,.ptr 0 0 0),(5,.ptr 1 0 0),(6,.ptr 2 0 0),(8,.ptr 3 0 0),(9,.sl (vars.map encI) false)]) (HL:=[(0,box (encStore s)),(1,box (encTy t)),(2,.arr 2 0 [[.snil,.snil]] true false false),(3,box (encSlot ⟨vb,vt,vh,false⟩))]) (n:=4) (by simp) (by simp) (by simp) (by simp)) (Ls_loop (lo0 _ ?_ ?_ (rigidsM [rt]).length 0 (by omega) (by simp))))
    · intro h3
      simp only at h3
      simp[fS138r0,fS138r1,fS138r2,fS138r3,fS138r4,fS138r5,fS138r6,fS138r7,fS138r8,fS138r9,fS138r10,fS138r11,fS138r12,fS138r13,fS138b0,fS138r14,fS138b1,fS138r15,fS138r16,fS138r17,fS138r18,fS138b2,fS138r19,fS138b3,fS138r20,fS138r21,fS138r22,fS138r23,fS138r24,fS138r25,fS138b4,fS138r26,fS138b5,fS138r27,fS138r28,fS138r29,fS138,hE,h3]
    · intro h3
      simp only at h3
      simp[fS138r0,fS138r1,fS138r2,fS138r3,fS138r4,fS138r5,fS138r6,fS138r7,fS138r8,fS138r9,fS138r10,fS138r11,fS138r12,fS138r13,fS138b0,fS138r14,fS138b1,fS138r15,fS138r16,fS138r17,fS138r18,fS138b2,fS138r19,fS138b3,fS138r20,fS138r21,fS138r22,fS138r23,fS138r24,fS138r25,fS138b4,fS138r26,fS138b5,fS138r27,fS138r28,fS138r29,fS138,hE]
      refine Ls_lessQ (Ls_less (Less.auto (TL:=[(17,.int .i64 ((0:Nat):Int)),(1,.int .i64 (a:Int)),(3,.ptr 0 0 0),(5,.ptr 1 0 0),(6,.ptr 2 0 0),(8,.ptr 3 0 0),(9,.sl (vars.map encI) false)]) (HL:=[(0,box (encStore s)),(1,box (encTy t)),(2,.arr 2 0 [[.snil,.snil]] true false false),(3,box (encSlot ⟨vb,vt,vh,false⟩))]) (n:=4) (by simp) (by simp) (by simp) (by simp)) (Ls_loop (lo1 _ ?_ ?_ vars.length 0 (by omega) (by simp))))
      · intro h4
        simp only at h4
        simp[fS138r0,fS138r1,fS138r2,fS138r3,fS138r4,fS138r5,fS138r6,fS138r7,fS138r8,fS138r9,fS138r10,fS138r11,fS138r12,fS138r13,fS138b0,fS138r14,fS138b1,fS138r15,fS138r16,fS138r17,fS138r18,fS138b2,fS138r19,fS138b3,fS138r20,fS138r21,fS138r22,fS138r23,fS138r24,fS138r25,fS138b4,fS138r26,fS138b5,fS138r27,fS138r28,fS138r29,fS138,hE,h3,h4]
      · intro h4
        simp only at h4
        rw[if_neg h3,if_neg h4]
        simp[fS138r0,fS138r1,fS138r2,fS138r3,fS138r4,fS138r5,fS138r6,fS138r7,fS138r8,fS138r9,fS138r10,fS138r11,fS138r12,fS138r13,fS138b0,fS138r14,fS138b1,fS138r15,fS138r16,fS138r17,fS138r18,fS138b2,fS138r19,fS138b3,fS138r20,fS138r21,fS138r22,fS138r23,fS138r24,fS138r25,fS138b4,fS138r26,fS138b5,fS138r27,fS138r28,fS138r29,fS138,hE]
        refine Ls_lessQ (Ls_less (Less.auto (TL:=[(18,.int .i64 ((0:Nat):Int)),(1,.int .i64 (a:Int)),(3,.ptr 0 0 0),(5,.ptr 1 0 0),(6,.ptr 2 0 0),(8,.ptr 3 0 0),(9,.sl (vars.map encI) false)]) (HL:=[(0,box (encStore s)),(1,box (encTy t)),(2,.arr 2 0 [[.snil,.snil]] true false false),(3,box (encSlot ⟨vb,vt,vh,false⟩))]) (n:=4) (by simp) (by simp) (by simp) (by simp)) (Ls_loop (ref17_bind_loop2 hρ hE hcon hSet (v:=⟨vb,vt,vh,false⟩) (R:=vars.foldl (Store.lowerOne vh) s) (len:=s.slots.length) hs.1 hv0 (by omega) ?_ vars.length 0 s (by omega) rfl (by omega) (by simp))))
        have hR:=lower_keeps vars vh s
        generalize vars.foldl (Store.lowerOne vh) s=R at hR
        have hRs:R.small:=⟨by rw[hR.1]; exact hs.1,by omega⟩
        have haR:(R.slot? (a:Int)).isSome=true:=by rw[Store.slot?_nat]; simp[hR.1,ha]
        simp[fS138r0,fS138r1,fS138r2,fS138r3,fS138r4,fS138r5,fS138r6,fS138r7,fS138r8,fS138r9,fS138r10,fS138r11,fS138r12,fS138r13,fS138b0,fS138r14,fS138b1,fS138r15,fS138r16,fS138r17,fS138r18,fS138b2,fS138r19,fS138b3,fS138r20,fS138r21,fS138r22,fS138r23,fS138r24,fS138r25,fS138b4,fS138r26,fS138b5,fS138r27,fS138r28,fS138r29,fS138,hE,hSet,hRs,enc_setp]
  · simp[fS138r0,fS138r1,fS138r2,fS138r3,fS138r4,fS138r5,fS138r6,fS138r7,fS138r8,fS138r9,fS138r10,fS138r11,fS138r12,fS138r13,fS138b0,fS138r14,fS138b1,fS138r15,fS138r16,fS138r17,fS138r18,fS138b2,fS138r19,fS138b3,fS138r20,fS138r21,fS138r22,fS138r23,fS138r24,fS138r25,fS138b4,fS138r26,fS138b5,fS138r27,fS138r28,fS138r29,fS138,hE,ha,hav,hVars,hv,hvs,hHas,hvl,h1,hArr,hq,hRes,hs,ht,hrs,hRig,hoks,hszs]
    refine Ls_lessQ (Ls_less (Less.auto (TL:=[(16,.int .i64 ((0:Nat):Int)),(15,.sl ((rigidsM [rt]).map encTy) false),(1,.int .i64 (a:Int)),(3,.ptr 0 0 0),(5,.ptr 1 0 0),(6,.ptr 2 0 0),(8,.ptr 3 0 0),(9,.sl (vars.map encI) false)]) (HL:=[(0,box (encStore s)),(1,box (encTy t)),(2,.arr 2 0 [[.snil,.snil]] true false false),(3,box (encSlot ⟨vb,vt,vh,true⟩))]) (n:=4) (by simp) (by simp) (by simp) (by simp)) (Ls_loop (lo0 _ ?_ ?_ (rigidsM [rt]).length 0 (by omega) (by simp))))
    · intro h3
      simp only at h3
      simp[fS138r0,fS138r1,fS138r2,fS138r3,fS138r4,fS138r5,fS138r6,fS138r7,fS138r8,fS138r9,fS138r10,fS138r11,fS138r12,fS138r13,fS138b0,fS138r14,fS138b1,fS138r15,fS138r16,fS138r17,fS138r18,fS138b2,fS138r19,fS138b3,fS138r20,fS138r21,fS138r22,fS138r23,fS138r24,fS138r25,fS138b4,fS138r26,fS138b5,fS138r27,fS138r28,fS138r29,fS138,hE,h3]
    · intro h3
      simp only at h3
      simp[fS138r0,fS138r1,fS138r2,fS138r3,fS138r4,fS138r5,fS138r6,fS138r7,fS138r8,fS138r9,fS138r10,fS138r11,fS138r12,fS138r13,fS138b0,fS138r14,fS138b1,fS138r15,fS138r16,fS138r17,fS138r18,fS138b2,fS138r19,fS138b3,fS138r20,fS138r21,fS138r22,fS138r23,fS138r24,fS138r25,fS138b4,fS138r26,fS138b5,fS138r27,fS138r28,fS138r29,fS138,hE]
      refine Ls_lessQ (Ls_less (Less.auto (TL:=[(17,.int .i64 ((0:Nat):Int)),(1,.int .i64 (a:Int)),(3,.ptr 0 0 0),(5,.ptr 1 0 0),(6,.ptr 2 0 0),(8,.ptr 3 0 0),(9,.sl (vars.map encI) false)]) (HL:=[(0,box (encStore s)),(1,box (encTy t)),(2,.arr 2 0 [[.snil,.snil]] true false false),(3,box (encSlot ⟨vb,vt,vh,true⟩))]) (n:=4) (by simp) (by simp) (by simp) (by simp)) (Ls_loop (lo1 _ ?_ ?_ vars.length 0 (by omega) (by simp))))
      · intro h4
        simp only at h4
        simp[fS138r0,fS138r1,fS138r2,fS138r3,fS138r4,fS138r5,fS138r6,fS138r7,fS138r8,fS138r9,fS138r10,fS138r11,fS138r12,fS138r13,fS138b0,fS138r14,fS138b1,fS138r15,fS138r16,fS138r17,fS138r18,fS138b2,fS138r19,fS138b3,fS138r20,fS138r21,fS138r22,fS138r23,fS138r24,fS138r25,fS138b4,fS138r26,fS138b5,fS138r27,fS138r28,fS138r29,fS138,hE,h3,h4]
      · intro h4
        simp only at h4
        rw[if_neg h3,if_neg h4]
        simp[fS138r0,fS138r1,fS138r2,fS138r3,fS138r4,fS138r5,fS138r6,fS138r7,fS138r8,fS138r9,fS138r10,fS138r11,fS138r12,fS138r13,fS138b0,fS138r14,fS138b1,fS138r15,fS138r16,fS138r17,fS138r18,fS138b2,fS138r19,fS138b3,fS138r20,fS138r21,fS138r22,fS138r23,fS138r24,fS138r25,fS138b4,fS138r26,fS138b5,fS138r27,fS138r28,fS138r29,fS138,hE]
        refine Ls_lessQ (Ls_less (Less.auto (TL:=[(18,.int .i64 ((0:Nat):Int)),(1,.int .i64 (a:Int)),(3,.ptr 0 0 0),(5,.ptr 1 0 0),(6,.ptr 2 0 0),(8,.ptr 3 0 0),(9,.sl (vars.map encI) false)]) (HL:=[(0,box (encStore s)),(1,box (encTy t)),(2,.arr 2 0 [[.snil,.snil]] true false false),(3,box (encSlot ⟨vb,vt,vh,true⟩))]) (n:=4) (by simp) (by simp) (by simp) (by simp)) (Ls_loop (ref17_bind_loop2 hρ hE hcon hSet (v:=⟨vb,vt,vh,true⟩) (R:=vars.foldl (Store.lowerOne vh) s) (len:=s.slots.length) hs.1 hv0 (by omega) ?_ vars.length 0 s (by omega) rfl (by omega) (by simp))))
        have hR:=lower_keeps vars vh s
        generalize vars.foldl (Store.lowerOne vh) s=R at hR
        have hRs:R.small:=⟨by rw[hR.1]; exact hs.1,by omega⟩
        have haR:(R.slot? (a:Int)).isSome=true:=by rw[Store.slot?_nat]; simp[hR.1,ha]
        simp[fS138r0,fS138r1,fS138r2,fS138r3,fS138r4,fS138r5,fS138r6,fS138r7,fS138r8,fS138r9,fS138r10,fS138r11,fS138r12,fS138r13,fS138b0,fS138r14,fS138b1,fS138r15,fS138r16,fS138r17,fS138r18,fS138b2,fS138r19,fS138b3,fS138r20,fS138r21,fS138r22,fS138r23,fS138r24,fS138r25,fS138b4,fS138r26,fS138b5,fS138r27,fS138r28,fS138r29,fS138,hE,hSet,hRs,enc_setp]
  · simp[fS138r0,fS138r1,fS138r2,fS138r3,fS138r4,fS138r5,fS138r6,fS138r7,fS138r8,fS138r9,fS138r10,fS138r11,fS138r12,fS138r13,fS138b0,fS138r14,fS138b1,fS138r15,fS138r16,fS138r17,fS138r18,fS138b2,fS138r19,fS138b3,fS138r20,fS138r21,fS138r22,fS138r23,fS138r24,fS138r25,fS138b4,fS138r26,fS138b5,fS138r27,fS138r28,fS138r29,fS138,hE,ha,hav,hVars,hv,hvs,hHas,hvl,h1,hArr,hq,hRes,hs,ht,hrs,hRig,hoks,hszs]
    refine Ls_lessQ (Ls_less (Less.auto (TL:=[(16,.int .i64 ((0:Nat):Int)),(15,.sl ((rigidsM [rt]).map encTy) false),(1,.int .i64 (a:Int)),(3,.ptr 0 0 0),(5,.ptr 1 0 0),(6,.ptr 2 0 0),(8,.ptr 3 0 0),(9,.sl (vars.map encI) false)]) (HL:=[(0,box (encStore s)),(1,box (encTy t)),(2,.arr 2 0 [[.snil,.snil]] true false false),(3,box (encSlot ⟨vb,vt,vh,false⟩))]) (n:=4) (by simp) (by simp) (by simp) (by simp)) (Ls_loop (lo0 _ ?_ ?_ (rigidsM [rt]).length 0 (by omega) (by simp))))
    · intro h3
      simp only at h3
      simp[fS138r0,fS138r1,fS138r2,fS138r3,fS138r4,fS138r5,fS138r6,fS138r7,fS138r8,fS138r9,fS138r10,fS138r11,fS138r12,fS138r13,fS138b0,fS138r14,fS138b1,fS138r15,fS138r16,fS138r17,fS138r18,fS138b2,fS138r19,fS138b3,fS138r20,fS138r21,fS138r22,fS138r23,fS138r24,fS138r25,fS138b4,fS138r26,fS138b5,fS138r27,fS138r28,fS138r29,fS138,hE,h3]
    · intro h3
      simp only at h3
      simp[fS138r0,fS138r1,fS138r2,fS138r3,fS138r4,fS138r5,fS138r6,fS138r7,fS138r8,fS138r9,fS138r10,fS138r11,fS138r12,fS138r13,fS138b0,fS138r14,fS138b1,fS138r15,fS138r16,fS138r17,fS138r18,fS138b2,fS138r19,fS138b3,fS138r20,fS138r21,fS138r22,fS138r23,fS138r24,fS138r25,fS138b4,fS138r26,fS138b5,fS138r27,fS138r28,fS138r29,fS138,hE]
      refine Ls_lessQ (Ls_less (Less.auto (TL:=[(17,.int .i64 ((0:Nat):Int)),(1,.int .i64 (a:Int)),(3,.ptr 0 0 0),(5,.ptr 1 0 0),(6,.ptr 2 0 0),(8,.ptr 3 0 0),(9,.sl (vars.map encI) false)]) (HL:=[(0,box (encStore s)),(1,box (encTy t)),(2,.arr 2 0 [[.snil,.snil]] true false false),(3,box (encSlot ⟨vb,vt,vh,false⟩))]) (n:=4) (by simp) (by simp) (by simp) (by simp)) (Ls_loop (lo1 _ ?_ ?_ vars.length 0 (by omega) (by simp))))
      · intro h4
        simp only at h4
        simp[fS138r0,fS138r1,fS138r2,fS138r3,fS138r4,fS138r5,fS138r6,fS138r7,fS138r8,fS138r9,fS138r10,fS138r11,fS138r12,fS138r13,fS138b0,fS138r14,fS138b1,fS138r15,fS138r16,fS138r17,fS138r18,fS138b2,fS138r19,fS138b3,fS138r20,fS138r21,fS138r22,fS138r23,fS138r24,fS138r25,fS138b4,fS138r26,fS138b5,fS138r27,fS138r28,fS138r29,fS138,hE,h3,h4]
      · intro h4
        simp only at h4
        rw[if_neg h3,if_neg h4]
        simp[fS138r0,fS138r1,fS138r2,fS138r3,fS138r4,fS138r5,fS138r6,fS138r7,fS138r8,fS138r9,fS138r10,fS138r11,fS138r12,fS138r13,fS138b0,fS138r14,fS138b1,fS138r15,fS138r16,fS138r17,fS138r18,fS138b2,fS138r19,fS138b3,fS138r20,fS138r21,fS138r22,fS138r23,fS138r24,fS138r25,fS138b4,fS138r26,fS138b5,fS138r27,fS138r28,fS138r29,fS138,hE]
        refine Ls_lessQ (Ls_less (Less.auto (TL:=[(18,.int .i64 ((0:Nat):Int)),(1,.int .i64 (a:Int)),(3,.ptr 0 0 0),(5,.ptr 1 0 0),(6,.ptr 2 0 0),(8,.ptr 3 0 0),(9,.sl (vars.map encI) false)]) (HL:=[(0,box (encStore s)),(1,box (encTy t)),(2,.arr 2 0 [[.snil,.snil]] true false false),(3,box (encSlot ⟨vb,vt,vh,false⟩))]) (n:=4) (by simp) (by simp) (by simp) (by simp)) (Ls_loop (ref17_bind_loop2 hρ hE hcon hSet (v:=⟨vb,vt,vh,false⟩) (R:=vars.foldl (Store.lowerOne vh) s) (len:=s.slots.length) hs.1 hv0 (by omega) ?_ vars.length 0 s (by omega) rfl (by omega) (by simp))))
        have hR:=lower_keeps vars vh s
        generalize vars.foldl (Store.lowerOne vh) s=R at hR
        have hRs:R.small:=⟨by rw[hR.1]; exact hs.1,by omega⟩
        have haR:(R.slot? (a:Int)).isSome=true:=by rw[Store.slot?_nat]; simp[hR.1,ha]
        simp[fS138r0,fS138r1,fS138r2,fS138r3,fS138r4,fS138r5,fS138r6,fS138r7,fS138r8,fS138r9,fS138r10,fS138r11,fS138r12,fS138r13,fS138b0,fS138r14,fS138b1,fS138r15,fS138r16,fS138r17,fS138r18,fS138b2,fS138r19,fS138b3,fS138r20,fS138r21,fS138r22,fS138r23,fS138r24,fS138r25,fS138b4,fS138r26,fS138b5,fS138r27,fS138r28,fS138r29,fS138,hE,hSet,hRs,enc_setp]
end
end Go.Proofs.YthfcfmkdeheicaaGreat
