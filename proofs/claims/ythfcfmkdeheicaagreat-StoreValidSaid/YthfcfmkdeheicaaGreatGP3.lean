import Derived.Test.YthfcfmkdeheicaaGreatGP2
import Derived.Test.YthfcfmkdeheicaaGreatJK
import Derived.Test.YthfcfmkdeheicaaGreatJL
set_option linter.all false
noncomputable section
namespace Go.Proofs.YthfcfmkdeheicaaGreat
open Go.J
open Go.J.Enc (enc)
set_option maxRecDepth 100000
set_option maxHeartbeats 4000000
section
variable {ρ:Nat→Value} (hρ:J.Good ρ) {E:Env} (hE:E.P=Tryz.prog) (hcon:ConsOk ρ E)
include hρ hE hcon
theorem ref2_Lower_run (h1:E.con 151=fnS (spec1 fun s:List Nat=>if s.length<2^63 then some (wordN s) else none)) (h2:E.con 152=fnS (spec1 fun c:Byte=>some (lowerB c.n)))
    (h3:E.con 153=fnS (spec1 fun s:List Nat=>some (decide (s∈keywords)))) {s:List Nat} (hl:s.length<2^63) (hs:HS):CallOk ρ Tryz.prog 117 [enc s] hs (enc (lowerN s)) hs:=by
  refine fn hρ hE hcon Tryz.func117 fB117 rfl (by simp) ?_ hs
  simp only[show (2:Nat)^63=9223372036854775808 from rfl] at *
  cases hw:wordN s with
  | false=>simp[fS117r0,fS117r1,fS117,hE,h1,hl,hw,lowerN]
  | true =>
    rcases s with _ | ⟨c,s⟩
    · cases hw
    · have hl2:((s.length:Int)+1≤12)↔s.length≤11:=by omega
      simp only[List.length_cons] at hl
      cases hc:lowerB c<;>by_cases h12:s.length≤11<;>by_cases hk:(c::s)∈keywords<;>simp[fS117r0,fS117r1,fS117,hE,h1,h2,h3,hl,hw,lowerN,hc,h12,hk,hl2]
theorem ref2_Upper_run (h1:E.con 151=fnS (spec1 fun s:List Nat=>if s.length<2^63 then some (wordN s) else none)) (h2:E.con 154=fnS (spec1 fun c:Byte=>some (upperB c.n)))
    {s:List Nat} (hl:s.length<2^63) (hs:HS):CallOk ρ Tryz.prog 118 [enc s] hs (enc (upperN s)) hs:=by
  refine fn hρ hE hcon Tryz.func118 fB118 rfl (by simp) ?_ hs
  simp only[show (2:Nat)^63=9223372036854775808 from rfl] at *
  cases hw:wordN s with
  | false=>simp[fS118r0,fS118r1,fS118,hE,h1,hl,hw,upperN]
  | true =>
    rcases s with _ | ⟨c,s⟩
    · cases hw
    · have hl2:((s.length:Int)+1≤12)↔s.length≤11:=by omega
      simp only[List.length_cons] at hl
      cases hc:upperB c<;>by_cases h12:s.length≤11<;>simp[fS118r0,fS118r1,fS118,hE,h1,h2,hl,hw,upperN,hc,h12,hl2]
theorem make_SmallType_run {d:Nat} (hc:E.con 104=fnS (spec2 fun (t:Ty) (n:Int)=>if t.size≤d∧-1000000≤n∧n≤1000000 then some (max (n-t.size) 0) else none)) {t:Ty} (ht:t.size≤d) {n:Int} (h1:-1000000≤n) (h2:n≤999999) (hs:HS) :
    CallOk ρ Tryz.prog 54 [enc t,enc n] hs (enc (decide (t.size≤n))) hs:=by
  refine fn hρ hE hcon Tryz.func54 fB54 rfl (by simp) ?_ hs
  have hw:IntKind.i64.wrap (n+1)=n+1:=wrap_i64 (by omega) (by omega)
  have e:(0<max (n+1-t.size) 0)↔t.size≤n:=by omega
  simp[fS54r0,fS54r1,fS54,hE,hw,hc,ht,h2,show -1000000≤n+1 by omega,show n+1≤1000000 by omega,e]
theorem ref3_Valid_loop {d:Nat} (hc:E.con 72=fnS (spec1 fun t:Ty=>if t.size≤d∧t.short=true then some t.valid else none)) {t:Ty} (ht:t.size≤d+1) (hll:t.args.length≤1000000) (hsh:t.short=true) {Q:Ex→PT V→HS→Prop}
    (hf:Ty.valids t.args=false→Q .ret (mkP [(2,.bool false)]) { H:=mkP [],n:=0,log:=[] }) (hq:Ty.valids t.args=true→Q (.exit 1) (mkP [(1,.ptr 0 0 0)]) { H:=mkP [(0,box (encTy t))],n:=1,log:=[] }) :
    ∀ (n i:Nat),i+n=t.args.length→Ty.valids (t.args.take i)=true→LsN ρ E 0 132 fS72l0 (LessQ 0 Q) (n+1) (mkP [(1,.ptr 0 0 0),(3,.int .i64 (i:Int))]) { H:=mkP [(0,box (encTy t))],n:=1,log:=[] }:=by
  intro n
  induction n with
  | zero =>
    intro i hi he
    have hil:¬ (i:Int)<t.args.length:=by omega
    rw[List.take_of_length_le (by omega)] at he
    refine lp hρ hE hcon fun K hK=>?_
    simp[fS72l0,fS72r0,fS72r1,fS72r2,fS72r3,fS72r4,fS72r5,fS72r6,fS72r7,fS72r8,fS72r9,fS72r10,fS72r11,fS72r12,fS72r13,fS72r14,fS72r15,fS72b0,fS72r16,fS72b1,fS72r17,fS72r18,fS72r19,fS72r20,fS72r21,fS72b2,fS72r22,fS72b3,fS72r23,fS72,hE,hil]
    exact LessQ.mk (Less.keep 1 (by simp) (by simp) rfl rfl) (hq he)
  | succ n ih =>
    intro i hi he
    have hil:i<t.args.length:=by omega
    have hil':(i:Int)<t.args.length:=by omega
    have hw:IntKind.i64.wrap ((i:Int)+1)=((i+1:Nat):Int):=wrap_succ (by omega)
    have hsz:t.args[i].size≤d:=by have:=Ty.size_arg (List.getElem_mem hil); omega
    have hs2:t.args[i].short=true:=Ty.shorts_iff.1 (Ty.short_iff.1 hsh).2 _ (List.getElem_mem hil)
    refine lp hρ hE hcon fun K hK=>?_
    cases hb:t.args[i].valid with
    | true =>
      have hnx:Ty.valids (t.args.take (i+1))=true:=by
        rw[Ty.valids_iff] at he ⊢
        intro u hu
        rw[List.take_add_one,List.getElem?_eq_getElem hil] at hu
        rcases List.mem_append.1 hu with hu | hu
        · exact he u hu
        · rw[List.mem_singleton.1 hu]; exact hb
      simp[fS72l0,fS72r0,fS72r1,fS72r2,fS72r3,fS72r4,fS72r5,fS72r6,fS72r7,fS72r8,fS72r9,fS72r10,fS72r11,fS72r12,fS72r13,fS72r14,fS72r15,fS72b0,fS72r16,fS72b1,fS72r17,fS72r18,fS72r19,fS72r20,fS72r21,fS72b2,fS72r22,fS72b3,fS72r23,fS72,hE,hil',hil,hc,hsz,hs2,hb,hw,-Int.natCast_add]
      exact hK _ _ (LsN_less (Less.keep 1 (by simp[-Int.natCast_add]) (by simp) rfl rfl) (ih (i+1) (by omega) hnx))
    | false =>
      have hnv:Ty.valids t.args=false:=by
        rw[Bool.eq_false_iff,Ne,Ty.valids_iff]
        intro h
        rw[h _ (List.getElem_mem hil)] at hb
        cases hb
      simp[fS72l0,fS72r0,fS72r1,fS72r2,fS72r3,fS72r4,fS72r5,fS72r6,fS72r7,fS72r8,fS72r9,fS72r10,fS72r11,fS72r12,fS72r13,fS72r14,fS72r15,fS72b0,fS72r16,fS72b1,fS72r17,fS72r18,fS72r19,fS72r20,fS72r21,fS72b2,fS72r22,fS72b3,fS72r23,fS72,hE,hil',hil,hc,hsz,hs2,hb]
      exact LessQ.mk (Less.keep 0 (by simp) (by simp) rfl rfl) (hf hnv)
theorem ref3_Valid_run {d:Nat} (hc:E.con 72=fnS (spec1 fun t:Ty=>if t.size≤d∧t.short=true then some t.valid else none)) (hL:E.con 117=fnS (spec1 fun s:List Nat=>if s.length<2^63 then some (lowerN s) else none))
    (hU:E.con 118=fnS (spec1 fun s:List Nat=>if s.length<2^63 then some (upperN s) else none))
    {t:Ty} (ht:t.size≤d+1) (hll:t.args.length≤1000000) (hsh:t.short=true) (hs:HS):CallOk ρ Tryz.prog 72 [enc t] hs (enc t.valid) hs:=by
  refine fn hρ hE hcon Tryz.func72 fB72 rfl (by simp) ?_ hs
  have lo:=fun Q=>ref3_Valid_loop hρ hE hcon hc ht hll hsh (Q:=Q)
  obtain⟨k,nm,i,h,l⟩:=t
  have hnm:=(Ty.short_iff.1 hsh).1
  simp only[Ty.name_mk,Ty.args_mk] at hnm hll lo
  simp only[show (2:Nat)^63=9223372036854775808 from rfl] at hL hU hnm
  by_cases h1:k=1
  · subst h1
    simp[fS72r0,fS72r1,fS72r2,fS72r3,fS72r4,fS72r5,fS72r6,fS72r7,fS72r8,fS72r9,fS72r10,fS72r11,fS72r12,fS72r13,fS72r14,fS72r15,fS72b0,fS72r16,fS72b1,fS72r17,fS72r18,fS72r19,fS72r20,fS72r21,fS72b2,fS72r22,fS72b3,fS72r23,fS72,hE]
    repeat' (refine brT_mk (fun h=>?_) (fun h=>?_)<;>simp[h,hE,fS72r0,fS72r1,fS72r2,fS72r3,fS72r4,fS72r5,fS72r6,fS72r7,fS72r8,fS72r9,fS72r10,fS72r11,fS72r12,fS72r13,fS72r14,fS72r15,fS72b0,fS72r16,fS72b1,fS72r17,fS72r18,fS72r19,fS72r20,fS72r21,fS72b2,fS72r22,fS72b3,fS72r23,fS72])
    all_goals clear lo
    all_goals simp_all [Ty.valid]
    all_goals (intros; first | omega | simp_all | (exfalso; omega))
  by_cases h2:k=2
  · subst h2
    simp[fS72r0,fS72r1,fS72r2,fS72r3,fS72r4,fS72r5,fS72r6,fS72r7,fS72r8,fS72r9,fS72r10,fS72r11,fS72r12,fS72r13,fS72r14,fS72r15,fS72b0,fS72r16,fS72b1,fS72r17,fS72r18,fS72r19,fS72r20,fS72r21,fS72b2,fS72r22,fS72b3,fS72r23,fS72,hE]
    repeat' (refine brT_mk (fun h=>?_) (fun h=>?_)<;>simp[h,hE,hL,hnm,fS72r0,fS72r1,fS72r2,fS72r3,fS72r4,fS72r5,fS72r6,fS72r7,fS72r8,fS72r9,fS72r10,fS72r11,fS72r12,fS72r13,fS72r14,fS72r15,fS72b0,fS72r16,fS72b1,fS72r17,fS72r18,fS72r19,fS72r20,fS72r21,fS72b2,fS72r22,fS72b3,fS72r23,fS72])
    all_goals clear lo
    all_goals simp_all [Ty.valid]
    all_goals (intros; first | omega | simp_all | (exfalso; omega))
  by_cases h3:k=3
  · subst h3
    simp[fS72r0,fS72r1,fS72r2,fS72r3,fS72r4,fS72r5,fS72r6,fS72r7,fS72r8,fS72r9,fS72r10,fS72r11,fS72r12,fS72r13,fS72r14,fS72r15,fS72b0,fS72r16,fS72b1,fS72r17,fS72r18,fS72r19,fS72r20,fS72r21,fS72b2,fS72r22,fS72b3,fS72r23,fS72,hE]
    repeat' (refine brT_mk (fun h=>?_) (fun h=>?_)<;>simp[h,hE,hL,hnm,fS72r0,fS72r1,fS72r2,fS72r3,fS72r4,fS72r5,fS72r6,fS72r7,fS72r8,fS72r9,fS72r10,fS72r11,fS72r12,fS72r13,fS72r14,fS72r15,fS72b0,fS72r16,fS72b1,fS72r17,fS72r18,fS72r19,fS72r20,fS72r21,fS72b2,fS72r22,fS72b3,fS72r23,fS72])
    all_goals clear lo
    all_goals simp_all [Ty.valid]
    all_goals (intros; first | omega | simp_all | (exfalso; omega))
  by_cases h5:k=5
  · subst h5
    simp[fS72r0,fS72r1,fS72r2,fS72r3,fS72r4,fS72r5,fS72r6,fS72r7,fS72r8,fS72r9,fS72r10,fS72r11,fS72r12,fS72r13,fS72r14,fS72r15,fS72b0,fS72r16,fS72b1,fS72r17,fS72r18,fS72r19,fS72r20,fS72r21,fS72b2,fS72r22,fS72b3,fS72r23,fS72,hE]
    repeat' (refine brT_mk (fun h=>?_) (fun h=>?_)<;>simp[h,hE,hL,hnm,fS72r0,fS72r1,fS72r2,fS72r3,fS72r4,fS72r5,fS72r6,fS72r7,fS72r8,fS72r9,fS72r10,fS72r11,fS72r12,fS72r13,fS72r14,fS72r15,fS72b0,fS72r16,fS72b1,fS72r17,fS72r18,fS72r19,fS72r20,fS72r21,fS72b2,fS72r22,fS72b3,fS72r23,fS72])
    all_goals clear lo
    all_goals simp_all [Ty.valid]
    all_goals (intros; first | omega | simp_all | (exfalso; omega))
  by_cases h4:k=4
  · subst h4
    by_cases hi0:i=0
    · by_cases hh0:h=0
      · subst hi0 hh0
        simp[fS72r0,fS72r1,fS72r2,fS72r3,fS72r4,fS72r5,fS72r6,fS72r7,fS72r8,fS72r9,fS72r10,fS72r11,fS72r12,fS72r13,fS72r14,fS72r15,fS72b0,fS72r16,fS72b1,fS72r17,fS72r18,fS72r19,fS72r20,fS72r21,fS72b2,fS72r22,fS72b3,fS72r23,fS72,hE]
        refine Ls_lessQ (Ls_loop (LsN_less (Less.keep (TL:=[(1,.ptr 0 0 0),(3,.int .i64 ((0:Nat):Int))]) (HL:=[(0,box (encTy (.mk 4 nm 0 0 l)))]) 1 (by simp) (by simp) rfl rfl) (lo _ ?_ ?_ l.length 0 (by omega) (by simp[Ty.valids]))))
        · intro hv
          simp[fS72r0,fS72r1,fS72r2,fS72r3,fS72r4,fS72r5,fS72r6,fS72r7,fS72r8,fS72r9,fS72r10,fS72r11,fS72r12,fS72r13,fS72r14,fS72r15,fS72b0,fS72r16,fS72b1,fS72r17,fS72r18,fS72r19,fS72r20,fS72r21,fS72b2,fS72r22,fS72b3,fS72r23,fS72,hE,hv,Ty.valid]
        · intro hv
          clear lo
          by_cases ha:nm=[45,62]
          · subst ha
            have hl2:((l.length:Int)=2)↔l.length=2:=by omega
            simp[fS72r0,fS72r1,fS72r2,fS72r3,fS72r4,fS72r5,fS72r6,fS72r7,fS72r8,fS72r9,fS72r10,fS72r11,fS72r12,fS72r13,fS72r14,fS72r15,fS72b0,fS72r16,fS72b1,fS72r17,fS72r18,fS72r19,fS72r20,fS72r21,fS72b2,fS72r22,fS72b3,fS72r23,fS72,hE,hv,Ty.valid,hl2]
          by_cases hb:nm=[73,110,116]
          · subst hb
            simp[fS72r0,fS72r1,fS72r2,fS72r3,fS72r4,fS72r5,fS72r6,fS72r7,fS72r8,fS72r9,fS72r10,fS72r11,fS72r12,fS72r13,fS72r14,fS72r15,fS72b0,fS72r16,fS72b1,fS72r17,fS72r18,fS72r19,fS72r20,fS72r21,fS72b2,fS72r22,fS72b3,fS72r23,fS72,hE,hv,Ty.valid]
          have hl4:((l.length:Int)≤4)↔l.length≤4:=by omega
          cases hu:upperN nm<;>simp[fS72r0,fS72r1,fS72r2,fS72r3,fS72r4,fS72r5,fS72r6,fS72r7,fS72r8,fS72r9,fS72r10,fS72r11,fS72r12,fS72r13,fS72r14,fS72r15,fS72b0,fS72r16,fS72b1,fS72r17,fS72r18,fS72r19,fS72r20,fS72r21,fS72b2,fS72r22,fS72b3,fS72r23,fS72,hE,hv,Ty.valid,ha,hb,hU,hnm,hu,hl4]
      · simp[fS72r0,fS72r1,fS72r2,fS72r3,fS72r4,fS72r5,fS72r6,fS72r7,fS72r8,fS72r9,fS72r10,fS72r11,fS72r12,fS72r13,fS72r14,fS72r15,fS72b0,fS72r16,fS72b1,fS72r17,fS72r18,fS72r19,fS72r20,fS72r21,fS72b2,fS72r22,fS72b3,fS72r23,fS72,hE,hi0,hh0,Ty.valid]
    · simp[fS72r0,fS72r1,fS72r2,fS72r3,fS72r4,fS72r5,fS72r6,fS72r7,fS72r8,fS72r9,fS72r10,fS72r11,fS72r12,fS72r13,fS72r14,fS72r15,fS72b0,fS72r16,fS72b1,fS72r17,fS72r18,fS72r19,fS72r20,fS72r21,fS72b2,fS72r22,fS72b3,fS72r23,fS72,hE,hi0,Ty.valid]
  simp[fS72r0,fS72r1,fS72r2,fS72r3,fS72r4,fS72r5,fS72r6,fS72r7,fS72r8,fS72r9,fS72r10,fS72r11,fS72r12,fS72r13,fS72r14,fS72r15,fS72b0,fS72r16,fS72b1,fS72r17,fS72r18,fS72r19,fS72r20,fS72r21,fS72b2,fS72r22,fS72b3,fS72r23,fS72,hE,h1,h2,h3,h4,h5,Ty.valid]
end
end Go.Proofs.YthfcfmkdeheicaaGreat
namespace Go.Proofs.YthfcfmkdeheicaaGreat
open Go.J
open Go.J.Enc (enc)
set_option maxRecDepth 100000
set_option maxHeartbeats 4000000
section
variable {ρ:Nat→Value} (hρ:J.Good ρ) {E:Env} (hE:E.P=Tryz.prog) (hcon:ConsOk ρ E)
include hρ hE hcon
theorem law16_few_loop0 (hc:E.con 54=fnS (spec2 fun (t:Ty) (n:Int)=>if -1000000≤n∧n≤999999 then some (decide ((t.size:Int)≤n)) else none)) {s:Store} (h1:s.slots.length≤6) {Q:Ex→PT V→HS→Prop}
    (hf:(¬ ∀ x∈s.slots,x.type.size≤20)→Q .ret (mkP [(2,.bool false)]) { H:=mkP [],n:=0,log:=[] }) (hq:(∀ x∈s.slots,x.type.size≤20)→Q (.exit 0) (mkP [(1,.ptr 0 0 0)]) { H:=mkP [(0,box (encStore s))],n:=1,log:=[] }) :
    ∀ (n i:Nat),i+n=s.slots.length→(∀ x∈s.slots.take i,x.type.size≤20)→LsN ρ E 0 46 fS9l0 (LessQ 0 Q) (n+1) (mkP [(1,.ptr 0 0 0),(3,.int .i64 (i:Int))]) { H:=mkP [(0,box (encStore s))],n:=1,log:=[] }:=by
  intro n
  induction n with
  | zero =>
    intro i hi he
    have hil:¬ (i:Int)<s.slots.length:=by omega
    refine lp hρ hE hcon fun K hK=>?_
    simp[fS9l0,fS9r0,fS9r1,fS9r2,fS9r3,fS9r4,fS9r5,fS9r6,fS9b0,fS9r7,fS9b1,fS9r8,fS9r9,fS9r10,fS9r11,fS9b2,fS9r12,fS9b3,fS9r13,fS9,hE,hil]
    exact LessQ.mk (Less.keep 1 (by simp) (by simp) rfl rfl) (hq (forall_take_all (by omega) he))
  | succ n ih =>
    intro i hi he
    have hil:i<s.slots.length:=by omega
    have hil':(i:Int)<s.slots.length:=by omega
    have hw:IntKind.i64.wrap ((i:Int)+1)=((i+1:Nat):Int):=wrap_succ (by omega)
    have hd1:(i*8+1) / 8=i:=by omega
    have hd2:(i*8+1) % 8=1:=by omega
    refine lp hρ hE hcon fun K hK=>?_
    by_cases hb:s.slots[i].type.size≤20
    · have hb':((s.slots[i].type.size:Nat):Int)≤20:=by omega
      simp[fS9l0,fS9r0,fS9r1,fS9r2,fS9r3,fS9r4,fS9r5,fS9r6,fS9b0,fS9r7,fS9b1,fS9r8,fS9r9,fS9r10,fS9r11,fS9b2,fS9r12,fS9b3,fS9r13,fS9,hE,hil',hil,hc,hb,hb',hw,-Int.natCast_add]
      exact hK _ _ (LsN_less (Less.keep 1 (by simp[-Int.natCast_add]) (by simp) rfl rfl) (ih (i+1) (by omega) (forall_take_succ hil he hb)))
    · have hb':¬ ((s.slots[i].type.size:Nat):Int)≤20:=by omega
      simp[fS9l0,fS9r0,fS9r1,fS9r2,fS9r3,fS9r4,fS9r5,fS9r6,fS9b0,fS9r7,fS9b1,fS9r8,fS9r9,fS9r10,fS9r11,fS9b2,fS9r12,fS9b3,fS9r13,fS9,hE,hil',hil,hc,hb,hb']
      exact LessQ.mk (Less.keep 0 (by simp) (by simp) rfl rfl) (hf fun h=>hb (h _ (List.getElem_mem hil)))
theorem law16_few_loop1 (hc:E.con 54=fnS (spec2 fun (t:Ty) (n:Int)=>if -1000000≤n∧n≤999999 then some (decide ((t.size:Int)≤n)) else none)) {s:Store} (h1:s.trail.length≤6) {Q:Ex→PT V→HS→Prop}
    (hf:(¬ ∀ x∈s.trail,x.old.type.size≤20)→Q .ret (mkP [(2,.bool false)]) { H:=mkP [],n:=0,log:=[] }) (hq:(∀ x∈s.trail,x.old.type.size≤20)→Q (.exit 2) (mkP []) { H:=mkP [],n:=0,log:=[] }) :
    ∀ (n i:Nat),i+n=s.trail.length→(∀ x∈s.trail.take i,x.old.type.size≤20)→LsN ρ E 0 46 fS9l1 (LessQ 0 Q) (n+1) (mkP [(1,.ptr 0 0 0),(4,.int .i64 (i:Int))]) { H:=mkP [(0,box (encStore s))],n:=1,log:=[] }:=by
  intro n
  induction n with
  | zero =>
    intro i hi he
    have hil:¬ (i:Int)<s.trail.length:=by omega
    refine lp hρ hE hcon fun K hK=>?_
    simp[fS9l1,fS9r0,fS9r1,fS9r2,fS9r3,fS9r4,fS9r5,fS9r6,fS9b0,fS9r7,fS9b1,fS9r8,fS9r9,fS9r10,fS9r11,fS9b2,fS9r12,fS9b3,fS9r13,fS9,hE,hil]
    exact LessQ.mk (Less.keep 0 (by simp) (by simp) rfl rfl) (hq (forall_take_all (by omega) he))
  | succ n ih =>
    intro i hi he
    have hil:i<s.trail.length:=by omega
    have hil':(i:Int)<s.trail.length:=by omega
    have hw:IntKind.i64.wrap ((i:Int)+1)=((i+1:Nat):Int):=wrap_succ (by omega)
    refine lp hρ hE hcon fun K hK=>?_
    by_cases hb:s.trail[i].old.type.size≤20
    · have hb':((s.trail[i].old.type.size:Nat):Int)≤20:=by omega
      simp[fS9l1,fS9r0,fS9r1,fS9r2,fS9r3,fS9r4,fS9r5,fS9r6,fS9b0,fS9r7,fS9b1,fS9r8,fS9r9,fS9r10,fS9r11,fS9b2,fS9r12,fS9b3,fS9r13,fS9,hE,hil',hil,hc,hb,hb',hw,-Int.natCast_add]
      exact hK _ _ (LsN_less (Less.keep 1 (by simp[-Int.natCast_add]) (by simp) rfl rfl) (ih (i+1) (by omega) (forall_take_succ hil he hb)))
    · have hb':¬ ((s.trail[i].old.type.size:Nat):Int)≤20:=by omega
      simp[fS9l1,fS9r0,fS9r1,fS9r2,fS9r3,fS9r4,fS9r5,fS9r6,fS9b0,fS9r7,fS9b1,fS9r8,fS9r9,fS9r10,fS9r11,fS9b2,fS9r12,fS9b3,fS9r13,fS9,hE,hil',hil,hc,hb,hb']
      exact LessQ.mk (Less.keep 0 (by simp) (by simp) rfl rfl) (hf fun h=>hb (h _ (List.getElem_mem hil)))
theorem law16_few_run (hc:E.con 54=fnS (spec2 fun (t:Ty) (n:Int)=>if -1000000≤n∧n≤999999 then some (decide ((t.size:Int)≤n)) else none)) {s:Store} (hs:HS):CallOk ρ Tryz.prog 9 [enc s] hs (enc (decide s.few)) hs:=by
  refine fn hρ hE hcon Tryz.func9 fB9 rfl (by simp) ?_ hs
  by_cases h1:s.slots.length≤6
  · by_cases h2:s.trail.length≤6
    · simp[fS9r0,fS9r1,fS9r2,fS9r3,fS9r4,fS9r5,fS9r6,fS9b0,fS9r7,fS9b1,fS9r8,fS9r9,fS9r10,fS9r11,fS9b2,fS9r12,fS9b3,fS9r13,fS9,hE,show ¬ (6<(s.slots.length:Int)) by omega,show ¬ (6<(s.trail.length:Int)) by omega]
      refine Ls_lessQ (Ls_loop (LsN_less (Less.keep (TL:=[(1,.ptr 0 0 0),(3,.int .i64 ((0:Nat):Int))]) (HL:=[(0,box (encStore s))]) 1 (by simp) (by simp) rfl rfl) (law16_few_loop0 hρ hE hcon hc h1 ?_ ?_ s.slots.length 0 (by omega) (by simp))))
      · intro h3
        simp[fS9r0,fS9r1,fS9r2,fS9r3,fS9r4,fS9r5,fS9r6,fS9b0,fS9r7,fS9b1,fS9r8,fS9r9,fS9r10,fS9r11,fS9b2,fS9r12,fS9b3,fS9r13,fS9,hE,Store.few,h1,h2,h3]
      · intro h3
        simp[fS9r0,fS9r1,fS9r2,fS9r3,fS9r4,fS9r5,fS9r6,fS9b0,fS9r7,fS9b1,fS9r8,fS9r9,fS9r10,fS9r11,fS9b2,fS9r12,fS9b3,fS9r13,fS9,hE]
        refine Ls_lessQ (Ls_loop (LsN_less (Less.keep (TL:=[(1,.ptr 0 0 0),(4,.int .i64 ((0:Nat):Int))]) (HL:=[(0,box (encStore s))]) 1 (by simp) (by simp) rfl rfl) (law16_few_loop1 hρ hE hcon hc h2 ?_ ?_ s.trail.length 0 (by omega) (by simp))))
        · intro h4
          simp[fS9r0,fS9r1,fS9r2,fS9r3,fS9r4,fS9r5,fS9r6,fS9b0,fS9r7,fS9b1,fS9r8,fS9r9,fS9r10,fS9r11,fS9b2,fS9r12,fS9b3,fS9r13,fS9,hE,Store.few,h1,h2,h3,h4]
        · intro h4
          simp[fS9r0,fS9r1,fS9r2,fS9r3,fS9r4,fS9r5,fS9r6,fS9b0,fS9r7,fS9b1,fS9r8,fS9r9,fS9r10,fS9r11,fS9b2,fS9r12,fS9b3,fS9r13,fS9,hE,Store.few,h1,h2,h3,h4]
          exact⟨h3,h4⟩
    · simp[fS9r0,fS9r1,fS9r2,fS9r3,fS9r4,fS9r5,fS9r6,fS9b0,fS9r7,fS9b1,fS9r8,fS9r9,fS9r10,fS9r11,fS9b2,fS9r12,fS9b3,fS9r13,fS9,hE,Store.few,h1,h2,show ¬ (6<(s.slots.length:Int)) by omega,show (6<(s.trail.length:Int)) by omega]
  · simp[fS9r0,fS9r1,fS9r2,fS9r3,fS9r4,fS9r5,fS9r6,fS9b0,fS9r7,fS9b1,fS9r8,fS9r9,fS9r10,fS9r11,fS9b2,fS9r12,fS9b3,fS9r13,fS9,hE,Store.few,h1,show (6<(s.slots.length:Int)) by omega]
end
end Go.Proofs.YthfcfmkdeheicaaGreat
namespace Go.Proofs.YthfcfmkdeheicaaGreat
open Go.J
open Go.J.Enc (enc)
set_option maxRecDepth 100000
set_option maxHeartbeats 4000000
section
variable {ρ:Nat→Value} (hρ:J.Good ρ) {E:Env} (hE:E.P=Tryz.prog) (hcon:ConsOk ρ E)
include hρ hE hcon
theorem ref16_cyclic_loop {d:Nat} (hc:E.con 73=mtS 2 1 (mtF3 (cycF d))) {s:Store} (hs:s.closed) {fr:Int} {L:List Int} (hL:∀ v∈L,0≤v∧v<s.slots.length) (hll:L.length≤10000) {R:List Int×Bool} {Q:Ex→PT V→HS→Prop}
    (hf:R.2=true→Q .ret (mkP [(8,.bool true)]) { H:=mkP [(0,mkO 1 (R.1.map encI))],n:=1,log:=[] })
    (ht:R.2=false→Q (.exit 0) (mkP []) { H:=mkP [(0,mkO 1 (R.1.map encI))],n:=1,log:=[] }) :
    ∀ (n i:Nat) (S:List Int),i+n=L.length→S.length=s.slots.length→S.count 0≤d→cycL (cycM s fr d) fr (L.drop i) S=R →
      LsN ρ E 1 60 fS73l0 (LessQ 1 Q) (n+1) (mkP [(10,.int .i64 (i:Int)),(9,.sl (L.map encI) false),(3,.int .i64 fr),(2,mkV 0 (S.map encI)),(4,.ptr 1 0 0)])
        { H:=mkP [(0,mkO 1 (S.map encI)),(1,box (encStore s))],n:=2,log:=[] }:=by
  intro n
  induction n with
  | zero =>
    intro i S hi hSl hS0 hR
    have hil:¬ (i:Int)<L.length:=by omega
    rw[List.drop_of_length_le (by omega)] at hR
    subst hR
    refine lp hρ hE hcon fun K hK=>?_
    simp[fS73l0,fS73r0,fS73r1,fS73r2,fS73r3,fS73r4,fS73r5,fS73r6,fS73r7,fS73r8,fS73r9,fS73r10,fS73r11,fS73b0,fS73r12,fS73b1,fS73r13,fS73,hE,hil]
    exact LessQ.mk (Less.keep 1 (by simp) (by simp[mkO,cycL]) rfl rfl) (ht rfl)
  | succ n ih =>
    intro i S hi hSl hS0 hR
    have hil:i<L.length:=by omega
    have hil':(i:Int)<L.length:=by omega
    have hw:IntKind.i64.wrap ((i:Int)+1)=((i+1:Nat):Int):=wrap_succ (by omega)
    have hv:=hL _ (List.getElem_mem hil)
    rw[List.drop_eq_getElem_cons hil] at hR
    refine lp hρ hE hcon fun K hK=>?_
    obtain⟨k,hk⟩:=Int.eq_ofNat_of_zero_le hv.1
    have hkl:k<S.length:=by omega
    have hkl2:(k:Int)<s.slots.length:=by omega
    generalize hx:S[k]=x
    have hSk:S[k]?=some x:=by rw[List.getElem?_eq_getElem hkl,hx]
    rw[hk] at hR
    unfold cycL at hR
    rw[Int.toNat_natCast] at hR
    by_cases hfr:(k:Int)=fr
    · rw[if_pos hfr] at hR
      subst hR
      simp[fS73l0,fS73r0,fS73r1,fS73r2,fS73r3,fS73r4,fS73r5,fS73r6,fS73r7,fS73r8,fS73r9,fS73r10,fS73r11,fS73b0,fS73r12,fS73b1,fS73r13,fS73,hE,hil,hil',hk,hfr]
      exact LessQ.mk (Less.keep 1 (by simp) (by simp[mkO]) rfl rfl) (hf rfl)
    rw[if_neg hfr] at hR
    by_cases h0:x=0
    · subst h0
      rw[if_pos hSk] at hR
      have hc1:=count_set1 hSk
      have hcF:cycF d (S.set k 1) s (k:Int) fr=some (cycM s fr d k (S.set k 1)):=by
        unfold cycF
        rw[if_pos ⟨hs,by rw[List.length_set]; exact hSl,by omega,hkl2,by omega⟩]
      have hlen:=cycM_len s fr d k (S.set k 1)
      rw[List.length_set] at hlen
      generalize hr:cycM s fr d k (S.set k 1)=r at hR hcF hlen
      obtain⟨S',b⟩:=r
      simp only at hlen
      have e1:(S.map encI).set k [.int .i64 1]=(S.set k 1).map encI:=by rw[List.map_set]
      cases b with
      | true =>
        simp at hR
        subst hR
        simp[fS73l0,fS73r0,fS73r1,fS73r2,fS73r3,fS73r4,fS73r5,fS73r6,fS73r7,fS73r8,fS73r9,fS73r10,fS73r11,fS73b0,fS73r12,fS73b1,fS73r13,fS73,hE,hil,hil',hk,hfr,hSk,hkl,hx,mkV,mkO,Nat.mod_one,e1,hc,hcF,-List.map_set]
        exact⟨hlen.1,LessQ.mk (Less.keep 1 (by simp) (by simp[mkO]) rfl rfl) (hf rfl)⟩
      | false =>
        simp at hR
        simp[fS73l0,fS73r0,fS73r1,fS73r2,fS73r3,fS73r4,fS73r5,fS73r6,fS73r7,fS73r8,fS73r9,fS73r10,fS73r11,fS73b0,fS73r12,fS73b1,fS73r13,fS73,hE,hil,hil',hk,hfr,hSk,hkl,hx,mkV,mkO,Nat.mod_one,e1,hc,hcF,hw,-List.map_set,-Int.natCast_add]
        refine⟨hlen.1,?_⟩
        exact hK _ _ (LsN_less (Less.keep 2 (by simp[mkV,hlen.1,-Int.natCast_add]) (by simp[mkO]) rfl rfl) (ih (i+1) S' (by omega) (by omega) (by omega) hR))
    · rw[if_neg (by rw[hSk]; simp[h0])] at hR
      simp[fS73l0,fS73r0,fS73r1,fS73r2,fS73r3,fS73r4,fS73r5,fS73r6,fS73r7,fS73r8,fS73r9,fS73r10,fS73r11,fS73b0,fS73r12,fS73b1,fS73r13,fS73,hE,hil,hil',hk,hfr,hSk,hkl,hx,mkV,mkO,h0,hw,Nat.mod_one,-Int.natCast_add]
      exact hK _ _ (LsN_less (Less.keep 2 (by simp[mkV,-Int.natCast_add]) (by simp[mkO]) rfl rfl) (ih (i+1) S (by omega) hSl hS0 hR))
theorem ref16_cyclic_run {d:Nat} (hc:E.con 73=mtS 2 1 (mtF3 (cycF d))) (hV:E.con 33=fnS (spec1 fun l:List Ty=>if Ty.oks l=true∧l.length≤10000∧Ty.sizes l≤10000 then some (varsM l) else none))
    {s:Store} {i fr:Int} {S:List Int} {R:List Int×Bool} (hR:cycF (d+1) S s i fr=some R) {hs:HS} {id:Nat} (hid:id<hs.n) (hg:hs.H.get id=some (mkO 1 (S.map encI))) :
    CallOk ρ Tryz.prog 73 [enc s,enc i,mkV id (S.map encI),enc fr] hs (enc R.2) (hs.wr id (mkO 1 (R.1.map encI))):=by
  have hRl:R.1.length=S.length:=by
    unfold cycF at hR
    split at hR
    · cases hR; exact (cycM_len s fr (d+1) i S).1
    · cases hR
  refine mt hρ hE hcon (pre:=[enc s,enc i]) (post:=[enc fr]) Tryz.func73 fB73 rfl (by simp) (by simp) (by simp) (by simpa using hRl) rfl ?_ hid hg
  unfold cycF at hR
  split at hR
  case isFalse=>cases hR
  rename_i hp
  obtain⟨hcl,hSl,hi0,hil,h0⟩:=hp
  cases hR
  obtain⟨k,rfl⟩:=Int.eq_ofNat_of_zero_le hi0
  have hk:k<s.slots.length:=by omega
  have hk0:s.slots[k]?=some s.slots[k]:=List.getElem?_eq_getElem hk
  have hm:=hcl.2 _ (List.getElem_mem hk)
  generalize hx:s.slots[k]=x at hk0 hm
  have hM:cycM s fr (d+1) k S=if x.bound=true then cycL (cycM s fr d) fr (varsM [x.type]) S else (S,false):=by
    rw[cycM,Int.toNat_natCast,hk0]
  have hd1:k*8 / 8=k:=by omega
  have hd2:k*8 % 8=0:=by omega
  cases hb:x.bound with
  | false =>
    rw[hb] at hM
    simp at hM
    rw[hM]
    simp[fS73r0,fS73r1,fS73r2,fS73r3,fS73r4,fS73r5,fS73r6,fS73r7,fS73r8,fS73r9,fS73r10,fS73r11,fS73b0,fS73r12,fS73b1,fS73r13,fS73,hE,hk,hx,hb,mkV,mkO]
    exact GivesL.keep rfl rfl rfl rfl (by simp)
  | true =>
    rw[hb] at hM
    simp at hM
    rw[hM]
    obtain⟨g1,g2,g3⟩:=hm hb
    have hoks:Ty.oks [x.type]=true:=by simp[Ty.oks,g1]
    have hszs:Ty.sizes [x.type]≤10000:=by simp[Ty.sizes]; exact g2
    have hlen:(varsM [x.type]).length≤10000:=by
      have e1:=idsOf_len (leavesL 1 [x.type] [])
      have e2:=(leavesL_len 1 [x.type] []).2
      simp at e2
      unfold varsM; omega
    have hRl2:(cycL (cycM s fr d) fr (varsM [x.type]) S).1.length=S.length:=(cycL_len (cycM_len s fr d) _ _).1
    generalize hLL:varsM [x.type]=L at *
    simp[fS73r0,fS73r1,fS73r2,fS73r3,fS73r4,fS73r5,fS73r6,fS73r7,fS73r8,fS73r9,fS73r10,fS73r11,fS73b0,fS73r12,fS73b1,fS73r13,fS73,hE,hk,hx,hb,mkV,mkO,hV,hoks,hszs,hLL]
    refine Ls_lessQ (Ls_loop (LsN_less (Less.keep (TL:=[(10,.int .i64 ((0:Nat):Int)),(9,.sl (L.map encI) false),(3,.int .i64 fr),(2,mkV 0 (S.map encI)),(4,.ptr 1 0 0)]) (HL:=[(0,mkO 1 (S.map encI)),(1,box (encStore s))]) 2 (by simp[mkV]) (by simp[mkO]) rfl rfl)
      (ref16_cyclic_loop hρ hE hcon hc hcl g3 hlen (R:=cycL (cycM s fr d) fr L S) ?_ ?_ L.length 0 S (by omega) hSl (by omega) rfl)))
    · intro hb
      simp[fS73r0,fS73r1,fS73r2,fS73r3,fS73r4,fS73r5,fS73r6,fS73r7,fS73r8,fS73r9,fS73r10,fS73r11,fS73b0,fS73r12,fS73b1,fS73r13,fS73,hE,hb]
      exact GivesL.keep rfl rfl rfl rfl (by simp[mkO])
    · intro hb
      simp[fS73r0,fS73r1,fS73r2,fS73r3,fS73r4,fS73r5,fS73r6,fS73r7,fS73r8,fS73r9,fS73r10,fS73r11,fS73b0,fS73r12,fS73b1,fS73r13,fS73,hE,hb]
      exact GivesL.keep rfl rfl rfl rfl (by simp[mkO])
end
end Go.Proofs.YthfcfmkdeheicaaGreat
namespace Go.Proofs.YthfcfmkdeheicaaGreat
open Go.J
open Go.J.Enc (enc)
set_option maxRecDepth 100000
set_option maxHeartbeats 4000000
section
variable {ρ:Nat→Value} (hρ:J.Good ρ) {E:Env} (hE:E.P=Tryz.prog) (hcon:ConsOk ρ E)
include hρ hE hcon
theorem ref16_Valid_loop0 {s:Store} (h1:s.trail.length≤1000) {Q:Ex→PT V→HS→Prop}
    (hf:(¬ ∀ c∈s.trail,0≤c.id∧c.id<s.slots.length)→Q .ret (mkP [(2,.bool false)]) { H:=mkP [],n:=0,log:=[] })
    (hq:(∀ c∈s.trail,0≤c.id∧c.id<s.slots.length)→Q (.exit 0) (mkP [(1,.ptr 0 0 0)]) { H:=mkP [(0,box (encStore s))],n:=1,log:=[] }) :
    ∀ (n i:Nat),i+n=s.trail.length→(∀ c∈s.trail.take i,0≤c.id∧c.id<s.slots.length)→LsN ρ E 0 92 fS18l0 (LessQ 0 Q) (n+1) (mkP [(1,.ptr 0 0 0),(3,.int .i64 (i:Int))]) { H:=mkP [(0,box (encStore s))],n:=1,log:=[] }:=by
  intro n
  induction n with
  | zero =>
    intro i hi he
    have hil:¬ (i:Int)<s.trail.length:=by omega
    refine lp hρ hE hcon fun K hK=>?_
    simp[fS18l0,fS18r0,fS18r1,fS18r2,fS18r3,fS18r4,fS18b0,fS18r5,fS18b1,fS18r6,fS18r7,fS18r8,fS18r9,fS18r10,fS18r11,fS18r12,fS18r13,fS18r14,fS18r15,fS18r16,fS18r17,fS18r18,fS18b2,fS18r19,fS18b3,fS18b4,fS18r20,fS18b5,fS18r21,fS18r22,fS18r23,fS18r24,fS18b6,fS18r25,fS18b7,fS18r26,fS18,hE,hil]
    exact LessQ.mk (Less.keep 1 (by simp) (by simp) rfl rfl) (hq (forall_take_all (by omega) he))
  | succ n ih =>
    intro i hi he
    have hil:i<s.trail.length:=by omega
    have hil':(i:Int)<s.trail.length:=by omega
    have hw:IntKind.i64.wrap ((i:Int)+1)=((i+1:Nat):Int):=wrap_succ (by omega)
    refine lp hρ hE hcon fun K hK=>?_
    by_cases hb0:s.trail[i].id<0
    · simp[fS18l0,fS18r0,fS18r1,fS18r2,fS18r3,fS18r4,fS18b0,fS18r5,fS18b1,fS18r6,fS18r7,fS18r8,fS18r9,fS18r10,fS18r11,fS18r12,fS18r13,fS18r14,fS18r15,fS18r16,fS18r17,fS18r18,fS18b2,fS18r19,fS18b3,fS18b4,fS18r20,fS18b5,fS18r21,fS18r22,fS18r23,fS18r24,fS18b6,fS18r25,fS18b7,fS18r26,fS18,hE,hil',hil,hb0]
      exact LessQ.mk (Less.keep 0 (by simp) (by simp) rfl rfl) (hf fun h=>by have:=h _ (List.getElem_mem hil); omega)
    · by_cases hb:s.trail[i].id<s.slots.length
      · have hb':¬ ((s.slots.length:Int)≤s.trail[i].id):=by omega
        simp[fS18l0,fS18r0,fS18r1,fS18r2,fS18r3,fS18r4,fS18b0,fS18r5,fS18b1,fS18r6,fS18r7,fS18r8,fS18r9,fS18r10,fS18r11,fS18r12,fS18r13,fS18r14,fS18r15,fS18r16,fS18r17,fS18r18,fS18b2,fS18r19,fS18b3,fS18b4,fS18r20,fS18b5,fS18r21,fS18r22,fS18r23,fS18r24,fS18b6,fS18r25,fS18b7,fS18r26,fS18,hE,hil',hil,hb0,hb,hb',hw,-Int.natCast_add]
        exact hK _ _ (LsN_less (Less.keep 1 (by simp[-Int.natCast_add]) (by simp) rfl rfl) (ih (i+1) (by omega) (forall_take_succ hil he ⟨by omega,hb⟩)))
      · have hb':((s.slots.length:Int)≤s.trail[i].id):=by omega
        simp[fS18l0,fS18r0,fS18r1,fS18r2,fS18r3,fS18r4,fS18b0,fS18r5,fS18b1,fS18r6,fS18r7,fS18r8,fS18r9,fS18r10,fS18r11,fS18r12,fS18r13,fS18r14,fS18r15,fS18r16,fS18r17,fS18r18,fS18b2,fS18r19,fS18b3,fS18b4,fS18r20,fS18b5,fS18r21,fS18r22,fS18r23,fS18r24,fS18b6,fS18r25,fS18b7,fS18r26,fS18,hE,hil',hil,hb0,hb']
        exact LessQ.mk (Less.keep 0 (by simp) (by simp) rfl rfl) (hf fun h=>by have:=h _ (List.getElem_mem hil); omega)
theorem ref16_Valid_loop1 {s:Store} {L:List Int} (hl:L.length≤10000) {Q:Ex→PT V→HS→Prop} {i4:Int}
    (hf:(¬ ∀ v∈L,v<s.slots.length)→Q .ret (mkP [(2,.bool false)]) { H:=mkP [],n:=0,log:=[] })
    (hq:(∀ v∈L,v<s.slots.length)→Q (.exit 4) (mkP [(1,.ptr 0 0 0),(4,.int .i64 i4)]) { H:=mkP [(0,box (encStore s))],n:=1,log:=[] }) :
    ∀ (n i:Nat),i+n=L.length→(∀ v∈L.take i,v<s.slots.length)→LsN ρ E 0 92 fS18l1 (LessQ 0 Q) (n+1) (mkP [(1,.ptr 0 0 0),(4,.int .i64 i4),(6,.sl (L.map encI) false),(7,.int .i64 (i:Int))]) { H:=mkP [(0,box (encStore s))],n:=1,log:=[] }:=by
  intro n
  induction n with
  | zero =>
    intro i hi he
    have hil:¬ (i:Int)<L.length:=by omega
    refine lp hρ hE hcon fun K hK=>?_
    simp[fS18l1,fS18r0,fS18r1,fS18r2,fS18r3,fS18r4,fS18b0,fS18r5,fS18b1,fS18r6,fS18r7,fS18r8,fS18r9,fS18r10,fS18r11,fS18r12,fS18r13,fS18r14,fS18r15,fS18r16,fS18r17,fS18r18,fS18b2,fS18r19,fS18b3,fS18b4,fS18r20,fS18b5,fS18r21,fS18r22,fS18r23,fS18r24,fS18b6,fS18r25,fS18b7,fS18r26,fS18,hE,hil]
    exact LessQ.mk (Less.keep 1 (by simp) (by simp) rfl rfl) (hq (forall_take_all (by omega) he))
  | succ n ih =>
    intro i hi he
    have hil:i<L.length:=by omega
    have hil':(i:Int)<L.length:=by omega
    have hw:IntKind.i64.wrap ((i:Int)+1)=((i+1:Nat):Int):=wrap_succ (by omega)
    refine lp hρ hE hcon fun K hK=>?_
    by_cases hb:L[i]<s.slots.length
    · have hb':¬ ((s.slots.length:Int)≤L[i]):=by omega
      simp[fS18l1,fS18r0,fS18r1,fS18r2,fS18r3,fS18r4,fS18b0,fS18r5,fS18b1,fS18r6,fS18r7,fS18r8,fS18r9,fS18r10,fS18r11,fS18r12,fS18r13,fS18r14,fS18r15,fS18r16,fS18r17,fS18r18,fS18b2,fS18r19,fS18b3,fS18b4,fS18r20,fS18b5,fS18r21,fS18r22,fS18r23,fS18r24,fS18b6,fS18r25,fS18b7,fS18r26,fS18,hE,hil',hil,hb,hb',hw,-Int.natCast_add]
      exact hK _ _ (LsN_less (Less.keep 1 (by simp[-Int.natCast_add]) (by simp) rfl rfl) (ih (i+1) (by omega) (forall_take_succ hil he hb)))
    · have hb':((s.slots.length:Int)≤L[i]):=by omega
      simp[fS18l1,fS18r0,fS18r1,fS18r2,fS18r3,fS18r4,fS18b0,fS18r5,fS18b1,fS18r6,fS18r7,fS18r8,fS18r9,fS18r10,fS18r11,fS18r12,fS18r13,fS18r14,fS18r15,fS18r16,fS18r17,fS18r18,fS18b2,fS18r19,fS18b3,fS18b4,fS18r20,fS18b5,fS18r21,fS18r22,fS18r23,fS18r24,fS18b6,fS18r25,fS18b7,fS18r26,fS18,hE,hil',hil,hb']
      exact LessQ.mk (Less.keep 0 (by simp) (by simp) rfl rfl) (hf fun h=>hb (h _ (List.getElem_mem hil)))
theorem ref16_Valid_loop2 (hEq:E.con 23=fnS (spec2 fun a b:Ty=>if a.ok=true then some (decide (a=b)) else none)) (hVa:E.con 72=fnS (spec1 fun t:Ty=>if t.size≤10000∧t.short=true then some t.valid else none))
    (hV:E.con 33=fnS (spec1 fun l:List Ty=>if Ty.oks l=true∧l.length≤10000∧Ty.sizes l≤10000 then some (varsM l) else none))
    {s:Store} (hfi:s.fine) {Q:Ex→PT V→HS→Prop}
    (hf:(¬ ∀ x∈s.slots,s.slotOk x)→Q .ret (mkP [(2,.bool false)]) { H:=mkP [],n:=0,log:=[] })
    (hq:(∀ x∈s.slots,s.slotOk x)→Q (.exit 2) (mkP [(1,.ptr 0 0 0)]) { H:=mkP [(0,box (encStore s))],n:=1,log:=[] }) :
    ∀ (n i:Nat),i+n=s.slots.length→(∀ x∈s.slots.take i,s.slotOk x)→LsN ρ E 0 92 fS18l2 (LessQ 0 Q) (n+1) (mkP [(1,.ptr 0 0 0),(4,.int .i64 (i:Int))]) { H:=mkP [(0,box (encStore s))],n:=1,log:=[] }:=by
  intro n
  induction n with
  | zero =>
    intro i hi he
    have hil:¬ (i:Int)<s.slots.length:=by omega
    refine lp hρ hE hcon fun K hK=>?_
    simp[fS18l2,fS18r0,fS18r1,fS18r2,fS18r3,fS18r4,fS18b0,fS18r5,fS18b1,fS18r6,fS18r7,fS18r8,fS18r9,fS18r10,fS18r11,fS18r12,fS18r13,fS18r14,fS18r15,fS18r16,fS18r17,fS18r18,fS18b2,fS18r19,fS18b3,fS18b4,fS18r20,fS18b5,fS18r21,fS18r22,fS18r23,fS18r24,fS18b6,fS18r25,fS18b7,fS18r26,fS18,hE,hil]
    exact LessQ.mk (Less.keep 1 (by simp) (by simp) rfl rfl) (hq (forall_take_all (by omega) he))
  | succ n ih =>
    intro i hi he
    have hil:i<s.slots.length:=by omega
    have hil':(i:Int)<s.slots.length:=by omega
    have hfl:=hfi.1
    have hw:IntKind.i64.wrap ((i:Int)+1)=((i+1:Nat):Int):=wrap_succ (by omega)
    have hm:=List.getElem_mem hil
    obtain⟨g1,g2,g3⟩:=hfi.2.2 _ hm
    have hnx:=fun h=>ih (i+1) (by omega) (forall_take_succ hil he h)
    have hno:¬ s.slotOk s.slots[i]→¬ ∀ x∈s.slots,s.slotOk x:=fun h hh=>h (hh _ hm)
    generalize hx:s.slots[i]=x at g1 g2 g3 hnx hno
    obtain⟨b,t,ho,ba⟩:=x
    simp only at g1 g2 g3
    refine lp hρ hE hcon fun K hK=>?_
    cases b with
    | false =>
      by_cases ht:t=ty0
      · have hok:s.slotOk ⟨false,t,ho,ba⟩:=by simp[Store.slotOk,ht]
        replace hnx:=hnx hok
        obtain rfl:t=Ty.mk 0 [] 0 0 []:=ht
        simp[fS18l2,fS18r0,fS18r1,fS18r2,fS18r3,fS18r4,fS18b0,fS18r5,fS18b1,fS18r6,fS18r7,fS18r8,fS18r9,fS18r10,fS18r11,fS18r12,fS18r13,fS18r14,fS18r15,fS18r16,fS18r17,fS18r18,fS18b2,fS18r19,fS18b3,fS18b4,fS18r20,fS18b5,fS18r21,fS18r22,fS18r23,fS18r24,fS18b6,fS18r25,fS18b7,fS18r26,fS18,hE,hil',hil,hx,hEq,g1,hw,-Int.natCast_add]
        exact hK _ _ (LsN_less (Less.keep 1 (by simp[-Int.natCast_add]) (by simp) rfl rfl) hnx)
      · have hok:¬ s.slotOk ⟨false,t,ho,ba⟩:=by simp[Store.slotOk,ht]
        have ht':¬ t=Ty.mk 0 [] 0 0 []:=ht
        simp[fS18l2,fS18r0,fS18r1,fS18r2,fS18r3,fS18r4,fS18b0,fS18r5,fS18b1,fS18r6,fS18r7,fS18r8,fS18r9,fS18r10,fS18r11,fS18r12,fS18r13,fS18r14,fS18r15,fS18r16,fS18r17,fS18r18,fS18b2,fS18r19,fS18b3,fS18b4,fS18r20,fS18b5,fS18r21,fS18r22,fS18r23,fS18r24,fS18b6,fS18r25,fS18b7,fS18r26,fS18,hE,hil',hil,hx,hEq,g1,ht']
        exact LessQ.mk (Less.keep 0 (by simp) (by simp) rfl rfl) (hf (hno hok))
    | true =>
      by_cases hv:t.valid=true
      · have hoks:Ty.oks [t]=true:=by simp[Ty.oks,g1]
        have hszs:Ty.sizes [t]≤10000:=by simp[Ty.sizes]; exact g3
        have hlen:(varsM [t]).length≤10000:=by
          have e1:=idsOf_len (leavesL 1 [t] [])
          have e2:=(leavesL_len 1 [t] []).2
          simp at e2
          unfold varsM; omega
        have hok:s.slotOk ⟨true,t,ho,ba⟩↔∀ v∈varsM [t],v<s.slots.length:=by simp[Store.slotOk,hv]
        generalize hL:varsM [t]=L at hok hlen
        simp[fS18l2,fS18r0,fS18r1,fS18r2,fS18r3,fS18r4,fS18b0,fS18r5,fS18b1,fS18r6,fS18r7,fS18r8,fS18r9,fS18r10,fS18r11,fS18r12,fS18r13,fS18r14,fS18r15,fS18r16,fS18r17,fS18r18,fS18b2,fS18r19,fS18b3,fS18b4,fS18r20,fS18b5,fS18r21,fS18r22,fS18r23,fS18r24,fS18b6,fS18r25,fS18b7,fS18r26,fS18,hE,hil',hil,hx,hVa,g1,g2,g3,hv,hV,hoks,hszs,hL]
        refine Ls_lessQ (Ls_loop (LsN_less (Less.keep (TL:=[(1,.ptr 0 0 0),(4,.int .i64 (i:Int)),(6,.sl (L.map encI) false),(7,.int .i64 ((0:Nat):Int))]) (HL:=[(0,box (encStore s))]) 1 (by simp) (by simp) rfl rfl)
          (ref16_Valid_loop1 hρ hE hcon hlen ?_ ?_ L.length 0 (by omega) (by simp))))
        · intro h
          simp[fS18r0,fS18r1,fS18r2,fS18r3,fS18r4,fS18b0,fS18r5,fS18b1,fS18r6,fS18r7,fS18r8,fS18r9,fS18r10,fS18r11,fS18r12,fS18r13,fS18r14,fS18r15,fS18r16,fS18r17,fS18r18,fS18b2,fS18r19,fS18b3,fS18b4,fS18r20,fS18b5,fS18r21,fS18r22,fS18r23,fS18r24,fS18b6,fS18r25,fS18b7,fS18r26,fS18,hE]
          exact LessQ.mk (Less.keep 0 (by simp) (by simp) rfl rfl) (hf (hno fun e=>h (hok.1 e)))
        · intro h
          simp[fS18r0,fS18r1,fS18r2,fS18r3,fS18r4,fS18b0,fS18r5,fS18b1,fS18r6,fS18r7,fS18r8,fS18r9,fS18r10,fS18r11,fS18r12,fS18r13,fS18r14,fS18r15,fS18r16,fS18r17,fS18r18,fS18b2,fS18r19,fS18b3,fS18b4,fS18r20,fS18b5,fS18r21,fS18r22,fS18r23,fS18r24,fS18b6,fS18r25,fS18b7,fS18r26,fS18,hE,hw,-Int.natCast_add]
          exact hK _ _ (LsN_less (Less.keep 1 (by simp[-Int.natCast_add]) (by simp) rfl rfl) (hnx (hok.2 h)))
      · have hok:¬ s.slotOk ⟨true,t,ho,ba⟩:=by simp[Store.slotOk,hv]
        simp[fS18l2,fS18r0,fS18r1,fS18r2,fS18r3,fS18r4,fS18b0,fS18r5,fS18b1,fS18r6,fS18r7,fS18r8,fS18r9,fS18r10,fS18r11,fS18r12,fS18r13,fS18r14,fS18r15,fS18r16,fS18r17,fS18r18,fS18b2,fS18r19,fS18b3,fS18b4,fS18r20,fS18b5,fS18r21,fS18r22,fS18r23,fS18r24,fS18b6,fS18r25,fS18b7,fS18r26,fS18,hE,hil',hil,hx,hVa,g1,g2,g3,hv]
        exact LessQ.mk (Less.keep 0 (by simp) (by simp) rfl rfl) (hf (hno hok))
theorem ref16_Valid_loop3 (hcy:E.con 73=mtS 2 1 (mtF3 fun S s i fr=>cycF (s.slots.length+1) S s i fr))
    {s:Store} (hcl:s.closed) {Q:Ex→PT V→HS→Prop}
    (hf:(¬ ∀ i∈List.range s.slots.length,s.cyc i=false)→Q .ret (mkP [(2,.bool false)]) { H:=mkP [],n:=0,log:=[] })
    (hq:(∀ i∈List.range s.slots.length,s.cyc i=false)→Q (.exit 6) (mkP []) { H:=mkP [],n:=0,log:=[] }) :
    ∀ (n i:Nat),i+n=s.slots.length→(∀ k∈List.range i,s.cyc k=false)→LsN ρ E 0 92 fS18l3 (LessQ 0 Q) (n+1) (mkP [(1,.ptr 0 0 0),(8,.int .i64 (i:Int))]) { H:=mkP [(0,box (encStore s))],n:=1,log:=[] }:=by
  intro n
  induction n with
  | zero =>
    intro i hi he
    have hil:¬ (i:Int)<s.slots.length:=by omega
    obtain rfl:i=s.slots.length:=by omega
    refine lp hρ hE hcon fun K hK=>?_
    simp[fS18l3,fS18r0,fS18r1,fS18r2,fS18r3,fS18r4,fS18b0,fS18r5,fS18b1,fS18r6,fS18r7,fS18r8,fS18r9,fS18r10,fS18r11,fS18r12,fS18r13,fS18r14,fS18r15,fS18r16,fS18r17,fS18r18,fS18b2,fS18r19,fS18b3,fS18b4,fS18r20,fS18b5,fS18r21,fS18r22,fS18r23,fS18r24,fS18b6,fS18r25,fS18b7,fS18r26,fS18,hE,hil]
    exact LessQ.mk (Less.keep 0 (by simp) (by simp) rfl rfl) (hq he)
  | succ n ih =>
    intro i hi he
    have hil':(i:Int)<s.slots.length:=by omega
    have hll:=hcl.1
    have hw:IntKind.i64.wrap ((i:Int)+1)=((i+1:Nat):Int):=wrap_succ (by omega)
    have hroom:s.slots.length*8≤1048576:=by omega
    have hroom2:s.slots.length≤1048576:=by omega
    have hF:cycF (s.slots.length+1) (List.replicate s.slots.length 0) s (i:Int) (i:Int)=some (cycM s i (s.slots.length+1) i (List.replicate s.slots.length 0)):=by
      unfold cycF
      rw[if_pos ⟨hcl,by simp,by omega,hil',by have:=List.count_le_length (a:=(0:Int)) (l:=List.replicate s.slots.length 0); simp⟩]
    have hlen:=cycM_len s i (s.slots.length+1) i (List.replicate s.slots.length 0)
    have hcyc:s.cyc i=(cycM s i (s.slots.length+1) i (List.replicate s.slots.length 0)).2:=rfl
    generalize cycM s i (s.slots.length+1) i (List.replicate s.slots.length 0)=r at hF hlen hcyc
    obtain⟨S',b⟩:=r
    have e1:List.replicate s.slots.length [V.int IntKind.i64 0]=(List.replicate s.slots.length (0:Int)).map encI:=by rw[List.map_replicate]
    refine lp hρ hE hcon fun K hK=>?_
    cases b with
    | true =>
      simp[fS18l3,fS18r0,fS18r1,fS18r2,fS18r3,fS18r4,fS18b0,fS18r5,fS18b1,fS18r6,fS18r7,fS18r8,fS18r9,fS18r10,fS18r11,fS18r12,fS18r13,fS18r14,fS18r15,fS18r16,fS18r17,fS18r18,fS18b2,fS18r19,fS18b3,fS18b4,fS18r20,fS18b5,fS18r21,fS18r22,fS18r23,fS18r24,fS18b6,fS18r25,fS18b7,fS18r26,fS18,hE,hil',hcy,hroom,hroom2,e1,hF,-List.map_replicate]
      refine⟨rfl,by simpa using hlen.1,?_⟩
      exact LessQ.mk (Less.keep 0 (by simp) (by simp) rfl rfl) (hf fun h=>by have:=h i (List.mem_range.2 (by omega)); rw[hcyc] at this; cases this)
    | false =>
      simp[fS18l3,fS18r0,fS18r1,fS18r2,fS18r3,fS18r4,fS18b0,fS18r5,fS18b1,fS18r6,fS18r7,fS18r8,fS18r9,fS18r10,fS18r11,fS18r12,fS18r13,fS18r14,fS18r15,fS18r16,fS18r17,fS18r18,fS18b2,fS18r19,fS18b3,fS18b4,fS18r20,fS18b5,fS18r21,fS18r22,fS18r23,fS18r24,fS18b6,fS18r25,fS18b7,fS18r26,fS18,hE,hil',hcy,hroom,hroom2,e1,hF,hw,-List.map_replicate,-Int.natCast_add]
      refine⟨rfl,by simpa using hlen.1,?_⟩
      have hnx:∀ k∈List.range (i+1),s.cyc k=false:=by
        intro k hk
        rcases Nat.lt_succ_iff_lt_or_eq.1 (List.mem_range.1 hk) with h | rfl
        · exact he k (List.mem_range.2 h)
        · exact hcyc
      exact hK _ _ (LsN_less (Less.keep 1 (by simp[-Int.natCast_add]) (by simp) rfl rfl) (ih (i+1) (by omega) hnx))
theorem ref16_Valid_run (hcy:E.con 73=mtS 2 1 (mtF3 fun S s i fr=>cycF (s.slots.length+1) S s i fr)) (hEq:E.con 23=fnS (spec2 fun a b:Ty=>if a.ok=true then some (decide (a=b)) else none)) (hVa:E.con 72=fnS (spec1 fun t:Ty=>if t.size≤10000∧t.short=true then some t.valid else none))
    (hV:E.con 33=fnS (spec1 fun l:List Ty=>if Ty.oks l=true∧l.length≤10000∧Ty.sizes l≤10000 then some (varsM l) else none))
    {s:Store} (hfi:s.fine) (hs:HS):CallOk ρ Tryz.prog 18 [enc s] hs (enc s.valid) hs:=by
  refine fn hρ hE hcon Tryz.func18 fB18 rfl (by simp) ?_ hs
  simp[fS18r0,fS18r1,fS18r2,fS18r3,fS18r4,fS18b0,fS18r5,fS18b1,fS18r6,fS18r7,fS18r8,fS18r9,fS18r10,fS18r11,fS18r12,fS18r13,fS18r14,fS18r15,fS18r16,fS18r17,fS18r18,fS18b2,fS18r19,fS18b3,fS18b4,fS18r20,fS18b5,fS18r21,fS18r22,fS18r23,fS18r24,fS18b6,fS18r25,fS18b7,fS18r26,fS18,hE]
  refine Ls_lessQ (Ls_loop (LsN_less (Less.keep (TL:=[(1,.ptr 0 0 0),(3,.int .i64 ((0:Nat):Int))]) (HL:=[(0,box (encStore s))]) 1 (by simp) (by simp) rfl rfl) (ref16_Valid_loop0 hρ hE hcon hfi.2.1 ?_ ?_ s.trail.length 0 (by omega) (by simp))))
  · intro h1
    have e:s.valid=false:=by unfold Store.valid; rw[decide_eq_false h1]; rfl
    simp[fS18r0,fS18r1,fS18r2,fS18r3,fS18r4,fS18b0,fS18r5,fS18b1,fS18r6,fS18r7,fS18r8,fS18r9,fS18r10,fS18r11,fS18r12,fS18r13,fS18r14,fS18r15,fS18r16,fS18r17,fS18r18,fS18b2,fS18r19,fS18b3,fS18b4,fS18r20,fS18b5,fS18r21,fS18r22,fS18r23,fS18r24,fS18b6,fS18r25,fS18b7,fS18r26,fS18,hE,e]
  intro h1
  simp[fS18r0,fS18r1,fS18r2,fS18r3,fS18r4,fS18b0,fS18r5,fS18b1,fS18r6,fS18r7,fS18r8,fS18r9,fS18r10,fS18r11,fS18r12,fS18r13,fS18r14,fS18r15,fS18r16,fS18r17,fS18r18,fS18b2,fS18r19,fS18b3,fS18b4,fS18r20,fS18b5,fS18r21,fS18r22,fS18r23,fS18r24,fS18b6,fS18r25,fS18b7,fS18r26,fS18,hE]
  refine Ls_lessQ (Ls_loop (LsN_less (Less.keep (TL:=[(1,.ptr 0 0 0),(4,.int .i64 ((0:Nat):Int))]) (HL:=[(0,box (encStore s))]) 1 (by simp) (by simp) rfl rfl) (ref16_Valid_loop2 hρ hE hcon hEq hVa hV hfi ?_ ?_ s.slots.length 0 (by omega) (by simp))))
  · intro h2
    have e:s.valid=false:=by unfold Store.valid; rw[decide_eq_false h2]; simp
    simp[fS18r0,fS18r1,fS18r2,fS18r3,fS18r4,fS18b0,fS18r5,fS18b1,fS18r6,fS18r7,fS18r8,fS18r9,fS18r10,fS18r11,fS18r12,fS18r13,fS18r14,fS18r15,fS18r16,fS18r17,fS18r18,fS18b2,fS18r19,fS18b3,fS18b4,fS18r20,fS18b5,fS18r21,fS18r22,fS18r23,fS18r24,fS18b6,fS18r25,fS18b7,fS18r26,fS18,hE,e]
  intro h2
  simp[fS18r0,fS18r1,fS18r2,fS18r3,fS18r4,fS18b0,fS18r5,fS18b1,fS18r6,fS18r7,fS18r8,fS18r9,fS18r10,fS18r11,fS18r12,fS18r13,fS18r14,fS18r15,fS18r16,fS18r17,fS18r18,fS18b2,fS18r19,fS18b3,fS18b4,fS18r20,fS18b5,fS18r21,fS18r22,fS18r23,fS18r24,fS18b6,fS18r25,fS18b7,fS18r26,fS18,hE]
  refine Ls_lessQ (Ls_loop (LsN_less (Less.keep (TL:=[(1,.ptr 0 0 0),(8,.int .i64 ((0:Nat):Int))]) (HL:=[(0,box (encStore s))]) 1 (by simp) (by simp) rfl rfl) (ref16_Valid_loop3 hρ hE hcon hcy (Store.closed_of hfi h2) ?_ ?_ s.slots.length 0 (by omega) (by simp))))
  · intro h3
    have e:s.valid=false:=by unfold Store.valid; rw[decide_eq_false h3]; simp
    simp[fS18r0,fS18r1,fS18r2,fS18r3,fS18r4,fS18b0,fS18r5,fS18b1,fS18r6,fS18r7,fS18r8,fS18r9,fS18r10,fS18r11,fS18r12,fS18r13,fS18r14,fS18r15,fS18r16,fS18r17,fS18r18,fS18b2,fS18r19,fS18b3,fS18b4,fS18r20,fS18b5,fS18r21,fS18r22,fS18r23,fS18r24,fS18b6,fS18r25,fS18b7,fS18r26,fS18,hE,e]
  intro h3
  have e:s.valid=true:=by unfold Store.valid; rw[decide_eq_true h1,decide_eq_true h2,decide_eq_true h3]; rfl
  simp[fS18r0,fS18r1,fS18r2,fS18r3,fS18r4,fS18b0,fS18r5,fS18b1,fS18r6,fS18r7,fS18r8,fS18r9,fS18r10,fS18r11,fS18r12,fS18r13,fS18r14,fS18r15,fS18r16,fS18r17,fS18r18,fS18b2,fS18r19,fS18b3,fS18b4,fS18r20,fS18b5,fS18r21,fS18r22,fS18r23,fS18r24,fS18b6,fS18r25,fS18b7,fS18r26,fS18,hE,e]
end
end Go.Proofs.YthfcfmkdeheicaaGreat
