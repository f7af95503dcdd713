import Derived.Test.YthfcfmkdeheicaaGreatGP7
import Derived.Test.YthfcfmkdeheicaaGreatGM1
set_option linter.all false
noncomputable section
/- Names,constructors,valid types. -/
namespace Go.Proofs.YthfcfmkdeheicaaGreat
open Go.J
open Go.J.Enc (enc)
set_option maxRecDepth 100000
set_option maxHeartbeats 1000000
def nameN (f l:Nat) (s:List Nat):Bool:=decide (1≤s.length)&&decide (s.length≤12)&&decide (f≤s.headD 0)&&decide (s.headD 0≤l)&&s.all innerB&&decide (s ∉ keywords)
theorem nameN_lower (s:List Nat):nameN 97 122 s=lowerN s:=by
  rw[Bool.eq_iff_iff]
  rcases s with _ | ⟨c,s⟩
  · simp[nameN,lowerN,wordN]
  · simp only[nameN,lowerN,wordN,lowerB,Bool.and_eq_true,decide_eq_true_eq,List.headD_cons,List.isEmpty_cons,Bool.not_false]
    constructor
    · rintro ⟨⟨⟨⟨⟨a,b⟩,c⟩,d⟩,e⟩,f⟩; exact⟨⟨⟨⟨e,trivial⟩,c,d⟩,b⟩,f⟩
    · rintro ⟨⟨⟨⟨e,_⟩,c,d⟩,b⟩,f⟩; exact⟨⟨⟨⟨⟨by simp,b⟩,c⟩,d⟩,e⟩,f⟩
theorem nameN_upper (s:List Nat):nameN 65 90 s=upperN s:=by
  rw[Bool.eq_iff_iff]
  rcases s with _ | ⟨c,s⟩
  · simp[nameN,upperN,wordN]
  · by_cases hk:(c::s)∈keywords
    · have h1:upperN (c::s)=false:=by
        simp only[keywords,List.mem_cons,List.not_mem_nil,or_false] at hk
        rcases hk with e | e | e | e | e | e | e<;>rw[e]<;>rfl
      have h2:nameN 65 90 (c::s)=false:=by unfold nameN; rw[decide_eq_false (by simpa using hk:¬ (c::s) ∉ keywords)]; simp
      rw[h1,h2]
    · simp only[nameN,upperN,wordN,upperB,Bool.and_eq_true,decide_eq_true_eq,List.headD_cons,List.isEmpty_cons,Bool.not_false]
      constructor
      · rintro ⟨⟨⟨⟨⟨a,b⟩,c⟩,d⟩,e⟩,f⟩; exact⟨⟨⟨e,trivial⟩,c,d⟩,b⟩
      · rintro ⟨⟨⟨e,_⟩,c,d⟩,b⟩; exact⟨⟨⟨⟨⟨by simp,b⟩,c⟩,d⟩,e⟩,hk⟩
def conN (s:List Nat) (n:Int):Bool:=if s=[45,62] then decide (n=2) else if s=[73,110,116] then decide (n=0) else upperN s&&decide (n≤4)
section
variable {ρ:Nat→Value} (hρ:J.Good ρ)
include hρ
section
variable {E:Env} (hE:E.P=Tryz.prog) (hcon:ConsOk ρ E)
include hE hcon
theorem types_name_run {s:List Nat} {f l:Byte} (hl:s.length<2^63) (hs:HS):CallOk ρ Tryz.prog 108 [enc s,enc f,enc l] hs (enc (nameN f.n l.n s)) hs:=by
  refine fn hρ hE hcon Tryz.func108 fB108 rfl (by simp) ?_ hs
  obtain⟨f⟩:=f
  obtain⟨l⟩:=l
  by_cases h0:s=[]
  · subst h0
    simp[fS108r0,fS108r1,fS108r2,fS108r3,fS108r4,fS108r5,fS108r6,fS108r7,fS108r8,fS108r9,fS108b0,fS108r10,fS108b1,fS108r11,fS108r12,fS108r13,fS108r14,fS108r15,fS108r16,fS108r17,fS108r18,fS108r19,fS108b2,fS108r20,fS108,hE,nameN]
  have hpos:0<s.length:=List.length_pos_iff.2 h0
  have hpos1:1≤s.length:=hpos
  have hn1:¬ (s.length:Int)<1:=by omega
  by_cases h12:s.length≤12
  case neg =>
    have h12':(12:Int)<s.length:=by omega
    simp[fS108r0,fS108r1,fS108r2,fS108r3,fS108r4,fS108r5,fS108r6,fS108r7,fS108r8,fS108r9,fS108b0,fS108r10,fS108b1,fS108r11,fS108r12,fS108r13,fS108r14,fS108r15,fS108r16,fS108r17,fS108r18,fS108r19,fS108b2,fS108r20,fS108,hE,nameN,hn1,h12,h12']
  have h12':¬ (12:Int)<s.length:=by omega
  have hhd:s.headD 0=s[0]:=by
    rcases s with _ | ⟨c,s⟩
    · exact absurd rfl h0
    · rfl
  by_cases hf:f≤s[0]
  case neg =>
    have hf':(s[0]:Int)<f:=by omega
    have hz:nameN f l s=false:=by unfold nameN; rw[hhd,decide_eq_false hf]; simp
    simp[fS108r0,fS108r1,fS108r2,fS108r3,fS108r4,fS108r5,fS108r6,fS108r7,fS108r8,fS108r9,fS108b0,fS108r10,fS108b1,fS108r11,fS108r12,fS108r13,fS108r14,fS108r15,fS108r16,fS108r17,fS108r18,fS108r19,fS108b2,fS108r20,fS108,hE,hz,hn1,h12,h12',hpos,hpos1,hf,hf']
  have hf':¬ (s[0]:Int)<f:=by omega
  by_cases hg:s[0]≤l
  case neg =>
    have hg':(l:Int)<s[0]:=by omega
    have hz:nameN f l s=false:=by unfold nameN; rw[hhd,decide_eq_false hg]; simp
    simp[fS108r0,fS108r1,fS108r2,fS108r3,fS108r4,fS108r5,fS108r6,fS108r7,fS108r8,fS108r9,fS108b0,fS108r10,fS108b1,fS108r11,fS108r12,fS108r13,fS108r14,fS108r15,fS108r16,fS108r17,fS108r18,fS108r19,fS108b2,fS108r20,fS108,hE,hz,hn1,h12,h12',hpos,hpos1,hf,hf',hg,hg']
  have hg':¬ (l:Int)<s[0]:=by omega
  have hres:nameN f l s=(s.all innerB&&decide (s ∉ keywords)):=by
    unfold nameN; rw[hhd,decide_eq_true hpos1,decide_eq_true h12,decide_eq_true hf,decide_eq_true hg]; rfl
  generalize hr:nameN f l s=r at hres
  simp[fS108r0,fS108r1,fS108r2,fS108r3,fS108r4,fS108r5,fS108r6,fS108r7,fS108r8,fS108r9,fS108b0,fS108r10,fS108b1,fS108r11,fS108r12,fS108r13,fS108r14,fS108r15,fS108r16,fS108r17,fS108r18,fS108r19,fS108b2,fS108r20,fS108,hE,hn1,h12',hpos,hf',hg']
  refine lpi hρ hE hcon s.length (nn:=0) (fun i (_:Unit)=>[(0,.str s),(31,.int .i64 (s.length:Int)),(32,.int .i64 (i:Int))]) (fun i _=>[]) (fun i _=>(s.take i).all innerB=true) ()
    (Less.auto (by simp) (by simp) rfl rfl) (by simp) ?_ ?_
  · intro _ he K
    rw[List.take_length] at he
    rw[he,Bool.true_and] at hres
    subst hres
    simp[fS108l0,fS108r0,fS108r1,fS108r2,fS108r3,fS108r4,fS108r5,fS108r6,fS108r7,fS108r8,fS108r9,fS108b0,fS108r10,fS108b1,fS108r11,fS108r12,fS108r13,fS108r14,fS108r15,fS108r16,fS108r17,fS108r18,fS108r19,fS108b2,fS108r20,fS108,hE]
    refine LessQ.mk (Less.auto (TL:=[(0,.str s)]) (HL:=[]) (n:=0) (by simp) (by simp) rfl rfl) ?_
    clear hr hhd hf hf' hg hg' he h12 h12' hpos hpos1 hn1 hl
    by_cases k1:s=[100,97,116,97]
    · subst k1; simp[fS108r0,fS108r1,fS108r2,fS108r3,fS108r4,fS108r5,fS108r6,fS108r7,fS108r8,fS108r9,fS108b0,fS108r10,fS108b1,fS108r11,fS108r12,fS108r13,fS108r14,fS108r15,fS108r16,fS108r17,fS108r18,fS108r19,fS108b2,fS108r20,fS108,hE,keywords]
    by_cases k2:s=[108,101,116]
    · subst k2; simp[fS108r0,fS108r1,fS108r2,fS108r3,fS108r4,fS108r5,fS108r6,fS108r7,fS108r8,fS108r9,fS108b0,fS108r10,fS108b1,fS108r11,fS108r12,fS108r13,fS108r14,fS108r15,fS108r16,fS108r17,fS108r18,fS108r19,fS108b2,fS108r20,fS108,hE,keywords]
    by_cases k3:s=[114,101,99]
    · subst k3; simp[fS108r0,fS108r1,fS108r2,fS108r3,fS108r4,fS108r5,fS108r6,fS108r7,fS108r8,fS108r9,fS108b0,fS108r10,fS108b1,fS108r11,fS108r12,fS108r13,fS108r14,fS108r15,fS108r16,fS108r17,fS108r18,fS108r19,fS108b2,fS108r20,fS108,hE,keywords]
    by_cases k4:s=[105,110]
    · subst k4; simp[fS108r0,fS108r1,fS108r2,fS108r3,fS108r4,fS108r5,fS108r6,fS108r7,fS108r8,fS108r9,fS108b0,fS108r10,fS108b1,fS108r11,fS108r12,fS108r13,fS108r14,fS108r15,fS108r16,fS108r17,fS108r18,fS108r19,fS108b2,fS108r20,fS108,hE,keywords]
    by_cases k5:s=[99,97,115,101]
    · subst k5; simp[fS108r0,fS108r1,fS108r2,fS108r3,fS108r4,fS108r5,fS108r6,fS108r7,fS108r8,fS108r9,fS108b0,fS108r10,fS108b1,fS108r11,fS108r12,fS108r13,fS108r14,fS108r15,fS108r16,fS108r17,fS108r18,fS108r19,fS108b2,fS108r20,fS108,hE,keywords]
    by_cases k6:s=[111,102]
    · subst k6; simp[fS108r0,fS108r1,fS108r2,fS108r3,fS108r4,fS108r5,fS108r6,fS108r7,fS108r8,fS108r9,fS108b0,fS108r10,fS108b1,fS108r11,fS108r12,fS108r13,fS108r14,fS108r15,fS108r16,fS108r17,fS108r18,fS108r19,fS108b2,fS108r20,fS108,hE,keywords]
    by_cases k7:s=[101,110,100]
    · subst k7; simp[fS108r0,fS108r1,fS108r2,fS108r3,fS108r4,fS108r5,fS108r6,fS108r7,fS108r8,fS108r9,fS108b0,fS108r10,fS108b1,fS108r11,fS108r12,fS108r13,fS108r14,fS108r15,fS108r16,fS108r17,fS108r18,fS108r19,fS108b2,fS108r20,fS108,hE,keywords]
    simp[fS108r0,fS108r1,fS108r2,fS108r3,fS108r4,fS108r5,fS108r6,fS108r7,fS108r8,fS108r9,fS108b0,fS108r10,fS108b1,fS108r11,fS108r12,fS108r13,fS108r14,fS108r15,fS108r16,fS108r17,fS108r18,fS108r19,fS108b2,fS108r20,fS108,hE,keywords,k1,k2,k3,k4,k5,k6,k7]
  · intro i _ hi he K hK
    have hi':(i:Int)<s.length:=by omega
    have hw2:IntKind.i64.wrap ((i:Int)+1)=((i+1:Nat):Int):=wrap_succ (by omega)
    have hnx:innerB s[i]=true→(s.take (i+1)).all innerB=true:=fun hb=>by
      rw[List.take_add_one,List.getElem?_eq_getElem hi,List.all_append,he]; simp[hb]
    have hbad:innerB s[i]=false→r=false:=fun hb=>by
      rw[hres,List.all_eq_false.2 ⟨_,List.getElem_mem hi,by simp[hb]⟩,Bool.false_and]
    clear hr hres hhd hf hf' hg hg' he h12 h12' hn1
    have q1:((97:Int)≤(s[i]:Int))↔97≤s[i]:=by omega
    have q2:((s[i]:Int)≤122)↔s[i]≤122:=by omega
    have q3:((65:Int)≤(s[i]:Int))↔65≤s[i]:=by omega
    have q4:((s[i]:Int)≤90)↔s[i]≤90:=by omega
    have q5:((s[i]:Int)<48)↔¬ 48≤s[i]:=by omega
    have q6:((57:Int)<(s[i]:Int))↔¬ s[i]≤57:=by omega
    have q7:((s[i]:Int)=95)↔s[i]=95:=by omega
    have hnew:=fun h=>hK () (hnx h)
    clear hK hnx
    by_cases a1:97≤s[i]<;>by_cases a2:s[i]≤122<;>by_cases a3:65≤s[i]<;>by_cases a4:s[i]≤90<;>try omega
    all_goals by_cases a5:48≤s[i]<;>by_cases a6:s[i]≤57<;>by_cases a7:s[i]=95<;>try omega
    all_goals
      first
      | (have hb:innerB s[i]=true:=by simp[innerB,lowerB,upperB,digitB,a1,a2,a3,a4,a5,a6,a7]
         have hnew:=hnew hb
         clear hbad hb
         simp[fS108l0,fS108r0,fS108r1,fS108r2,fS108r3,fS108r4,fS108r5,fS108r6,fS108r7,fS108r8,fS108r9,fS108b0,fS108r10,fS108b1,fS108r11,fS108r12,fS108r13,fS108r14,fS108r15,fS108r16,fS108r17,fS108r18,fS108r19,fS108b2,fS108r20,fS108,hE,hi,hi',hw2,q1,q2,q3,q4,q5,q6,q7,a1,a2,a3,a4,a5,a6,a7,-Int.natCast_add]
         exact hnew _ _ (Less.auto (by simp[-Int.natCast_add]) (by simp) rfl rfl))
      | (have hb:innerB s[i]=false:=by simp[innerB,lowerB,upperB,digitB,a1,a2,a3,a4,a5,a6,a7]
         have hbad:=hbad hb
         subst hbad
         clear hnew hb
         simp[fS108l0,fS108r0,fS108r1,fS108r2,fS108r3,fS108r4,fS108r5,fS108r6,fS108r7,fS108r8,fS108r9,fS108b0,fS108r10,fS108b1,fS108r11,fS108r12,fS108r13,fS108r14,fS108r15,fS108r16,fS108r17,fS108r18,fS108r19,fS108b2,fS108r20,fS108,hE,hi,hi',hw2,q1,q2,q3,q4,q5,q6,q7,a1,a2,a3,a4,a5,a6,a7,-Int.natCast_add]
         refine LessQ.mk (Less.auto (TL:=[(6,.bool false)]) (HL:=[]) (n:=0) (by simp) (by simp) rfl rfl) ?_
         simp[fS108r0,fS108r1,fS108r2,fS108r3,fS108r4,fS108r5,fS108r6,fS108r7,fS108r8,fS108r9,fS108b0,fS108r10,fS108b1,fS108r11,fS108r12,fS108r13,fS108r14,fS108r15,fS108r16,fS108r17,fS108r18,fS108r19,fS108b2,fS108r20,fS108,hE])
theorem types_constructor_run (hN:E.con 108=fnS (spec3 fun (s:List Nat) (f l:Byte)=>if s.length<2^63 then some (nameN f.n l.n s) else none)) {s:List Nat} {n:Int} (hl:s.length<2^63) (hs:HS):CallOk ρ Tryz.prog 109 [enc s,enc n] hs (enc (conN s n)) hs:=by
  refine fn hρ hE hcon Tryz.func109 fB109 rfl (by simp) ?_ hs
  simp only[show (2:Nat)^63=9223372036854775808 from rfl] at hN hl
  have d1:(Enc.dec (V.int .u8 65):Option Byte)=some ⟨65⟩:=rfl
  have d2:(Enc.dec (V.int .u8 90):Option Byte)=some ⟨90⟩:=rfl
  by_cases ha:s=[45,62]
  · subst ha; simp[fS109r0,fS109r1,fS109r2,fS109r3,fS109r4,fS109r5,fS109b0,fS109r6,fS109,hE,conN]
  by_cases hb:s=[73,110,116]
  · subst hb; simp[fS109r0,fS109r1,fS109r2,fS109r3,fS109r4,fS109r5,fS109b0,fS109r6,fS109,hE,conN]
  have hu:=nameN_upper s
  cases hc:upperN s<;>rw[hc] at hu<;>simp[fS109r0,fS109r1,fS109r2,fS109r3,fS109r4,fS109r5,fS109b0,fS109r6,fS109,hE,conN,ha,hb,hN,hl,d1,d2,hu,hc]
end
def nameS:J.Spec:=fnS (spec3 fun (s:List Nat) (f l:Byte)=>if s.length<2^63 then some (nameN f.n l.n s) else none)
theorem vName:Valid ρ Tryz.prog 108 nameS:=v3 (fo Tryz.func108 fB108) fun a b c r h hs=>by
  obtain⟨h1,rfl⟩:=ite_inv h
  exact types_name_run hρ (E:=EL []) rfl (consOk_list valid_nil) h1 hs
def conSp:J.Spec:=fnS (spec2 fun (s:List Nat) (n:Int)=>if s.length<2^63 then some (conN s n) else none)
theorem vConstructor:Valid ρ Tryz.prog 109 conSp:=v2 (fo Tryz.func109 fB109) fun a b r h hs=>by
  obtain⟨h1,rfl⟩:=ite_inv h
  exact types_constructor_run hρ (E:=EL [(108,nameS)]) rfl (consOk_list (valid_cons (vName hρ) valid_nil)) rfl h1 hs
end
end Go.Proofs.YthfcfmkdeheicaaGreat
