import Derived.Test.YthfcfmkdeheicaaGreatGVA
set_option linter.all false
noncomputable section
/- Valid types. -/
namespace Go.Proofs.YthfcfmkdeheicaaGreat
open Go.J
open Go.J.Enc (enc)
set_option maxRecDepth 100000
set_option maxHeartbeats 1000000
def idxF {α:Type} (f:α→Bool):List α→Int→Int
  | [],_=>-1
  | x::l,i=>if f x=true then i else idxF f l (i+1)
theorem idxF_ge {α:Type} (f:α→Bool):∀ (l:List α) (i:Int),0≤i→decide (0≤idxF f l i)=l.any f:=by
  intro l
  induction l with
  | nil=>intro i h; simp[idxF]
  | cons y l ih =>
    intro i h
    rw[idxF]
    split
    · rename_i e; simp[e,h]
    · rename_i e
      rw[ih (i+1) (by omega)]
      simp[e]
theorem any_inv (l:List Ty):(l.any fun t=>!t.valid)=!Ty.valids l:=by
  induction l with
  | nil=>rfl
  | cons t l ih=>simp only[List.any_cons,ih,Ty.valids,Bool.not_and]
theorem shorts_mem {l:List Ty} (h:Ty.shorts l=true) {t:Ty} (ht:t∈l):t.short=true:=Ty.shorts_iff.1 h t ht
def tvalidS (d:Nat):J.Spec:=fnS (spec1 fun t:Ty=>if t.size≤d∧t.short=true then some t.valid else none)
def invF (d:Nat) (t:Ty):Option Bool:=if t.size≤d∧t.short=true then some (!t.valid) else none
def invIF (g d:Nat) (vs:List V):Option V:=match vs with
  | [a,.func g' []]=>gd (Nat.beq g' g) (ob (Enc.dec a:Option (List Ty)) fun l=>if l.length≤100000∧Ty.sizes l≤d∧Ty.shorts l=true then some (enc (idxF (fun t:Ty=>!t.valid) l 0)) else none)
  | _=>none
def invCF (g d:Nat) (vs:List V):Option V:=match vs with
  | [a,.func g' []]=>gd (Nat.beq g' g) (ob (Enc.dec a:Option (List Ty)) fun l=>if l.length≤100000∧Ty.sizes l≤d∧Ty.shorts l=true then some (enc (!Ty.valids l)) else none)
  | _=>none
theorem invIF_inv {g d:Nat} {vs:List V} {v:V} (h:invIF g d vs=some v):∃ l:List Ty,vs=[enc l,.func g []]∧l.length≤100000∧Ty.sizes l≤d∧Ty.shorts l=true∧v=enc (idxF (fun t:Ty=>!t.valid) l 0):=by
  unfold invIF at h
  split at h
  · simp only[gd_eq,ob_eq,J.beq_true] at h
    obtain⟨rfl,l,hl,h⟩:=h
    obtain⟨⟨h1,h2,h3⟩,rfl⟩:=ite_inv h
    exact⟨l,by rw[Enc.enc_dec _ _ hl],h1,h2,h3,rfl⟩
  · cases h
theorem invCF_inv {g d:Nat} {vs:List V} {v:V} (h:invCF g d vs=some v):∃ l:List Ty,vs=[enc l,.func g []]∧l.length≤100000∧Ty.sizes l≤d∧Ty.shorts l=true∧v=enc (!Ty.valids l):=by
  unfold invCF at h
  split at h
  · simp only[gd_eq,ob_eq,J.beq_true] at h
    obtain⟨rfl,l,hl,h⟩:=h
    obtain⟨⟨h1,h2,h3⟩,rfl⟩:=ite_inv h
    exact⟨l,by rw[Enc.enc_dec _ _ hl],h1,h2,h3,rfl⟩
  · cases h
section
variable {ρ:Nat→Value} (hρ:J.Good ρ)
include hρ
section
variable {E:Env} (hE:E.P=Tryz.prog) (hcon:ConsOk ρ E)
include hE hcon
theorem types_invalid_run {d:Nat} (hc:E.con 64=tvalidS d) {t:Ty} (h1:t.size≤d) (h2:t.short=true) (hs:HS):CallOk ρ Tryz.prog 111 [enc t] hs (enc (!t.valid)) hs:=by
  refine fn hρ hE hcon Tryz.func111 fB111 rfl (by simp) ?_ hs
  cases hv:t.valid<;>simp[fS111r0,fS111r1,fS111,hE,hc,tvalidS,h1,h2,hv]
theorem invIndex_run {d:Nat} (hc:E.con 111=fnS (spec1 (invF d))) {l:List Ty} (hl:l.length≤100000) (hd:Ty.sizes l≤d) (hsh:Ty.shorts l=true) (hs:HS) :
    CallOk ρ Tryz.prog 149 [enc l,.func 111 []] hs (enc (idxF (fun t:Ty=>!t.valid) l 0)) hs:=by
  refine fn hρ hE hcon Tryz.func149 fB149 rfl (by simp) ?_ hs
  generalize hr:idxF (fun t:Ty=>!t.valid) l 0=r
  simp[fS149r0,fS149r1,fS149r2,fS149r3,fS149r4,fS149r5,fS149b0,fS149r6,fS149b1,fS149r7,fS149,hE]
  refine lpi hρ hE hcon l.length (nn:=0) (fun i (_:Unit)=>[(0,.sl (l.map encTy) false),(1,.func 111 []),(7,.int .i64 (l.length:Int)),(8,.int .i64 (i:Int))]) (fun i _=>[]) (fun i _=>idxF (fun t:Ty=>!t.valid) (l.drop i) (i:Int)=r) ()
    (Less.auto (by simp) (by simp) (by simp) (by simp)) (by simpa using hr) ?_ ?_
  · intro _ h K
    rw[List.drop_length,idxF] at h
    simp[fS149l0,fS149r0,fS149r1,fS149r2,fS149r3,fS149r4,fS149r5,fS149b0,fS149r6,fS149b1,fS149r7,fS149,hE]
    refine LessQ.mk (Less.auto (TL:=[]) (HL:=[]) (n:=0) (by simp) (by simp) (by simp) (by simp)) ?_
    simp[fS149r0,fS149r1,fS149r2,fS149r3,fS149r4,fS149r5,fS149b0,fS149r6,fS149b1,fS149r7,fS149,hE,← h]
  · intro i _ hi h K hK
    have hi':(i:Int)<l.length:=by omega
    have hw2:IntKind.i64.wrap ((i:Int)+1)=((i+1:Nat):Int):=wrap_succ (by omega)
    have hmem:=List.getElem_mem hi
    have hm5:(i*5) / 5=i:=by omega
    have hm6:(i*5) % 5=0:=by omega
    have hF:invF d l[i]=some (!l[i].valid):=if_pos ⟨by have:=Ty.size_mem hmem; omega,shorts_mem hsh hmem⟩
    rw[List.drop_eq_getElem_cons hi,idxF] at h
    cases hv:l[i].valid with
    | false =>
      simp only[hv,Bool.not_false,↓reduceIte] at h hF
      simp[fS149l0,fS149r0,fS149r1,fS149r2,fS149r3,fS149r4,fS149r5,fS149b0,fS149r6,fS149b1,fS149r7,fS149,hE,hi,hi',hm5,hm6,hc,hF]
      refine LessQ.mk (Less.auto (TL:=[(4,.int .i64 (i:Int))]) (HL:=[]) (n:=0) (by simp) (by simp) (by simp) (by simp)) ?_
      simp[fS149r0,fS149r1,fS149r2,fS149r3,fS149r4,fS149r5,fS149b0,fS149r6,fS149b1,fS149r7,fS149,hE,← h]
    | true =>
      simp only[hv,Bool.not_true,Bool.false_eq_true,↓reduceIte] at h hF
      have hnew:=hK () h
      simp[fS149l0,fS149r0,fS149r1,fS149r2,fS149r3,fS149r4,fS149r5,fS149b0,fS149r6,fS149b1,fS149r7,fS149,hE,hi,hi',hm5,hm6,hc,hF,hw2,-Int.natCast_add]
      exact hnew _ _ (Less.auto (by simp[-Int.natCast_add]) (by simp) (by simp) (by simp))
theorem invContains_run {d:Nat} (hc:E.con 149=fnS (invIF 111 d)) {l:List Ty} (hl:l.length≤100000) (hd:Ty.sizes l≤d) (hsh:Ty.shorts l=true) (hs:HS) :
    CallOk ρ Tryz.prog 110 [enc l,.func 111 []] hs (enc (!Ty.valids l)) hs:=by
  refine fn hρ hE hcon Tryz.func110 fB110 rfl (by simp) ?_ hs
  have hge:=idxF_ge (fun t:Ty=>!t.valid) l 0 (Int.le_refl _)
  rw[any_inv] at hge
  generalize hx:idxF (fun t:Ty=>!t.valid) l 0=x at hge
  rw[← hge]
  simp[fS110r0,fS110r1,fS110,hE,hc,invIF,hl,hd,hsh,hx]
theorem types_Valid_run {d:Nat} (hN:E.con 108=nameS) (hK:E.con 109=conSp) (hC:E.con 110=fnS (invCF 111 d))
    {t:Ty} (ht:t.size≤d+1) (hll:t.args.length≤100000) (hsh:t.short=true) (hs:HS):CallOk ρ Tryz.prog 64 [enc t] hs (enc t.valid) hs:=by
  refine fn hρ hE hcon Tryz.func64 fB64 rfl (by simp) ?_ hs
  have hts:=Ty.size_eq t
  obtain⟨hnm,hshs⟩:=Ty.short_iff.1 hsh
  obtain⟨k,nm,i,h,l⟩:=t
  simp only[Ty.name_mk,Ty.args_mk] at hnm hll hshs hts
  have hd:Ty.sizes l≤d:=by omega
  clear hts ht hsh
  have d1:(Enc.dec (V.int .u8 97):Option Byte)=some ⟨97⟩:=rfl
  have d2:(Enc.dec (V.int .u8 122):Option Byte)=some ⟨122⟩:=rfl
  have hlow:=nameN_lower nm
  have hl0:((l.length:Int)=0)↔l=[]:=by
    rw[← List.length_eq_zero_iff]; omega
  simp only[nameS,conSp,show (2:Nat)^63=9223372036854775808 from rfl] at hN hK hnm
  by_cases h1:k=1
  · subst h1
    by_cases hn:nm=[]<;>by_cases hlz:l=[]<;>by_cases hi1:0≤i<;>by_cases hi2:i≤1000000<;>by_cases hh:h=0<;>simp[fS64r0,fS64r1,fS64r2,fS64r3,fS64r4,fS64r5,fS64r6,fS64r7,fS64r8,fS64r9,fS64r10,fS64r11,fS64b0,fS64r12,fS64,hE,Ty.valid,hl0,hn,hlz,hi1,hi2,hh]
  by_cases h2:k=2
  · subst h2
    by_cases hn:nm=[]<;>by_cases hlz:l=[]<;>by_cases hi1:0≤i<;>by_cases hi2:i≤1000000<;>by_cases hh:h=0<;>simp[fS64r0,fS64r1,fS64r2,fS64r3,fS64r4,fS64r5,fS64r6,fS64r7,fS64r8,fS64r9,fS64r10,fS64r11,fS64b0,fS64r12,fS64,hE,Ty.valid,hl0,hn,hlz,hi1,hi2,hh]
  by_cases h3:k=3
  · subst h3
    by_cases hn:nm=[]<;>by_cases hlz:l=[]<;>by_cases hi1:0≤i<;>by_cases hi2:i≤1000000<;>by_cases hh:-1≤h<;>by_cases hh2:h≤1000000<;>simp[fS64r0,fS64r1,fS64r2,fS64r3,fS64r4,fS64r5,fS64r6,fS64r7,fS64r8,fS64r9,fS64r10,fS64r11,fS64b0,fS64r12,fS64,hE,Ty.valid,hl0,hn,hlz,hi1,hi2,hh,hh2]
  by_cases h5:k=5
  · subst h5
    have hv:Ty.valid (.mk 5 nm i h l)=(decide (l=[])&&decide (i=0)&&decide (h=0)&&lowerN nm):=by
      have hlz:decide (l.length=0)=decide (l=[]):=by rw[Bool.eq_iff_iff]; simp
      simp only[Ty.valid,show ¬ ((5:Int)=1∨(5:Int)=2) by decide,show ¬ (5:Int)=3 by decide,↓reduceIte,hlz]
      cases decide (l=[])<;>cases decide (i=0)<;>cases decide (h=0)<;>rfl
    rw[hv]
    by_cases hi0:i=0
    · subst hi0
      by_cases hn:nm=[]
      · subst hn
        have hlw:lowerN []=false:=rfl
        rw[hlw] at hlow
        by_cases hlz:l=[]<;>by_cases hh:h=0<;>simp[fS64r0,fS64r1,fS64r2,fS64r3,fS64r4,fS64r5,fS64r6,fS64r7,fS64r8,fS64r9,fS64r10,fS64r11,fS64b0,fS64r12,fS64,hE,hl0,hlz,hh,hN,hnm,d1,d2,hlow,hlw]
      · cases hlw:lowerN nm<;>rw[hlw] at hlow<;>by_cases hlz:l=[]<;>by_cases hh:h=0<;>simp[fS64r0,fS64r1,fS64r2,fS64r3,fS64r4,fS64r5,fS64r6,fS64r7,fS64r8,fS64r9,fS64r10,fS64r11,fS64b0,fS64r12,fS64,hE,hl0,hn,hlz,hh,hN,hnm,d1,d2,hlow]
    · by_cases hn:nm=[]<;>by_cases hlz:l=[]<;>by_cases hi1:0≤i<;>by_cases hi2:i≤1000000<;>simp[fS64r0,fS64r1,fS64r2,fS64r3,fS64r4,fS64r5,fS64r6,fS64r7,fS64r8,fS64r9,fS64r10,fS64r11,fS64b0,fS64r12,fS64,hE,hl0,hn,hlz,hi1,hi2,hi0]
  by_cases h4:k=4
  · subst h4
    have hv:Ty.valid (.mk 4 nm i h l)=(decide (i=0)&&decide (h=0)&&conN nm (l.length:Int)&&Ty.valids l):=by
      have q2:((l.length:Int)=2)↔l.length=2:=by omega
      have q0:((l.length:Int)=0)↔l.length=0:=by omega
      have q4:((l.length:Int)≤4)↔l.length≤4:=by omega
      simp only[Ty.valid,conN,show ¬ ((4:Int)=1∨(4:Int)=2) by decide,show ¬ (4:Int)=3 by decide,show ¬ (4:Int)=5 by decide,↓reduceIte,q2,q0,q4]
      cases decide (i=0)<;>cases decide (h=0)<;>cases Ty.valids l<;>split<;>(try split)<;>simp
    rw[hv]
    clear hlow d1 d2
    by_cases hi0:i=0
    · subst hi0
      by_cases hh:h=0
      · subst hh
        generalize hcn:conN nm (l.length:Int)=c
        generalize hvl:Ty.valids l=v
        by_cases hlz:l=[]
        · subst hlz
          have hcn':conN nm 0=c:=hcn
          have hv0:v=true:=hvl.symm
          subst hv0
          have hd0:Ty.sizes []≤d:=hd
          by_cases hn:nm=[]
          · subst hn
            cases c<;>simp[fS64r0,fS64r1,fS64r2,fS64r3,fS64r4,fS64r5,fS64r6,fS64r7,fS64r8,fS64r9,fS64r10,fS64r11,fS64b0,fS64r12,fS64,hE,hK,hnm,hcn',hC,invCF,hd0,hshs,hvl]
          · cases c<;>simp[fS64r0,fS64r1,fS64r2,fS64r3,fS64r4,fS64r5,fS64r6,fS64r7,fS64r8,fS64r9,fS64r10,fS64r11,fS64b0,fS64r12,fS64,hE,hn,hK,hnm,hcn',hC,invCF,hd0,hshs,hvl]
        · by_cases hn:nm=[]
          · subst hn
            cases c<;>cases v<;>simp[fS64r0,fS64r1,fS64r2,fS64r3,fS64r4,fS64r5,fS64r6,fS64r7,fS64r8,fS64r9,fS64r10,fS64r11,fS64b0,fS64r12,fS64,hE,hl0,hlz,hK,hnm,hcn,hC,invCF,hll,hd,hshs,hvl]
          · cases c<;>cases v<;>simp[fS64r0,fS64r1,fS64r2,fS64r3,fS64r4,fS64r5,fS64r6,fS64r7,fS64r8,fS64r9,fS64r10,fS64r11,fS64b0,fS64r12,fS64,hE,hl0,hn,hlz,hK,hnm,hcn,hC,invCF,hll,hd,hshs,hvl]
      · by_cases hn:nm=[]<;>by_cases hlz:l=[]<;>simp[fS64r0,fS64r1,fS64r2,fS64r3,fS64r4,fS64r5,fS64r6,fS64r7,fS64r8,fS64r9,fS64r10,fS64r11,fS64b0,fS64r12,fS64,hE,hl0,hn,hlz,hh]
    · by_cases hn:nm=[]<;>by_cases hlz:l=[]<;>by_cases hi1:0≤i<;>by_cases hi2:i≤1000000<;>simp[fS64r0,fS64r1,fS64r2,fS64r3,fS64r4,fS64r5,fS64r6,fS64r7,fS64r8,fS64r9,fS64r10,fS64r11,fS64b0,fS64r12,fS64,hE,hl0,hn,hlz,hi1,hi2,hi0]
  have hv:Ty.valid (.mk k nm i h l)=false:=by simp[Ty.valid,h1,h2,h3,h4,h5]
  rw[hv]
  by_cases hn:nm=[]<;>by_cases hlz:l=[]<;>by_cases hi1:0≤i<;>by_cases hi2:i≤1000000<;>simp[fS64r0,fS64r1,fS64r2,fS64r3,fS64r4,fS64r5,fS64r6,fS64r7,fS64r8,fS64r9,fS64r10,fS64r11,fS64b0,fS64r12,fS64,hE,hl0,hn,hlz,hi1,hi2,h1,h2,h3,h4,h5]
end
theorem vTValid (d:Nat) (hd:d≤100000):Valid ρ Tryz.prog 64 (tvalidS d):=by
  induction d with
  | zero =>
    refine v1 (fo Tryz.func64 fB64) fun a r h hs=>?_
    obtain⟨⟨h1,h2⟩,rfl⟩:=ite_inv h
    have:=Ty.size_eq a
    omega
  | succ d ih =>
    refine v1 (fo Tryz.func64 fB64) fun a r h hs=>?_
    obtain⟨⟨h1,h2⟩,rfl⟩:=ite_inv h
    have hI:Valid ρ Tryz.prog 111 (fnS (spec1 (invF d))):=v1 (fo Tryz.func111 fB111) fun a r h hs=>by
      obtain⟨⟨g1,g2⟩,rfl⟩:=ite_inv h
      exact types_invalid_run hρ (E:=EL [(64,tvalidS d)]) rfl (consOk_list (valid_cons (ih (by omega)) valid_nil)) rfl g1 g2 hs
    have hX:Valid ρ Tryz.prog 149 (fnS (invIF 111 d)):=Valid.fnS (fo Tryz.func149 fB149) fun vs v hv hs=>by
      obtain⟨l,rfl,g1,g2,g3,rfl⟩:=invIF_inv hv
      exact invIndex_run hρ (E:=EL [(111,fnS (spec1 (invF d)))]) rfl (consOk_list (valid_cons hI valid_nil)) rfl g1 g2 g3 hs
    have hC:Valid ρ Tryz.prog 110 (fnS (invCF 111 d)):=Valid.fnS (fo Tryz.func110 fB110) fun vs v hv hs=>by
      obtain⟨l,rfl,g1,g2,g3,rfl⟩:=invCF_inv hv
      exact invContains_run hρ (E:=EL [(149,fnS (invIF 111 d))]) rfl (consOk_list (valid_cons hX valid_nil)) rfl g1 g2 g3 hs
    refine types_Valid_run hρ (E:=EL [(108,nameS),(109,conSp),(110,fnS (invCF 111 d))]) rfl
      (consOk_list (valid_cons (vName hρ) (valid_cons (vConstructor hρ) (valid_cons hC valid_nil)))) rfl rfl rfl h1 ?_ h2 hs
    have:=Ty.size_eq a
    have:=args_le a.args
    omega
end
end Go.Proofs.YthfcfmkdeheicaaGreat
