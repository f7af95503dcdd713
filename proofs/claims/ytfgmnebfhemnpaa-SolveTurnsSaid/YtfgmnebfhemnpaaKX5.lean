import Derived.Test.YtfgmnebfhemnpaaKX1
import Derived.Test.YtfgmnebfhemnpaaJQ
import Derived.Test.YtfgmnebfhemnpaaJS
import Derived.Test.YtfgmnebfhemnpaaJN
import Derived.Test.YtfgmnebfhemnpaaKX3
set_option linter.all false
noncomputable section
namespace Go.Proofs.Ytfgmnebfhemnpaa
open Go.J
open Go.J.Enc (enc)
set_option maxRecDepth 100000
set_option maxHeartbeats 1000000
@[simp] theorem func_pure {f:Nat}:(V.func f []).pure=true:=(rfl)
@[simp] theorem func_still {f:Nat} {hs:HS}:still2 hs (V.func f [])=some (V.func f []):=(rfl)
@[simp] theorem func_freeze {f:Nat} {hs:HS}:freeze1 hs (V.func f [])=hs:=(rfl)
@[simp] theorem func_norm {f:Nat}:normV (V.func f [])=.func f []:=(rfl)
section
variable {ρ:Nat→Value}(hρ:J.Good ρ)
include hρ
section
variable {E:Env}(hE:E.P=Try.prog)(hcon:ConsOk ρ E)
include hE hcon
theorem cmp_isNaN_int_run{a:Int}(hs:HS):CallOk ρ Try.prog 66 [enc a] hs (enc false) hs:=by
 refine fn hρ hE hcon Try.func66 fB66 rfl (by simp) ?_ hs
 simp[fS66r0,fS66r1,fS66,hE]
theorem cmp_isNaN_string_run{a:List Nat}(hs:HS):CallOk ρ Try.prog 67 [enc a] hs (enc false) hs:=by
 refine fn hρ hE hcon Try.func67 fB67 rfl (by simp) ?_ hs
 simp[fS67r0,fS67r1,fS67,hE]
theorem cmp_Compare_int_run(h1:E.con 66=fnC (spec1 fun _:Int=>some false)){a b:Int}(hs:HS):CallOk ρ Try.prog 53 [enc a,enc b] hs (enc (cmpI a b)) hs:=by
 refine fn hρ hE hcon Try.func53 fB53 rfl (by simp) ?_ hs
 unfold cmpI
 by_cases hl:a<b
 · simp[fS53r0,fS53r1,fS53r2,fS53r3,fS53r4,fS53r5,fS53r6,fS53r7,fS53r8,fS53r9,fS53r10,fS53r11,fS53r12,fS53r13,fS53,hE,h1,hl]
 · by_cases hg:b<a
   · simp[fS53r0,fS53r1,fS53r2,fS53r3,fS53r4,fS53r5,fS53r6,fS53r7,fS53r8,fS53r9,fS53r10,fS53r11,fS53r12,fS53r13,fS53,hE,h1,hl,hg]
   · simp[fS53r0,fS53r1,fS53r2,fS53r3,fS53r4,fS53r5,fS53r6,fS53r7,fS53r8,fS53r9,fS53r10,fS53r11,fS53r12,fS53r13,fS53,hE,h1,hl,hg]
theorem cmp_Compare_string_run(h1:E.con 67=fnC (spec1 fun _:List Nat=>some false)){a b:List Nat}(hs:HS):CallOk ρ Try.prog 54 [enc a,enc b] hs (enc (cmpS a b)) hs:=by
 refine fn hρ hE hcon Try.func54 fB54 rfl (by simp) ?_ hs
 unfold cmpS
 by_cases hl:ltNs a b=true
 · simp[fS54r0,fS54r1,fS54r2,fS54r3,fS54r4,fS54r5,fS54r6,fS54r7,fS54r8,fS54r9,fS54r10,fS54r11,fS54r12,fS54r13,fS54,hE,h1,hl]
 · have hl2:ltNs a b=false:=by simpa using hl
   by_cases hg:a=b
   · subst hg
     simp[fS54r0,fS54r1,fS54r2,fS54r3,fS54r4,fS54r5,fS54r6,fS54r7,fS54r8,fS54r9,fS54r10,fS54r11,fS54r12,fS54r13,fS54,hE,h1,hl2]
   · simp[fS54r0,fS54r1,fS54r2,fS54r3,fS54r4,fS54r5,fS54r6,fS54r7,fS54r8,fS54r9,fS54r10,fS54r11,fS54r12,fS54r13,fS54,hE,h1,hl,hg]
theorem cmp_Or_run{l:List Int}(hl:l.length≤1000000)(hs:HS):CallOk ρ Try.prog 52 [enc l] hs (enc (nzM l)) hs:=by
 refine fn hρ hE hcon Try.func52 fB52 rfl (by simp) ?_ hs
 generalize hr:nzM l=r
 simp[fS52r0,fS52r1,fS52r2,fS52r3,fS52r4,fS52r5,fS52r6,fS52b0,fS52r7,fS52b1,fS52r8,fS52,hE]
 refine lpi hρ hE hcon l.length (nn:=0) (fun i (_:Unit)=>[(3,.int .i64 0),(6,.sl (l.map encI) false),(7,.int .i64 (l.length:Int)),(8,.int .i64 (i:Int))]) (fun i _=>[]) (fun i _=>nzM (l.drop i)=r) ()
  (Less.auto (by simp) (by simp) (by simp) (by simp)) (by simpa using hr) ?_ ?_
 · intro _ h K
   rw[List.drop_length,nzM]at h
   simp[fS52l0,fS52r0,fS52r1,fS52r2,fS52r3,fS52r4,fS52r5,fS52r6,fS52b0,fS52r7,fS52b1,fS52r8,fS52,hE]
   refine LessQ.mk (Less.auto (TL:=[(3,.int .i64 0)]) (HL:=[]) (n:=0) (by simp) (by simp) (by simp) (by simp)) ?_
   simp[fS52r0,fS52r1,fS52r2,fS52r3,fS52r4,fS52r5,fS52r6,fS52b0,fS52r7,fS52b1,fS52r8,fS52,hE,h]
 · intro i _ hi h K hK
   have hi':(i:Int)<l.length:=by omega
   have hw2:IntKind.i64.wrap ((i:Int)+1)=((i+1:Nat):Int):=wrap_succ (by omega)
   rw[List.drop_eq_getElem_cons hi,nzM]at h
   by_cases he:l[i]=0
   · rw[if_neg (by simpa using he)]at h
     have hnew:=hK () h
     simp[fS52l0,fS52r0,fS52r1,fS52r2,fS52r3,fS52r4,fS52r5,fS52r6,fS52b0,fS52r7,fS52b1,fS52r8,fS52,hE,hi,hi',he,hw2,-Int.natCast_add]
     exact hnew _ _ (Less.auto (by simp[-Int.natCast_add]) (by simp) (by simp) (by simp))
   · rw[if_pos he]at h
     simp[fS52l0,fS52r0,fS52r1,fS52r2,fS52r3,fS52r4,fS52r5,fS52r6,fS52b0,fS52r7,fS52b1,fS52r8,fS52,hE,hi,hi',he]
     refine LessQ.mk (Less.auto (TL:=[(2,.int .i64 l[i])]) (HL:=[]) (n:=0) (by simp) (by simp) (by simp) (by simp)) ?_
     simp[fS52r0,fS52r1,fS52r2,fS52r3,fS52r4,fS52r5,fS52r6,fS52b0,fS52r7,fS52b1,fS52r8,fS52,hE,h]
end
def cmpIS:J.Spec:=fnC (spec2 fun a b:Int=>some (cmpI a b))
def cmpSS:J.Spec:=fnC (spec2 fun a b:List Nat=>some (cmpS a b))
def orS:J.Spec:=fnS (spec1 fun l:List Int=>if l.length≤1000000 then some (nzM l)else none)
theorem vNaNI:Valid ρ Try.prog 66 (fnC (spec1 fun _:Int=>some false)):=c1 (fo Try.func66 fB66) fun a r h hs=>by
 cases h;exact cmp_isNaN_int_run hρ (E:=EL []) rfl (consOk_list valid_nil) hs
theorem vNaNS:Valid ρ Try.prog 67 (fnC (spec1 fun _:List Nat=>some false)):=c1 (fo Try.func67 fB67) fun a r h hs=>by
 cases h;exact cmp_isNaN_string_run hρ (E:=EL []) rfl (consOk_list valid_nil) hs
theorem vCmpI:Valid ρ Try.prog 53 cmpIS:=c2 (fo Try.func53 fB53) fun a b r h hs=>by
 cases h;exact cmp_Compare_int_run hρ (E:=EL [(66,fnC (spec1 fun _:Int=>some false))]) rfl (consOk_list (valid_cons (vNaNI hρ) valid_nil)) rfl hs
theorem vCmpS:Valid ρ Try.prog 54 cmpSS:=c2 (fo Try.func54 fB54) fun a b r h hs=>by
 cases h;exact cmp_Compare_string_run hρ (E:=EL [(67,fnC (spec1 fun _:List Nat=>some false))]) rfl (consOk_list (valid_cons (vNaNS hρ) valid_nil)) rfl hs
theorem vOr:Valid ρ Try.prog 52 orS:=v1 (fo Try.func52 fB52) fun a r h hs=>by
 obtain⟨h1,rfl⟩:=ite_inv h
 exact cmp_Or_run hρ (E:=EL []) rfl (consOk_list valid_nil) h1 hs
def cmpsF(g d:Nat)(vs:List V):Option V:=match vs with
 | [a,b,.func g' []]=>gd (Nat.beq g' g) (ob (Enc.dec a:Option (List Ty)) fun l=>ob (Enc.dec b:Option (List Ty)) fun m=>if l.length≤10000∧m.length≤10000∧Ty.oks l=true∧Ty.oks m=true∧Ty.sizes l≤d then some (enc (cmpTs l m))else none)
 |_=>none
theorem cmpsF_inv{g d:Nat}{vs:List V}{v:V}(h:cmpsF g d vs=some v):∃ l m:List Ty,vs=[enc l,enc m,.func g []]∧l.length≤10000∧m.length≤10000∧Ty.oks l=true∧Ty.oks m=true∧Ty.sizes l≤d∧v=enc (cmpTs l m):=by
 unfold cmpsF at h
 split at h
 · simp only[gd_eq,ob_eq,J.beq_true]at h
   obtain⟨rfl,l,hl,m,hm,h⟩:=h
   obtain⟨⟨h1,h2,h3,h4,h5⟩,rfl⟩:=ite_inv h
   exact⟨l,m,by rw[Enc.enc_dec _ _ hl,Enc.enc_dec _ _ hm],h1,h2,h3,h4,h5,rfl⟩
 · cases h
def cmpF(d:Nat)(a b:Ty):Option Int:=if a.ok=true∧b.ok=true∧a.size≤d then some (cmpTy a b)else none
section
variable {E:Env}(hE:E.P=Try.prog)(hcon:ConsOk ρ E)
include hE hcon
theorem slices_CompareFunc_run {d:Nat} (hc:E.con 43=fnS (spec2 (cmpF d))) {l m:List Ty} (hl:l.length≤10000) (hm:m.length≤10000) (hok:Ty.oks l=true) (hok2:Ty.oks m=true) (hd:Ty.sizes l≤d) (hs:HS) :
 CallOk ρ Try.prog 55 [enc l,enc m,.func 43 []] hs (enc (cmpTs l m)) hs:=by
 refine fn hρ hE hcon Try.func55 fB55 rfl (by simp) ?_ hs
 generalize hr:cmpTs l m=r
 simp[fS55r0,fS55r1,fS55r2,fS55r3,fS55r4,fS55r5,fS55r6,fS55r7,fS55r8,fS55r9,fS55b0,fS55r10,fS55b1,fS55r11,fS55r12,fS55r13,fS55,hE]
 refine lpi hρ hE hcon l.length (nn:=0) (fun i (_:Unit)=>[(0,.sl (l.map encTy) false),(1,.sl (m.map encTy) false),(2,.func 43 []),(11,.sl (l.map encTy) false),(12,.int .i64 (l.length:Int)),(13,.int .i64 (i:Int))]) (fun i _=>[]) (fun i _=>i≤m.length∧cmpTs (l.drop i) (m.drop i)=r) ()
  (Less.auto (by simp) (by simp) (by simp) (by simp)) ⟨Nat.zero_le _,by simpa using hr⟩ ?_ ?_
 · rintro _ ⟨hlm,h⟩ K
   rw[List.drop_length]at h
   simp[fS55l0,fS55r0,fS55r1,fS55r2,fS55r3,fS55r4,fS55r5,fS55r6,fS55r7,fS55r8,fS55r9,fS55b0,fS55r10,fS55b1,fS55r11,fS55r12,fS55r13,fS55,hE]
   refine LessQ.mk (Less.auto (TL:=[(0,.sl (l.map encTy) false),(1,.sl (m.map encTy) false)]) (HL:=[]) (n:=0) (by simp) (by simp) (by simp) (by simp)) ?_
   by_cases hlt:l.length<m.length
   · rw[List.drop_eq_getElem_cons hlt,cmpTs]at h
     have hlt':(l.length:Int)<m.length:=by omega
     simp[fS55r0,fS55r1,fS55r2,fS55r3,fS55r4,fS55r5,fS55r6,fS55r7,fS55r8,fS55r9,fS55b0,fS55r10,fS55b1,fS55r11,fS55r12,fS55r13,fS55,hE,hlt,hlt',h]
   · have e:m.drop l.length=[]:=List.drop_eq_nil_of_le (by omega)
     rw[e,cmpTs]at h
     have hlt':¬ (l.length:Int)<m.length:=by omega
     simp[fS55r0,fS55r1,fS55r2,fS55r3,fS55r4,fS55r5,fS55r6,fS55r7,fS55r8,fS55r9,fS55b0,fS55r10,fS55b1,fS55r11,fS55r12,fS55r13,fS55,hE,hlt,hlt',h]
 · rintro i _ hi ⟨hle,h⟩ K hK
   have hi':(i:Int)<l.length:=by omega
   have hw2:IntKind.i64.wrap ((i:Int)+1)=((i+1:Nat):Int):=wrap_succ (by omega)
   have hmem:=List.getElem_mem hi
   have hm5:(i*5) / 5=i:=by omega
   have hm6:(i*5) % 5=0:=by omega
   rw[List.drop_eq_getElem_cons hi]at h
   by_cases hlt:i<m.length
   · rw[List.drop_eq_getElem_cons hlt,cmpTs]at h
     have hlt':(i:Int)<m.length:=by omega
     have hle':¬ (m.length:Int)≤i:=by omega
     have hle2:¬ m.length≤i:=by omega
     have hF:cmpF d l[i] m[i]=some (cmpTy l[i] m[i]):=if_pos ⟨Ty.oks_iff.1 hok _ hmem,Ty.oks_iff.1 hok2 _ (List.getElem_mem hlt),by have:=Ty.size_mem hmem;omega⟩
     by_cases he:cmpTy l[i] m[i]=0
     · rw[if_neg (by simpa using he)]at h
       have hnew:=hK () ⟨by omega,h⟩
       rw[he]at hF
       simp[fS55l0,fS55r0,fS55r1,fS55r2,fS55r3,fS55r4,fS55r5,fS55r6,fS55r7,fS55r8,fS55r9,fS55b0,fS55r10,fS55b1,fS55r11,fS55r12,fS55r13,fS55,hE,hi,hi',hlt,hlt',hle',hle2,hm5,hm6,hc,hF,hw2,-Int.natCast_add]
       exact hnew _ _ (Less.auto (by simp[-Int.natCast_add]) (by simp) (by simp) (by simp))
     · rw[if_pos he]at h
       generalize cmpTy l[i] m[i]=c at hF he h
       simp[fS55l0,fS55r0,fS55r1,fS55r2,fS55r3,fS55r4,fS55r5,fS55r6,fS55r7,fS55r8,fS55r9,fS55b0,fS55r10,fS55b1,fS55r11,fS55r12,fS55r13,fS55,hE,hi,hi',hlt,hlt',hle',hle2,hm5,hm6,hc,hF,he]
       refine LessQ.mk (Less.auto (TL:=[(6,.int .i64 c)]) (HL:=[]) (n:=0) (by simp) (by simp) (by simp) (by simp)) ?_
       simp[fS55r0,fS55r1,fS55r2,fS55r3,fS55r4,fS55r5,fS55r6,fS55r7,fS55r8,fS55r9,fS55b0,fS55r10,fS55b1,fS55r11,fS55r12,fS55r13,fS55,hE,h]
   · have e:m.drop i=[]:=List.drop_eq_nil_of_le (by omega)
     rw[e,cmpTs]at h
     have hle':(m.length:Int)≤i:=by omega
     have hle2:m.length≤i:=by omega
     simp[fS55l0,fS55r0,fS55r1,fS55r2,fS55r3,fS55r4,fS55r5,fS55r6,fS55r7,fS55r8,fS55r9,fS55b0,fS55r10,fS55b1,fS55r11,fS55r12,fS55r13,fS55,hE,hi,hi',hle',hle2,hm5,hm6]
     refine LessQ.mk (Less.auto (TL:=[(6,.int .i64 1)]) (HL:=[]) (n:=0) (by simp) (by simp) (by simp) (by simp)) ?_
     simp[fS55r0,fS55r1,fS55r2,fS55r3,fS55r4,fS55r5,fS55r6,fS55r7,fS55r8,fS55r9,fS55b0,fS55r10,fS55b1,fS55r11,fS55r12,fS55r13,fS55,hE,← h]
theorem types_Compare_run{d:Nat}(hi:E.con 53=cmpIS)(hst:E.con 54=cmpSS)(ho:E.con 52=orS)(hc:E.con 55=fnS (cmpsF 43 d)){a b:Ty}(ha:a.ok=true)(hb:b.ok=true)(hd:a.size≤d+1)(hs:HS) :
 CallOk ρ Try.prog 43 [enc a,enc b] hs (enc (cmpTy a b)) hs:=by
 refine fn hρ hE hcon Try.func43 fB43 rfl (by simp) ?_ hs
 have hal:=Ty.ok_len ha
 have hbl:=Ty.ok_len hb
 have hsz:=Ty.size_eq a
 have hk:Ty.oks a.args=true:=Ty.oks_iff.2 (Ty.ok_iff.1 ha).2
 have hkb:Ty.oks b.args=true:=Ty.oks_iff.2 (Ty.ok_iff.1 hb).2
 have hd2:Ty.sizes a.args≤d:=by omega
 have hq:nzM [cmpI a.kind b.kind,cmpS a.name b.name,cmpI a.id b.id,cmpI a.home b.home,cmpI (a.args.length:Int) (b.args.length:Int)]=nzM (headC a b):=rfl
 rw[cmpTy_eq]
 generalize nzM (headC a b)=q at hq
 by_cases hz:q=0
 · rw[if_neg (by simpa using hz)]
   subst hz
   generalize hx:cmpTs a.args b.args=x
   simp[fS43r0,fS43r1,fS43r2,fS43r3,fS43r4,fS43,hE,hi,hst,ho,hc,cmpIS,cmpSS,orS,cmpsF,hq,hal,hbl,hk,hkb,hd2,hx]
 · rw[if_pos hz]
   simp[fS43r0,fS43r1,fS43r2,fS43r3,fS43r4,fS43,hE,hi,hst,ho,hc,cmpIS,cmpSS,orS,cmpsF,hq,hz]
end
section
variable {E:Env}(hE:E.P=Try.prog)(hcon:ConsOk ρ E)
include hE hcon
theorem types_Equal_run{d:Nat}(hc:E.con 43=fnS (spec2 (cmpF d))){a b:Ty}(ha:a.ok=true)(hb:b.ok=true)(hd:a.size≤d)(hs:HS) :
 CallOk ρ Try.prog 28 [enc a,enc b] hs (enc (decide (a=b))) hs:=by
 refine fn hρ hE hcon Try.func28 fB28 rfl (by simp) ?_ hs
 have hF:cmpF d a b=some (cmpTy a b):=if_pos ⟨ha,hb,hd⟩
 have hz:decide (a=b)=decide (cmpTy a b=0):=by rw[Bool.eq_iff_iff];simp[cmpTy_zero]
 rw[hz]
 generalize cmpTy a b=c at hF
 obtain⟨ak,an,ai,ah,al⟩:=a
 obtain⟨bk,bn,bi,bh,bl⟩:=b
 simp[fS28r0,fS28r1,fS28,hE,hc,hF]
end
theorem vCompare(d:Nat):Valid ρ Try.prog 43 (fnS (spec2 (cmpF d))):=by
 induction d with
 | zero =>
   refine v2 (fo Try.func43 fB43) fun a b r h hs=>?_
   obtain⟨⟨h1,h2,h3⟩,rfl⟩:=ite_inv h
   have:=Ty.size_eq a
   omega
 | succ d ih =>
   refine v2 (fo Try.func43 fB43) fun a b r h hs=>?_
   obtain⟨⟨h1,h2,h3⟩,rfl⟩:=ite_inv h
   have hCF:Valid ρ Try.prog 55 (fnS (cmpsF 43 d)):=Valid.fnS (fo Try.func55 fB55) fun vs v hv hs=>by
    obtain⟨l,m,rfl,g1,g2,g3,g4,g5,rfl⟩:=cmpsF_inv hρ hv
    exact slices_CompareFunc_run hρ (E:=EL [(43,fnS (spec2 (cmpF d)))]) rfl (consOk_list (valid_cons ih valid_nil)) rfl g1 g2 g3 g4 g5 hs
   exact types_Compare_run hρ (E:=EL [(53,cmpIS),(54,cmpSS),(52,orS),(55,fnS (cmpsF 43 d))]) rfl
    (consOk_list (valid_cons (vCmpI hρ) (valid_cons (vCmpS hρ) (valid_cons (vOr hρ) (valid_cons hCF valid_nil))))) rfl rfl rfl rfl h1 h2 h3 hs
def tequalS:J.Spec:=fnS (spec2 fun a b:Ty=>if a.ok=true∧b.ok=true then some (decide (a=b))else none)
theorem vTEqual:Valid ρ Try.prog 28 tequalS:=v2 (fo Try.func28 fB28) fun a b r h hs=>by
 obtain⟨⟨h1,h2⟩,rfl⟩:=ite_inv h
 exact types_Equal_run hρ (E:=EL [(43,fnS (spec2 (cmpF a.size)))]) rfl (consOk_list (valid_cons (vCompare hρ a.size) valid_nil)) rfl h1 h2 (Nat.le_refl _) hs
end
end Go.Proofs.Ytfgmnebfhemnpaa
namespace Go.Proofs.Ytfgmnebfhemnpaa
open Go.J
open Go.J.Enc (enc)
set_option maxRecDepth 100000
set_option maxHeartbeats 1000000
def idxF{α:Type}(f:α→Bool):List α→Int→Int
 | [],_=>-1
 |x::l,i=>if f x=true then i else idxF f l (i+1)
section
variable {ρ:Nat→Value}(hρ:J.Good ρ)
include hρ
end
section
variable {ρ:Nat→Value}(hρ:J.Good ρ)
include hρ
section
variable {E:Env}(hE:E.P=Try.prog)(hcon:ConsOk ρ E)
include hE hcon
end
end
section
variable {ρ:Nat→Value}(hρ:J.Good ρ)
include hρ
end
end Go.Proofs.Ytfgmnebfhemnpaa
namespace Go.Proofs.Ytfgmnebfhemnpaa
open Go.J
open Go.J.Enc (enc)
set_option maxRecDepth 100000
set_option maxHeartbeats 1000000
theorem mtL_cons{p t:Ty}{l m:List Ty}{s:List Assign}:mtL (p::l) (t::m) s=if (mtM p t s).2 then mtL l m (mtM p t s).1 else ((mtM p t s).1,false):=by rw[mtL]
theorem mtL_nil{m:List Ty}{s:List Assign}:mtL [] m s=(s,true):=by rw[mtL];simp
def aok(s:List Assign):Prop:=∀ a∈s,a.type.ok=true
theorem aok_snoc{s:List Assign}(h:aok s){i:Int}{t:Ty}(ht:t.ok=true):aok (s++[⟨i,t⟩]):=by
 intro a ha
 rcases List.mem_append.1 ha with ha|ha
 · exact h a ha
 · rw[List.mem_singleton.1 ha];exact ht
theorem mt_aok {p:Ty}:∀ {t:Ty} {s:List Assign},t.ok=true→aok s→aok (mtM p t s).1:=by
 induction p using Ty.ind with
 | h p ih =>
   intro t s ht hs
   have ihl:∀ (l:List Ty),(∀ u∈l,u∈p.args)→∀ (m:List Ty) (s:List Assign),(∀ v∈m,v.ok=true)→aok s→aok (mtL l m s).1:=by
    intro l
    induction l with
    |nil=>intro _ m s _ h;rw[mtL_nil];exact h
    | cons u l ihl =>
      intro hsub m s hm h
      cases m with
      |nil=>rw[mtL];exact h;simp
      | cons v m =>
        rw[mtL_cons]
        have h1:=ih u (hsub u (List.mem_cons_self ..)) (hm v (List.mem_cons_self ..)) h
        split
        · exact ihl (fun w hw=>hsub w (List.mem_cons_of_mem _ hw)) m _ (fun w hw=>hm w (List.mem_cons_of_mem _ hw)) h1
        · exact h1
   rw[mtM_eq]
   split
   · split
     · exact hs
     · exact aok_snoc hs ht
   · split
     · exact ihl _ (fun _ h=>h) _ _ (fun v hv=>Ty.ok_arg ht hv) hs
     · exact hs
section
variable {ρ:Nat→Value}(hρ:J.Good ρ)
include hρ
section
variable {E:Env}(hE:E.P=Try.prog)(hcon:ConsOk ρ E)
include hE hcon
end
end
end Go.Proofs.Ytfgmnebfhemnpaa
namespace Go.Proofs.Ytfgmnebfhemnpaa
open Go.J
open Go.J.Enc (enc)
set_option maxRecDepth 100000
set_option maxHeartbeats 1000000
def clipNS:J.Spec:=fun vs hs=>match vs with
 | [.snil]=>some (.snil,hs)
 |_=>none
@[simp] theorem clipNS_ok {hs:HS} {Q:V×HS→Prop}:okT (clipNS [.snil] hs) Q=Q (.snil,hs):=by
  show ok (some (V.snil,hs)) Q=_
  rw[ok_some]
section
variable {ρ:Nat→Value}(hρ:J.Good ρ)
include hρ
section
variable {E:Env}(hE:E.P=Try.prog)(hcon:ConsOk ρ E)
include hE hcon
end
end
end Go.Proofs.Ytfgmnebfhemnpaa
namespace Go.Proofs.Ytfgmnebfhemnpaa
open Go.J
open Go.J.Enc (enc)
set_option maxRecDepth 100000
set_option maxHeartbeats 1000000
open Classical in
def substF(t:Tp)(D:List Decl)(n:Int):Option (Tp×List Assign):=if t.ok∧DOk D∧0≤n∧n≤100 then some (substM t D n.toNat n.toNat)else none
section
variable {ρ:Nat→Value}(hρ:J.Good ρ)
include hρ
section
variable {E:Env}(hE:E.P=Try.prog)(hcon:ConsOk ρ E)
include hE hcon
end
end
end Go.Proofs.Ytfgmnebfhemnpaa
namespace Go.Proofs.Ytfgmnebfhemnpaa
open Go.J
open Go.J.Enc (enc)
set_option maxRecDepth 100000
set_option maxHeartbeats 1000000
def madeD(bits:Int)(codes:List Int):EmbD where
 k:=0
 k':=1
 π:=fun i=>i
 OL:=[]
 OL':=[(0,box (Cel.cells (madeM ⟨codes,0⟩ (datasOf bits)).2.2.2))]
 vs0:=[enc bits,enc codes]
 v0:=.tuple [enc (madeM ⟨codes,0⟩ (datasOf bits)).1,enc (madeM ⟨codes,0⟩ (datasOf bits)).2.1,enc (madeM ⟨codes,0⟩ (datasOf bits)).2.2.1,.ptr 0 0 0]
def madeMM(vs:List V)(hs:HS):Option EmbD:=match vs with
 | [bv,cv]=>ob (Enc.dec bv:Option Int) fun bits=>ob (Enc.dec cv:Option (List Int)) fun codes=>gd (et (Nat.ble (lenL codes) 60) (vacant hs hs.n)) (some (madeD bits codes))
 |_=>none
@[simp] theorem madeMM_n {bv cv:V} {hs:HS}:madeMM [bv,cv] hs=ob (Enc.dec bv:Option Int) fun bits=>ob (Enc.dec cv:Option (List Int)) fun codes=>gd (et (Nat.ble (lenL codes) 60) (vacant hs hs.n)) (some (madeD bits codes)):=(rfl)
section
variable {ρ:Nat→Value}(hρ:J.Good ρ)
include hρ
section
variable {E:Env}(hE:E.P=Try.prog)(hcon:ConsOk ρ E)
include hE hcon
end
end
end Go.Proofs.Ytfgmnebfhemnpaa
