import Derived.Test.YthfcfmkdeheicaaGreatGX4
import Derived.Test.YthfcfmkdeheicaaGreatJQ
set_option linter.all false
noncomputable section
namespace Go.Proofs.YthfcfmkdeheicaaGreat
open Go.J
open Go.J.Enc (enc)
set_option maxRecDepth 100000
set_option maxHeartbeats 1000000
@[simp] theorem func_pure {f:Nat}:(V.func f []).pure=true:=(rfl)
@[simp] theorem func_still {f:Nat} {hs:HS}:zaL hs (V.func f [])=some (V.func f []):=(rfl)
@[simp] theorem func_freeze {f:Nat} {hs:HS}:zb0 hs (V.func f [])=hs:=(rfl)
@[simp] theorem func_norm {f:Nat}:zac (V.func f [])=.func f []:=(rfl)
section
variable {ρ:Nat→Value}(hρ:J.Good ρ)
include hρ
section
variable {E:Env}(hE:E.P=Tryz.prog)(hcon:ConsOk ρ E)
include hE hcon
theorem zmH{a:Int}(hs:HS):CallOk ρ Tryz.prog 183 [enc a] hs (enc false) hs:=by
 refine fn hρ hE hcon Tryz.func183 fB183 rfl (by simp) ?_ hs
 simp[fS183r0,fS183r1,fS183,hE]
theorem zjA{a:List Nat}(hs:HS):CallOk ρ Tryz.prog 184 [enc a] hs (enc false) hs:=by
 refine fn hρ hE hcon Tryz.func184 fB184 rfl (by simp) ?_ hs
 simp[fS184r0,fS184r1,fS184,hE]
theorem zla(h1:E.con 183=fnC (zan fun _:Int=>some false)){a b:Int}(hs:HS):CallOk ρ Tryz.prog 146 [enc a,enc b] hs (enc (cmpI a b)) hs:=by
 refine fn hρ hE hcon Tryz.func146 fB146 rfl (by simp) ?_ hs
 unfold cmpI
 by_cases hl:a<b
 · simp[fS146r0,fS146r1,fS146r2,fS146r3,fS146r4,fS146r5,fS146r6,fS146r7,fS146r8,fS146r9,znV,znU,znT,znS,fS146,hE,h1,hl]
 · by_cases hg:b<a
   · simp[fS146r0,fS146r1,fS146r2,fS146r3,fS146r4,fS146r5,fS146r6,fS146r7,fS146r8,fS146r9,znV,znU,znT,znS,fS146,hE,h1,hl,hg]
   · simp[fS146r0,fS146r1,fS146r2,fS146r3,fS146r4,fS146r5,fS146r6,fS146r7,fS146r8,fS146r9,znV,znU,znT,znS,fS146,hE,h1,hl,hg]
theorem zi3(h1:E.con 184=fnC (zan fun _:List Nat=>some false)){a b:List Nat}(hs:HS):CallOk ρ Tryz.prog 147 [enc a,enc b] hs (enc (cmpS a b)) hs:=by
 refine fn hρ hE hcon Tryz.func147 fB147 rfl (by simp) ?_ hs
 unfold cmpS
 by_cases hl:ltNs a b=true
 · simp[fS147r0,fS147r1,fS147r2,fS147r3,fS147r4,fS147r5,fS147r6,fS147r7,fS147r8,fS147r9,znR,znQ,znP,znO,fS147,hE,h1,hl]
 · have hl2:ltNs a b=false:=by simpa using hl
   by_cases hg:a=b
   · subst hg
     simp[fS147r0,fS147r1,fS147r2,fS147r3,fS147r4,fS147r5,fS147r6,fS147r7,fS147r8,fS147r9,znR,znQ,znP,znO,fS147,hE,h1,hl2]
   · simp[fS147r0,fS147r1,fS147r2,fS147r3,fS147r4,fS147r5,fS147r6,fS147r7,fS147r8,fS147r9,znR,znQ,znP,znO,fS147,hE,h1,hl,hg]
theorem cmp_Or_run{l:List Int}(hl:l.length≤1000000)(hs:HS):CallOk ρ Tryz.prog 145 [enc l] hs (enc (nzM l)) hs:=by
 refine fn hρ hE hcon Tryz.func145 fB145 rfl (by simp) ?_ hs
 generalize hr:nzM l=r
 simp[zk0,zkz,zky,zkx,zkw,zkv,zku,zk2,zkt,zk1,zks,fS145,hE]
 refine lpi hρ hE hcon l.length (nn:=0) (fun i (_:Unit)=>[(3,.int .i64 0),(6,.sl (l.map encI) false),(7,.int .i64 (l.length:Int)),(8,.int .i64 (i:Int))]) (fun i _=>[]) (fun i _=>nzM (l.drop i)=r) ()
  (Less.auto (by simp) (by simp) (by simp) (by simp)) (by simpa using hr) ?_ ?_
 · intro _ h K
   rw[List.drop_length,nzM]at h
   simp[fS145l0,zk0,zkz,zky,zkx,zkw,zkv,zku,zk2,zkt,zk1,zks,fS145,hE]
   refine LessQ.mk (Less.auto (TL:=[(3,.int .i64 0)]) (HL:=[]) (n:=0) (by simp) (by simp) (by simp) (by simp)) ?_
   simp[zk0,zkz,zky,zkx,zkw,zkv,zku,zk2,zkt,zk1,zks,fS145,hE,h]
 · intro i _ hi h K hK
   have hi':(i:Int)<l.length:=by omega
   have hw2:IntKind.i64.wrap ((i:Int)+1)=((i+1:Nat):Int):=zq (by omega)
   rw[List.drop_eq_getElem_cons hi,nzM]at h
   by_cases he:l[i]=0
   · rw[if_neg (by simpa using he)]at h
     have hnew:=hK () h
     simp[fS145l0,zk0,zkz,zky,zkx,zkw,zkv,zku,zk2,zkt,zk1,zks,fS145,hE,hi,hi',he,hw2,-Int.natCast_add]
     exact hnew _ _ (Less.auto (by simp[-Int.natCast_add]) (by simp) (by simp) (by simp))
   · rw[if_pos he]at h
     simp[fS145l0,zk0,zkz,zky,zkx,zkw,zkv,zku,zk2,zkt,zk1,zks,fS145,hE,hi,hi',he]
     refine LessQ.mk (Less.auto (TL:=[(2,.int .i64 l[i])]) (HL:=[]) (n:=0) (by simp) (by simp) (by simp) (by simp)) ?_
     simp[zk0,zkz,zky,zkx,zkw,zkv,zku,zk2,zkt,zk1,zks,fS145,hE,h]
end
def cmpIS:J.Spec:=fnC (zD fun a b:Int=>some (cmpI a b))
def cmpSS:J.Spec:=fnC (zD fun a b:List Nat=>some (cmpS a b))
def orS:J.Spec:=fnS (zan fun l:List Int=>if l.length≤1000000 then some (nzM l)else none)
theorem vNaNI:Valid ρ Tryz.prog 183 (fnC (zan fun _:Int=>some false)):=c1 (fo Tryz.func183 fB183) fun a r h hs=>by
 cases h;exact zmH hρ (E:=EL []) rfl (zg valid_nil) hs
theorem vNaNS:Valid ρ Tryz.prog 184 (fnC (zan fun _:List Nat=>some false)):=c1 (fo Tryz.func184 fB184) fun a r h hs=>by
 cases h;exact zjA hρ (E:=EL []) rfl (zg valid_nil) hs
theorem vCmpI:Valid ρ Tryz.prog 146 cmpIS:=c2 (fo Tryz.func146 fB146) fun a b r h hs=>by
 cases h;exact zla hρ (E:=EL [(183,fnC (zan fun _:Int=>some false))]) rfl (zg (za (vNaNI hρ) valid_nil)) rfl hs
theorem vCmpS:Valid ρ Tryz.prog 147 cmpSS:=c2 (fo Tryz.func147 fB147) fun a b r h hs=>by
 cases h;exact zi3 hρ (E:=EL [(184,fnC (zan fun _:List Nat=>some false))]) rfl (zg (za (vNaNS hρ) valid_nil)) rfl hs
theorem vOr:Valid ρ Tryz.prog 145 orS:=v1 (fo Tryz.func145 fB145) fun a r h hs=>by
 obtain⟨h1,rfl⟩:=z8 h
 exact cmp_Or_run hρ (E:=EL []) rfl (zg valid_nil) h1 hs
def cmpsF(g d:Nat)(vs:List V):Option V:=match vs with
 | [a,b,.func g' []]=>gd (Nat.beq g' g) (ob (Enc.dec a:Option (List Ty)) fun l=>ob (Enc.dec b:Option (List Ty)) fun m=>if l.length≤10000∧m.length≤10000∧Ty.oks l=true∧Ty.oks m=true∧Ty.sizes l≤d then some (enc (zjs l m))else none)
 |_=>none
theorem cmpsF_inv{g d:Nat}{vs:List V}{v:V}(h:cmpsF g d vs=some v):∃ l m:List Ty,vs=[enc l,enc m,.func g []]∧l.length≤10000∧m.length≤10000∧Ty.oks l=true∧Ty.oks m=true∧Ty.sizes l≤d∧v=enc (zjs l m):=by
 unfold cmpsF at h
 split at h
 · simp only[zl,zb,J.beq_true]at h
   obtain⟨rfl,l,hl,m,hm,h⟩:=h
   obtain⟨⟨h1,h2,h3,h4,h5⟩,rfl⟩:=z8 h
   exact⟨l,m,by rw[Enc.enc_dec _ _ hl,Enc.enc_dec _ _ hm],h1,h2,h3,h4,h5,rfl⟩
 · cases h
def cmpF(d:Nat)(a b:Ty):Option Int:=if a.ok=true∧b.ok=true∧a.size≤d then some (zlO a b)else none
section
variable {E:Env}(hE:E.P=Tryz.prog)(hcon:ConsOk ρ E)
include hE hcon
theorem zi2 {d:Nat} (hc:E.con 107=fnS (zD (cmpF d))) {l m:List Ty} (hl:l.length≤10000) (hm:m.length≤10000) (hok:Ty.oks l=true) (hok2:Ty.oks m=true) (hd:Ty.sizes l≤d) (hs:HS) :
 CallOk ρ Tryz.prog 148 [enc l,enc m,.func 107 []] hs (enc (zjs l m)) hs:=by
 refine fn hρ hE hcon Tryz.func148 fB148 rfl (by simp) ?_ hs
 generalize hr:zjs l m=r
 simp[zhr,zhq,zhp,zho,zhn,zhm,zhl,zhk,zhj,zhi,zht,ze1,zhs,ze0,zez,zey,fS148,hE]
 refine lpi hρ hE hcon l.length (nn:=0) (fun i (_:Unit)=>[(0,.sl (l.map zh) false),(1,.sl (m.map zh) false),(2,.func 107 []),(11,.sl (l.map zh) false),(12,.int .i64 (l.length:Int)),(13,.int .i64 (i:Int))]) (fun i _=>[]) (fun i _=>i≤m.length∧zjs (l.drop i) (m.drop i)=r) ()
  (Less.auto (by simp) (by simp) (by simp) (by simp)) ⟨Nat.zero_le _,by simpa using hr⟩ ?_ ?_
 · rintro _ ⟨hlm,h⟩ K
   rw[List.drop_length]at h
   simp[zp1,zhr,zhq,zhp,zho,zhn,zhm,zhl,zhk,zhj,zhi,zht,ze1,zhs,ze0,zez,zey,fS148,hE]
   refine LessQ.mk (Less.auto (TL:=[(0,.sl (l.map zh) false),(1,.sl (m.map zh) false)]) (HL:=[]) (n:=0) (by simp) (by simp) (by simp) (by simp)) ?_
   by_cases hlt:l.length<m.length
   · rw[List.drop_eq_getElem_cons hlt,zjs]at h
     have hlt':(l.length:Int)<m.length:=by omega
     simp[zhr,zhq,zhp,zho,zhn,zhm,zhl,zhk,zhj,zhi,zht,ze1,zhs,ze0,zez,zey,fS148,hE,hlt,hlt',h]
   · have e:m.drop l.length=[]:=List.drop_eq_nil_of_le (by omega)
     rw[e,zjs]at h
     have hlt':¬ (l.length:Int)<m.length:=by omega
     simp[zhr,zhq,zhp,zho,zhn,zhm,zhl,zhk,zhj,zhi,zht,ze1,zhs,ze0,zez,zey,fS148,hE,hlt,hlt',h]
 · rintro i _ hi ⟨hle,h⟩ K hK
   have hi':(i:Int)<l.length:=by omega
   have hw2:IntKind.i64.wrap ((i:Int)+1)=((i+1:Nat):Int):=zq (by omega)
   have hmem:=List.getElem_mem hi
   have hm5:(i*5) / 5=i:=by omega
   have hm6:(i*5) % 5=0:=by omega
   rw[List.drop_eq_getElem_cons hi]at h
   by_cases hlt:i<m.length
   · rw[List.drop_eq_getElem_cons hlt,zjs]at h
     have hlt':(i:Int)<m.length:=by omega
     have hle':¬ (m.length:Int)≤i:=by omega
     have hle2:¬ m.length≤i:=by omega
     have hF:cmpF d l[i] m[i]=some (zlO l[i] m[i]):=if_pos ⟨Ty.oks_iff.1 hok _ hmem,Ty.oks_iff.1 hok2 _ (List.getElem_mem hlt),by have:=Ty.size_mem hmem;omega⟩
     by_cases he:zlO l[i] m[i]=0
     · rw[if_neg (by simpa using he)]at h
       have hnew:=hK () ⟨by omega,h⟩
       rw[he]at hF
       simp[zp1,zhr,zhq,zhp,zho,zhn,zhm,zhl,zhk,zhj,zhi,zht,ze1,zhs,ze0,zez,zey,fS148,hE,hi,hi',hlt,hlt',hle',hle2,hm5,hm6,hc,hF,hw2,-Int.natCast_add]
       exact hnew _ _ (Less.auto (by simp[-Int.natCast_add]) (by simp) (by simp) (by simp))
     · rw[if_pos he]at h
       generalize zlO l[i] m[i]=c at hF he h
       simp[zp1,zhr,zhq,zhp,zho,zhn,zhm,zhl,zhk,zhj,zhi,zht,ze1,zhs,ze0,zez,zey,fS148,hE,hi,hi',hlt,hlt',hle',hle2,hm5,hm6,hc,hF,he]
       refine LessQ.mk (Less.auto (TL:=[(6,.int .i64 c)]) (HL:=[]) (n:=0) (by simp) (by simp) (by simp) (by simp)) ?_
       simp[zhr,zhq,zhp,zho,zhn,zhm,zhl,zhk,zhj,zhi,zht,ze1,zhs,ze0,zez,zey,fS148,hE,h]
   · have e:m.drop i=[]:=List.drop_eq_nil_of_le (by omega)
     rw[e,zjs]at h
     have hle':(m.length:Int)≤i:=by omega
     have hle2:m.length≤i:=by omega
     simp[zp1,zhr,zhq,zhp,zho,zhn,zhm,zhl,zhk,zhj,zhi,zht,ze1,zhs,ze0,zez,zey,fS148,hE,hi,hi',hle',hle2,hm5,hm6]
     refine LessQ.mk (Less.auto (TL:=[(6,.int .i64 1)]) (HL:=[]) (n:=0) (by simp) (by simp) (by simp) (by simp)) ?_
     simp[zhr,zhq,zhp,zho,zhn,zhm,zhl,zhk,zhj,zhi,zht,ze1,zhs,ze0,zez,zey,fS148,hE,← h]
theorem zmh{d:Nat}(hi:E.con 146=cmpIS)(hst:E.con 147=cmpSS)(ho:E.con 145=orS)(hc:E.con 148=fnS (cmpsF 107 d)){a b:Ty}(ha:a.ok=true)(hb:b.ok=true)(hd:a.size≤d+1)(hs:HS) :
 CallOk ρ Tryz.prog 107 [enc a,enc b] hs (enc (zlO a b)) hs:=by
 refine fn hρ hE hcon Tryz.func107 fB107 rfl (by simp) ?_ hs
 have hal:=Ty.ok_len ha
 have hbl:=Ty.ok_len hb
 have hsz:=Ty.size_eq a
 have hk:Ty.oks a.args=true:=Ty.oks_iff.2 (Ty.ok_iff.1 ha).2
 have hkb:Ty.oks b.args=true:=Ty.oks_iff.2 (Ty.ok_iff.1 hb).2
 have hd2:Ty.sizes a.args≤d:=by omega
 have hq:nzM [cmpI a.kind b.kind,cmpS a.name b.name,cmpI a.id b.id,cmpI a.home b.home,cmpI (a.args.length:Int) (b.args.length:Int)]=nzM (headC a b):=rfl
 rw[cmpTy_eq]
 generalize nzM (headC a b)=q at hq
 by_cases hz:q=0
 · rw[if_neg (by simpa using hz)]
   subst hz
   generalize hx:zjs a.args b.args=x
   simp[fS107r0,fS107r1,fS107r2,fS107r3,fS107r4,fS107,hE,hi,hst,ho,hc,cmpIS,cmpSS,orS,cmpsF,hq,hal,hbl,hk,hkb,hd2,hx]
 · rw[if_pos hz]
   simp[fS107r0,fS107r1,fS107r2,fS107r3,fS107r4,fS107,hE,hi,hst,ho,hc,cmpIS,cmpSS,orS,cmpsF,hq,hz]
end
section
variable {E:Env}(hE:E.P=Tryz.prog)(hcon:ConsOk ρ E)
include hE hcon
theorem zod{d:Nat}(hc:E.con 107=fnS (zD (cmpF d))){a b:Ty}(ha:a.ok=true)(hb:b.ok=true)(hd:a.size≤d)(hs:HS) :
 CallOk ρ Tryz.prog 63 [enc a,enc b] hs (enc (decide (a=b))) hs:=by
 refine fn hρ hE hcon Tryz.func63 fB63 rfl (by simp) ?_ hs
 have hF:cmpF d a b=some (zlO a b):=if_pos ⟨ha,hb,hd⟩
 have hz:decide (a=b)=decide (zlO a b=0):=by rw[Bool.eq_iff_iff];simp[cmpTy_zero]
 rw[hz]
 generalize zlO a b=c at hF
 obtain⟨ak,an,ai,ah,al⟩:=a
 obtain⟨bk,bn,bi,bh,bl⟩:=b
 simp[fS63r0,fS63r1,fS63,hE,hc,hF]
end
theorem vCompare(d:Nat):Valid ρ Tryz.prog 107 (fnS (zD (cmpF d))):=by
 induction d with
 | zero =>
   refine v2 (fo Tryz.func107 fB107) fun a b r h hs=>?_
   obtain⟨⟨h1,h2,h3⟩,rfl⟩:=z8 h
   have:=Ty.size_eq a
   omega
 | succ d ih =>
   refine v2 (fo Tryz.func107 fB107) fun a b r h hs=>?_
   obtain⟨⟨h1,h2,h3⟩,rfl⟩:=z8 h
   have hCF:Valid ρ Tryz.prog 148 (fnS (cmpsF 107 d)):=Valid.fnS (fo Tryz.func148 fB148) fun vs v hv hs=>by
    obtain⟨l,m,rfl,g1,g2,g3,g4,g5,rfl⟩:=cmpsF_inv hρ hv
    exact zi2 hρ (E:=EL [(107,fnS (zD (cmpF d)))]) rfl (zg (za ih valid_nil)) rfl g1 g2 g3 g4 g5 hs
   exact zmh hρ (E:=EL [(146,cmpIS),(147,cmpSS),(145,orS),(148,fnS (cmpsF 107 d))]) rfl
    (zg (za (vCmpI hρ) (za (vCmpS hρ) (za (vOr hρ) (za hCF valid_nil))))) rfl rfl rfl rfl h1 h2 h3 hs
def ziA:J.Spec:=fnS (zD fun a b:Ty=>if a.ok=true∧b.ok=true then some (decide (a=b))else none)
theorem vTEqual:Valid ρ Tryz.prog 63 ziA:=v2 (fo Tryz.func63 fB63) fun a b r h hs=>by
 obtain⟨⟨h1,h2⟩,rfl⟩:=z8 h
 exact zod hρ (E:=EL [(107,fnS (zD (cmpF a.size)))]) rfl (zg (za (vCompare hρ a.size) valid_nil)) rfl h1 h2 (Nat.le_refl _) hs
end
end Go.Proofs.YthfcfmkdeheicaaGreat
