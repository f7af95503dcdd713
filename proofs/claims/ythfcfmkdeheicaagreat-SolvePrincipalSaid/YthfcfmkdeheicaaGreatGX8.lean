import Derived.Test.YthfcfmkdeheicaaGreatGX6
import Derived.Test.YthfcfmkdeheicaaGreatJK
import Derived.Test.YthfcfmkdeheicaaGreatJN
set_option linter.all false
noncomputable section
namespace Go.Proofs.YthfcfmkdeheicaaGreat
open Go.J
open Go.J.Enc (enc)
set_option maxRecDepth 100000
set_option maxHeartbeats 1000000
def leafF(s:List Assign)(t:Ty):Option Ty:=if s.length≤100000∧t.ok=true then some (zeG s t)else none
section
variable {ρ:Nat→Value}(hρ:J.Good ρ){E:Env}(hE:E.P=Tryz.prog)(hcon:ConsOk ρ E)
include hρ hE hcon
theorem zjW {t:Ty} {s:List Assign} (ht:t.ok=true) (hsl:s.length≤100000) {id:Nat} {vs:List V} {hs:HS} (hfit:(capD (enc s) id [enc t,capV none 0] (enc (zeG s t))).Fits vs hs) :
 CallOk ρ Tryz.prog 160 vs hs ((capD (enc s) id [enc t,capV none 0] (enc (zeG s t))).val hs) ((capD (enc s) id [enc t,capV none 0] (enc (zeG s t))).heap hs):=by
 refine em hρ hE hcon Tryz.func160 fB160 rfl (capD_good (by simp)) ?_ hfit
 show Wp ρ E 1 _ _ _ { H:=mkP [(0,zfX (enc s))],n:=1,log:=[] } (J.Leaves E.P _ (GivesL 1 (enc (zeG s t)) [(0,zfX (enc s))]))
 unfold zeG
 by_cases hk:t.kind=1
 · rw [if_pos hk]
   simp[zji,zjh,zjg,zjf,zje,zjd,zjc,zjk,zjb,zjj,zja,fS160,hE,hk]
   refine lpi hρ hE hcon s.length (nn:=3) (fun i (_:Unit)=>[(1,.ptr 0 0 0),(2,.ptr 1 0 0),(3,.ptr 2 0 0),(9,.sl (s.map zf) false),(10,.int .i64 (s.length:Int)),(11,.int .i64 (i:Int))]) (fun i _=>[(0,zfX (.sl (s.map zf) false)),(1,box (zh t)),(2,box [.int .i64 0,.str [],.int .i64 0,.int .i64 0,.snil])]) (fun i _=>zo (s.take i) t.id=none) ()
    (Less.auto (by simp) (by simp[hk]) rfl rfl) rfl ?_ ?_
   · intro _ hl K
     rw[List.take_length]at hl
     simp[fS160l0,zji,zjh,zjg,zjf,zje,zjd,zjc,zjk,zjb,zjj,zja,fS160,hE]
     refine LessQ.mk (Less.auto (TL:=[(2,.ptr 1 0 0),(3,.ptr 2 0 0)]) (HL:=[(0,zfX (.sl (s.map zf) false)),(1,box (zh t)),(2,box [.int .i64 0,.str [],.int .i64 0,.int .i64 0,.snil])]) (n:=3) (by simp) (by simp[hk]) rfl rfl) ?_
     simp[zji,zjh,zjg,zjf,zje,zjd,zjc,zjk,zjb,zjj,zja,fS160,hE,hl,hk]
     exact GivesL.keep rfl rfl (by simp) (by simp) (by simp)
   · intro i _ hi hl K hK
     have hi':(i:Int)<s.length:=by omega
     have hw2:IntKind.i64.wrap ((i:Int)+1)=((i+1:Nat):Int):=zq (by omega)
     have hlk:∀ j,zo (s.take (i+1)) j=(zo (s.take i) j).or (zo [s[i]] j):=fun j=>by
      rw[List.take_add_one,List.getElem?_eq_getElem hi,Option.toList_some,zaS]
     by_cases he:s[i].id=t.id
     · have hres:zo s t.id=some s[i].type:=by
        conv=>lhs;rw[← List.take_append_drop (i+1) s]
        rw[zaS,hlk,hl]
        simp[zo,he]
       simp[fS160l0,zji,zjh,zjg,zjf,zje,zjd,zjc,zjk,zjb,zjj,zja,fS160,hE,hi,hi',he,hk]
       refine LessQ.mk (Less.auto (TL:=[(3,.ptr 2 0 0)]) (HL:=[(0,zfX (.sl (s.map zf) false)),(2,box (zh s[i].type))]) (n:=3) (by simp) (by simp) rfl rfl) ?_
       simp[zji,zjh,zjg,zjf,zje,zjd,zjc,zjk,zjb,zjj,zja,fS160,hE,hres]
       exact GivesL.keep rfl rfl (by simp) (by simp) (by simp)
     · have hnew:=hK () (by rw[hlk,hl];simp[zo,he])
       simp[fS160l0,zji,zjh,zjg,zjf,zje,zjd,zjc,zjk,zjb,zjj,zja,fS160,hE,hi,hi',he,hk,hw2,-Int.natCast_add]
       exact hnew _ _ (Less.auto (by simp[-Int.natCast_add]) (by simp[hk]) rfl rfl)
 · rw[if_neg hk]
   simp[zji,zjh,zjg,zjf,zje,zjd,zjc,zjk,zjb,zjj,zja,fS160,hE,hk]
   exact GivesL.keep rfl rfl (by simp) (by simp) (by simp)
end
end Go.Proofs.YthfcfmkdeheicaaGreat
namespace Go.Proofs.YthfcfmkdeheicaaGreat
open Go.J
open Go.J.Enc (enc)
set_option maxRecDepth 100000
set_option maxHeartbeats 1000000
def rebF(d:Nat)(s:List Assign)(t:Ty):Option Ty:=if s.length≤100000∧t.ok=true∧t.size≤d then some (t.reb (zeG s))else none
section
variable {ρ:Nat→Value}(hρ:J.Good ρ){E:Env}(hE:E.P=Tryz.prog)(hcon:ConsOk ρ E)
include hρ hE hcon
theorem zmf{d:Nat}(hL:E.con 160=zdo (capM none leafF))(hc:E.con 159=zdo (capM (some 160) (rebF d))){t:Ty}{s:List Assign}(ht:t.ok=true)(hd:t.size≤d+1)(hsl:s.length≤100000){id:Nat}{vs:List V}{hs:HS}
 (hfit:(capD (enc s) id [enc t,capV (some 160) 0] (enc (t.reb (zeG s)))).Fits vs hs) :
 CallOk ρ Tryz.prog 159 vs hs ((capD (enc s) id [enc t,capV (some 160) 0] (enc (t.reb (zeG s)))).val hs) ((capD (enc s) id [enc t,capV (some 160) 0] (enc (t.reb (zeG s)))).heap hs):=by
 rw[← hE]
 refine em_runF hρ hcon (by rw[hE];exact follows) (by rw[hE];exact named) (by rw[hE];exact Tryz.func159) fB159 rfl (capD_good (by simp)) ?_ hfit
 show Wp ρ E 1 _ _ _ { H:=mkP [(0,zfX (enc s))],n:=1,log:=[] } (J.Leaves E.P _ (GivesF 1 (enc (t.reb (zeG s))) [(0,zfX (enc s))]))
 have hlen:=Ty.ok_len ht
 by_cases hk:t.args=[]
 · rw[reb_leaf hk]
   have hF:leafF s t=some (zeG s t):=if_pos ⟨hsl,ht⟩
   generalize zeG s t=r at hF
   obtain⟨tk,tn,ti,th,ta⟩:=t
   simp only[Ty.args_mk]at hk
   subst hk
   simp[zm7,zm6,zm5,zm4,zm3,zm2,zm1,zm0,zm9,zmz,zm8,zmy,zj7,fS159,hE,hL,hF]
   exact GivesF.keep rfl rfl (by simp[zaL]) (by simp[ownB])
 · rw[reb_node hk]
   have hk2:¬ t.args.length=0:=fun e=>hk (List.eq_nil_of_length_eq_zero e)
   simp[zm7,zm6,zm5,zm4,zm3,zm2,zm1,zm0,zm9,zmz,zm8,zmy,zj7,fS159,hE,hk,hk2]
   have k1:t.args.length*64≤1048576:=Nat.le_trans (Nat.mul_le_mul_right 64 hlen) (by decide)
   have k2:t.args.length*5≤1048576:=Nat.le_trans (Nat.mul_le_mul_right 5 hlen) (by decide)
   refine⟨⟨k1,k2⟩,?_⟩
   have hml:(t.args.map (Ty.reb (zeG s))).length=t.args.length:=List.length_map ..
   refine lpi hρ hE hcon t.args.length (nn:=4) (fun i (_:Unit)=>[(1,.func 160 [.ptr 0 0 0]),(2,.ptr 1 0 0),(4,.ptr 2 0 0),(5,.own 3 0 0 t.args.length (some t.args.length)),(20,.sl (t.args.map zh) false),(21,.int .i64 (t.args.length:Int)),(22,.int .i64 (i:Int))])
    (fun i _=>[(0,zfX (.sl (s.map zf) false)),(1,box (zh t)),(2,box zTy),(3,.arr 5 0 (zeL (t.args.map (Ty.reb (zeG s))) t.args.length i) true false true)]) (fun i _=>True) ()
    (Less.auto (by simp) (by simp[zmx]) (by simp) (by simp)) trivial ?_ ?_
   · intro _ _ K
     rw[fillR_full hml]
     simp[fS159l0,zm7,zm6,zm5,zm4,zm3,zm2,zm1,zm0,zm9,zmz,zm8,zmy,zj7,fS159,hE]
     refine LessQ.mk (Less.auto (TL:=[(2,.ptr 1 0 0),(4,.ptr 2 0 0),(5,.own 3 0 0 t.args.length (some t.args.length))]) (HL:=[(0,zfX (.sl (s.map zf) false)),(1,box (zh t)),(2,box zTy),(3,.arr 5 0 ((t.args.map (Ty.reb (zeG s))).map zh) true false true)]) (n:=4) (by simp) (by simp) (by simp) (by simp)) ?_
     simp[zm7,zm6,zm5,zm4,zm3,zm2,zm1,zm0,zm9,zmz,zm8,zmy,zj7,fS159,hE]
     have hnn:zad (t.args.map (zh ∘ Ty.reb (zeG s)))=t.args.map (zh ∘ Ty.reb (zeG s)):=by rw[← List.map_map];simp[-List.map_map]
     exact GivesF.keep rfl rfl (by simp[zaL,hnn]) (by simp[ownB])
   · intro i _ hi _ K hK
     have hi':(i:Int)<t.args.length:=by omega
     have hw2:IntKind.i64.wrap ((i:Int)+1)=((i+1:Nat):Int):=zq (by omega)
     have hm:=List.getElem_mem hi
     have hF:rebF d s t.args[i]=some (t.args[i].reb (zeG s)):=if_pos ⟨hsl,Ty.ok_arg ht hm,by have:=Ty.size_arg hm;omega⟩
     have hiR:i<(zeL (t.args.map (Ty.reb (zeG s))) t.args.length i).length:=by rw[fillR_len hml (Nat.le_of_lt hi)];exact hi
     have hov:=fillR_over hml hi hiR
     rw[List.getElem_map]at hov
     have hnew:=hK () trivial
     have hm5:(i*5) / 5=i:=by omega
     have hm6:(i*5) % 5=0:=by omega
     generalize hy:t.args[i].reb (zeG s)=y at hF hov
     simp[zas]at hov
     simp[fS159l0,zm7,zm6,zm5,zm4,zm3,zm2,zm1,zm0,zm9,zmz,zm8,zmy,zj7,fS159,hE,hi,hi',hc,hF,hw2,hiR,hm5,hm6,hov,-Int.natCast_add]
     exact hnew _ _ (Less.auto (by simp[-Int.natCast_add]) (by simp) (by simp) (by simp))
end
end Go.Proofs.YthfcfmkdeheicaaGreat
namespace Go.Proofs.YthfcfmkdeheicaaGreat
open Go.J
open Go.J.Enc (enc)
set_option maxRecDepth 100000
set_option maxHeartbeats 1000000
section
variable {ρ:Nat→Value}(hρ:J.Good ρ)
include hρ
section
variable {E:Env}(hE:E.P=Tryz.prog)(hcon:ConsOk ρ E)
include hE hcon
theorem zmg{d:Nat}(hc:E.con 159=zdo (capM (some 160) (rebF d))){t:Ty}{s:List Assign}(ht:t.ok=true)(hd:t.size≤d)(hsl:s.length≤100000)(hs:HS):CallOk ρ Tryz.prog 130 [enc t,enc s] hs (enc (t.reb (zeG s))) hs:=by
 refine fn hρ hE hcon Tryz.func130 fB130 rfl (by simp) ?_ hs
 have hF:rebF d s t=some (t.reb (zeG s)):=if_pos ⟨hsl,ht,hd⟩
 simp[fS130r0,fS130r1,fS130,hE,hc,hF]
end
theorem vRep1:Valid ρ Tryz.prog 160 (zdo (capM none leafF)):=Valid.emb (fo Tryz.func160 fB160) fun vs hs D h=>by
 obtain⟨s,a,r,id,hF,rfl,_,hfit⟩:=capM_inv (fun s=>by simp) h
 obtain⟨⟨h1,h2⟩,rfl⟩:=z8 hF
 exact zjW hρ (E:=EL []) rfl (zg valid_nil) h2 h1 hfit
theorem vRebuild(d:Nat):Valid ρ Tryz.prog 159 (zdo (capM (some 160) (rebF d))):=by
 induction d with
 | zero =>
   refine Valid.emb (fo Tryz.func159 fB159) fun vs hs D h=>?_
   obtain⟨s,a,r,id,hF,rfl,_,hfit⟩:=capM_inv (fun s=>by simp) h
   obtain⟨⟨h1,h2,h3⟩,rfl⟩:=z8 hF
   have:=Ty.size_eq a
   omega
 | succ d ih =>
   refine Valid.emb (fo Tryz.func159 fB159) fun vs hs D h=>?_
   obtain⟨s,a,r,id,hF,rfl,_,hfit⟩:=capM_inv (fun s=>by simp) h
   obtain⟨⟨h1,h2,h3⟩,rfl⟩:=z8 hF
   exact zmf hρ (E:=EL [(160,zdo (capM none leafF)),(159,zdo (capM (some 160) (rebF d)))]) rfl
    (zg (za (vRep1 hρ) (za ih valid_nil))) rfl rfl h2 h3 h1 hfit
def replaceS:J.Spec:=fnS (zD fun (t:Ty) (s:List Assign)=>if t.ok=true∧s.length≤100000 then some (t.reb (zeG s))else none)
theorem vTReplace:Valid ρ Tryz.prog 130 replaceS:=v2 (fo Tryz.func130 fB130) fun a b r h hs=>by
 obtain⟨⟨h1,h2⟩,rfl⟩:=z8 h
 exact zmg hρ (E:=EL [(159,zdo (capM (some 160) (rebF a.size)))]) rfl (zg (za (vRebuild hρ a.size) valid_nil)) rfl h1 (Nat.le_refl _) h2 hs
end
end Go.Proofs.YthfcfmkdeheicaaGreat
