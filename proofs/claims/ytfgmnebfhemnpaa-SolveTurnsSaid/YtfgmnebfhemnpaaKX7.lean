import Derived.Test.YtfgmnebfhemnpaaKX6
import Derived.Test.YtfgmnebfhemnpaaJK
import Derived.Test.YtfgmnebfhemnpaaJN
set_option linter.all false
noncomputable section
namespace Go.Proofs.Ytfgmnebfhemnpaa
open Go.J
open Go.J.Enc (enc)
set_option maxRecDepth 100000
set_option maxHeartbeats 1000000
def leafF(s:List Assign)(t:Ty):Option Ty:=if s.length≤100000∧t.ok=true then some (leafR s t)else none
section
variable {ρ:Nat→Value}(hρ:J.Good ρ){E:Env}(hE:E.P=Try.prog)(hcon:ConsOk ρ E)
include hρ hE hcon
theorem types_Replace_1_run {t:Ty} {s:List Assign} (ht:t.ok=true) (hsl:s.length≤100000) {id:Nat} {vs:List V} {hs:HS} (hfit:(capD (enc s) id [enc t,capV none 0] (enc (leafR s t))).Fits vs hs) :
 CallOk ρ Try.prog 57 vs hs ((capD (enc s) id [enc t,capV none 0] (enc (leafR s t))).val hs) ((capD (enc s) id [enc t,capV none 0] (enc (leafR s t))).heap hs):=by
 refine em hρ hE hcon Try.func57 fB57 rfl (capD_good (by simp)) ?_ hfit
 show Wp ρ E 1 _ _ _ { H:=mkP [(0,capB (enc s))],n:=1,log:=[] } (J.Leaves E.P _ (GivesL 1 (enc (leafR s t)) [(0,capB (enc s))]))
 unfold leafR
 by_cases hk:t.kind=1
 · rw [if_pos hk]
   simp[fS57r0,fS57r1,fS57r2,fS57r3,fS57r4,fS57r5,fS57r6,fS57b0,fS57r7,fS57b1,fS57r8,fS57,hE,hk]
   refine lpi hρ hE hcon s.length (nn:=3) (fun i (_:Unit)=>[(1,.ptr 0 0 0),(2,.ptr 1 0 0),(3,.ptr 2 0 0),(9,.sl (s.map encAssign) false),(10,.int .i64 (s.length:Int)),(11,.int .i64 (i:Int))]) (fun i _=>[(0,capB (.sl (s.map encAssign) false)),(1,box (encTy t)),(2,box [.int .i64 0,.str [],.int .i64 0,.int .i64 0,.snil])]) (fun i _=>lookA (s.take i) t.id=none) ()
    (Less.auto (by simp) (by simp[hk]) rfl rfl) rfl ?_ ?_
   · intro _ hl K
     rw[List.take_length]at hl
     simp[fS57l0,fS57r0,fS57r1,fS57r2,fS57r3,fS57r4,fS57r5,fS57r6,fS57b0,fS57r7,fS57b1,fS57r8,fS57,hE]
     refine LessQ.mk (Less.auto (TL:=[(2,.ptr 1 0 0),(3,.ptr 2 0 0)]) (HL:=[(0,capB (.sl (s.map encAssign) false)),(1,box (encTy t)),(2,box [.int .i64 0,.str [],.int .i64 0,.int .i64 0,.snil])]) (n:=3) (by simp) (by simp[hk]) rfl rfl) ?_
     simp[fS57r0,fS57r1,fS57r2,fS57r3,fS57r4,fS57r5,fS57r6,fS57b0,fS57r7,fS57b1,fS57r8,fS57,hE,hl,hk]
     exact GivesL.keep rfl rfl (by simp) (by simp) (by simp)
   · intro i _ hi hl K hK
     have hi':(i:Int)<s.length:=by omega
     have hw2:IntKind.i64.wrap ((i:Int)+1)=((i+1:Nat):Int):=wrap_succ (by omega)
     have hlk:∀ j,lookA (s.take (i+1)) j=(lookA (s.take i) j).or (lookA [s[i]] j):=fun j=>by
      rw[List.take_add_one,List.getElem?_eq_getElem hi,Option.toList_some,lookA_app]
     by_cases he:s[i].id=t.id
     · have hres:lookA s t.id=some s[i].type:=by
        conv=>lhs;rw[← List.take_append_drop (i+1) s]
        rw[lookA_app,hlk,hl]
        simp[lookA,he]
       simp[fS57l0,fS57r0,fS57r1,fS57r2,fS57r3,fS57r4,fS57r5,fS57r6,fS57b0,fS57r7,fS57b1,fS57r8,fS57,hE,hi,hi',he,hk]
       refine LessQ.mk (Less.auto (TL:=[(3,.ptr 2 0 0)]) (HL:=[(0,capB (.sl (s.map encAssign) false)),(2,box (encTy s[i].type))]) (n:=3) (by simp) (by simp) rfl rfl) ?_
       simp[fS57r0,fS57r1,fS57r2,fS57r3,fS57r4,fS57r5,fS57r6,fS57b0,fS57r7,fS57b1,fS57r8,fS57,hE,hres]
       exact GivesL.keep rfl rfl (by simp) (by simp) (by simp)
     · have hnew:=hK () (by rw[hlk,hl];simp[lookA,he])
       simp[fS57l0,fS57r0,fS57r1,fS57r2,fS57r3,fS57r4,fS57r5,fS57r6,fS57b0,fS57r7,fS57b1,fS57r8,fS57,hE,hi,hi',he,hk,hw2,-Int.natCast_add]
       exact hnew _ _ (Less.auto (by simp[-Int.natCast_add]) (by simp[hk]) rfl rfl)
 · rw[if_neg hk]
   simp[fS57r0,fS57r1,fS57r2,fS57r3,fS57r4,fS57r5,fS57r6,fS57b0,fS57r7,fS57b1,fS57r8,fS57,hE,hk]
   exact GivesL.keep rfl rfl (by simp) (by simp) (by simp)
end
end Go.Proofs.Ytfgmnebfhemnpaa
namespace Go.Proofs.Ytfgmnebfhemnpaa
open Go.J
open Go.J.Enc (enc)
set_option maxRecDepth 100000
set_option maxHeartbeats 1000000
def rebF(d:Nat)(s:List Assign)(t:Ty):Option Ty:=if s.length≤100000∧t.ok=true∧t.size≤d then some (t.reb (leafR s))else none
section
variable {ρ:Nat→Value}(hρ:J.Good ρ){E:Env}(hE:E.P=Try.prog)(hcon:ConsOk ρ E)
include hρ hE hcon
theorem types_rebuild_run{d:Nat}(hL:E.con 57=embS (capM none leafF))(hc:E.con 56=embS (capM (some 57) (rebF d))){t:Ty}{s:List Assign}(ht:t.ok=true)(hd:t.size≤d+1)(hsl:s.length≤100000){id:Nat}{vs:List V}{hs:HS}
 (hfit:(capD (enc s) id [enc t,capV (some 57) 0] (enc (t.reb (leafR s)))).Fits vs hs) :
 CallOk ρ Try.prog 56 vs hs ((capD (enc s) id [enc t,capV (some 57) 0] (enc (t.reb (leafR s)))).val hs) ((capD (enc s) id [enc t,capV (some 57) 0] (enc (t.reb (leafR s)))).heap hs):=by
 rw[← hE]
 refine em_runF hρ hcon (by rw[hE];exact follows) (by rw[hE];exact named) (by rw[hE];exact Try.func56) fB56 rfl (capD_good (by simp)) ?_ hfit
 show Wp ρ E 1 _ _ _ { H:=mkP [(0,capB (enc s))],n:=1,log:=[] } (J.Leaves E.P _ (GivesF 1 (enc (t.reb (leafR s))) [(0,capB (enc s))]))
 have hlen:=Ty.ok_len ht
 by_cases hk:t.args=[]
 · rw[reb_leaf hk]
   have hF:leafF s t=some (leafR s t):=if_pos ⟨hsl,ht⟩
   generalize leafR s t=r at hF
   obtain⟨tk,tn,ti,th,ta⟩:=t
   simp only[Ty.args_mk]at hk
   subst hk
   simp[fS56r0,fS56r1,fS56r2,fS56r3,fS56r4,fS56r5,fS56r6,fS56r7,fS56b0,fS56r8,fS56b1,fS56r9,fS56r10,fS56,hE,hL,hF]
   exact GivesF.keep rfl rfl (by simp[still2]) (by simp[ownB])
 · rw[reb_node hk]
   have hk2:¬ t.args.length=0:=fun e=>hk (List.eq_nil_of_length_eq_zero e)
   simp[fS56r0,fS56r1,fS56r2,fS56r3,fS56r4,fS56r5,fS56r6,fS56r7,fS56b0,fS56r8,fS56b1,fS56r9,fS56r10,fS56,hE,hk,hk2]
   have k1:t.args.length*64≤1048576:=Nat.le_trans (Nat.mul_le_mul_right 64 hlen) (by decide)
   have k2:t.args.length*5≤1048576:=Nat.le_trans (Nat.mul_le_mul_right 5 hlen) (by decide)
   refine⟨⟨k1,k2⟩,?_⟩
   have hml:(t.args.map (Ty.reb (leafR s))).length=t.args.length:=List.length_map ..
   refine lpi hρ hE hcon t.args.length (nn:=4) (fun i (_:Unit)=>[(1,.func 57 [.ptr 0 0 0]),(2,.ptr 1 0 0),(4,.ptr 2 0 0),(5,.own 3 0 0 t.args.length (some t.args.length)),(20,.sl (t.args.map encTy) false),(21,.int .i64 (t.args.length:Int)),(22,.int .i64 (i:Int))])
    (fun i _=>[(0,capB (.sl (s.map encAssign) false)),(1,box (encTy t)),(2,box zTy),(3,.arr 5 0 (fillR (t.args.map (Ty.reb (leafR s))) t.args.length i) true false true)]) (fun i _=>True) ()
    (Less.auto (by simp) (by simp[fillR_zero]) (by simp) (by simp)) trivial ?_ ?_
   · intro _ _ K
     rw[fillR_full hml]
     simp[fS56l0,fS56r0,fS56r1,fS56r2,fS56r3,fS56r4,fS56r5,fS56r6,fS56r7,fS56b0,fS56r8,fS56b1,fS56r9,fS56r10,fS56,hE]
     refine LessQ.mk (Less.auto (TL:=[(2,.ptr 1 0 0),(4,.ptr 2 0 0),(5,.own 3 0 0 t.args.length (some t.args.length))]) (HL:=[(0,capB (.sl (s.map encAssign) false)),(1,box (encTy t)),(2,box zTy),(3,.arr 5 0 ((t.args.map (Ty.reb (leafR s))).map encTy) true false true)]) (n:=4) (by simp) (by simp) (by simp) (by simp)) ?_
     simp[fS56r0,fS56r1,fS56r2,fS56r3,fS56r4,fS56r5,fS56r6,fS56r7,fS56b0,fS56r8,fS56b1,fS56r9,fS56r10,fS56,hE]
     have hnn:normLL (t.args.map (encTy ∘ Ty.reb (leafR s)))=t.args.map (encTy ∘ Ty.reb (leafR s)):=by rw[← List.map_map];simp[-List.map_map]
     exact GivesF.keep rfl rfl (by simp[still2,hnn]) (by simp[ownB])
   · intro i _ hi _ K hK
     have hi':(i:Int)<t.args.length:=by omega
     have hw2:IntKind.i64.wrap ((i:Int)+1)=((i+1:Nat):Int):=wrap_succ (by omega)
     have hm:=List.getElem_mem hi
     have hF:rebF d s t.args[i]=some (t.args[i].reb (leafR s)):=if_pos ⟨hsl,Ty.ok_arg ht hm,by have:=Ty.size_arg hm;omega⟩
     have hiR:i<(fillR (t.args.map (Ty.reb (leafR s))) t.args.length i).length:=by rw[fillR_len hml (Nat.le_of_lt hi)];exact hi
     have hov:=fillR_over hml hi hiR
     rw[List.getElem_map]at hov
     have hnew:=hK () trivial
     have hm5:(i*5) / 5=i:=by omega
     have hm6:(i*5) % 5=0:=by omega
     generalize hy:t.args[i].reb (leafR s)=y at hF hov
     simp[encTy_n]at hov
     simp[fS56l0,fS56r0,fS56r1,fS56r2,fS56r3,fS56r4,fS56r5,fS56r6,fS56r7,fS56b0,fS56r8,fS56b1,fS56r9,fS56r10,fS56,hE,hi,hi',hc,hF,hw2,hiR,hm5,hm6,hov,-Int.natCast_add]
     exact hnew _ _ (Less.auto (by simp[-Int.natCast_add]) (by simp) (by simp) (by simp))
end
end Go.Proofs.Ytfgmnebfhemnpaa
namespace Go.Proofs.Ytfgmnebfhemnpaa
open Go.J
open Go.J.Enc (enc)
set_option maxRecDepth 100000
set_option maxHeartbeats 1000000
section
variable {ρ:Nat→Value}(hρ:J.Good ρ)
include hρ
section
variable {E:Env}(hE:E.P=Try.prog)(hcon:ConsOk ρ E)
include hE hcon
theorem types_Replace_run{d:Nat}(hc:E.con 56=embS (capM (some 57) (rebF d))){t:Ty}{s:List Assign}(ht:t.ok=true)(hd:t.size≤d)(hsl:s.length≤100000)(hs:HS):CallOk ρ Try.prog 44 [enc t,enc s] hs (enc (t.reb (leafR s))) hs:=by
 refine fn hρ hE hcon Try.func44 fB44 rfl (by simp) ?_ hs
 have hF:rebF d s t=some (t.reb (leafR s)):=if_pos ⟨hsl,ht,hd⟩
 simp[fS44r0,fS44r1,fS44,hE,hc,hF]
end
theorem vRep1:Valid ρ Try.prog 57 (embS (capM none leafF)):=Valid.emb (fo Try.func57 fB57) fun vs hs D h=>by
 obtain⟨s,a,r,id,hF,rfl,_,hfit⟩:=capM_inv (fun s=>by simp) h
 obtain⟨⟨h1,h2⟩,rfl⟩:=ite_inv hF
 exact types_Replace_1_run hρ (E:=EL []) rfl (consOk_list valid_nil) h2 h1 hfit
theorem vRebuild(d:Nat):Valid ρ Try.prog 56 (embS (capM (some 57) (rebF d))):=by
 induction d with
 | zero =>
   refine Valid.emb (fo Try.func56 fB56) fun vs hs D h=>?_
   obtain⟨s,a,r,id,hF,rfl,_,hfit⟩:=capM_inv (fun s=>by simp) h
   obtain⟨⟨h1,h2,h3⟩,rfl⟩:=ite_inv hF
   have:=Ty.size_eq a
   omega
 | succ d ih =>
   refine Valid.emb (fo Try.func56 fB56) fun vs hs D h=>?_
   obtain⟨s,a,r,id,hF,rfl,_,hfit⟩:=capM_inv (fun s=>by simp) h
   obtain⟨⟨h1,h2,h3⟩,rfl⟩:=ite_inv hF
   exact types_rebuild_run hρ (E:=EL [(57,embS (capM none leafF)),(56,embS (capM (some 57) (rebF d)))]) rfl
    (consOk_list (valid_cons (vRep1 hρ) (valid_cons ih valid_nil))) rfl rfl h2 h3 h1 hfit
def replaceS:J.Spec:=fnS (spec2 fun (t:Ty) (s:List Assign)=>if t.ok=true∧s.length≤100000 then some (t.reb (leafR s))else none)
theorem vTReplace:Valid ρ Try.prog 44 replaceS:=v2 (fo Try.func44 fB44) fun a b r h hs=>by
 obtain⟨⟨h1,h2⟩,rfl⟩:=ite_inv h
 exact types_Replace_run hρ (E:=EL [(56,embS (capM (some 57) (rebF a.size)))]) rfl (consOk_list (valid_cons (vRebuild hρ a.size) valid_nil)) rfl h1 (Nat.le_refl _) h2 hs
end
end Go.Proofs.Ytfgmnebfhemnpaa
