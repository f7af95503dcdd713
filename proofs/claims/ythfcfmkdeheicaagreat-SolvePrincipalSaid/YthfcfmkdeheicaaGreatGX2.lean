import Derived.Test.YthfcfmkdeheicaaGreatGW5
import Derived.Test.YthfcfmkdeheicaaGreatJN
import Derived.Test.YthfcfmkdeheicaaGreatJK
set_option linter.all false
noncomputable section
namespace Go.Proofs.YthfcfmkdeheicaaGreat
open Go.J
open Go.J.Enc (enc)
set_option maxRecDepth 100000
set_option maxHeartbeats 1000000
def idxM:List Int→Int→Int→Int
 | [],_,_=>-1
 |y::l,x,i=>if x=y then i else idxM l x (i+1)
theorem idxM_ge:∀ (l:List Int) (x i:Int),0≤i→(decide (idxM l x i ≥ 0))=decide (x∈l):=by
 intro l
 induction l with
 |nil=>intro x i h;simp[idxM]
 | cons y l ih =>
   intro x i h
   rw[idxM]
   split
   · rename_i e;simp[e,h]
   · rename_i e
     rw[ih x (i+1) (by omega)]
     simp[e]
section
variable {ρ:Nat→Value}(hρ:J.Good ρ)
include hρ
section
variable {E:Env}(hE:E.P=Tryz.prog)(hcon:ConsOk ρ E)
include hE hcon
theorem znB{l:List Int}{x:Int}(hl:l.length≤1000000)(hs:HS):CallOk ρ Tryz.prog 150 [enc l,enc x] hs (enc (idxM l x 0)) hs:=by
 refine fn hρ hE hcon Tryz.func150 fB150 rfl (by simp) ?_ hs
 generalize hr:idxM l x 0=r
 simp[zkp,zko,zkn,zkm,zkl,zkk,zkr,zkj,zkq,zki,fS150,hE]
 refine lpi hρ hE hcon l.length (nn:=0) (fun i (_:Unit)=>[(0,.sl (l.map encI) false),(1,.int .i64 x),(7,.int .i64 (l.length:Int)),(8,.int .i64 (i:Int))]) (fun i _=>[]) (fun i _=>idxM (l.drop i) x i=r) ()
  (Less.auto (by simp) (by simp) (by simp) (by simp)) (by simpa using hr) ?_ ?_
 · intro _ h K
   rw[List.drop_length,idxM]at h
   simp[fS150l0,zkp,zko,zkn,zkm,zkl,zkk,zkr,zkj,zkq,zki,fS150,hE]
   refine LessQ.mk (Less.auto (TL:=[]) (HL:=[]) (n:=0) (by simp) (by simp) (by simp) (by simp)) ?_
   simp[zkp,zko,zkn,zkm,zkl,zkk,zkr,zkj,zkq,zki,fS150,hE,h]
 · intro i _ hi h K hK
   have hi':(i:Int)<l.length:=by omega
   have hw2:IntKind.i64.wrap ((i:Int)+1)=((i+1:Nat):Int):=zq (by omega)
   rw[List.drop_eq_getElem_cons hi,idxM]at h
   by_cases he:x=l[i]
   · rw[if_pos he]at h
     simp[fS150l0,zkp,zko,zkn,zkm,zkl,zkk,zkr,zkj,zkq,zki,fS150,hE,hi,hi',← he]
     refine LessQ.mk (Less.auto (TL:=[(4,.int .i64 (i:Int))]) (HL:=[]) (n:=0) (by simp) (by simp) (by simp) (by simp)) ?_
     simp[zkp,zko,zkn,zkm,zkl,zkk,zkr,zkj,zkq,zki,fS150,hE,h]
   · rw[if_neg he]at h
     have hnew:=hK () (by simpa using h)
     simp[fS150l0,zkp,zko,zkn,zkm,zkl,zkk,zkr,zkj,zkq,zki,fS150,hE,hi,hi',he,hw2,-Int.natCast_add]
     exact hnew _ _ (Less.auto (by simp[-Int.natCast_add]) (by simp) (by simp) (by simp))
theorem zjZ(hI:E.con 150=fnC (zD fun (l:List Int) (x:Int)=>if l.length≤1000000 then some (idxM l x 0)else none)){l:List Int}{x:Int}(hl:l.length≤1000000)(hs:HS):CallOk ρ Tryz.prog 115 [enc l,enc x] hs (enc (decide (x∈l))) hs:=by
 refine fn hρ hE hcon Tryz.func115 fB115 rfl (by simp) ?_ hs
 rw[← idxM_ge l x 0 (by omega)]
 simp[fS115r0,fS115r1,fS115,hE,hI,hl]
end
def indexS:J.Spec:=fnC (zD fun (l:List Int) (x:Int)=>if l.length≤1000000 then some (idxM l x 0)else none)
theorem vIndex:Valid ρ Tryz.prog 150 indexS:=c2 (fo Tryz.func150 fB150) fun a b r h hs=>by
 obtain⟨h1,rfl⟩:=z8 h
 exact znB hρ (E:=EL []) rfl (zg valid_nil) h1 hs
theorem vContains:Valid ρ Tryz.prog 115 hasS:=c2 (fo Tryz.func115 fB115) fun a b r h hs=>by
 obtain⟨h1,rfl⟩:=z8 h
 exact zjZ hρ (E:=EL [(150,indexS)]) rfl (zg (za (vIndex hρ) valid_nil)) rfl h1 hs
end
end Go.Proofs.YthfcfmkdeheicaaGreat
namespace Go.Proofs.YthfcfmkdeheicaaGreat
open Go.J
open Go.J.Enc (enc)
set_option maxRecDepth 100000
set_option maxHeartbeats 1000000
section
variable {ρ:Nat→Value}(hρ:J.Good ρ){E:Env}(hE:E.P=Tryz.prog)(hcon:ConsOk ρ E)
include hρ hE hcon
theorem zn4 (hC:E.con 115=hasS) {t:Ty} {out:List Int} (hl:out.length≤100000) {id ro:Nat} {vs:List V} {hs:HS} (hfit:(znH none (enc t) id ro out (zW out t)).Fits vs hs) :
 CallOk ρ Tryz.prog 114 vs hs ((znH none (enc t) id ro out (zW out t)).val hs) ((znH none (enc t) id ro out (zW out t)).heap hs):=by
 have hle:out.length≤(zW out t).length:=by unfold zW;split<;>simp
 refine em hρ hE hcon Tryz.func114 fB114 rfl (colD_good hle) ?_ hfit
 clear hfit
 generalize hR:zW out t=R
 unfold zW at hR
 have hl2:out.length≤1000000:=by omega
 rcases out with _|⟨a,out⟩
 · show Wp ρ E 1 _ _ _ { H:=mkP (zat []),n:=1,log:=[] } (J.Leaves E.P _ (GivesL 1 (.tuple []) (zat R)))
   by_cases hk:t.kind=1
   · simp[hk]at hR
     subst hR
     simp[zmC,zmB,zmA,fS114,hE,hk,hC,hasS,zat]
     exact GivesL.litX (fun k=>if k=1 then 16 else k) rfl rfl ⟨rfl,rfl⟩ (by simp)
   · simp[hk]at hR
     subst hR
     simp[zmC,zmB,zmA,fS114,hE,hk,zat]
     exact GivesL.keepX rfl rfl rfl (by simp)
 · show Wp ρ E 2 _ _ _ { H:=mkP (zat (a::out)),n:=2,log:=[] } (J.Leaves E.P _ (GivesL 2 (.tuple []) (zat R)))
   have hl3:out.length+1≤1000000:=by simpa using hl2
   by_cases hk:t.kind=1
   · by_cases hm:t.id∈a::out
     · rw[if_neg (by simp[hm])]at hR
       subst hR
       have hm':=List.mem_cons.1 hm
       simp[zmC,zmB,zmA,fS114,hE,hk,hC,hasS,hl3,hm',zat]
       exact GivesL.keepX rfl rfl rfl (by simp)
     · rw[if_pos ⟨hk,hm⟩]at hR
       subst hR
       have hm1:¬ t.id=a:=fun e=>hm (e ▸ List.mem_cons_self ..)
       have hm2:¬ t.id∈out:=fun e=>hm (List.mem_cons_of_mem _ e)
       have h8:(out.length+1+1)*8≤1048576:=by simp at hl;omega
       simp[zmC,zmB,zmA,fS114,hE,hk,hC,hasS,hl3,hm1,hm2,h8,Nat.not_succ_le_self,zat]
       exact GivesL.keepX rfl rfl rfl (by simp)
   · rw[if_neg (by simp[hk])]at hR
     subst hR
     simp[zmC,zmB,zmA,fS114,hE,hk,zat]
     exact GivesL.keepX rfl rfl rfl (by simp)
end
end Go.Proofs.YthfcfmkdeheicaaGreat
namespace Go.Proofs.YthfcfmkdeheicaaGreat
open Go.J
open Go.J.Enc (enc)
set_option maxRecDepth 100000
set_option maxHeartbeats 1000000
def znX(out:List Int)(t:Ty):Option (List Int):=if out.length≤100000 then some (zW out t)else none
def visTF(d:Nat)(out:List Int)(t:Ty):Option (List Int):=if t.ok=true∧t.size≤d∧out.length+t.size≤100000 then some (zmG t out)else none
section
variable {ρ:Nat→Value}(hρ:J.Good ρ)
include hρ
theorem vVars1:Valid ρ Tryz.prog 114 (zdo (colM none znX)):=Valid.emb (fo Tryz.func114 fB114) fun vs hs D h=>by
 obtain⟨out,t,r,id,ro,hF,rfl,_,_,hfit⟩:=colM_inv h
 obtain⟨h1,rfl⟩:=z8 hF
 exact zn4 hρ (E:=EL [(115,hasS)]) rfl (zg (za (vContains hρ) valid_nil)) rfl h1 hfit
section
variable {E:Env}(hE:E.P=Tryz.prog)(hcon:ConsOk ρ E)
include hE hcon
theorem zn3 {d k:Nat} (hc:E.con 113=zdo (colM (some 114) (visTF d))) {t:Ty} {m:List Int} (hk:k=1∨k=2∧m≠[]) (ht:t.ok=true) (hd:t.size≤d+1) (hl:m.length+Ty.sizes t.args≤100000) :
 Ls ρ E k 20 (.loop zkM) (mkP [(1,.func 114 [.ptr 0 0 0]),(10,.sl (t.args.map zh) false),(11,.int .i64 (t.args.length:Int)),(12,.int .i64 ((0:Nat):Int))]) { H:=mkP (zat m),n:=2,log:=[] }
  (Ex.inBlock 0 (J.Leaves E.P Tryz.f113 (GivesL k (.tuple []) (zat (zcv t.args m))))):=by
 have hlen:=Ty.ok_len ht
 refine lpi hρ hE hcon t.args.length (nn:=2) (fun i (_:List Int)=>[(1,.func 114 [.ptr 0 0 0]),(10,.sl (t.args.map zh) false),(11,.int .i64 (t.args.length:Int)),(12,.int .i64 (i:Int))])
  (fun i out=>zat out) (fun i out=>out=zcv (t.args.take i) m∧(k=2→out≠[])) m ?_ ⟨by simp[zcv],fun h=>hk.elim (fun h1=>by omega) (fun h1=>h1.2)⟩ ?_ ?_
 · rcases hk with rfl|⟨rfl,hm⟩
   · rcases m with _|⟨a,m⟩<;>exact Less.auto (by simp[zat]) (by simp[zat]) (by simp[zat]) (by simp[zat,List.range_succ])
   · rcases m with _|⟨a,m⟩
     · exact absurd rfl hm
     · exact Less.auto (by simp[zat]) (by simp[zat]) (by simp[zat]) (by simp[zat,List.range_succ])
 · rintro out ⟨ho,h2⟩ K
   rw[List.take_length]at ho
   rw[← ho]
   clear ho
   rcases out with _|⟨a,out⟩
   · obtain rfl:k=1:=hk.elim (fun h=>h) (fun h=>absurd rfl (h2 h.1))
     simp[zkM,zfP,zfO,zfN,zfM,zfL,zfK,zfR,zfJ,zfQ,zp2,hE,zat]
     refine LessQ.mk (Less.auto (TL:=[]) (HL:=zat []) (n:=2) (by simp) (by simp[zat]) (by simp[zat]) (by simp[zat,List.range_succ])) ?_
     simp[zfP,zfO,zfN,zfM,zfL,zfK,zfR,zfJ,zfQ,zp2,hE,zat]
     exact GivesL.keepX rfl rfl rfl (by simp)
   · rcases hk with rfl|⟨rfl,_⟩
     all_goals
      simp[zkM,zfP,zfO,zfN,zfM,zfL,zfK,zfR,zfJ,zfQ,zp2,hE,zat]
      refine LessQ.mk (Less.auto (TL:=[]) (HL:=zat (a::out)) (n:=2) (by simp) (by simp[zat]) (by simp[zat]) (by simp[zat,List.range_succ])) ?_
      simp[zfP,zfO,zfN,zfM,zfL,zfK,zfR,zfJ,zfQ,zp2,hE,zat]
      exact GivesL.keepX rfl rfl rfl (by simp)
 · rintro i out hi ⟨ho,h2⟩ K hK
   have hi':(i:Int)<t.args.length:=by omega
   have hw2:IntKind.i64.wrap ((i:Int)+1)=((i+1:Nat):Int):=zq (by omega)
   have hmem:=List.getElem_mem hi
   have hol:=(colTs_len (t.args.take i) m).2
   have hsz:=zfi t.args (i+1)
   rw[List.take_add_one,List.getElem?_eq_getElem hi,Option.toList_some,ziD]at hsz
   simp only[Ty.sizes]at hsz
   have hF:visTF d out t.args[i]=some (zmG t.args[i] out):=if_pos ⟨Ty.ok_arg ht hmem,by have:=Ty.size_arg hmem;omega,by rw[ho];omega⟩
   have hol2:=colT_len t.args[i] out
   have hnew:=hK (zmG t.args[i] out) ⟨by rw[List.take_add_one,List.getElem?_eq_getElem hi,Option.toList_some,colTs_snoc,← ho],fun h e=>h2 h (by rw[e]at hol2;exact List.eq_nil_of_length_eq_zero (by simpa using hol2.1))⟩
   clear ho hK
   generalize zmG t.args[i] out=out' at hF hnew hol2
   rcases out with _|⟨a,out⟩
   · obtain rfl:k=1:=hk.elim (fun h=>h) (fun h=>absurd rfl (h2 h.1))
     rcases out' with _|⟨b,out'⟩
     · simp[zkM,zfP,zfO,zfN,zfM,zfL,zfK,zfR,zfJ,zfQ,zp2,hE,hi,hi',hc,hF,hw2,vacant_eq,zat,-Int.natCast_add]
       exact hnew _ _ (Less.auto (by simp[zat,-Int.natCast_add]) (by simp[zat]) (by simp[zat]) (by simp[zat,List.range_succ]))
     · simp[zkM,zfP,zfO,zfN,zfM,zfL,zfK,zfR,zfJ,zfQ,zp2,hE,hi,hi',hc,hF,hw2,vacant_eq,zat,-Int.natCast_add]
       exact hnew _ _ (Less.auto (by simp[zat,-Int.natCast_add]) (by simp[zat]) (by simp[zat]) (by simp[zat,List.range_succ]))
   · rcases out' with _|⟨b,out'⟩
     · simp at hol2
     · have hle:out.length≤out'.length:=by simpa using hol2.1
       rcases hk with rfl|⟨rfl,_⟩
       all_goals
        simp[zkM,zfP,zfO,zfN,zfM,zfL,zfK,zfR,zfJ,zfQ,zp2,hE,hi,hi',hc,hF,hw2,hle,vacant_eq,zat,-Int.natCast_add]
        exact hnew _ _ (Less.auto (by simp[zat,-Int.natCast_add]) (by simp[zat]) (by simp[zat]) (by simp[zat,List.range_succ]))
theorem zoc{d:Nat}(hL:E.con 114=zdo (colM none znX))(hc:E.con 113=zdo (colM (some 114) (visTF d))){t:Ty}{out:List Int}(ht:t.ok=true)(hd:t.size≤d+1)(hl:out.length+t.size≤100000){id ro:Nat}{vs:List V}{hs:HS}
 (hfit:(znH (some 114) (enc t) id ro out (zmG t out)).Fits vs hs) :
 CallOk ρ Tryz.prog 113 vs hs ((znH (some 114) (enc t) id ro out (zmG t out)).val hs) ((znH (some 114) (enc t) id ro out (zmG t out)).heap hs):=by
 refine em hρ hE hcon Tryz.func113 fB113 rfl (colD_good (colT_len t out).1) ?_ hfit
 clear hfit
 have hlen:=Ty.ok_len ht
 have hts:=Ty.size_eq t
 have hF:znX out t=some (zW out t):=if_pos (by omega)
 have hl1:=colLeaf_len out t
 rw[colT_eq]
 have lo:=fun (k:Nat) (hk:k=1∨k=2∧zW out t≠[])=>zn3 hρ hE hcon hc (m:=zW out t) hk ht hd (by omega)
 rcases out with _|⟨a,out⟩
 · show Wp ρ E 1 _ _ _ { H:=mkP (zat []),n:=1,log:=[] } (J.Leaves E.P _ (GivesL 1 (.tuple []) (zat (zcv t.args (zW [] t)))))
   generalize zW [] t=m at hF hl1 lo
   rcases m with _|⟨b,m⟩
   · simp[zfP,zfO,zfN,zfM,zfL,zfK,zfR,zfJ,zfQ,zp2,hE,hL,hF,vacant_eq,zat]
     exact Ls_less (Less.auto (by simp[zat,-Int.natCast_add]) (by simp[zat]) (by simp[zat]) (by simp[zat,List.range_succ])) (lo 1 (.inl rfl))
   · simp[zfP,zfO,zfN,zfM,zfL,zfK,zfR,zfJ,zfQ,zp2,hE,hL,hF,vacant_eq,zat]
     exact Ls_less (Less.auto (by simp[zat,-Int.natCast_add]) (by simp[zat]) (by simp[zat]) (by simp[zat,List.range_succ])) (lo 1 (.inl rfl))
 · show Wp ρ E 2 _ _ _ { H:=mkP (zat (a::out)),n:=2,log:=[] } (J.Leaves E.P _ (GivesL 2 (.tuple []) (zat (zcv t.args (zW (a::out) t)))))
   generalize zW (a::out) t=m at hF hl1 lo
   rcases m with _|⟨b,m⟩
   · simp at hl1
   · have hle:out.length≤m.length:=by simpa using hl1.1
     simp[zfP,zfO,zfN,zfM,zfL,zfK,zfR,zfJ,zfQ,zp2,hE,hL,hF,hle,vacant_eq,zat]
     exact Ls_less (Less.auto (by simp[zat,-Int.natCast_add]) (by simp[zat]) (by simp[zat]) (by simp[zat,List.range_succ])) (lo 2 (.inr ⟨rfl,by simp⟩))
end
end
end Go.Proofs.YthfcfmkdeheicaaGreat
namespace Go.Proofs.YthfcfmkdeheicaaGreat
open Go.J
open Go.J.Enc (enc)
set_option maxRecDepth 100000
set_option maxHeartbeats 1000000
section
variable {ρ:Nat→Value}(hρ:J.Good ρ)
include hρ
theorem vVisit(d:Nat):Valid ρ Tryz.prog 113 (zdo (colM (some 114) (visTF d))):=by
 induction d with
 | zero =>
   refine Valid.emb (fo Tryz.func113 fB113) fun vs hs D h=>?_
   obtain⟨out,t,r,id,ro,hF,rfl,_,_,hfit⟩:=colM_inv h
   obtain⟨⟨h1,h2,h3⟩,rfl⟩:=z8 hF
   have:=Ty.size_eq t
   omega
 | succ d ih =>
   refine Valid.emb (fo Tryz.func113 fB113) fun vs hs D h=>?_
   obtain⟨out,t,r,id,ro,hF,rfl,_,_,hfit⟩:=colM_inv h
   obtain⟨⟨h1,h2,h3⟩,rfl⟩:=z8 hF
   exact zoc hρ (E:=EL [(114,zdo (colM none znX)),(113,zdo (colM (some 114) (visTF d)))]) rfl
    (zg (za (vVars1 hρ) (za ih valid_nil))) rfl rfl h1 h2 h3 hfit
section
variable {E:Env}(hE:E.P=Tryz.prog)(hcon:ConsOk ρ E)
include hE hcon
theorem types_Vars_run {d:Nat} (hc:E.con 113=zdo (colM (some 114) (visTF d))) {l:List Ty} (hl:Ty.oks l=true) (hd:Ty.sizes l≤d) (hll:l.length≤1000000) (hs2:Ty.sizes l≤100000) (hs:HS):CallOk ρ Tryz.prog 66 [enc l] hs (enc (zcv l [])) hs:=by
 refine fn hρ hE hcon Tryz.func66 fB66 rfl (by simp) ?_ hs
 simp[znd,znc,znb,zna,zmZ,zmY,znf,zmX,zne,zmW,fS66,hE]
 refine lpi hρ hE hcon l.length (nn:=2) (fun i (_:List Int)=>[(3,.ptr 0 0 0),(6,.sl (l.map zh) false),(7,.int .i64 (l.length:Int)),(8,.int .i64 (i:Int))])
  (fun i out=>zat out) (fun i out=>out=zcv (l.take i) []) []
  (Less.auto (by simp[zat]) (by simp[zat]) (by simp[zat]) (by simp[zat])) (by simp[zcv]) ?_ ?_
 · intro out ho K
   rw[List.take_length]at ho
   rw[← ho]
   clear ho
   rcases out with _|⟨a,out⟩
   · simp[fS66l0,znd,znc,znb,zna,zmZ,zmY,znf,zmX,zne,zmW,fS66,hE,zat]
     refine LessQ.mk (Less.auto (TL:=[(3,.ptr 0 0 0)]) (HL:=zat []) (n:=2) (by simp[zat]) (by simp[zat]) (by simp[zat]) (by simp[zat])) ?_
     simp[znd,znc,znb,zna,zmZ,zmY,znf,zmX,zne,zmW,fS66,hE,zat]
   · simp[fS66l0,znd,znc,znb,zna,zmZ,zmY,znf,zmX,zne,zmW,fS66,hE,zat]
     refine LessQ.mk (Less.auto (TL:=[(3,.ptr 0 0 0)]) (HL:=zat (a::out)) (n:=2) (by simp[zat]) (by simp[zat]) (by simp[zat]) (by simp[zat])) ?_
     simp[znd,znc,znb,zna,zmZ,zmY,znf,zmX,zne,zmW,fS66,hE,zat]
 · rintro i out hi ho K hK
   have hi':(i:Int)<l.length:=by omega
   have hw2:IntKind.i64.wrap ((i:Int)+1)=((i+1:Nat):Int):=zq (by omega)
   have hmem:=List.getElem_mem hi
   have hol:=(colTs_len (l.take i) []).2
   have hsz:=zfi l (i+1)
   rw[List.take_add_one,List.getElem?_eq_getElem hi,Option.toList_some,ziD]at hsz
   simp only[Ty.sizes]at hsz
   simp only[List.length_nil]at hol
   have hF:visTF d out l[i]=some (zmG l[i] out):=if_pos ⟨Ty.oks_iff.1 hl _ hmem,by omega,by rw[ho];omega⟩
   have hol2:=colT_len l[i] out
   have hnew:=hK (zmG l[i] out) (by rw[List.take_add_one,List.getElem?_eq_getElem hi,Option.toList_some,colTs_snoc,← ho])
   clear ho hK
   generalize zmG l[i] out=out' at hF hnew hol2
   rcases out with _|⟨a,out⟩
   · rcases out' with _|⟨b,out'⟩
     all_goals
      simp[fS66l0,znd,znc,znb,zna,zmZ,zmY,znf,zmX,zne,zmW,fS66,hE,hi,hi',hc,hF,hw2,vacant_eq,zat,-Int.natCast_add]
      exact hnew _ _ (Less.auto (by simp[zat,-Int.natCast_add]) (by simp[zat]) (by simp[zat]) (by simp[zat]))
   · rcases out' with _|⟨b,out'⟩
     · simp at hol2
     · have hle:out.length≤out'.length:=by simpa using hol2.1
       simp[fS66l0,znd,znc,znb,zna,zmZ,zmY,znf,zmX,zne,zmW,fS66,hE,hi,hi',hc,hF,hw2,hle,vacant_eq,zat,-Int.natCast_add]
       exact hnew _ _ (Less.auto (by simp[zat,-Int.natCast_add]) (by simp[zat]) (by simp[zat]) (by simp[zat]))
end
def tvF(l:List Ty):Option (List Int):=if Ty.oks l=true∧l.length≤1000000∧Ty.sizes l≤100000 then some (zcv l [])else none
def tvarsS:J.Spec:=fnS (zan tvF)
theorem vTVars:Valid ρ Tryz.prog 66 tvarsS:=v1 (fo Tryz.func66 fB66) fun a r h hs=>by
 obtain⟨⟨h1,h2,h3⟩,rfl⟩:=z8 h
 exact types_Vars_run hρ (E:=EL [(113,zdo (colM (some 114) (visTF (Ty.sizes a))))]) rfl (zg (za (vVisit hρ (Ty.sizes a)) valid_nil)) rfl h1 (Nat.le_refl _) h2 h3 hs
end
end Go.Proofs.YthfcfmkdeheicaaGreat
