import Derived.Test.YtfgmnebfhemnpaaKX3
import Derived.Test.YtfgmnebfhemnpaaJN
import Derived.Test.YtfgmnebfhemnpaaJK
set_option linter.all false
noncomputable section
namespace Go.Proofs.Ytfgmnebfhemnpaa
open Go.J
open Go.J.Enc (enc)
set_option maxRecDepth 100000
set_option maxHeartbeats 1000000
def idxM:List Int→Int→Int→Int
 | [],_,_=>-1
 |y::l,x,i=>if x=y then i else idxM l x (i+1)
theorem idxM_ge:∀ (l:List Int) (x i:Int),0≤i→(decide (idxM l x i ≥ 0))=decide (x∈l):=by
 intro l
 induction l with
 |nil=>intro x i h;simp[idxM]
 | cons y l ih =>
   intro x i h
   rw[idxM]
   split
   · rename_i e;simp[e,h]
   · rename_i e
     rw[ih x (i+1) (by omega)]
     simp[e]
section
variable {ρ:Nat→Value}(hρ:J.Good ρ)
include hρ
section
variable {E:Env}(hE:E.P=Try.prog)(hcon:ConsOk ρ E)
include hE hcon
theorem slices_Index_run{l:List Int}{x:Int}(hl:l.length≤1000000)(hs:HS):CallOk ρ Try.prog 51 [enc l,enc x] hs (enc (idxM l x 0)) hs:=by
 refine fn hρ hE hcon Try.func51 fB51 rfl (by simp) ?_ hs
 generalize hr:idxM l x 0=r
 simp[fS51r0,fS51r1,fS51r2,fS51r3,fS51r4,fS51r5,fS51b0,fS51r6,fS51b1,fS51r7,fS51,hE]
 refine lpi hρ hE hcon l.length (nn:=0) (fun i (_:Unit)=>[(0,.sl (l.map encI) false),(1,.int .i64 x),(7,.int .i64 (l.length:Int)),(8,.int .i64 (i:Int))]) (fun i _=>[]) (fun i _=>idxM (l.drop i) x i=r) ()
  (Less.auto (by simp) (by simp) (by simp) (by simp)) (by simpa using hr) ?_ ?_
 · intro _ h K
   rw[List.drop_length,idxM]at h
   simp[fS51l0,fS51r0,fS51r1,fS51r2,fS51r3,fS51r4,fS51r5,fS51b0,fS51r6,fS51b1,fS51r7,fS51,hE]
   refine LessQ.mk (Less.auto (TL:=[]) (HL:=[]) (n:=0) (by simp) (by simp) (by simp) (by simp)) ?_
   simp[fS51r0,fS51r1,fS51r2,fS51r3,fS51r4,fS51r5,fS51b0,fS51r6,fS51b1,fS51r7,fS51,hE,h]
 · intro i _ hi h K hK
   have hi':(i:Int)<l.length:=by omega
   have hw2:IntKind.i64.wrap ((i:Int)+1)=((i+1:Nat):Int):=wrap_succ (by omega)
   rw[List.drop_eq_getElem_cons hi,idxM]at h
   by_cases he:x=l[i]
   · rw[if_pos he]at h
     simp[fS51l0,fS51r0,fS51r1,fS51r2,fS51r3,fS51r4,fS51r5,fS51b0,fS51r6,fS51b1,fS51r7,fS51,hE,hi,hi',← he]
     refine LessQ.mk (Less.auto (TL:=[(4,.int .i64 (i:Int))]) (HL:=[]) (n:=0) (by simp) (by simp) (by simp) (by simp)) ?_
     simp[fS51r0,fS51r1,fS51r2,fS51r3,fS51r4,fS51r5,fS51b0,fS51r6,fS51b1,fS51r7,fS51,hE,h]
   · rw[if_neg he]at h
     have hnew:=hK () (by simpa using h)
     simp[fS51l0,fS51r0,fS51r1,fS51r2,fS51r3,fS51r4,fS51r5,fS51b0,fS51r6,fS51b1,fS51r7,fS51,hE,hi,hi',he,hw2,-Int.natCast_add]
     exact hnew _ _ (Less.auto (by simp[-Int.natCast_add]) (by simp) (by simp) (by simp))
theorem slices_Contains_run(hI:E.con 51=fnC (spec2 fun (l:List Int) (x:Int)=>if l.length≤1000000 then some (idxM l x 0)else none)){l:List Int}{x:Int}(hl:l.length≤1000000)(hs:HS):CallOk ρ Try.prog 41 [enc l,enc x] hs (enc (decide (x∈l))) hs:=by
 refine fn hρ hE hcon Try.func41 fB41 rfl (by simp) ?_ hs
 rw[← idxM_ge l x 0 (by omega)]
 simp[fS41r0,fS41r1,fS41,hE,hI,hl]
end
def indexS:J.Spec:=fnC (spec2 fun (l:List Int) (x:Int)=>if l.length≤1000000 then some (idxM l x 0)else none)
theorem vIndex:Valid ρ Try.prog 51 indexS:=c2 (fo Try.func51 fB51) fun a b r h hs=>by
 obtain⟨h1,rfl⟩:=ite_inv h
 exact slices_Index_run hρ (E:=EL []) rfl (consOk_list valid_nil) h1 hs
theorem vContains:Valid ρ Try.prog 41 hasS:=c2 (fo Try.func41 fB41) fun a b r h hs=>by
 obtain⟨h1,rfl⟩:=ite_inv h
 exact slices_Contains_run hρ (E:=EL [(51,indexS)]) rfl (consOk_list (valid_cons (vIndex hρ) valid_nil)) rfl h1 hs
end
end Go.Proofs.Ytfgmnebfhemnpaa
namespace Go.Proofs.Ytfgmnebfhemnpaa
open Go.J
open Go.J.Enc (enc)
set_option maxRecDepth 100000
set_option maxHeartbeats 1000000
section
variable {ρ:Nat→Value}(hρ:J.Good ρ){E:Env}(hE:E.P=Try.prog)(hcon:ConsOk ρ E)
include hρ hE hcon
theorem types_Vars_1_run (hC:E.con 41=hasS) {t:Ty} {out:List Int} (hl:out.length≤100000) {id ro:Nat} {vs:List V} {hs:HS} (hfit:(colD none (enc t) id ro out (colLeaf out t)).Fits vs hs) :
 CallOk ρ Try.prog 40 vs hs ((colD none (enc t) id ro out (colLeaf out t)).val hs) ((colD none (enc t) id ro out (colLeaf out t)).heap hs):=by
 have hle:out.length≤(colLeaf out t).length:=by unfold colLeaf;split<;>simp
 refine em hρ hE hcon Try.func40 fB40 rfl (colD_good hle) ?_ hfit
 clear hfit
 generalize hR:colLeaf out t=R
 unfold colLeaf at hR
 have hl2:out.length≤1000000:=by omega
 rcases out with _|⟨a,out⟩
 · show Wp ρ E 1 _ _ _ { H:=mkP (colL []),n:=1,log:=[] } (J.Leaves E.P _ (GivesL 1 (.tuple []) (colL R)))
   by_cases hk:t.kind=1
   · simp[hk]at hR
     subst hR
     simp[fS40r0,fS40r1,fS40r2,fS40,hE,hk,hC,hasS,colL]
     exact GivesL.litX (fun k=>if k=1 then 16 else k) rfl rfl ⟨rfl,rfl⟩ (by simp)
   · simp[hk]at hR
     subst hR
     simp[fS40r0,fS40r1,fS40r2,fS40,hE,hk,colL]
     exact GivesL.keepX rfl rfl rfl (by simp)
 · show Wp ρ E 2 _ _ _ { H:=mkP (colL (a::out)),n:=2,log:=[] } (J.Leaves E.P _ (GivesL 2 (.tuple []) (colL R)))
   have hl3:out.length+1≤1000000:=by simpa using hl2
   by_cases hk:t.kind=1
   · by_cases hm:t.id∈a::out
     · rw[if_neg (by simp[hm])]at hR
       subst hR
       have hm':=List.mem_cons.1 hm
       simp[fS40r0,fS40r1,fS40r2,fS40,hE,hk,hC,hasS,hl3,hm',colL]
       exact GivesL.keepX rfl rfl rfl (by simp)
     · rw[if_pos ⟨hk,hm⟩]at hR
       subst hR
       have hm1:¬ t.id=a:=fun e=>hm (e ▸ List.mem_cons_self ..)
       have hm2:¬ t.id∈out:=fun e=>hm (List.mem_cons_of_mem _ e)
       have h8:(out.length+1+1)*8≤1048576:=by simp at hl;omega
       simp[fS40r0,fS40r1,fS40r2,fS40,hE,hk,hC,hasS,hl3,hm1,hm2,h8,Nat.not_succ_le_self,colL]
       exact GivesL.keepX rfl rfl rfl (by simp)
   · rw[if_neg (by simp[hk])]at hR
     subst hR
     simp[fS40r0,fS40r1,fS40r2,fS40,hE,hk,colL]
     exact GivesL.keepX rfl rfl rfl (by simp)
end
end Go.Proofs.Ytfgmnebfhemnpaa
namespace Go.Proofs.Ytfgmnebfhemnpaa
open Go.J
open Go.J.Enc (enc)
set_option maxRecDepth 100000
set_option maxHeartbeats 1000000
def colLeafF(out:List Int)(t:Ty):Option (List Int):=if out.length≤100000 then some (colLeaf out t)else none
def visTF(d:Nat)(out:List Int)(t:Ty):Option (List Int):=if t.ok=true∧t.size≤d∧out.length+t.size≤100000 then some (colT t out)else none
section
variable {ρ:Nat→Value}(hρ:J.Good ρ)
include hρ
theorem vVars1:Valid ρ Try.prog 40 (embS (colM none colLeafF)):=Valid.emb (fo Try.func40 fB40) fun vs hs D h=>by
 obtain⟨out,t,r,id,ro,hF,rfl,_,_,hfit⟩:=colM_inv h
 obtain⟨h1,rfl⟩:=ite_inv hF
 exact types_Vars_1_run hρ (E:=EL [(41,hasS)]) rfl (consOk_list (valid_cons (vContains hρ) valid_nil)) rfl h1 hfit
section
variable {E:Env}(hE:E.P=Try.prog)(hcon:ConsOk ρ E)
include hE hcon
theorem types_visit_loop {d k:Nat} (hc:E.con 39=embS (colM (some 40) (visTF d))) {t:Ty} {m:List Int} (hk:k=1∨k=2∧m≠[]) (ht:t.ok=true) (hd:t.size≤d+1) (hl:m.length+Ty.sizes t.args≤100000) :
 Ls ρ E k 20 (.loop fS39l0) (mkP [(1,.func 40 [.ptr 0 0 0]),(10,.sl (t.args.map encTy) false),(11,.int .i64 (t.args.length:Int)),(12,.int .i64 ((0:Nat):Int))]) { H:=mkP (colL m),n:=2,log:=[] }
  (Ex.inBlock 0 (J.Leaves E.P Try.f39 (GivesL k (.tuple []) (colL (colTs t.args m))))):=by
 have hlen:=Ty.ok_len ht
 refine lpi hρ hE hcon t.args.length (nn:=2) (fun i (_:List Int)=>[(1,.func 40 [.ptr 0 0 0]),(10,.sl (t.args.map encTy) false),(11,.int .i64 (t.args.length:Int)),(12,.int .i64 (i:Int))])
  (fun i out=>colL out) (fun i out=>out=colTs (t.args.take i) m∧(k=2→out≠[])) m ?_ ⟨by simp[colTs],fun h=>hk.elim (fun h1=>by omega) (fun h1=>h1.2)⟩ ?_ ?_
 · rcases hk with rfl|⟨rfl,hm⟩
   · rcases m with _|⟨a,m⟩<;>exact Less.auto (by simp[colL]) (by simp[colL]) (by simp[colL]) (by simp[colL,List.range_succ])
   · rcases m with _|⟨a,m⟩
     · exact absurd rfl hm
     · exact Less.auto (by simp[colL]) (by simp[colL]) (by simp[colL]) (by simp[colL,List.range_succ])
 · rintro out ⟨ho,h2⟩ K
   rw[List.take_length]at ho
   rw[← ho]
   clear ho
   rcases out with _|⟨a,out⟩
   · obtain rfl:k=1:=hk.elim (fun h=>h) (fun h=>absurd rfl (h2 h.1))
     simp[fS39l0,fS39r0,fS39r1,fS39r2,fS39r3,fS39r4,fS39r5,fS39b0,fS39r6,fS39b1,fS39,hE,colL]
     refine LessQ.mk (Less.auto (TL:=[]) (HL:=colL []) (n:=2) (by simp) (by simp[colL]) (by simp[colL]) (by simp[colL,List.range_succ])) ?_
     simp[fS39r0,fS39r1,fS39r2,fS39r3,fS39r4,fS39r5,fS39b0,fS39r6,fS39b1,fS39,hE,colL]
     exact GivesL.keepX rfl rfl rfl (by simp)
   · rcases hk with rfl|⟨rfl,_⟩
     all_goals
      simp[fS39l0,fS39r0,fS39r1,fS39r2,fS39r3,fS39r4,fS39r5,fS39b0,fS39r6,fS39b1,fS39,hE,colL]
      refine LessQ.mk (Less.auto (TL:=[]) (HL:=colL (a::out)) (n:=2) (by simp) (by simp[colL]) (by simp[colL]) (by simp[colL,List.range_succ])) ?_
      simp[fS39r0,fS39r1,fS39r2,fS39r3,fS39r4,fS39r5,fS39b0,fS39r6,fS39b1,fS39,hE,colL]
      exact GivesL.keepX rfl rfl rfl (by simp)
 · rintro i out hi ⟨ho,h2⟩ K hK
   have hi':(i:Int)<t.args.length:=by omega
   have hw2:IntKind.i64.wrap ((i:Int)+1)=((i+1:Nat):Int):=wrap_succ (by omega)
   have hmem:=List.getElem_mem hi
   have hol:=(colTs_len (t.args.take i) m).2
   have hsz:=sizes_take_le t.args (i+1)
   rw[List.take_add_one,List.getElem?_eq_getElem hi,Option.toList_some,sizes_app]at hsz
   simp only[Ty.sizes]at hsz
   have hF:visTF d out t.args[i]=some (colT t.args[i] out):=if_pos ⟨Ty.ok_arg ht hmem,by have:=Ty.size_arg hmem;omega,by rw[ho];omega⟩
   have hol2:=colT_len t.args[i] out
   have hnew:=hK (colT t.args[i] out) ⟨by rw[List.take_add_one,List.getElem?_eq_getElem hi,Option.toList_some,colTs_snoc,← ho],fun h e=>h2 h (by rw[e]at hol2;exact List.eq_nil_of_length_eq_zero (by simpa using hol2.1))⟩
   clear ho hK
   generalize colT t.args[i] out=out' at hF hnew hol2
   rcases out with _|⟨a,out⟩
   · obtain rfl:k=1:=hk.elim (fun h=>h) (fun h=>absurd rfl (h2 h.1))
     rcases out' with _|⟨b,out'⟩
     · simp[fS39l0,fS39r0,fS39r1,fS39r2,fS39r3,fS39r4,fS39r5,fS39b0,fS39r6,fS39b1,fS39,hE,hi,hi',hc,hF,hw2,vacant_eq,colL,-Int.natCast_add]
       exact hnew _ _ (Less.auto (by simp[colL,-Int.natCast_add]) (by simp[colL]) (by simp[colL]) (by simp[colL,List.range_succ]))
     · simp[fS39l0,fS39r0,fS39r1,fS39r2,fS39r3,fS39r4,fS39r5,fS39b0,fS39r6,fS39b1,fS39,hE,hi,hi',hc,hF,hw2,vacant_eq,colL,-Int.natCast_add]
       exact hnew _ _ (Less.auto (by simp[colL,-Int.natCast_add]) (by simp[colL]) (by simp[colL]) (by simp[colL,List.range_succ]))
   · rcases out' with _|⟨b,out'⟩
     · simp at hol2
     · have hle:out.length≤out'.length:=by simpa using hol2.1
       rcases hk with rfl|⟨rfl,_⟩
       all_goals
        simp[fS39l0,fS39r0,fS39r1,fS39r2,fS39r3,fS39r4,fS39r5,fS39b0,fS39r6,fS39b1,fS39,hE,hi,hi',hc,hF,hw2,hle,vacant_eq,colL,-Int.natCast_add]
        exact hnew _ _ (Less.auto (by simp[colL,-Int.natCast_add]) (by simp[colL]) (by simp[colL]) (by simp[colL,List.range_succ]))
theorem types_visit_run{d:Nat}(hL:E.con 40=embS (colM none colLeafF))(hc:E.con 39=embS (colM (some 40) (visTF d))){t:Ty}{out:List Int}(ht:t.ok=true)(hd:t.size≤d+1)(hl:out.length+t.size≤100000){id ro:Nat}{vs:List V}{hs:HS}
 (hfit:(colD (some 40) (enc t) id ro out (colT t out)).Fits vs hs) :
 CallOk ρ Try.prog 39 vs hs ((colD (some 40) (enc t) id ro out (colT t out)).val hs) ((colD (some 40) (enc t) id ro out (colT t out)).heap hs):=by
 refine em hρ hE hcon Try.func39 fB39 rfl (colD_good (colT_len t out).1) ?_ hfit
 clear hfit
 have hlen:=Ty.ok_len ht
 have hts:=Ty.size_eq t
 have hF:colLeafF out t=some (colLeaf out t):=if_pos (by omega)
 have hl1:=colLeaf_len out t
 rw[colT_eq]
 have lo:=fun (k:Nat) (hk:k=1∨k=2∧colLeaf out t≠[])=>types_visit_loop hρ hE hcon hc (m:=colLeaf out t) hk ht hd (by omega)
 rcases out with _|⟨a,out⟩
 · show Wp ρ E 1 _ _ _ { H:=mkP (colL []),n:=1,log:=[] } (J.Leaves E.P _ (GivesL 1 (.tuple []) (colL (colTs t.args (colLeaf [] t)))))
   generalize colLeaf [] t=m at hF hl1 lo
   rcases m with _|⟨b,m⟩
   · simp[fS39r0,fS39r1,fS39r2,fS39r3,fS39r4,fS39r5,fS39b0,fS39r6,fS39b1,fS39,hE,hL,hF,vacant_eq,colL]
     exact Ls_less (Less.auto (by simp[colL,-Int.natCast_add]) (by simp[colL]) (by simp[colL]) (by simp[colL,List.range_succ])) (lo 1 (.inl rfl))
   · simp[fS39r0,fS39r1,fS39r2,fS39r3,fS39r4,fS39r5,fS39b0,fS39r6,fS39b1,fS39,hE,hL,hF,vacant_eq,colL]
     exact Ls_less (Less.auto (by simp[colL,-Int.natCast_add]) (by simp[colL]) (by simp[colL]) (by simp[colL,List.range_succ])) (lo 1 (.inl rfl))
 · show Wp ρ E 2 _ _ _ { H:=mkP (colL (a::out)),n:=2,log:=[] } (J.Leaves E.P _ (GivesL 2 (.tuple []) (colL (colTs t.args (colLeaf (a::out) t)))))
   generalize colLeaf (a::out) t=m at hF hl1 lo
   rcases m with _|⟨b,m⟩
   · simp at hl1
   · have hle:out.length≤m.length:=by simpa using hl1.1
     simp[fS39r0,fS39r1,fS39r2,fS39r3,fS39r4,fS39r5,fS39b0,fS39r6,fS39b1,fS39,hE,hL,hF,hle,vacant_eq,colL]
     exact Ls_less (Less.auto (by simp[colL,-Int.natCast_add]) (by simp[colL]) (by simp[colL]) (by simp[colL,List.range_succ])) (lo 2 (.inr ⟨rfl,by simp⟩))
end
end
end Go.Proofs.Ytfgmnebfhemnpaa
namespace Go.Proofs.Ytfgmnebfhemnpaa
open Go.J
open Go.J.Enc (enc)
set_option maxRecDepth 100000
set_option maxHeartbeats 1000000
section
variable {ρ:Nat→Value}(hρ:J.Good ρ)
include hρ
theorem vVisit(d:Nat):Valid ρ Try.prog 39 (embS (colM (some 40) (visTF d))):=by
 induction d with
 | zero =>
   refine Valid.emb (fo Try.func39 fB39) fun vs hs D h=>?_
   obtain⟨out,t,r,id,ro,hF,rfl,_,_,hfit⟩:=colM_inv h
   obtain⟨⟨h1,h2,h3⟩,rfl⟩:=ite_inv hF
   have:=Ty.size_eq t
   omega
 | succ d ih =>
   refine Valid.emb (fo Try.func39 fB39) fun vs hs D h=>?_
   obtain⟨out,t,r,id,ro,hF,rfl,_,_,hfit⟩:=colM_inv h
   obtain⟨⟨h1,h2,h3⟩,rfl⟩:=ite_inv hF
   exact types_visit_run hρ (E:=EL [(40,embS (colM none colLeafF)),(39,embS (colM (some 40) (visTF d)))]) rfl
    (consOk_list (valid_cons (vVars1 hρ) (valid_cons ih valid_nil))) rfl rfl h1 h2 h3 hfit
section
variable {E:Env}(hE:E.P=Try.prog)(hcon:ConsOk ρ E)
include hE hcon
theorem types_Vars_run {d:Nat} (hc:E.con 39=embS (colM (some 40) (visTF d))) {l:List Ty} (hl:Ty.oks l=true) (hd:Ty.sizes l≤d) (hll:l.length≤1000000) (hs2:Ty.sizes l≤100000) (hs:HS):CallOk ρ Try.prog 25 [enc l] hs (enc (colTs l [])) hs:=by
 refine fn hρ hE hcon Try.func25 fB25 rfl (by simp) ?_ hs
 simp[fS25r0,fS25r1,fS25r2,fS25r3,fS25r4,fS25r5,fS25b0,fS25r6,fS25b1,fS25r7,fS25,hE]
 refine lpi hρ hE hcon l.length (nn:=2) (fun i (_:List Int)=>[(3,.ptr 0 0 0),(6,.sl (l.map encTy) false),(7,.int .i64 (l.length:Int)),(8,.int .i64 (i:Int))])
  (fun i out=>colL out) (fun i out=>out=colTs (l.take i) []) []
  (Less.auto (by simp[colL]) (by simp[colL]) (by simp[colL]) (by simp[colL])) (by simp[colTs]) ?_ ?_
 · intro out ho K
   rw[List.take_length]at ho
   rw[← ho]
   clear ho
   rcases out with _|⟨a,out⟩
   · simp[fS25l0,fS25r0,fS25r1,fS25r2,fS25r3,fS25r4,fS25r5,fS25b0,fS25r6,fS25b1,fS25r7,fS25,hE,colL]
     refine LessQ.mk (Less.auto (TL:=[(3,.ptr 0 0 0)]) (HL:=colL []) (n:=2) (by simp[colL]) (by simp[colL]) (by simp[colL]) (by simp[colL])) ?_
     simp[fS25r0,fS25r1,fS25r2,fS25r3,fS25r4,fS25r5,fS25b0,fS25r6,fS25b1,fS25r7,fS25,hE,colL]
   · simp[fS25l0,fS25r0,fS25r1,fS25r2,fS25r3,fS25r4,fS25r5,fS25b0,fS25r6,fS25b1,fS25r7,fS25,hE,colL]
     refine LessQ.mk (Less.auto (TL:=[(3,.ptr 0 0 0)]) (HL:=colL (a::out)) (n:=2) (by simp[colL]) (by simp[colL]) (by simp[colL]) (by simp[colL])) ?_
     simp[fS25r0,fS25r1,fS25r2,fS25r3,fS25r4,fS25r5,fS25b0,fS25r6,fS25b1,fS25r7,fS25,hE,colL]
 · rintro i out hi ho K hK
   have hi':(i:Int)<l.length:=by omega
   have hw2:IntKind.i64.wrap ((i:Int)+1)=((i+1:Nat):Int):=wrap_succ (by omega)
   have hmem:=List.getElem_mem hi
   have hol:=(colTs_len (l.take i) []).2
   have hsz:=sizes_take_le l (i+1)
   rw[List.take_add_one,List.getElem?_eq_getElem hi,Option.toList_some,sizes_app]at hsz
   simp only[Ty.sizes]at hsz
   simp only[List.length_nil]at hol
   have hF:visTF d out l[i]=some (colT l[i] out):=if_pos ⟨Ty.oks_iff.1 hl _ hmem,by omega,by rw[ho];omega⟩
   have hol2:=colT_len l[i] out
   have hnew:=hK (colT l[i] out) (by rw[List.take_add_one,List.getElem?_eq_getElem hi,Option.toList_some,colTs_snoc,← ho])
   clear ho hK
   generalize colT l[i] out=out' at hF hnew hol2
   rcases out with _|⟨a,out⟩
   · rcases out' with _|⟨b,out'⟩
     all_goals
      simp[fS25l0,fS25r0,fS25r1,fS25r2,fS25r3,fS25r4,fS25r5,fS25b0,fS25r6,fS25b1,fS25r7,fS25,hE,hi,hi',hc,hF,hw2,vacant_eq,colL,-Int.natCast_add]
      exact hnew _ _ (Less.auto (by simp[colL,-Int.natCast_add]) (by simp[colL]) (by simp[colL]) (by simp[colL]))
   · rcases out' with _|⟨b,out'⟩
     · simp at hol2
     · have hle:out.length≤out'.length:=by simpa using hol2.1
       simp[fS25l0,fS25r0,fS25r1,fS25r2,fS25r3,fS25r4,fS25r5,fS25b0,fS25r6,fS25b1,fS25r7,fS25,hE,hi,hi',hc,hF,hw2,hle,vacant_eq,colL,-Int.natCast_add]
       exact hnew _ _ (Less.auto (by simp[colL,-Int.natCast_add]) (by simp[colL]) (by simp[colL]) (by simp[colL]))
end
def tvF(l:List Ty):Option (List Int):=if Ty.oks l=true∧l.length≤1000000∧Ty.sizes l≤100000 then some (colTs l [])else none
def tvarsS:J.Spec:=fnS (spec1 tvF)
theorem vTVars:Valid ρ Try.prog 25 tvarsS:=v1 (fo Try.func25 fB25) fun a r h hs=>by
 obtain⟨⟨h1,h2,h3⟩,rfl⟩:=ite_inv h
 exact types_Vars_run hρ (E:=EL [(39,embS (colM (some 40) (visTF (Ty.sizes a))))]) rfl (consOk_list (valid_cons (vVisit hρ (Ty.sizes a)) valid_nil)) rfl h1 (Nat.le_refl _) h2 h3 hs
end
end Go.Proofs.Ytfgmnebfhemnpaa
