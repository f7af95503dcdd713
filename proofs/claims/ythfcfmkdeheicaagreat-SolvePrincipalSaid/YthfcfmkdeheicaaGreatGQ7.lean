import Derived.Test.YthfcfmkdeheicaaGreatGX7
set_option linter.all false
noncomputable section
/- The law SolveAnswers: what its function computes. -/
namespace Go.Proofs.YthfcfmkdeheicaaGreat
open Go.J
open Go.J.Enc (enc)
set_option maxRecDepth 100000
set_option maxHeartbeats 1000000
structure SolOk(l:List Equation)(W:List Int)(S:List Assign):Prop where
 el:∀ x∈S,x.id∈W∧(∀ j∈zN [x.type],j∈W)∧(zA x.id).valid=true∧x.type.valid=true∧x.type.repl S=x.type∧x.type.size≤200∧x.type.ok=true∧(zw 1 [x.type] []).length≤7
 nd:Nd S
 sl:S.length≤7
 un:UnC S l
 so:l.any (neB S)=false
theorem sol_ok{l:List Equation}(h:EqsOk l)(hW:(zN (sides l)).length≤7)(hr:∀ j∈zN (sides l),0≤j∧j≤1000000){k:Nat}{σ:Sub}(hs:slA (zN (sides l)) l 0 zA=(0,k,σ)){T:List Assign}(hT:Tri T σ):SolOk l (zN (sides l)) (zmJ T σ (zN (sides l))):=by
 obtain⟨g1,_⟩:=sl_ok l 0 zA 0 k σ (sinv0 _) h.eq hs
 obtain⟨hI,_,hu,_⟩:=g1 rfl
 have hz:=sl_size l 0 zA k σ (fun v _=>by simp[zA,Ty.size,Ty.sizes]) hs
 have hpl:=zo1 h
 have hel:∀ x∈zmJ T σ (zN (sides l)),x.id∈zN (sides l)∧(∀ j∈zN [x.type],j∈zN (sides l))∧(zA x.id).valid=true∧x.type.valid=true∧x.type.repl (zmJ T σ (zN (sides l)))=x.type∧x.type.size≤200∧x.type.ok=true∧(zw 1 [x.type] []).length≤7:=fun x hx=>by
  obtain⟨k1,e⟩:=asgF_mem hx
  obtain⟨r1,r2⟩:=hr _ k1
  have hv:=hI.val _ r1 r2
  have hp:=hI.idem.plain x.id
  rw[e]
  refine⟨k1,fun j hj=>hI.cl _ k1 j ((occ_vars hp j).1 hj),zdk r1 r2,hv,asgF_idem hT _,hz _ k1,valid_ok _ hv,?_⟩
  refine Nat.le_trans (leaves_short (V:=zN (sides l)) (fun t ht=>?_) (fun t ht j hj=>?_)) hW
  · rw[List.mem_singleton.1 ht];exact hp
  · rw[List.mem_singleton.1 ht]at hj;exact hI.cl _ k1 j hj
 have hsl:(zmJ T σ (zN (sides l))).length≤7:=by
  refine Nat.le_trans ?_ hW
  unfold zmJ
  rw[List.length_map]
  exact List.length_filter_le ..
 refine⟨hel,asgF_ids (vars_nodup hpl),hsl,⟨fun x hx=>(hel x hx).2.2.2.2.2.2.1,by omega,fun q hq=>⟨⟨h.ok _ (ziE hq).1,(h.eq q hq).1.1⟩,h.ok _ (ziE hq).2,(h.eq q hq).2.1⟩,by have:=h.len;omega⟩,?_⟩
 cases hb:l.any (neB (zmJ T σ (zN (sides l))))with
 |false=>rfl
 | true =>
   obtain⟨q,hq,hn⟩:=List.any_eq_true.1 hb
   exfalso
   have e1:=asgF_repl hT (h.eq q hq).1.1 (h.eq q hq).1.2.2
   have e2:=asgF_repl hT (h.eq q hq).2.1 (h.eq q hq).2.2.2
   unfold neB at hn
   rw[e1,e2,hu q hq]at hn
   simp at hn
section
variable {ρ:Nat→Value}(hρ:J.Good ρ){E:Env}(hE:E.P=Tryz.prog)(hcon:ConsOk ρ E)
include hρ hE hcon
end
end Go.Proofs.YthfcfmkdeheicaaGreat
