import Derived.Test.YtfgmnebfhemnpaaKX5
import Derived.Test.YtfgmnebfhemnpaaJS
import Derived.Test.YtfgmnebfhemnpaaJRt
import Derived.Test.YtfgmnebfhemnpaaJQ
set_option linter.all false
noncomputable section
/- The closure of subst.find,and the function that it is handed to. -/
namespace Go.Proofs.Ytfgmnebfhemnpaa
open Go.J
open Go.J.Enc (enc)
set_option maxRecDepth 100000
set_option maxHeartbeats 1000000
def fdB(a:Assign)(c:Int):Option Bool:=some (decide (a.id=c))
section
variable {ρ:Nat→Value}(hρ:J.Good ρ)
include hρ
theorem vFind1:Valid ρ Try.prog 65 (rdS 6 none (rdF1 fdB)):=Valid.rd (fo Try.func65 fB65) fun X cs r h hp x X0 RL hX hs q hq hc hnd hx=>by
 obtain⟨a,p,b,rfl,rfl,hF,rfl⟩:=rdF1_inv h
 cases hF
 have hEE:(EL []).P=Try.prog:=rfl
 have hcn:ConsOk ρ (EL []):=consOk_list valid_nil
 rcases hx with⟨rfl,rfl,hpx,hri⟩|⟨es,i,rfl,hne,rfl,rfl,h5,h6,h7⟩
 · rcases hX with⟨rfl,_,_⟩|⟨es,e1,_⟩
   · refine rd_run (sz:=6) (g:=none) (RL:=[]) (cs:=[[V.int .i64 p]]) hρ hcn follows named Try.func65 fB65 rfl hp ?_ hq hc hnd (.inl ⟨rfl,rfl,hpx,hri⟩)
     rw[show Try.f65.ntmps=8 from rfl]
     simp[fS65r0,fS65r1,fS65,hEE]
     exact GivesL.keep rfl rfl (by simp) (by simp) (by simp)
   · cases e1
 · rcases hX with⟨e1,e2,_⟩|⟨es2,e1,_⟩
   · rw[oH_cons' hne]at e2;cases e2
   · cases e1
end
def ixFD(l:List Assign)(c0:Int):Option Int:=if l.length≤100000∧∀ x∈l,(fdB x c0).isSome=true then some (idxF (fun x=>(fdB x c0).getD false) l 0)else none
section
variable {ρ:Nat→Value}(hρ:J.Good ρ)
include hρ
section
variable {E:Env}(hE:E.P=Try.prog)(hcon:ConsOk ρ E)
include hE hcon
theorem slices_IndexFunc__api_Assignapi_Assign_frzD(hc:E.con 65=rdS 6 none (rdF1 fdB)){l:List Assign}{c0:Int}(hl:l.length≤100000)(hall:∀ x∈l,(fdB x c0).isSome=true)  {r:Int}(hr:idxF (fun x=>(fdB x c0).getD false) l 0=r) :
 Wp ρ E 1 Try.f64.ntmps fS64 ((PT.leaf.set 0 (.sl (l.map encAssign) false)).set 1 (.func 65 [.ptr 0 0 0])) { H:=mkP [(0,box ([V.int .i64 c0]))],n:=1,log:=[] } (J.Leaves E.P Try.f64 (GivesL 1 (enc r) [(0,box ([V.int .i64 c0]))])):=by
 rw[show Try.f64.ntmps=19 from rfl]
 simp[fS64r0,fS64r1,fS64r2,fS64r3,fS64r4,fS64r5,fS64b0,fS64r6,fS64b1,fS64r7,fS64,hE]
 refine lpi hρ hE hcon l.length (nn:=1) (fun i (_:Unit)=>[(0,.sl (l.map encAssign) false),(1,.func 65 [.ptr 0 0 0]),(7,.int .i64 (l.length:Int)),(8,.int .i64 (i:Int))])
  (fun i _=>[(0,box ([V.int .i64 c0]))]) (fun i _=>idxF (fun x=>(fdB x c0).getD false) (l.drop i) (i:Int)=r) ()
  (Less.auto (by simp) (by simp) rfl rfl) (by simpa using hr) ?_ ?_
 · intro _ h K
   rw[List.drop_length,idxF]at h
   simp[fS64l0,fS64r0,fS64r1,fS64r2,fS64r3,fS64r4,fS64r5,fS64b0,fS64r6,fS64b1,fS64r7,fS64,hE]
   refine LessQ.mk (Less.auto (TL:=[]) (HL:=[(0,box ([V.int .i64 c0]))]) (n:=1) (by simp) (by simp) rfl rfl) ?_
   simp[fS64r0,fS64r1,fS64r2,fS64r3,fS64r4,fS64r5,fS64b0,fS64r6,fS64b1,fS64r7,fS64,hE,← h]
   exact GivesL.keep rfl rfl (by simp) (by simp) (by simp)
 · intro i _ hi h K hK
   have hi':(i:Int)<l.length:=by omega
   have hw2:IntKind.i64.wrap ((i:Int)+1)=((i+1:Nat):Int):=wrap_succ (by omega)
   have hm5:(i*6) / 6=i:=by omega
   have hm6:(i*6) % 6=0:=by omega
   obtain⟨q,hq⟩:=Option.isSome_iff_exists.1 (hall l[i] (List.getElem_mem hi))
   rw[List.drop_eq_getElem_cons hi,idxF,hq]at h
   simp only[Option.getD_some]at h
   cases q with
   | true =>
     rw[if_pos rfl]at h
     simp[fS64l0,fS64r0,fS64r1,fS64r2,fS64r3,fS64r4,fS64r5,fS64b0,fS64r6,fS64b1,fS64r7,fS64,hE,hi,hi',hm5,hm6,hc,hq]
     refine LessQ.mk (Less.auto (TL:=[(4,.int .i64 (i:Int))]) (HL:=[(0,box ([V.int .i64 c0]))]) (n:=1) (by simp) (by simp) rfl rfl) ?_
     simp[fS64r0,fS64r1,fS64r2,fS64r3,fS64r4,fS64r5,fS64b0,fS64r6,fS64b1,fS64r7,fS64,hE,← h]
     exact GivesL.keep rfl rfl (by simp) (by simp) (by simp)
   | false =>
     rw[if_neg (by decide)]at h
     have hnew:=hK () h
     simp[fS64l0,fS64r0,fS64r1,fS64r2,fS64r3,fS64r4,fS64r5,fS64b0,fS64r6,fS64b1,fS64r7,fS64,hE,hi,hi',hm5,hm6,hc,hq,hw2,-Int.natCast_add]
     exact hnew _ _ (Less.auto (by simp[-Int.natCast_add]) (by simp) rfl rfl)
theorem slices_IndexFunc__api_Assignapi_Assign_rowD(hc:E.con 65=rdS 6 none (rdF1 fdB)){l:List Assign}{c0:Int}(hl:l.length≤100000)(hall:∀ x∈l,(fdB x c0).isSome=true)(hne:l≠[]){r:Int}(hr:idxF (fun x=>(fdB x c0).getD false) l 0=r) :
 Wp ρ E 2 Try.f64.ntmps fS64 ((PT.leaf.set 0 (.own 1 (l.length-1) 0 l.length none)).set 1 (.func 65 [.ptr 0 0 0])) { H:=mkP [(0,box ([V.int .i64 c0])),(1,.arr 6 (l.length-1) (l.map encAssign) false false true)],n:=2,log:=[] } (J.Leaves E.P Try.f64 (GivesL 2 (enc r) [(0,box ([V.int .i64 c0])),(1,.arr 6 (l.length-1) (l.map encAssign) false false true)])):=by
 rw[show Try.f64.ntmps=19 from rfl]
 have hpos:0<l.length:=List.length_pos_iff.2 hne
 simp[fS64r0,fS64r1,fS64r2,fS64r3,fS64r4,fS64r5,fS64b0,fS64r6,fS64b1,fS64r7,fS64,hE]
 refine lpi hρ hE hcon l.length (nn:=2) (fun i (_:Unit)=>[(0,.own 1 (l.length-1) 0 l.length none),(1,.func 65 [.ptr 0 0 0]),(7,.int .i64 (l.length:Int)),(8,.int .i64 (i:Int))])
  (fun i _=>[(0,box ([V.int .i64 c0])),(1,.arr 6 (l.length-1) (l.map encAssign) false false true)]) (fun i _=>idxF (fun x=>(fdB x c0).getD false) (l.drop i) (i:Int)=r) ()
  (Less.auto (by simp) (by simp) rfl rfl) (by simpa using hr) ?_ ?_
 · intro _ h K
   rw[List.drop_length,idxF]at h
   simp[fS64l0,fS64r0,fS64r1,fS64r2,fS64r3,fS64r4,fS64r5,fS64b0,fS64r6,fS64b1,fS64r7,fS64,hE]
   refine LessQ.mk (Less.auto (TL:=[]) (HL:=[(0,box ([V.int .i64 c0])),(1,.arr 6 (l.length-1) (l.map encAssign) false false true)]) (n:=2) (by simp) (by simp) rfl rfl) ?_
   simp[fS64r0,fS64r1,fS64r2,fS64r3,fS64r4,fS64r5,fS64b0,fS64r6,fS64b1,fS64r7,fS64,hE,← h]
   exact GivesL.keep rfl rfl (by simp) (by simp) (by simp)
 · intro i _ hi h K hK
   have hi':(i:Int)<l.length:=by omega
   have hw2:IntKind.i64.wrap ((i:Int)+1)=((i+1:Nat):Int):=wrap_succ (by omega)
   have hm5:(i*6) / 6=i:=by omega
   have hm6:(i*6) % 6=0:=by omega
   obtain⟨q,hq⟩:=Option.isSome_iff_exists.1 (hall l[i] (List.getElem_mem hi))
   rw[List.drop_eq_getElem_cons hi,idxF,hq]at h
   simp only[Option.getD_some]at h
   cases q with
   | true =>
     rw[if_pos rfl]at h
     simp[fS64l0,fS64r0,fS64r1,fS64r2,fS64r3,fS64r4,fS64r5,fS64b0,fS64r6,fS64b1,fS64r7,fS64,hE,hi,hi',hm5,hm6,hc,hq]
     refine LessQ.mk (Less.auto (TL:=[(4,.int .i64 (i:Int))]) (HL:=[(0,box ([V.int .i64 c0])),(1,.arr 6 (l.length-1) (l.map encAssign) false false true)]) (n:=2) (by simp) (by simp) rfl rfl) ?_
     simp[fS64r0,fS64r1,fS64r2,fS64r3,fS64r4,fS64r5,fS64b0,fS64r6,fS64b1,fS64r7,fS64,hE,← h]
     exact GivesL.keep rfl rfl (by simp) (by simp) (by simp)
   | false =>
     rw[if_neg (by decide)]at h
     have hnew:=hK () h
     simp[fS64l0,fS64r0,fS64r1,fS64r2,fS64r3,fS64r4,fS64r5,fS64b0,fS64r6,fS64b1,fS64r7,fS64,hE,hi,hi',hm5,hm6,hc,hq,hw2,-Int.natCast_add]
     exact hnew _ _ (Less.auto (by simp[-Int.natCast_add]) (by simp) rfl rfl)
theorem slices_IndexFunc__api_Assignapi_Assign_nilD{c0:Int} :
 Wp ρ E 1 Try.f64.ntmps fS64 ((PT.leaf.set 0 .snil).set 1 (.func 65 [.ptr 0 0 0])) { H:=mkP [(0,box ([V.int .i64 c0]))],n:=1,log:=[] } (J.Leaves E.P Try.f64 (GivesL 1 (enc (-1:Int)) [(0,box ([V.int .i64 c0]))])):=by
 rw[show Try.f64.ntmps=19 from rfl]
 simp[fS64r0,fS64r1,fS64r2,fS64r3,fS64r4,fS64r5,fS64b0,fS64r6,fS64b1,fS64r7,fS64,hE]
 refine lpi hρ hE hcon 0 (nn:=1) (fun i (_:Unit)=>[(7,.int .i64 0),(8,.int .i64 0)]) (fun i _=>[(0,box ([V.int .i64 c0]))]) (fun i _=>True) ()
  (Less.auto (by simp) (by simp) rfl rfl) trivial ?_ ?_
 · intro _ h K
   simp[fS64l0,fS64r0,fS64r1,fS64r2,fS64r3,fS64r4,fS64r5,fS64b0,fS64r6,fS64b1,fS64r7,fS64,hE]
   refine LessQ.mk (Less.auto (TL:=[]) (HL:=[(0,box ([V.int .i64 c0]))]) (n:=1) (by simp) (by simp) rfl rfl) ?_
   simp[fS64r0,fS64r1,fS64r2,fS64r3,fS64r4,fS64r5,fS64b0,fS64r6,fS64b1,fS64r7,fS64,hE]
   exact GivesL.keep rfl rfl (by simp) (by simp) (by simp)
 · intro i _ hi
   omega
end
theorem v_slices_IndexFunc__api_Assignapi_AssignD:Valid ρ Try.prog 64 (rdS 6 (some 65) (rdF1 ixFD)):=Valid.rd (fo Try.func64 fB64) fun X cs r h hp x X0 RL hX hs q hq hc hnd hx=>by
 obtain⟨l,c0,b,rfl,rfl,hF,rfl⟩:=rdF1_inv h
 obtain⟨⟨h1,h2⟩,rfl⟩:=ite_inv hF
 have hEE:(EL [(65,rdS 6 none (rdF1 fdB))]).P=Try.prog:=rfl
 have hcn:ConsOk ρ (EL [(65,rdS 6 none (rdF1 fdB))]):=consOk_list (valid_cons (vFind1 hρ) valid_nil)
 have hfin:=fun (k:V) (RL:List (Nat×J.Obj)) (T:PT V) (he) (hw) (hx)=>rd_run (sz:=6) (g:=some 65) (X0:=k) (RL:=RL) (T:=T) (cs:=[[V.int .i64 c0]]) (x:=x) (hs:=hs) (q:=q) hρ hcn follows named Try.func64 fB64 he hp hw hq hc hnd hx
 rcases hx with⟨rfl,rfl,hpx,hri⟩|⟨es,i,rfl,hne,rfl,rfl,h5,h6,h7⟩
 · rcases hX with⟨rfl,_,_⟩|⟨es,e1,e2,e3,_⟩
   · exact hfin _ [] _ rfl (slices_IndexFunc__api_Assignapi_Assign_frzD hρ hEE hcn rfl h1 h2 rfl) (.inl ⟨rfl,rfl,hpx,hri⟩)
   · cases es with
     | nil =>
       have e0:l=[]:=by
        have e4:l.map encAssign=[]:=by injection e1
        exact List.map_eq_nil_iff.1 e4
       subst e0
       have e5:X0=V.snil:=e2
       subst e5
       exact hfin _ [] _ rfl (slices_IndexFunc__api_Assignapi_Assign_nilD hρ hEE hcn) (.inl ⟨rfl,rfl,hpx,hri⟩)
     |cons e es=>rw[oH_cons]at e3;cases e3
 · have hne2:∃ e l,es=e::l:=List.exists_cons_of_ne_nil hne
   rcases hX with⟨e1,e2,_⟩|⟨es2,e1,e2,e3,_⟩
   · rw[oH_cons' hne]at e2;cases e2
   · have e4:es=l.map encAssign:=by
      have e6:l.map encAssign=es2:=by injection e1
      rw[oH_cons' hne]at e3
      cases es2 with
      |nil=>cases e3
      | cons y m =>
        rw[oH_cons' (by simp)]at e3
        have e7:(J.oO 6 es)=J.oO 6 (y::m):=by injection e3 with e8;injection e8
        have e9:es=y::m:=by unfold oO at e7;injection e7
        rw[e9,← e6]
     have hl0:l≠[]:=fun e=>hne (by rw[e4,e];rfl)
     have hV:∀ i,oV i (l.map encAssign)=.own i (l.length-1) 0 l.length none:=fun i=>by rw[oV_cons' (by rw[← e4];exact hne)];simp
     have hO:oH 1 6 (l.map encAssign)=[(1,.arr 6 (l.length-1) (l.map encAssign) false false true)]:=by rw[oH_cons' (by rw[← e4];exact hne)];simp[J.oO]
     have hw:=slices_IndexFunc__api_Assignapi_Assign_rowD hρ hEE hcn rfl h1 h2 hl0 rfl
     refine hfin (oV 1 es) (oH 1 6 es) _ rfl ?_ (.inr ⟨es,i,rfl,hne,rfl,rfl,h5,h6,h7⟩)
     subst e4
     rw[hV]
     show Wp ρ _ ((1)+(oH 1 6 (l.map encAssign)).length) _ _ _ { H:=mkP ([(0,box ([V.int .i64 c0]))]++oH 1 6 (l.map encAssign)),n:=1+(oH 1 6 (l.map encAssign)).length,log:=[] } (J.Leaves _ _ (GivesL (1+(oH 1 6 (l.map encAssign)).length) _ ([(0,box ([V.int .i64 c0]))]++oH 1 6 (l.map encAssign))))
     rw[hO]
     exact hw
end
end Go.Proofs.Ytfgmnebfhemnpaa
/- subst.find: the first assignment of a variable. -/
namespace Go.Proofs.Ytfgmnebfhemnpaa
open Go.J
open Go.J.Enc (enc)
set_option maxRecDepth 100000
set_option maxHeartbeats 1000000
theorem idx_look(i:Int):∀ (l:List Assign) (j:Int),0≤j→(idxF (fun x=>(fdB x i).getD false) l j=-1∧lookA l i=none)∨∃ k,∃ h:k<l.length,idxF (fun x=>(fdB x i).getD false) l j=j+(k:Int)∧lookA l i=some l[k].type:=by
 intro l
 induction l with
 |nil=>intro j _;exact .inl ⟨rfl,rfl⟩
 | cons x l ih =>
   intro j hj
   rw[idxF,lookA]
   by_cases h:x.id=i
   · refine .inr ⟨0,by simp,?_,?_⟩
     · simp[fdB,h]
     · simp[h]
   · rw[if_neg (by simp[fdB,h]),if_neg h]
     rcases ih (j+1) (by omega)with h1|⟨k,hk,h1,h2⟩
     · exact .inl h1
     · exact .inr ⟨k+1,by simpa using hk,by rw[h1];omega,by rw[h2];simp⟩
def findV(s:List Assign)(i:Int):Ty×Bool:=match lookA s i with
 |some t=>(t,true)
 |none=>(.mk 0 [] 0 0 [],false)
def fdF(i:Int)(s:List Assign):Option (Ty×Bool):=if s.length≤100000 then some (findV s i)else none
def findS:J.Spec:=nrS (fnS (spec2 fun (s:List Assign) (i:Int)=>fdF i s)) (rdT (rtM 6 fdF))
theorem find_pair(r:Ty×Bool):pair2 (enc r:V)=true:=by
 obtain⟨t,b⟩:=r
 show et (enc t:V).pure (V.bool b).pure=true
 rw[enc_pure1 t];rfl
section
variable {ρ:Nat→Value}(hρ:J.Good ρ)
include hρ
section
variable {E:Env}(hE:E.P=Try.prog)(hcon:ConsOk ρ E)
include hE hcon
theorem subst_find_frun(hc:E.con 64=rdS 6 (some 65) (rdF1 ixFD)){s:List Assign}{i:Int}(hl:s.length≤100000)(hs:HS):CallOk ρ Try.prog 50 [enc s,enc i] hs (enc (findV s i)) hs:=by
 refine fn hρ hE hcon Try.func50 fB50 rfl (by simp) ?_ hs
 have hix:ixFD s i=some (idxF (fun x=>(fdB x i).getD false) s 0):=if_pos ⟨hl,fun x _=>rfl⟩
 unfold findV
 rcases idx_look i s 0 (Int.le_refl _)with⟨h1,h2⟩|⟨k,hk,h1,h2⟩
 · rw[h1]at hix
   rw[h2]
   simp[fS50r0,fS50r1,fS50r2,fS50r3,fS50r4,fS50,hE,hc,hix]
 · rw[h1,Int.zero_add]at hix
   rw[h2]
   have hk':(k:Int)<s.length:=by omega
   have hn:¬ (k:Int)<0:=by omega
   have hm5:(k*6) / 6=k:=by omega
   have hm6:(k*6) % 6=0:=by omega
   have hm7:(k*6+1) / 6=k:=by omega
   have hm8:(k*6+1) % 6=1:=by omega
   obtain⟨x,hx⟩:∃ x,s[k]=x:=⟨_,rfl⟩
   rw[hx]
   simp[fS50r0,fS50r1,fS50r2,fS50r3,fS50r4,fS50,hE,hc,hix,hk,hk',hn,hm5,hm6,hm7,hm8,hx]
theorem subst_find_rrun(hc:E.con 64=rdS 6 (some 65) (rdF1 ixFD)){s:List Assign}{i:Int}(hl:s.length≤100000)(hne:s≠[]){ro:Nat}{vs:List V}{hs:HS}
 (hg:(rrD 6 1 0 (enc i) 0 ro (s.map encAssign) (enc (findV s i))).Good) (hfit:(rrD 6 1 0 (enc i) 0 ro (s.map encAssign) (enc (findV s i))).Fits vs hs) :
 CallOk ρ Try.prog 50 vs hs (enc (findV s i)) hs:=by
 rw[← hE]
 refine rdT_run (D:=rrD 6 1 0 (enc i) 0 ro (s.map encAssign) (enc (findV s i))) hρ hcon (by rw[hE];exact follows) (by rw[hE];exact named) (by rw[hE];exact Try.func50) fB50 rfl hg rfl (find_pair _) ?_ hfit
 show Wp ρ E 1 _ _ ((PT.leaf.set 0 (oV 0 (s.map encAssign))).set 1 (enc i)) { H:=mkP [(0,oO 6 (s.map encAssign))],n:=1,log:=[] } (J.Leaves E.P _ (GivesL 1 (enc (findV s i)) [(0,oO 6 (s.map encAssign))]))
 have hix:ixFD s i=some (idxF (fun x=>(fdB x i).getD false) s 0):=if_pos ⟨hl,fun x _=>rfl⟩
 obtain⟨x,l,rfl⟩:=List.exists_cons_of_ne_nil hne
 generalize hsq:x::l=s at *
 have hlen:l.length+1=s.length:=by rw[← hsq];rfl
 have hV:∀ i,oV i (s.map encAssign)=.own i (s.length-1) 0 s.length none:=fun i=>by rw[← hsq];simp
 have hO:oO 6 (s.map encAssign)=.arr 6 (s.length-1) (s.map encAssign) false false true:=by rw[← hsq];simp
 rw[hV,hO]
 have hpos:0<s.length:=by omega
 rw[show Try.f50.ntmps=18 from rfl]
 unfold findV
 rcases idx_look i s 0 (Int.le_refl _)with⟨h1,h2⟩|⟨k,hk,h1,h2⟩
 · rw[h1]at hix
   rw[h2]
   simp[fS50r0,fS50r1,fS50r2,fS50r3,fS50r4,fS50,hE,hc,hix]
   exact⟨by omega,GivesL.keep rfl rfl (by first|rfl|simp) (by simp) (by simp)⟩
 · rw[h1,Int.zero_add]at hix
   rw[h2]
   have hk':(k:Int)<s.length:=by omega
   have hn:¬ (k:Int)<0:=by omega
   have hm5:(k*6) / 6=k:=by omega
   have hm6:(k*6) % 6=0:=by omega
   have hm7:(k*6+1) / 6=k:=by omega
   have hm8:(k*6+1) % 6=1:=by omega
   obtain⟨x,hx⟩:∃ x,s[k]=x:=⟨_,rfl⟩
   rw[hx]
   simp[fS50r0,fS50r1,fS50r2,fS50r3,fS50r4,fS50,hE,hc,hix,hk,hk',hn,hm5,hm6,hm7,hm8,hx]
   exact⟨by omega,GivesL.keep rfl rfl (by first|rfl|simp) (by simp) (by simp)⟩
end
theorem vFind:Valid ρ Try.prog 50 findS:=Valid.nrS
 (v2 (fo Try.func50 fB50) fun a b r h hs=>by
   obtain⟨h1,rfl⟩:=ite_inv h
   exact subst_find_frun hρ (E:=EL [(64,rdS 6 (some 65) (rdF1 ixFD))]) rfl (consOk_list (valid_cons (v_slices_IndexFunc__api_Assignapi_AssignD hρ) valid_nil)) rfl h1 hs)
 (Valid.rdT (fo Try.func50 fB50) fun vs hs D h _=>by
   obtain⟨t,l,r,ro,hF,hne,rfl,hg,hfit⟩:=rtM_inv (fun _=>rfl) find_pair h
   obtain⟨h1,rfl⟩:=ite_inv hF
   exact subst_find_rrun hρ (E:=EL [(64,rdS 6 (some 65) (rdF1 ixFD))]) rfl (consOk_list (valid_cons (v_slices_IndexFunc__api_Assignapi_AssignD hρ) valid_nil)) rfl h1 hne hg hfit)
end
end Go.Proofs.Ytfgmnebfhemnpaa
/- subst.match: a pattern and a type,and what was found so far. -/
namespace Go.Proofs.Ytfgmnebfhemnpaa
open Go.J
open Go.J.Enc (enc)
set_option maxRecDepth 100000
set_option maxHeartbeats 1000000
def smF(d:Nat)(p t:Ty)(L:List Assign):Option (List Assign×Bool):=open Classical in if p.ok=true∧t.ok=true∧aok L∧L.length+p.size≤10000∧p.size≤d then some (mtM p t L)else none
theorem ok_bare{t:Ty}(h:t.ok=true):(Ty.mk t.kind t.name t.id t.home []).ok=true:=by
 cases t;simp_all [Ty.ok,Ty.oks]
theorem bare_same{p t:Ty}(h:p.args.length=t.args.length):decide (Ty.mk p.kind p.name p.id p.home []=Ty.mk t.kind t.name t.id t.home [])=p.same t:=by
 rw[Bool.eq_iff_iff,same_iff]
 simp[h,and_assoc]
section
variable {ρ:Nat→Value}(hρ:J.Good ρ)
include hρ
section
variable {E:Env}(hE:E.P=Try.prog)(hcon:ConsOk ρ E)
include hE hcon
theorem subst_match_loop {d:Nat} (hc:E.con 38=rxS 6 true (rwF (smF d))) {k:Nat} {p t:Ty} {L:List Assign} (hk:k=0∨k=1∧L≠[]) (hpo:p.ok=true) (hto:t.ok=true) (hkd:p.kind≠1) (hL:aok L) (hlen:L.length+p.size≤10000) (hd:p.size≤d+1) (hpl:p.args.length=t.args.length) {T:PT V} {hs:HS} {Q:Ex→PT V→HS→Prop}
 (hQ:∀ R b,mtM p t L=(R,b)→Q (.exit 0) (mkP [(0,oV 0 (R.map encAssign)),(12,.bool b)]) { H:=mkP (oH 0 6 (R.map encAssign)),n:=1,log:=[] })
 (h0:Less k T hs (mkP [(0,oV 0 (L.map encAssign)),(10,.sl (p.args.map encTy) false),(11,.sl (t.args.map encTy) false),(12,.bool (p.same t)),(13,.int .i64 ((0:Nat):Int))]) { H:=mkP (oH 0 6 (L.map encAssign)),n:=1,log:=[] }) :
 Ls ρ E k 77 (.loop fS38l0) T hs Q:=by
 have hszp:=Ty.size_eq p
 have htl:=Ty.ok_len hto
 refine lpi hρ hE hcon p.args.length (nn:=1) (fun i (st:List Assign×Bool)=>[(0,oV 0 (st.1.map encAssign)),(10,.sl (p.args.map encTy) false),(11,.sl (t.args.map encTy) false),(12,.bool st.2),(13,.int .i64 (i:Int))])
  (fun i st=>oH 0 6 (st.1.map encAssign))
  (fun i st=>mtM p t L=(if st.2=true then mtL (p.args.drop i) (t.args.drop i) st.1 else (st.1,false))∧aok st.1∧L.length≤st.1.length∧st.1.length+Ty.sizes (p.args.drop i)≤L.length+Ty.sizes p.args) (L,p.same t)
  h0 ⟨by rw[mtM_eq,if_neg hkd];simp,hL,Nat.le_refl _,by simp⟩ ?_ ?_
 · rintro ⟨R,b⟩ ⟨h1,h2,h3,h4⟩ K
   simp only at h1 h2 h3 h4
   have hm:mtM p t L=(R,b):=by
    rw[h1]
    cases b with
    |false=>rfl
    |true=>rw[if_pos rfl,List.drop_length,mtL_nil]
   have hQ:=hQ R b hm
   rcases R with _|⟨y,R⟩
   · have hk0:k=0:=by
      rcases hk with h|⟨_,h⟩
      · exact h
      · cases L with
        |nil=>exact absurd rfl h
        |cons a l=>simp at h3
     subst hk0
     cases b<;>simp[fS38l0,fS38r0,fS38r1,fS38r2,fS38r3,fS38r4,fS38r5,fS38r6,fS38r7,fS38r8,fS38r9,fS38r10,fS38r11,fS38r12,fS38r13,fS38b0,fS38r14,fS38b1,fS38r15,fS38,hE]<;>exact LessQ.mk (Less.auto (n:=1) (by simp) (by simp) rfl rfl) hQ
   · cases b<;>simp[fS38l0,fS38r0,fS38r1,fS38r2,fS38r3,fS38r4,fS38r5,fS38r6,fS38r7,fS38r8,fS38r9,fS38r10,fS38r11,fS38r12,fS38r13,fS38b0,fS38r14,fS38b1,fS38r15,fS38,hE]<;>rcases hk with rfl|⟨rfl,_⟩<;>exact LessQ.mk (Less.auto (n:=1) (by simp) (by simp) rfl rfl) hQ
 · rintro i ⟨R,b⟩ hip ⟨h1,h2,h3,h4⟩ K hK
   simp only at h1 h2 h3 h4
   have hip':(i:Int)<p.args.length:=by omega
   have hi:i<t.args.length:=by omega
   have hi':(i:Int)<t.args.length:=by omega
   have hw2:IntKind.i64.wrap ((i:Int)+1)=((i+1:Nat):Int):=wrap_succ (by omega)
   have hm5:(i*5) / 5=i:=by omega
   have hm6:(i*5) % 5=0:=by omega
   cases b with
   | false =>
     have hQ:=hQ R false (by rw[h1];rfl)
     rcases R with _|⟨y,R⟩
     · have hk0:k=0:=by
        rcases hk with h|⟨_,h⟩
        · exact h
        · cases L with
          |nil=>exact absurd rfl h
          |cons a l=>simp at h3
       subst hk0
       simp[fS38l0,fS38r0,fS38r1,fS38r2,fS38r3,fS38r4,fS38r5,fS38r6,fS38r7,fS38r8,fS38r9,fS38r10,fS38r11,fS38r12,fS38r13,fS38b0,fS38r14,fS38b1,fS38r15,fS38,hE]
       exact LessQ.mk (Less.auto (n:=1) (by simp) (by simp) rfl rfl) hQ
     · simp[fS38l0,fS38r0,fS38r1,fS38r2,fS38r3,fS38r4,fS38r5,fS38r6,fS38r7,fS38r8,fS38r9,fS38r10,fS38r11,fS38r12,fS38r13,fS38b0,fS38r14,fS38b1,fS38r15,fS38,hE]
       rcases hk with rfl|⟨rfl,_⟩<;>exact LessQ.mk (Less.auto (n:=1) (by simp) (by simp) rfl rfl) hQ
   | true =>
     rw[if_pos rfl,List.drop_eq_getElem_cons hip,List.drop_eq_getElem_cons hi,mtL_cons]at h1
     rw[List.drop_eq_getElem_cons hip,Ty.sizes]at h4
     have hmp:=List.getElem_mem hip
     have hmt:=List.getElem_mem hi
     have hsp:=Ty.size_mem hmp
     have hb1:R.length+p.args[i].size≤10000:=by omega
     have hF:smF d p.args[i] t.args[i] R=some (mtM p.args[i] t.args[i] R):=if_pos ⟨Ty.ok_arg hpo hmp,Ty.ok_arg hto hmt,h2,hb1,by omega⟩
     have hml:=mt_len (p:=p.args[i]) (t:=t.args[i]) (s:=R)
     have hma:=mt_aok (p:=p.args[i]) (t:=t.args[i]) (s:=R) (Ty.ok_arg hto hmt) h2
     rcases hq:mtM p.args[i] t.args[i] R with⟨R2,b2⟩
     rw[hq]at hF h1 hml hma
     simp only at h1 hml hma
     have hnew:=hK (R2,b2) ⟨h1,hma,by show L.length≤R2.length;omega,by show R2.length+_≤_;omega⟩
     have hlr:R.length≤R2.length:=hml.1
     generalize hpx:p.args[i]=px at hF
     generalize htx:t.args[i]=tx at hF
     rcases R with _|⟨y,R⟩
     · have hk0:k=0:=by
        rcases hk with h|⟨_,h⟩
        · exact h
        · cases L with
          |nil=>exact absurd rfl h
          |cons a l=>simp at h3
       subst hk0
       rcases R2 with _|⟨z,R2⟩
       · simp[fS38l0,fS38r0,fS38r1,fS38r2,fS38r3,fS38r4,fS38r5,fS38r6,fS38r7,fS38r8,fS38r9,fS38r10,fS38r11,fS38r12,fS38r13,fS38b0,fS38r14,fS38b1,fS38r15,fS38,hE,hi,hi',hip,hip',hm5,hm6,hpx,htx,hc,hF,hw2,-Int.natCast_add]
         exact hnew _ _ (Less.auto (by simp[-Int.natCast_add]) (by simp) rfl rfl)
       · simp[fS38l0,fS38r0,fS38r1,fS38r2,fS38r3,fS38r4,fS38r5,fS38r6,fS38r7,fS38r8,fS38r9,fS38r10,fS38r11,fS38r12,fS38r13,fS38b0,fS38r14,fS38b1,fS38r15,fS38,hE,hi,hi',hip,hip',hm5,hm6,hpx,htx,hc,hF,hw2,-Int.natCast_add]
         exact hnew _ _ (Less.auto (by simp[-Int.natCast_add]) (by simp) rfl rfl)
     · rcases R2 with _|⟨z,R2⟩
       · simp at hlr
       · have hlr2:R.length≤R2.length:=by simpa using hlr
         simp[fS38l0,fS38r0,fS38r1,fS38r2,fS38r3,fS38r4,fS38r5,fS38r6,fS38r7,fS38r8,fS38r9,fS38r10,fS38r11,fS38r12,fS38r13,fS38b0,fS38r14,fS38b1,fS38r15,fS38,hE,hi,hi',hip,hip',hm5,hm6,hpx,htx,hc,hF,hw2,hlr2,-Int.natCast_add]
         rcases hk with rfl|⟨rfl,_⟩<;>exact hnew _ _ (Less.auto (by simp[-Int.natCast_add]) (by simp) rfl rfl)
theorem subst_match_run {d:Nat} (hc:E.con 38=rxS 6 true (rwF (smF d))) (hcf:E.con 50=findS) (heq:E.con 28=tequalS)
 {p t:Ty} {L:List Assign} (hpo:p.ok=true) (hto:t.ok=true) (hL:aok L) (hlen:L.length+p.size≤10000) (hd:p.size≤d+1)
 {hs:HS} {v:V} (hv:rowOf 6 hs v=some (L.map encAssign)) (hvac:hs.H.get hs.n=none) :
 CallOk ρ Try.prog 38 [v,enc p,enc t] hs (rwK true (rowTo 6 v (L.map encAssign) ((mtM p t L).1.map encAssign) hs).1 (enc (mtM p t L).2)) (rowTo 6 v (L.map encAssign) ((mtM p t L).1.map encAssign) hs).2:=by
 have hpl:=mt_len (p:=p) (t:=t) (s:=L)
 rw[← hE]
 refine rx_run (KK:=fun v hs=>GivesL (if L.map encAssign=[]then 0 else 1) (rwK true (oV 0 ((mtM p t L).1.map encAssign)) (enc (mtM p t L).2)) (oH 0 6 ((mtM p t L).1.map encAssign)) v hs) hρ hcon (by rw[hE];exact follows) (by rw[hE];exact named) (by rw[hE];exact Try.func38) fB38 rfl (enc_pure1 _) (enc_pure1 _) (by simp) (by simp) (by rfl) (by simpa using hpl.1) ?_ (fun _ _ h=>.inl h) hv hvac
 clear hv hvac
 have hE2:=mtM_eq p t L
 have hlen2:L.length≤100000:=by omega
 have hfi:fdF p.id L=some (findV L p.id):=if_pos hlen2
 have hsz:=Ty.size_pos p
 by_cases hk:p.kind=1
 · rw [if_pos hk]at hE2
   obtain⟨pk,pn,pi,ph,pa⟩:=p
   simp only[Ty.id_mk,Ty.kind_mk]at hE2 hfi hk
   subst hk
   unfold findV at hfi
   cases hl:lookA L pi with
   | some u =>
     have hh:hasA L pi=true:=hasA_iff.2 (by rw[hl];simp)
     have hr:(Ty.mk 1 pn pi ph pa).repl L=u:=by rw[repl_eq];simp[hl]
     rw[if_pos hh,hr]at hE2
     rw[hl]at hfi
     have hro:u.ok=true:=by
      obtain⟨a,ha,rfl⟩:=lookA_mem hl
      exact hL a ha
     rw[hE2]
     rcases L with _|⟨x,L⟩
     · cases hl
     · obtain⟨uk,un,ui,uh,ua⟩:=u
       obtain⟨tk,tn,ti,th,ta⟩:=t
       simp[fS38r0,fS38r1,fS38r2,fS38r3,fS38r4,fS38r5,fS38r6,fS38r7,fS38r8,fS38r9,fS38r10,fS38r11,fS38r12,fS38r13,fS38b0,fS38r14,fS38b1,fS38r15,fS38,hE,hcf,findS,hfi,heq,tequalS,hro,hto]
       exact GivesL.keepX rfl rfl rfl (by simp)
   | none =>
     have hh:¬ hasA L pi=true:=fun h=>hasA_iff.1 h hl
     rw[if_neg hh]at hE2
     rw[hl]at hfi
     rw[hE2]
     rcases L with _|⟨x,L⟩
     · simp[fS38r0,fS38r1,fS38r2,fS38r3,fS38r4,fS38r5,fS38r6,fS38r7,fS38r8,fS38r9,fS38r10,fS38r11,fS38r12,fS38r13,fS38b0,fS38r14,fS38b1,fS38r15,fS38,hE,hcf,findS,hfi]
       exact GivesL.litX (fun k=>if k=0 then 24 else k) rfl rfl ⟨rfl,rfl⟩ (by simp)
     · have h64:(L.length+1+1)*72≤1048576:=by simp at hlen;omega
       simp[fS38r0,fS38r1,fS38r2,fS38r3,fS38r4,fS38r5,fS38r6,fS38r7,fS38r8,fS38r9,fS38r10,fS38r11,fS38r12,fS38r13,fS38b0,fS38r14,fS38b1,fS38r15,fS38,hE,hcf,findS,hfi,h64,Nat.not_succ_le_self]
       exact GivesL.keepX rfl rfl rfl (by simp)
 · rw [if_neg hk]at hE2
   by_cases hla:p.args.length=t.args.length
   · have hla':(p.args.length:Int)=t.args.length:=by omega
     have hkk:(if L.map encAssign=[]then 0 else 1)=0∨(if L.map encAssign=[]then 0 else 1)=1∧L≠[]:=by
      cases L with
      |nil=>exact .inl rfl
      |cons a l=>exact .inr ⟨rfl,by simp⟩
     have hb1:=ok_bare hpo
     have hb2:=ok_bare hto
     have hb3:=bare_same hla
     have hend:∀ T hs,Less (if L.map encAssign=[]then 0 else 1) T hs (mkP [(0,oV 0 (L.map encAssign)),(10,.sl (p.args.map encTy) false),(11,.sl (t.args.map encTy) false),(12,.bool (p.same t)),(13,.int .i64 ((0:Nat):Int))]) { H:=mkP (oH 0 6 (L.map encAssign)),n:=1,log:=[] } →
      ∀ Q,(∀ R b,mtM p t L=(R,b)→Q (.exit 0) (mkP [(0,oV 0 (R.map encAssign)),(12,.bool b)]) { H:=mkP (oH 0 6 (R.map encAssign)),n:=1,log:=[] })→Ls ρ E (if L.map encAssign=[]then 0 else 1) 77 (.loop fS38l0) T hs Q:=fun T hs h0 Q hQ =>
      subst_match_loop hρ hE hcon hc hkk hpo hto hk hL hlen hd hla hQ h0
     rw[← hb3]at hend
     obtain⟨pk,pn,pi,ph,pa⟩:=p
     obtain⟨tk,tn,ti,th,ta⟩:=t
     simp only[Ty.kind_mk,Ty.name_mk,Ty.id_mk,Ty.home_mk,Ty.args_mk]at hb1 hb2 hend hk hla hla'
     rcases L with _|⟨x,L⟩
     · simp[fS38r0,fS38r1,fS38r2,fS38r3,fS38r4,fS38r5,fS38r6,fS38r7,fS38r8,fS38r9,fS38r10,fS38r11,fS38r12,fS38r13,fS38b0,fS38r14,fS38b1,fS38r15,fS38,hE,hk,hla,hla',heq,tequalS,hb1,hb2]
       refine hend _ _ (Less.auto (by simp) (by simp) rfl rfl) _ fun R b hR=>?_
       rw[hR]
       rcases R with _|⟨y,R⟩<;>simp[fS38r0,fS38r1,fS38r2,fS38r3,fS38r4,fS38r5,fS38r6,fS38r7,fS38r8,fS38r9,fS38r10,fS38r11,fS38r12,fS38r13,fS38b0,fS38r14,fS38b1,fS38r15,fS38,hE]<;>exact GivesL.keepX rfl rfl rfl (by simp)
     · simp[fS38r0,fS38r1,fS38r2,fS38r3,fS38r4,fS38r5,fS38r6,fS38r7,fS38r8,fS38r9,fS38r10,fS38r11,fS38r12,fS38r13,fS38b0,fS38r14,fS38b1,fS38r15,fS38,hE,hk,hla,hla',heq,tequalS,hb1,hb2]
       refine hend _ _ (Less.auto (by simp) (by simp) rfl rfl) _ fun R b hR=>?_
       rw[hR]at hpl ⊢
       rcases R with _|⟨y,R⟩
       · simp at hpl
       · simp[fS38r0,fS38r1,fS38r2,fS38r3,fS38r4,fS38r5,fS38r6,fS38r7,fS38r8,fS38r9,fS38r10,fS38r11,fS38r12,fS38r13,fS38b0,fS38r14,fS38b1,fS38r15,fS38,hE]
         exact GivesL.keepX rfl rfl rfl (by simp)
   · have hla':¬ (p.args.length:Int)=t.args.length:=by omega
     have hsm:¬ p.same t=true:=fun h=>hla (same_iff.1 h).2.2.2.2
     rw[if_neg hsm]at hE2
     rw[hE2]
     obtain⟨pk,pn,pi,ph,pa⟩:=p
     obtain⟨tk,tn,ti,th,ta⟩:=t
     simp only[Ty.kind_mk,Ty.args_mk]at hk hla hla'
     rcases L with _|⟨x,L⟩
     · simp[fS38r0,fS38r1,fS38r2,fS38r3,fS38r4,fS38r5,fS38r6,fS38r7,fS38r8,fS38r9,fS38r10,fS38r11,fS38r12,fS38r13,fS38b0,fS38r14,fS38b1,fS38r15,fS38,hE,hk,hla,hla']
       exact GivesL.keepX rfl rfl rfl (by simp)
     · simp[fS38r0,fS38r1,fS38r2,fS38r3,fS38r4,fS38r5,fS38r6,fS38r7,fS38r8,fS38r9,fS38r10,fS38r11,fS38r12,fS38r13,fS38b0,fS38r14,fS38b1,fS38r15,fS38,hE,hk,hla,hla']
       exact GivesL.keepX rfl rfl rfl (by simp)
end
theorem vSMatch(d:Nat):Valid ρ Try.prog 38 (rxS 6 true (rwF (smF d))):=by
 induction d with
 | zero =>
   refine Valid.rx (fo Try.func38 fB38) fun a b es r _ _ h0 h _ _ _ hs v hv hvac=>?_
   obtain⟨p,t,L,q,rfl,rfl,rfl,hF,rfl⟩:=rwF_inv h
   obtain⟨⟨h2,h3,h4,h5,h6⟩,rfl⟩:=ite_inv hF
   have:=Ty.size_pos p
   omega
 | succ d ih =>
   refine Valid.rx (fo Try.func38 fB38) fun a b es r _ _ h0 h _ _ _ hs v hv hvac=>?_
   obtain⟨p,t,L,q,rfl,rfl,rfl,hF,rfl⟩:=rwF_inv h
   obtain⟨⟨h2,h3,h4,h5,h6⟩,rfl⟩:=ite_inv hF
   exact subst_match_run hρ (E:=EL [(38,rxS 6 true (rwF (smF d))),(50,findS),(28,tequalS)]) rfl
    (consOk_list (valid_cons ih (valid_cons (vFind hρ) (valid_cons (vTEqual hρ) valid_nil)))) rfl rfl rfl h2 h3 h4 h5 h6 hv hvac
end
end Go.Proofs.Ytfgmnebfhemnpaa
