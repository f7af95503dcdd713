import Derived.Test.YthfcfmkdeheicaaGreatGVB
import Derived.Test.YthfcfmkdeheicaaGreatJS
set_option linter.all false
noncomputable section
/- The closures of store.Valid,and the functions that they are handed to. -/
namespace Go.Proofs.YthfcfmkdeheicaaGreat
open Go.J
open Go.J.Enc (enc)
set_option maxRecDepth 100000
set_option maxHeartbeats 1000000
def hasSp:J.Spec:=fnS (spec2 fun (s:Store) (i:Int)=>some (s.slot? i).isSome)
def nhF (i:Int) (s:Store):Option Bool:=some (!(s.slot? i).isSome)
def nhcF (c:Change) (s:Store):Option Bool:=some (!(s.slot? c.id).isSome)
section
variable {ρ:Nat→Value} (hρ:J.Good ρ)
include hρ
theorem vSValid1:Valid ρ Tryz.prog 67 (rdS 1 none (rdF1 nhF)):=Valid.rd (fo Tryz.func67 fB67) fun X cs r h hp x X0 RL hX hs q hq hc hnd hx=>by
  obtain⟨a,p,b,rfl,rfl,hF,rfl⟩:=rdF1_inv h
  cases hF
  have hEE:(EL [(68,hasSp)]).P=Tryz.prog:=rfl
  have hcn:ConsOk ρ (EL [(68,hasSp)]):=consOk_list (valid_cons (vSHas hρ) valid_nil)
  have hcc:(EL [(68,hasSp)]).con 68=fnS (spec2 fun (s:Store) (i:Int)=>some (s.slot? i).isSome):=rfl
  rcases hx with⟨rfl,rfl,hpx,hri⟩ | ⟨es,i,rfl,hne,rfl,rfl,h5,h6,h7⟩
  · rcases hX with⟨rfl,_,_⟩ | ⟨es,e1,_⟩
    · refine rd_run (sz:=1) (g:=none) (RL:=[]) (cs:=[encStore p]) hρ hcn follows named Tryz.func67 fB67 rfl hp ?_ hq hc hnd (.inl ⟨rfl,rfl,hpx,hri⟩)
      rw[show Tryz.f67.ntmps=8 from rfl]
      cases hb:(p.slot? a).isSome<;>simp[fS67r0,fS67r1,fS67,hEE,hcc,hb]
      all_goals exact GivesL.keep rfl rfl (by simp) (by simp) (by simp)
    · cases e1
  · rcases hX with⟨e1,e2,_⟩ | ⟨es2,e1,_⟩
    · rw[oH_cons' hne] at e2; cases e2
    · cases e1
theorem vSValid2:Valid ρ Tryz.prog 70 (rdS 10 none (rdF1 nhcF)):=Valid.rd (fo Tryz.func70 fB70) fun X cs r h hp x X0 RL hX hs q hq hc hnd hx=>by
  obtain⟨a,p,b,rfl,rfl,hF,rfl⟩:=rdF1_inv h
  cases hF
  have hEE:(EL [(68,hasSp)]).P=Tryz.prog:=rfl
  have hcn:ConsOk ρ (EL [(68,hasSp)]):=consOk_list (valid_cons (vSHas hρ) valid_nil)
  have hcc:(EL [(68,hasSp)]).con 68=fnS (spec2 fun (s:Store) (i:Int)=>some (s.slot? i).isSome):=rfl
  rcases hx with⟨rfl,rfl,hpx,hri⟩ | ⟨es,i,rfl,hne,rfl,rfl,h5,h6,h7⟩
  · rcases hX with⟨rfl,_,_⟩ | ⟨es,e1,_⟩
    · refine rd_run (sz:=10) (g:=none) (RL:=[]) (cs:=[encStore p]) hρ hcn follows named Tryz.func70 fB70 rfl hp ?_ hq hc hnd (.inl ⟨rfl,rfl,hpx,hri⟩)
      rw[show Tryz.f70.ntmps=9 from rfl]
      obtain⟨i,o,n⟩:=a
      cases hb:(p.slot? i).isSome<;>simp[fS70r0,fS70r1,fS70,hEE,hcc,hb]
      all_goals exact GivesL.keep rfl rfl (by simp) (by simp) (by simp)
    · cases e1
  · rcases hX with⟨e1,e2,_⟩ | ⟨es2,e1,_⟩
    · rw[oH_cons' hne] at e2; cases e2
    · cases e1
end
def ixFV (l:List Int) (c0:Store):Option Int:=if l.length≤100000∧∀ x∈l,(nhF x c0).isSome=true then some (idxF (fun x=>(nhF x c0).getD false) l 0) else none
def ixFVB (l:List Int) (c0:Store):Option Bool:=if l.length≤100000∧∀ x∈l,(nhF x c0).isSome=true then some (l.any fun x=>(nhF x c0).getD false) else none
section
variable {ρ:Nat→Value} (hρ:J.Good ρ)
include hρ
section
variable {E:Env} (hE:E.P=Tryz.prog) (hcon:ConsOk ρ E)
include hE hcon
theorem slices_IndexFunc__intint_frzV (hc:E.con 67=rdS 1 none (rdF1 nhF)) {l:List Int} {c0:Store} (hl:l.length≤100000) (hall:∀ x∈l,(nhF x c0).isSome=true)  {r:Int} (hr:idxF (fun x=>(nhF x c0).getD false) l 0=r) :
    Wp ρ E 1 Tryz.f112.ntmps fS112 ((PT.leaf.set 0 (.sl (l.map encI) false)).set 1 (.func 67 [.ptr 0 0 0])) { H:=mkP [(0,box (encStore c0))],n:=1,log:=[] } (J.Leaves E.P Tryz.f112 (GivesL 1 (enc r) [(0,box (encStore c0))])):=by
  rw[show Tryz.f112.ntmps=19 from rfl]
  simp[fS112r0,fS112r1,fS112r2,fS112r3,fS112r4,fS112r5,fS112b0,fS112r6,fS112b1,fS112r7,fS112,hE]
  refine lpi hρ hE hcon l.length (nn:=1) (fun i (_:Unit)=>[(0,.sl (l.map encI) false),(1,.func 67 [.ptr 0 0 0]),(7,.int .i64 (l.length:Int)),(8,.int .i64 (i:Int))])
    (fun i _=>[(0,box (encStore c0))]) (fun i _=>idxF (fun x=>(nhF x c0).getD false) (l.drop i) (i:Int)=r) ()
    (Less.auto (by simp) (by simp) rfl rfl) (by simpa using hr) ?_ ?_
  · intro _ h K
    rw[List.drop_length,idxF] at h
    simp[fS112l0,fS112r0,fS112r1,fS112r2,fS112r3,fS112r4,fS112r5,fS112b0,fS112r6,fS112b1,fS112r7,fS112,hE]
    refine LessQ.mk (Less.auto (TL:=[]) (HL:=[(0,box (encStore c0))]) (n:=1) (by simp) (by simp) rfl rfl) ?_
    simp[fS112r0,fS112r1,fS112r2,fS112r3,fS112r4,fS112r5,fS112b0,fS112r6,fS112b1,fS112r7,fS112,hE,← h]
    exact GivesL.keep rfl rfl (by simp) (by simp) (by simp)
  · intro i _ hi h K hK
    have hi':(i:Int)<l.length:=by omega
    have hw2:IntKind.i64.wrap ((i:Int)+1)=((i+1:Nat):Int):=wrap_succ (by omega)
    have hm5:(i*1) / 1=i:=by omega
    have hm6:(i*1) % 1=0:=by omega
    obtain⟨q,hq⟩:=Option.isSome_iff_exists.1 (hall l[i] (List.getElem_mem hi))
    rw[List.drop_eq_getElem_cons hi,idxF,hq] at h
    simp only[Option.getD_some] at h
    cases q with
    | true =>
      rw[if_pos rfl] at h
      simp[fS112l0,fS112r0,fS112r1,fS112r2,fS112r3,fS112r4,fS112r5,fS112b0,fS112r6,fS112b1,fS112r7,fS112,hE,hi,hi',hm5,hm6,Nat.div_one,Nat.mod_one,Nat.mul_one,hc,hq]
      refine LessQ.mk (Less.auto (TL:=[(4,.int .i64 (i:Int))]) (HL:=[(0,box (encStore c0))]) (n:=1) (by simp) (by simp) rfl rfl) ?_
      simp[fS112r0,fS112r1,fS112r2,fS112r3,fS112r4,fS112r5,fS112b0,fS112r6,fS112b1,fS112r7,fS112,hE,← h]
      exact GivesL.keep rfl rfl (by simp) (by simp) (by simp)
    | false =>
      rw[if_neg (by decide)] at h
      have hnew:=hK () h
      simp[fS112l0,fS112r0,fS112r1,fS112r2,fS112r3,fS112r4,fS112r5,fS112b0,fS112r6,fS112b1,fS112r7,fS112,hE,hi,hi',hm5,hm6,Nat.div_one,Nat.mod_one,Nat.mul_one,hc,hq,hw2,-Int.natCast_add]
      exact hnew _ _ (Less.auto (by simp[-Int.natCast_add]) (by simp) rfl rfl)
theorem slices_IndexFunc__intint_rowV (hc:E.con 67=rdS 1 none (rdF1 nhF)) {l:List Int} {c0:Store} (hl:l.length≤100000) (hall:∀ x∈l,(nhF x c0).isSome=true) (hne:l≠[]) {r:Int} (hr:idxF (fun x=>(nhF x c0).getD false) l 0=r) :
    Wp ρ E 2 Tryz.f112.ntmps fS112 ((PT.leaf.set 0 (.own 1 (l.length-1) 0 l.length none)).set 1 (.func 67 [.ptr 0 0 0])) { H:=mkP [(0,box (encStore c0)),(1,.arr 1 (l.length-1) (l.map encI) false false true)],n:=2,log:=[] } (J.Leaves E.P Tryz.f112 (GivesL 2 (enc r) [(0,box (encStore c0)),(1,.arr 1 (l.length-1) (l.map encI) false false true)])):=by
  rw[show Tryz.f112.ntmps=19 from rfl]
  have hpos:0<l.length:=List.length_pos_iff.2 hne
  simp[fS112r0,fS112r1,fS112r2,fS112r3,fS112r4,fS112r5,fS112b0,fS112r6,fS112b1,fS112r7,fS112,hE]
  refine lpi hρ hE hcon l.length (nn:=2) (fun i (_:Unit)=>[(0,.own 1 (l.length-1) 0 l.length none),(1,.func 67 [.ptr 0 0 0]),(7,.int .i64 (l.length:Int)),(8,.int .i64 (i:Int))])
    (fun i _=>[(0,box (encStore c0)),(1,.arr 1 (l.length-1) (l.map encI) false false true)]) (fun i _=>idxF (fun x=>(nhF x c0).getD false) (l.drop i) (i:Int)=r) ()
    (Less.auto (by simp) (by simp) rfl rfl) (by simpa using hr) ?_ ?_
  · intro _ h K
    rw[List.drop_length,idxF] at h
    simp[fS112l0,fS112r0,fS112r1,fS112r2,fS112r3,fS112r4,fS112r5,fS112b0,fS112r6,fS112b1,fS112r7,fS112,hE]
    refine LessQ.mk (Less.auto (TL:=[]) (HL:=[(0,box (encStore c0)),(1,.arr 1 (l.length-1) (l.map encI) false false true)]) (n:=2) (by simp) (by simp) rfl rfl) ?_
    simp[fS112r0,fS112r1,fS112r2,fS112r3,fS112r4,fS112r5,fS112b0,fS112r6,fS112b1,fS112r7,fS112,hE,← h]
    exact GivesL.keep rfl rfl (by simp) (by simp) (by simp)
  · intro i _ hi h K hK
    have hi':(i:Int)<l.length:=by omega
    have hw2:IntKind.i64.wrap ((i:Int)+1)=((i+1:Nat):Int):=wrap_succ (by omega)
    have hm5:(i*1) / 1=i:=by omega
    have hm6:(i*1) % 1=0:=by omega
    obtain⟨q,hq⟩:=Option.isSome_iff_exists.1 (hall l[i] (List.getElem_mem hi))
    rw[List.drop_eq_getElem_cons hi,idxF,hq] at h
    simp only[Option.getD_some] at h
    cases q with
    | true =>
      rw[if_pos rfl] at h
      simp[fS112l0,fS112r0,fS112r1,fS112r2,fS112r3,fS112r4,fS112r5,fS112b0,fS112r6,fS112b1,fS112r7,fS112,hE,hi,hi',hm5,hm6,Nat.div_one,Nat.mod_one,Nat.mul_one,hc,hq]
      refine LessQ.mk (Less.auto (TL:=[(4,.int .i64 (i:Int))]) (HL:=[(0,box (encStore c0)),(1,.arr 1 (l.length-1) (l.map encI) false false true)]) (n:=2) (by simp) (by simp) rfl rfl) ?_
      simp[fS112r0,fS112r1,fS112r2,fS112r3,fS112r4,fS112r5,fS112b0,fS112r6,fS112b1,fS112r7,fS112,hE,← h]
      exact GivesL.keep rfl rfl (by simp) (by simp) (by simp)
    | false =>
      rw[if_neg (by decide)] at h
      have hnew:=hK () h
      simp[fS112l0,fS112r0,fS112r1,fS112r2,fS112r3,fS112r4,fS112r5,fS112b0,fS112r6,fS112b1,fS112r7,fS112,hE,hi,hi',hm5,hm6,Nat.div_one,Nat.mod_one,Nat.mul_one,hc,hq,hw2,-Int.natCast_add]
      exact hnew _ _ (Less.auto (by simp[-Int.natCast_add]) (by simp) rfl rfl)
theorem slices_IndexFunc__intint_nilV {c0:Store} :
    Wp ρ E 1 Tryz.f112.ntmps fS112 ((PT.leaf.set 0 .snil).set 1 (.func 67 [.ptr 0 0 0])) { H:=mkP [(0,box (encStore c0))],n:=1,log:=[] } (J.Leaves E.P Tryz.f112 (GivesL 1 (enc (-1:Int)) [(0,box (encStore c0))])):=by
  rw[show Tryz.f112.ntmps=19 from rfl]
  simp[fS112r0,fS112r1,fS112r2,fS112r3,fS112r4,fS112r5,fS112b0,fS112r6,fS112b1,fS112r7,fS112,hE]
  refine lpi hρ hE hcon 0 (nn:=1) (fun i (_:Unit)=>[(7,.int .i64 0),(8,.int .i64 0)]) (fun i _=>[(0,box (encStore c0))]) (fun i _=>True) ()
    (Less.auto (by simp) (by simp) rfl rfl) trivial ?_ ?_
  · intro _ h K
    simp[fS112l0,fS112r0,fS112r1,fS112r2,fS112r3,fS112r4,fS112r5,fS112b0,fS112r6,fS112b1,fS112r7,fS112,hE]
    refine LessQ.mk (Less.auto (TL:=[]) (HL:=[(0,box (encStore c0))]) (n:=1) (by simp) (by simp) rfl rfl) ?_
    simp[fS112r0,fS112r1,fS112r2,fS112r3,fS112r4,fS112r5,fS112b0,fS112r6,fS112b1,fS112r7,fS112,hE]
    exact GivesL.keep rfl rfl (by simp) (by simp) (by simp)
  · intro i _ hi
    omega
end
theorem v_slices_IndexFunc__intintV:Valid ρ Tryz.prog 112 (rdS 1 (some 67) (rdF1 ixFV)):=Valid.rd (fo Tryz.func112 fB112) fun X cs r h hp x X0 RL hX hs q hq hc hnd hx=>by
  obtain⟨l,c0,b,rfl,rfl,hF,rfl⟩:=rdF1_inv h
  obtain⟨⟨h1,h2⟩,rfl⟩:=ite_inv hF
  have hEE:(EL [(67,rdS 1 none (rdF1 nhF))]).P=Tryz.prog:=rfl
  have hcn:ConsOk ρ (EL [(67,rdS 1 none (rdF1 nhF))]):=consOk_list (valid_cons (vSValid1 hρ) valid_nil)
  have hfin:=fun (k:V) (RL:List (Nat×J.Obj)) (T:PT V) (he) (hw) (hx)=>rd_run (sz:=1) (g:=some 67) (X0:=k) (RL:=RL) (T:=T) (cs:=[encStore c0]) (x:=x) (hs:=hs) (q:=q) hρ hcn follows named Tryz.func112 fB112 he hp hw hq hc hnd hx
  rcases hx with⟨rfl,rfl,hpx,hri⟩ | ⟨es,i,rfl,hne,rfl,rfl,h5,h6,h7⟩
  · rcases hX with⟨rfl,_,_⟩ | ⟨es,e1,e2,e3,_⟩
    · exact hfin _ [] _ rfl (slices_IndexFunc__intint_frzV hρ hEE hcn rfl h1 h2 rfl) (.inl ⟨rfl,rfl,hpx,hri⟩)
    · cases es with
      | nil =>
        have e0:l=[]:=by
          have e4:l.map encI=[]:=by injection e1
          exact List.map_eq_nil_iff.1 e4
        subst e0
        have e5:X0=V.snil:=e2
        subst e5
        exact hfin _ [] _ rfl (slices_IndexFunc__intint_nilV hρ hEE hcn) (.inl ⟨rfl,rfl,hpx,hri⟩)
      | cons e es=>rw[oH_cons] at e3; cases e3
  · have hne2:∃ e l,es=e::l:=List.exists_cons_of_ne_nil hne
    rcases hX with⟨e1,e2,_⟩ | ⟨es2,e1,e2,e3,_⟩
    · rw[oH_cons' hne] at e2; cases e2
    · have e4:es=l.map encI:=by
        have e6:l.map encI=es2:=by injection e1
        rw[oH_cons' hne] at e3
        cases es2 with
        | nil=>cases e3
        | cons y m =>
          rw[oH_cons' (by simp)] at e3
          have e7:(J.oO 1 es)=J.oO 1 (y::m):=by injection e3 with e8; injection e8
          have e9:es=y::m:=by unfold oO at e7; injection e7
          rw[e9,← e6]
      have hl0:l≠[]:=fun e=>hne (by rw[e4,e]; rfl)
      have hV:∀ i,oV i (l.map encI)=.own i (l.length-1) 0 l.length none:=fun i=>by rw[oV_cons' (by rw[← e4]; exact hne)]; simp
      have hO:oH 1 1 (l.map encI)=[(1,.arr 1 (l.length-1) (l.map encI) false false true)]:=by rw[oH_cons' (by rw[← e4]; exact hne)]; simp[J.oO]
      have hw:=slices_IndexFunc__intint_rowV hρ hEE hcn rfl h1 h2 hl0 rfl
      refine hfin (oV 1 es) (oH 1 1 es) _ rfl ?_ (.inr ⟨es,i,rfl,hne,rfl,rfl,h5,h6,h7⟩)
      subst e4
      rw[hV]
      show Wp ρ _ ((1)+(oH 1 1 (l.map encI)).length) _ _ _ { H:=mkP ([(0,box (encStore c0))]++oH 1 1 (l.map encI)),n:=1+(oH 1 1 (l.map encI)).length,log:=[] } (J.Leaves _ _ (GivesL (1+(oH 1 1 (l.map encI)).length) _ ([(0,box (encStore c0))]++oH 1 1 (l.map encI))))
      rw[hO]
      exact hw
end
section
variable {ρ:Nat→Value} (hρ:J.Good ρ)
include hρ
theorem v_slices_ContainsFunc__intintV:Valid ρ Tryz.prog 65 (rdS 1 (some 67) (rdF1 ixFVB)):=Valid.rd (fo Tryz.func65 fB65) fun X cs r h hp x X0 RL hX hs q hq hc hnd hx=>by
  obtain⟨l,c0,b,rfl,rfl,hF,rfl⟩:=rdF1_inv h
  obtain⟨⟨h1,h2⟩,rfl⟩:=ite_inv hF
  have hEE:(EL [(112,rdS 1 (some 67) (rdF1 ixFV))]).P=Tryz.prog:=rfl
  have hcn:ConsOk ρ (EL [(112,rdS 1 (some 67) (rdF1 ixFV))]):=consOk_list (valid_cons (v_slices_IndexFunc__intintV hρ) valid_nil)
  have hix:ixFV l c0=some (idxF (fun x=>(nhF x c0).getD false) l 0):=if_pos ⟨h1,h2⟩
  have hge:=idxF_ge (fun x=>(nhF x c0).getD false) l 0 (Int.le_refl _)
  generalize idxF (fun x=>(nhF x c0).getD false) l 0=ix at hix hge
  rw[← hge] at hp ⊢
  have hcon:(EL [(112,rdS 1 (some 67) (rdF1 ixFV))]).con 112=rdS 1 (some 67) (rdF1 ixFV):=rfl
  have hfin:=fun (k:V) (RL:List (Nat×J.Obj)) (T:PT V) (he) (hw) (hx)=>rd_run (sz:=1) (g:=some 67) (X0:=k) (RL:=RL) (T:=T) (cs:=[encStore c0]) (x:=x) (hs:=hs) (q:=q) hρ hcn follows named Tryz.func65 fB65 he hp hw hq hc hnd hx
  rcases hx with⟨rfl,rfl,hpx,hri⟩ | ⟨es,i,rfl,hne,rfl,rfl,h5,h6,h7⟩
  · rcases hX with⟨rfl,_,_⟩ | ⟨es,e1,e2,e3,_⟩
    · refine hfin _ [] _ rfl ?_ (.inl ⟨rfl,rfl,hpx,hri⟩)
      rw[show Tryz.f65.ntmps=9 from rfl]
      simp[fS65r0,fS65r1,fS65,hEE,hcon,hix]
      exact GivesL.keep rfl rfl (by simp) (by simp) (by simp)
    · cases es with
      | nil =>
        have e0:l=[]:=by
          have e4:l.map encI=[]:=by injection e1
          exact List.map_eq_nil_iff.1 e4
        subst e0
        have e5:X0=V.snil:=e2
        subst e5
        refine hfin _ [] _ rfl ?_ (.inl ⟨rfl,rfl,hpx,hri⟩)
        rw[show Tryz.f65.ntmps=9 from rfl]
        simp[fS65r0,fS65r1,fS65,hEE,hcon,hix]
        exact GivesL.keep rfl rfl (by simp) (by simp) (by simp)
      | cons e es=>rw[oH_cons] at e3; cases e3
  · rcases hX with⟨e1,e2,_⟩ | ⟨es2,e1,e2,e3,_⟩
    · rw[oH_cons' hne] at e2; cases e2
    · have e4:es=l.map encI:=by
        have e6:l.map encI=es2:=by injection e1
        rw[oH_cons' hne] at e3
        cases es2 with
        | nil=>cases e3
        | cons y m =>
          rw[oH_cons' (by simp)] at e3
          have e7:(J.oO 1 es)=J.oO 1 (y::m):=by injection e3 with e8; injection e8
          have e9:es=y::m:=by unfold oO at e7; injection e7
          rw[e9,← e6]
      obtain⟨y,m,rfl⟩:=List.exists_cons_of_ne_nil (fun e=>hne (by rw[e4,e]; rfl):l≠[])
      refine hfin (oV 1 es) (oH 1 1 es) _ rfl ?_ (.inr ⟨es,i,rfl,hne,rfl,rfl,h5,h6,h7⟩)
      subst e4
      rw[show Tryz.f65.ntmps=9 from rfl]
      simp[fS65r0,fS65r1,fS65,hEE,hcon,hix]
      exact GivesL.keep rfl rfl (by simp) (by simp) (by simp)
end
def ixFW (l:List Change) (c0:Store):Option Int:=if l.length≤100000∧∀ x∈l,(nhcF x c0).isSome=true then some (idxF (fun x=>(nhcF x c0).getD false) l 0) else none
def ixFWB (l:List Change) (c0:Store):Option Bool:=if l.length≤100000∧∀ x∈l,(nhcF x c0).isSome=true then some (l.any fun x=>(nhcF x c0).getD false) else none
section
variable {ρ:Nat→Value} (hρ:J.Good ρ)
include hρ
section
variable {E:Env} (hE:E.P=Tryz.prog) (hcon:ConsOk ρ E)
include hE hcon
theorem slices_IndexFunc__api_Changeapi_Change_frzW (hc:E.con 70=rdS 10 none (rdF1 nhcF)) {l:List Change} {c0:Store} (hl:l.length≤100000) (hall:∀ x∈l,(nhcF x c0).isSome=true)  {r:Int} (hr:idxF (fun x=>(nhcF x c0).getD false) l 0=r) :
    Wp ρ E 1 Tryz.f116.ntmps fS116 ((PT.leaf.set 0 (.sl (l.map encChange) false)).set 1 (.func 70 [.ptr 0 0 0])) { H:=mkP [(0,box (encStore c0))],n:=1,log:=[] } (J.Leaves E.P Tryz.f116 (GivesL 1 (enc r) [(0,box (encStore c0))])):=by
  rw[show Tryz.f116.ntmps=19 from rfl]
  simp[fS116r0,fS116r1,fS116r2,fS116r3,fS116r4,fS116r5,fS116b0,fS116r6,fS116b1,fS116r7,fS116,hE]
  refine lpi hρ hE hcon l.length (nn:=1) (fun i (_:Unit)=>[(0,.sl (l.map encChange) false),(1,.func 70 [.ptr 0 0 0]),(7,.int .i64 (l.length:Int)),(8,.int .i64 (i:Int))])
    (fun i _=>[(0,box (encStore c0))]) (fun i _=>idxF (fun x=>(nhcF x c0).getD false) (l.drop i) (i:Int)=r) ()
    (Less.auto (by simp) (by simp) rfl rfl) (by simpa using hr) ?_ ?_
  · intro _ h K
    rw[List.drop_length,idxF] at h
    simp[fS116l0,fS116r0,fS116r1,fS116r2,fS116r3,fS116r4,fS116r5,fS116b0,fS116r6,fS116b1,fS116r7,fS116,hE]
    refine LessQ.mk (Less.auto (TL:=[]) (HL:=[(0,box (encStore c0))]) (n:=1) (by simp) (by simp) rfl rfl) ?_
    simp[fS116r0,fS116r1,fS116r2,fS116r3,fS116r4,fS116r5,fS116b0,fS116r6,fS116b1,fS116r7,fS116,hE,← h]
    exact GivesL.keep rfl rfl (by simp) (by simp) (by simp)
  · intro i _ hi h K hK
    have hi':(i:Int)<l.length:=by omega
    have hw2:IntKind.i64.wrap ((i:Int)+1)=((i+1:Nat):Int):=wrap_succ (by omega)
    have hm5:(i*10) / 10=i:=by omega
    have hm6:(i*10) % 10=0:=by omega
    obtain⟨q,hq⟩:=Option.isSome_iff_exists.1 (hall l[i] (List.getElem_mem hi))
    rw[List.drop_eq_getElem_cons hi,idxF,hq] at h
    simp only[Option.getD_some] at h
    cases q with
    | true =>
      rw[if_pos rfl] at h
      simp[fS116l0,fS116r0,fS116r1,fS116r2,fS116r3,fS116r4,fS116r5,fS116b0,fS116r6,fS116b1,fS116r7,fS116,hE,hi,hi',hm5,hm6,hc,hq]
      refine LessQ.mk (Less.auto (TL:=[(4,.int .i64 (i:Int))]) (HL:=[(0,box (encStore c0))]) (n:=1) (by simp) (by simp) rfl rfl) ?_
      simp[fS116r0,fS116r1,fS116r2,fS116r3,fS116r4,fS116r5,fS116b0,fS116r6,fS116b1,fS116r7,fS116,hE,← h]
      exact GivesL.keep rfl rfl (by simp) (by simp) (by simp)
    | false =>
      rw[if_neg (by decide)] at h
      have hnew:=hK () h
      simp[fS116l0,fS116r0,fS116r1,fS116r2,fS116r3,fS116r4,fS116r5,fS116b0,fS116r6,fS116b1,fS116r7,fS116,hE,hi,hi',hm5,hm6,hc,hq,hw2,-Int.natCast_add]
      exact hnew _ _ (Less.auto (by simp[-Int.natCast_add]) (by simp) rfl rfl)
theorem slices_IndexFunc__api_Changeapi_Change_rowW (hc:E.con 70=rdS 10 none (rdF1 nhcF)) {l:List Change} {c0:Store} (hl:l.length≤100000) (hall:∀ x∈l,(nhcF x c0).isSome=true) (hne:l≠[]) {r:Int} (hr:idxF (fun x=>(nhcF x c0).getD false) l 0=r) :
    Wp ρ E 2 Tryz.f116.ntmps fS116 ((PT.leaf.set 0 (.own 1 (l.length-1) 0 l.length none)).set 1 (.func 70 [.ptr 0 0 0])) { H:=mkP [(0,box (encStore c0)),(1,.arr 10 (l.length-1) (l.map encChange) false false true)],n:=2,log:=[] } (J.Leaves E.P Tryz.f116 (GivesL 2 (enc r) [(0,box (encStore c0)),(1,.arr 10 (l.length-1) (l.map encChange) false false true)])):=by
  rw[show Tryz.f116.ntmps=19 from rfl]
  have hpos:0<l.length:=List.length_pos_iff.2 hne
  simp[fS116r0,fS116r1,fS116r2,fS116r3,fS116r4,fS116r5,fS116b0,fS116r6,fS116b1,fS116r7,fS116,hE]
  refine lpi hρ hE hcon l.length (nn:=2) (fun i (_:Unit)=>[(0,.own 1 (l.length-1) 0 l.length none),(1,.func 70 [.ptr 0 0 0]),(7,.int .i64 (l.length:Int)),(8,.int .i64 (i:Int))])
    (fun i _=>[(0,box (encStore c0)),(1,.arr 10 (l.length-1) (l.map encChange) false false true)]) (fun i _=>idxF (fun x=>(nhcF x c0).getD false) (l.drop i) (i:Int)=r) ()
    (Less.auto (by simp) (by simp) rfl rfl) (by simpa using hr) ?_ ?_
  · intro _ h K
    rw[List.drop_length,idxF] at h
    simp[fS116l0,fS116r0,fS116r1,fS116r2,fS116r3,fS116r4,fS116r5,fS116b0,fS116r6,fS116b1,fS116r7,fS116,hE]
    refine LessQ.mk (Less.auto (TL:=[]) (HL:=[(0,box (encStore c0)),(1,.arr 10 (l.length-1) (l.map encChange) false false true)]) (n:=2) (by simp) (by simp) rfl rfl) ?_
    simp[fS116r0,fS116r1,fS116r2,fS116r3,fS116r4,fS116r5,fS116b0,fS116r6,fS116b1,fS116r7,fS116,hE,← h]
    exact GivesL.keep rfl rfl (by simp) (by simp) (by simp)
  · intro i _ hi h K hK
    have hi':(i:Int)<l.length:=by omega
    have hw2:IntKind.i64.wrap ((i:Int)+1)=((i+1:Nat):Int):=wrap_succ (by omega)
    have hm5:(i*10) / 10=i:=by omega
    have hm6:(i*10) % 10=0:=by omega
    obtain⟨q,hq⟩:=Option.isSome_iff_exists.1 (hall l[i] (List.getElem_mem hi))
    rw[List.drop_eq_getElem_cons hi,idxF,hq] at h
    simp only[Option.getD_some] at h
    cases q with
    | true =>
      rw[if_pos rfl] at h
      simp[fS116l0,fS116r0,fS116r1,fS116r2,fS116r3,fS116r4,fS116r5,fS116b0,fS116r6,fS116b1,fS116r7,fS116,hE,hi,hi',hm5,hm6,hc,hq]
      refine LessQ.mk (Less.auto (TL:=[(4,.int .i64 (i:Int))]) (HL:=[(0,box (encStore c0)),(1,.arr 10 (l.length-1) (l.map encChange) false false true)]) (n:=2) (by simp) (by simp) rfl rfl) ?_
      simp[fS116r0,fS116r1,fS116r2,fS116r3,fS116r4,fS116r5,fS116b0,fS116r6,fS116b1,fS116r7,fS116,hE,← h]
      exact GivesL.keep rfl rfl (by simp) (by simp) (by simp)
    | false =>
      rw[if_neg (by decide)] at h
      have hnew:=hK () h
      simp[fS116l0,fS116r0,fS116r1,fS116r2,fS116r3,fS116r4,fS116r5,fS116b0,fS116r6,fS116b1,fS116r7,fS116,hE,hi,hi',hm5,hm6,hc,hq,hw2,-Int.natCast_add]
      exact hnew _ _ (Less.auto (by simp[-Int.natCast_add]) (by simp) rfl rfl)
theorem slices_IndexFunc__api_Changeapi_Change_nilW {c0:Store} :
    Wp ρ E 1 Tryz.f116.ntmps fS116 ((PT.leaf.set 0 .snil).set 1 (.func 70 [.ptr 0 0 0])) { H:=mkP [(0,box (encStore c0))],n:=1,log:=[] } (J.Leaves E.P Tryz.f116 (GivesL 1 (enc (-1:Int)) [(0,box (encStore c0))])):=by
  rw[show Tryz.f116.ntmps=19 from rfl]
  simp[fS116r0,fS116r1,fS116r2,fS116r3,fS116r4,fS116r5,fS116b0,fS116r6,fS116b1,fS116r7,fS116,hE]
  refine lpi hρ hE hcon 0 (nn:=1) (fun i (_:Unit)=>[(7,.int .i64 0),(8,.int .i64 0)]) (fun i _=>[(0,box (encStore c0))]) (fun i _=>True) ()
    (Less.auto (by simp) (by simp) rfl rfl) trivial ?_ ?_
  · intro _ h K
    simp[fS116l0,fS116r0,fS116r1,fS116r2,fS116r3,fS116r4,fS116r5,fS116b0,fS116r6,fS116b1,fS116r7,fS116,hE]
    refine LessQ.mk (Less.auto (TL:=[]) (HL:=[(0,box (encStore c0))]) (n:=1) (by simp) (by simp) rfl rfl) ?_
    simp[fS116r0,fS116r1,fS116r2,fS116r3,fS116r4,fS116r5,fS116b0,fS116r6,fS116b1,fS116r7,fS116,hE]
    exact GivesL.keep rfl rfl (by simp) (by simp) (by simp)
  · intro i _ hi
    omega
end
theorem v_slices_IndexFunc__api_Changeapi_ChangeW:Valid ρ Tryz.prog 116 (rdS 10 (some 70) (rdF1 ixFW)):=Valid.rd (fo Tryz.func116 fB116) fun X cs r h hp x X0 RL hX hs q hq hc hnd hx=>by
  obtain⟨l,c0,b,rfl,rfl,hF,rfl⟩:=rdF1_inv h
  obtain⟨⟨h1,h2⟩,rfl⟩:=ite_inv hF
  have hEE:(EL [(70,rdS 10 none (rdF1 nhcF))]).P=Tryz.prog:=rfl
  have hcn:ConsOk ρ (EL [(70,rdS 10 none (rdF1 nhcF))]):=consOk_list (valid_cons (vSValid2 hρ) valid_nil)
  have hfin:=fun (k:V) (RL:List (Nat×J.Obj)) (T:PT V) (he) (hw) (hx)=>rd_run (sz:=10) (g:=some 70) (X0:=k) (RL:=RL) (T:=T) (cs:=[encStore c0]) (x:=x) (hs:=hs) (q:=q) hρ hcn follows named Tryz.func116 fB116 he hp hw hq hc hnd hx
  rcases hx with⟨rfl,rfl,hpx,hri⟩ | ⟨es,i,rfl,hne,rfl,rfl,h5,h6,h7⟩
  · rcases hX with⟨rfl,_,_⟩ | ⟨es,e1,e2,e3,_⟩
    · exact hfin _ [] _ rfl (slices_IndexFunc__api_Changeapi_Change_frzW hρ hEE hcn rfl h1 h2 rfl) (.inl ⟨rfl,rfl,hpx,hri⟩)
    · cases es with
      | nil =>
        have e0:l=[]:=by
          have e4:l.map encChange=[]:=by injection e1
          exact List.map_eq_nil_iff.1 e4
        subst e0
        have e5:X0=V.snil:=e2
        subst e5
        exact hfin _ [] _ rfl (slices_IndexFunc__api_Changeapi_Change_nilW hρ hEE hcn) (.inl ⟨rfl,rfl,hpx,hri⟩)
      | cons e es=>rw[oH_cons] at e3; cases e3
  · have hne2:∃ e l,es=e::l:=List.exists_cons_of_ne_nil hne
    rcases hX with⟨e1,e2,_⟩ | ⟨es2,e1,e2,e3,_⟩
    · rw[oH_cons' hne] at e2; cases e2
    · have e4:es=l.map encChange:=by
        have e6:l.map encChange=es2:=by injection e1
        rw[oH_cons' hne] at e3
        cases es2 with
        | nil=>cases e3
        | cons y m =>
          rw[oH_cons' (by simp)] at e3
          have e7:(J.oO 10 es)=J.oO 10 (y::m):=by injection e3 with e8; injection e8
          have e9:es=y::m:=by unfold oO at e7; injection e7
          rw[e9,← e6]
      have hl0:l≠[]:=fun e=>hne (by rw[e4,e]; rfl)
      have hV:∀ i,oV i (l.map encChange)=.own i (l.length-1) 0 l.length none:=fun i=>by rw[oV_cons' (by rw[← e4]; exact hne)]; simp
      have hO:oH 1 10 (l.map encChange)=[(1,.arr 10 (l.length-1) (l.map encChange) false false true)]:=by rw[oH_cons' (by rw[← e4]; exact hne)]; simp[J.oO]
      have hw:=slices_IndexFunc__api_Changeapi_Change_rowW hρ hEE hcn rfl h1 h2 hl0 rfl
      refine hfin (oV 1 es) (oH 1 10 es) _ rfl ?_ (.inr ⟨es,i,rfl,hne,rfl,rfl,h5,h6,h7⟩)
      subst e4
      rw[hV]
      show Wp ρ _ ((1)+(oH 1 10 (l.map encChange)).length) _ _ _ { H:=mkP ([(0,box (encStore c0))]++oH 1 10 (l.map encChange)),n:=1+(oH 1 10 (l.map encChange)).length,log:=[] } (J.Leaves _ _ (GivesL (1+(oH 1 10 (l.map encChange)).length) _ ([(0,box (encStore c0))]++oH 1 10 (l.map encChange))))
      rw[hO]
      exact hw
end
section
variable {ρ:Nat→Value} (hρ:J.Good ρ)
include hρ
theorem v_slices_ContainsFunc__api_Changeapi_ChangeW:Valid ρ Tryz.prog 69 (rdS 10 (some 70) (rdF1 ixFWB)):=Valid.rd (fo Tryz.func69 fB69) fun X cs r h hp x X0 RL hX hs q hq hc hnd hx=>by
  obtain⟨l,c0,b,rfl,rfl,hF,rfl⟩:=rdF1_inv h
  obtain⟨⟨h1,h2⟩,rfl⟩:=ite_inv hF
  have hEE:(EL [(116,rdS 10 (some 70) (rdF1 ixFW))]).P=Tryz.prog:=rfl
  have hcn:ConsOk ρ (EL [(116,rdS 10 (some 70) (rdF1 ixFW))]):=consOk_list (valid_cons (v_slices_IndexFunc__api_Changeapi_ChangeW hρ) valid_nil)
  have hix:ixFW l c0=some (idxF (fun x=>(nhcF x c0).getD false) l 0):=if_pos ⟨h1,h2⟩
  have hge:=idxF_ge (fun x=>(nhcF x c0).getD false) l 0 (Int.le_refl _)
  generalize idxF (fun x=>(nhcF x c0).getD false) l 0=ix at hix hge
  rw[← hge] at hp ⊢
  have hcon:(EL [(116,rdS 10 (some 70) (rdF1 ixFW))]).con 116=rdS 10 (some 70) (rdF1 ixFW):=rfl
  have hfin:=fun (k:V) (RL:List (Nat×J.Obj)) (T:PT V) (he) (hw) (hx)=>rd_run (sz:=10) (g:=some 70) (X0:=k) (RL:=RL) (T:=T) (cs:=[encStore c0]) (x:=x) (hs:=hs) (q:=q) hρ hcn follows named Tryz.func69 fB69 he hp hw hq hc hnd hx
  rcases hx with⟨rfl,rfl,hpx,hri⟩ | ⟨es,i,rfl,hne,rfl,rfl,h5,h6,h7⟩
  · rcases hX with⟨rfl,_,_⟩ | ⟨es,e1,e2,e3,_⟩
    · refine hfin _ [] _ rfl ?_ (.inl ⟨rfl,rfl,hpx,hri⟩)
      rw[show Tryz.f69.ntmps=9 from rfl]
      simp[fS69r0,fS69r1,fS69,hEE,hcon,hix]
      exact GivesL.keep rfl rfl (by simp) (by simp) (by simp)
    · cases es with
      | nil =>
        have e0:l=[]:=by
          have e4:l.map encChange=[]:=by injection e1
          exact List.map_eq_nil_iff.1 e4
        subst e0
        have e5:X0=V.snil:=e2
        subst e5
        refine hfin _ [] _ rfl ?_ (.inl ⟨rfl,rfl,hpx,hri⟩)
        rw[show Tryz.f69.ntmps=9 from rfl]
        simp[fS69r0,fS69r1,fS69,hEE,hcon,hix]
        exact GivesL.keep rfl rfl (by simp) (by simp) (by simp)
      | cons e es=>rw[oH_cons] at e3; cases e3
  · rcases hX with⟨e1,e2,_⟩ | ⟨es2,e1,e2,e3,_⟩
    · rw[oH_cons' hne] at e2; cases e2
    · have e4:es=l.map encChange:=by
        have e6:l.map encChange=es2:=by injection e1
        rw[oH_cons' hne] at e3
        cases es2 with
        | nil=>cases e3
        | cons y m =>
          rw[oH_cons' (by simp)] at e3
          have e7:(J.oO 10 es)=J.oO 10 (y::m):=by injection e3 with e8; injection e8
          have e9:es=y::m:=by unfold oO at e7; injection e7
          rw[e9,← e6]
      obtain⟨y,m,rfl⟩:=List.exists_cons_of_ne_nil (fun e=>hne (by rw[e4,e]; rfl):l≠[])
      refine hfin (oV 1 es) (oH 1 10 es) _ rfl ?_ (.inr ⟨es,i,rfl,hne,rfl,rfl,h5,h6,h7⟩)
      subst e4
      rw[show Tryz.f69.ntmps=9 from rfl]
      simp[fS69r0,fS69r1,fS69,hEE,hcon,hix]
      exact GivesL.keep rfl rfl (by simp) (by simp) (by simp)
end
end Go.Proofs.YthfcfmkdeheicaaGreat
