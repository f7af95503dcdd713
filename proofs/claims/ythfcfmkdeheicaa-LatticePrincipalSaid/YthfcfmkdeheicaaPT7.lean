import Derived.Test.YthfcfmkdeheicaaPX1
import Derived.Test.YthfcfmkdeheicaaJZ
import Derived.Test.YthfcfmkdeheicaaJY
import Derived.Test.YthfcfmkdeheicaaPX2
set_option linter.all false
noncomputable section
/- The set of types: its assignments; unification of two types. -/
namespace Go.Proofs.Ythfcfmkdeheicaa
open Go.J
open Go.J.Enc (enc)
set_option maxRecDepth 100000
set_option maxHeartbeats 1000000
def asV (d:Nat) (T:List Assign) (D:Option (List Assign)) (args:List V):Option (V×Option (List Assign)):=open Classical in match args with
  | [iv]=>ob (Enc.dec iv:Option (List Int)) fun ids=>if (∃ σ,Tri T σ∧DOkT σ (D.getD []))∧tok T∧ids.length≤10000 then ob (asM T d ids [] D) fun r=>some (enc r.1,r.2) else none
  | _=>none
theorem asV_inv {d:Nat} {T:List Assign} {D:Option (List Assign)} {args:List V} {q:V×Option (List Assign)} (h:asV d T D args=some q) :
    ∃ ids R D' σ,args=[enc ids]∧Tri T σ∧DOkT σ (D.getD [])∧tok T∧ids.length≤10000∧asM T d ids [] D=some (R,D')∧q=(enc R,D'):=by
  unfold asV at h
  split at h
  · simp only[ob_eq] at h
    obtain⟨ids,ht,h⟩:=h
    split at h
    · rename_i hh
      simp only[ob_eq] at h
      obtain⟨⟨r,D'⟩,hr,h⟩:=h
      cases h
      obtain⟨⟨σ,h1,h2⟩,h3,h4⟩:=hh
      exact⟨ids,r,D',σ,by rw[Enc.enc_dec _ _ ht],h1,h2,h3,h4,hr,rfl⟩
    · cases h
  · cases h
theorem asV_mk {d:Nat} {T:List Assign} {D D':Option (List Assign)} {ids:List Int} {R:List Assign} {σ:Sub} (h1:Tri T σ) (h2:DOkT σ (D.getD [])) (h3:tok T) (h4:ids.length≤10000) (h:asM T d ids [] D=some (R,D')):asV d T D [enc ids]=some (enc R,D'):=by
  unfold asV
  simp only[Enc.dec_enc,J.ob_some,if_pos (And.intro (⟨σ,h1,h2⟩:∃ σ,Tri T σ∧DOkT σ (D.getD [])) (And.intro h3 h4)),h]
def LU (a b:Ty) (p:List Assign×Int):Prop:=∃ g f T s σ,tuM g [] a b=some (p.2,T)∧ruM f a b []=some (p.2,s)∧(∀ θ:Sub,a.app θ=b.app θ→p.2=0∧After σ θ)∧(a.valid=true→b.valid=true→VS σ) ∧
  (p.2=0→Tri T σ∧a.app σ=b.app σ∧∀ i∈varsM [a,b],∀ j,(σ i).occ j=true→j∈varsM [a,b])∧p.1=if p.2=0 then asgF T σ (varsM [a,b]) else []
theorem lu_ex {a b:Ty} (ha:a.vplain=true) (hb:b.vplain=true):∃ p,LU a b p:=by
  obtain⟨g,f,e,T,s,σ,h1,h2,h3,h4,h5⟩:=unify_both ha hb
  exact⟨(if e=0 then asgF T σ (varsM [a,b]) else [],e),g,f,T,s,σ,h1,h2,h3,h4,h5,rfl⟩
open Classical in
def luM (a b:Ty):List Assign×Int:=if h:∃ p,LU a b p then h.choose else ([],0)
theorem lu_ok {a b:Ty} (ha:a.vplain=true) (hb:b.vplain=true):LU a b (luM a b):=by
  unfold luM
  rw[dif_pos (lu_ex ha hb)]
  exact (lu_ex ha hb).choose_spec
def luF (a b:Ty):Option (List Assign×Int):=if a.ok=true∧b.ok=true∧a.vplain=true∧b.vplain=true∧a.size+b.size≤10000 then some (luM a b) else none
section
variable {ρ:Nat→Value} (hρ:J.Good ρ)
include hρ
section
variable {E:Env} (hE:E.P=Try.prog) (hcon:ConsOk ρ E)
include hE hcon
theorem triangle_Assigns_w {d:Nat} (hc:E.con 98=embS (reM (rsV d))) (hv:E.con 63=fnS (spec1 fun i:Int=>some (tVar i))) {T:List Assign} {D D':Option (List Assign)} {ids:List Int} {R:List Assign} {σ:Sub} (hT:Tri T σ) (htk:tok T) (hl:ids.length≤10000) (hD:DOkT σ (D.getD [])) (h:asM T d ids [] D=some (R,D')) (hle:reK D≤reK D') :
    Wp ρ E (reK D) 37 fS82 ((PT.leaf.set 0 (.ptr 0 0 0)).set 1 (enc ids)) { H:=mkP (reOL T D),n:=reK D,log:=[] } (J.Leaves E.P Try.f82 (GLF (reK D) (enc R) (reOL T D'))):=by
  have hmain:∀ (T0:PT V) (hs:HS) (Q:Ex→PT V→HS→Prop),
      Less (reK D) T0 hs (mkP [(0,.ptr 0 0 0),(5,.snil),(10,.sl (ids.map encI) false),(11,.int .i64 (ids.length:Int)),(12,.int .i64 ((0:Nat):Int))]) { H:=mkP (reOL T D),n:=4,log:=[] } →
      Q (.exit 0) (mkP [(5,oV 3 (R.map encAssign))]) { H:=mkP (reOL T D'++oH 3 6 (R.map encAssign)),n:=4,log:=[] } →
      Ls ρ E (reK D) 37 (.loop fS82l0) T0 hs Q:=by
    intro T0 hs Q h0 hQ
    refine lpi hρ hE hcon ids.length (nn:=4) (fun i (X:List Assign×Option (List Assign))=>[(0,.ptr 0 0 0),(5,oV 3 (X.1.map encAssign)),(10,.sl (ids.map encI) false),(11,.int .i64 (ids.length:Int)),(12,.int .i64 (i:Int))])
      (fun i X=>reOL T X.2++oH 3 6 (X.1.map encAssign)) (fun i X=>DOkT σ (X.2.getD [])∧asM T d (ids.drop i) X.1 X.2=some (R,D')∧X.1.length≤i∧reK D≤reK X.2) ([],D)
      (by simpa using h0) ⟨hD,by simpa using h,Nat.le_refl _,Nat.le_refl _⟩ ?_ ?_
    · rintro ⟨out,D1⟩ ⟨h1,h2,h3,h4⟩ K
      simp only[List.drop_length,asM] at h2
      cases h2
      clear h0
      rcases D with _ | L
      · rcases D' with _ | L1
        all_goals
          rcases R with _ | ⟨r,R⟩
          all_goals
            simp[fS82l0,fS82r0,fS82r1,fS82r2,fS82r3,fS82r4,fS82r5,fS82r6,fS82r7,fS82b0,fS82r8,fS82b1,fS82r9,fS82,hE,reOL,reK]
            exact LessQ.mk (Less.auto (n:=4) (by simp[reOL,reK]) (by simp[reOL,reK]) (by first | rfl | simp[reOL,reK]) (by simp[reK,reOL]<;>(intro x hx; first | omega | exact⟨.inl hx,by omega⟩))) hQ
      · rcases D' with _ | L1
        · simp[reK] at h4
        · rcases R with _ | ⟨r,R⟩
          all_goals
            simp[fS82l0,fS82r0,fS82r1,fS82r2,fS82r3,fS82r4,fS82r5,fS82r6,fS82r7,fS82b0,fS82r8,fS82b1,fS82r9,fS82,hE,reOL,reK]
            exact LessQ.mk (Less.auto (n:=4) (by simp[reOL,reK]) (by simp[reOL,reK]) (by first | rfl | simp[reOL,reK]) (by simp[reK,reOL]<;>(intro x hx; first | omega | exact⟨.inl hx,by omega⟩))) hQ
    · rintro i ⟨out,D1⟩ hi ⟨h1,h2,h3,h4⟩ K hK
      simp only at h1 h2 h3 h4
      clear h0 hQ
      have hi':(i:Int)<ids.length:=by omega
      have hw2:IntKind.i64.wrap ((i:Int)+1)=((i+1:Nat):Int):=wrap_succ (by omega)
      rw[List.drop_eq_getElem_cons hi,asM] at h2
      obtain⟨x,hx⟩:∃ x,ids[i]=x:=⟨_,rfl⟩
      rw[hx] at h2
      cases hlk:lookA T x with
      | none =>
        rw[hlk,if_neg (by decide)] at h2
        have hnew:=hK (out,D1) ⟨h1,h2,Nat.le_succ_of_le h3,h4⟩
        clear hK
        rcases D with _ | L
        · rcases D1 with _ | L1
          all_goals
            rcases out with _ | ⟨r,out⟩
            all_goals
              simp[fS82l0,fS82r0,fS82r1,fS82r2,fS82r3,fS82r4,fS82r5,fS82r6,fS82r7,fS82b0,fS82r8,fS82b1,fS82r9,fS82,hE,hi,hi',hx,reOL,reK,hlk,lookupJ,entriesJ,keyOk,zeroTy,hw2,-Int.natCast_add]
              exact hnew _ _ (Less.auto (by simp[reOL,reK,-Int.natCast_add]) (by simp[reOL,reK]) (by first | rfl | simp[reOL,reK]) (by simp[reK,reOL]<;>(intro x hx; first | omega | exact⟨.inl hx,by omega⟩)))
        · rcases D1 with _ | L1
          · simp[reK] at h4
          · rcases out with _ | ⟨r,out⟩
            all_goals
              simp[fS82l0,fS82r0,fS82r1,fS82r2,fS82r3,fS82r4,fS82r5,fS82r6,fS82r7,fS82b0,fS82r8,fS82b1,fS82r9,fS82,hE,hi,hi',hx,reOL,reK,hlk,lookupJ,entriesJ,keyOk,zeroTy,hw2,-Int.natCast_add]
              exact hnew _ _ (Less.auto (by simp[reOL,reK,-Int.natCast_add]) (by simp[reOL,reK]) (by first | rfl | simp[reOL,reK]) (by simp[reK,reOL]<;>(intro x hx; first | omega | exact⟨.inl hx,by omega⟩)))
      | some u =>
        rw[hlk,if_pos (show (some u).isSome=true from rfl)] at h2
        cases hr:rsM T d (tVar x) (D1.getD []) with
        | none=>rw[hr] at h2; cases h2
        | some p =>
          obtain⟨r,D2⟩:=p
          rw[hr] at h2
          simp only at h2
          have hdt:=rs_det hT (vplain_tVar x) h1 hr
          have hF:=rsV_mk (D:=D1) hT h1 htk (by simp[tVar,Ty.ok,Ty.oks]) (vplain_tVar x) hr
          have hnew:=hK (out++[⟨x,r⟩],some D2) ⟨hdt.2.1,h2,by simp; omega,by cases D<;>simp[reK]⟩
          clear hK hdt hr h2
          obtain⟨uk,un,ui,uh,ul⟩:=u
          obtain⟨rk,rn,ri,rh,rl⟩:=r
          simp only[tVar,encTy_n,enc_Ty,Ty.kind_mk,Ty.name_mk,Ty.id_mk,Ty.home_mk,Ty.args_mk,List.map_nil] at hF
          have h72:(out.length+1)*72≤1048576:=Nat.le_trans (Nat.mul_le_mul_right 72 (show out.length+1≤10001 by omega)) (by decide)
          rcases out with _ | ⟨y,out⟩
          · rcases D with _ | L
            · rcases D1 with _ | L1
              all_goals
                simp[fS82l0,fS82r0,fS82r1,fS82r2,fS82r3,fS82r4,fS82r5,fS82r6,fS82r7,fS82b0,fS82r8,fS82b1,fS82r9,fS82,hE,hi,hi',hx,reOL,reK,hlk,lookupJ,entriesJ,keyOk,zeroTy,hv,tVar,hc,hF,vacant_eq,hw2,-Int.natCast_add]
                exact hnew _ _ (Less.auto (by simp[reOL,reK,-Int.natCast_add]) (by simp[reOL,reK]) (by first | rfl | simp[reOL,reK]) (by simp[reK,reOL]<;>(intro x hx; first | omega | exact⟨.inl hx,by omega⟩)))
            · rcases D1 with _ | L1
              · simp[reK] at h4
              · simp[fS82l0,fS82r0,fS82r1,fS82r2,fS82r3,fS82r4,fS82r5,fS82r6,fS82r7,fS82b0,fS82r8,fS82b1,fS82r9,fS82,hE,hi,hi',hx,reOL,reK,hlk,lookupJ,entriesJ,keyOk,zeroTy,hv,tVar,hc,hF,vacant_eq,hw2,-Int.natCast_add]
                exact hnew _ _ (Less.auto (by simp[reOL,reK,-Int.natCast_add]) (by simp[reOL,reK]) (by first | rfl | simp[reOL,reK]) (by simp[reK,reOL]<;>(intro x hx; first | omega | exact⟨.inl hx,by omega⟩)))
          · have hx72:(out.length+1+1)*72≤1048576:=by simpa using h72
            rcases D with _ | L
            · rcases D1 with _ | L1
              all_goals
                simp[fS82l0,fS82r0,fS82r1,fS82r2,fS82r3,fS82r4,fS82r5,fS82r6,fS82r7,fS82b0,fS82r8,fS82b1,fS82r9,fS82,hE,hi,hi',hx,reOL,reK,hlk,lookupJ,entriesJ,keyOk,zeroTy,hv,tVar,hc,hF,vacant_eq,hw2,hx72,Nat.not_succ_le_self,-Int.natCast_add]
                exact hnew _ _ (Less.auto (by simp[reOL,reK,-Int.natCast_add]) (by simp[reOL,reK]) (by first | rfl | simp[reOL,reK]) (by simp[reK,reOL]<;>(intro x hx; first | omega | exact⟨.inl hx,by omega⟩)))
            · rcases D1 with _ | L1
              · simp[reK] at h4
              · simp[fS82l0,fS82r0,fS82r1,fS82r2,fS82r3,fS82r4,fS82r5,fS82r6,fS82r7,fS82b0,fS82r8,fS82b1,fS82r9,fS82,hE,hi,hi',hx,reOL,reK,hlk,lookupJ,entriesJ,keyOk,zeroTy,hv,tVar,hc,hF,vacant_eq,hw2,hx72,Nat.not_succ_le_self,-Int.natCast_add]
                exact hnew _ _ (Less.auto (by simp[reOL,reK,-Int.natCast_add]) (by simp[reOL,reK]) (by first | rfl | simp[reOL,reK]) (by simp[reK,reOL]<;>(intro x hx; first | omega | exact⟨.inl hx,by omega⟩)))
  rcases D with _ | L
  · rcases D' with _ | L'
    all_goals
      simp[fS82r0,fS82r1,fS82r2,fS82r3,fS82r4,fS82r5,fS82r6,fS82r7,fS82b0,fS82r8,fS82b1,fS82r9,fS82,hE,reOL,reK]
      refine hmain _ _ _ (Less.auto (by simp[reOL,reK]) (by simp[reOL,reK]) (by first | rfl | simp[reOL,reK]) (by simp[reOL,reK]<;>(intro x hx; first | omega | exact⟨.inl hx,by omega⟩))) ?_
      clear hmain h
      rcases R with _ | ⟨r,R⟩
      all_goals
        simp[fS82r0,fS82r1,fS82r2,fS82r3,fS82r4,fS82r5,fS82r6,fS82r7,fS82b0,fS82r8,fS82b1,fS82r9,fS82,hE,reOL,reK]
        exact .inr (GivesF.keep rfl rfl (by simp[still2]) (by simp[ownB]))
  · rcases D' with _ | L'
    · simp[reK] at hle
    · simp[fS82r0,fS82r1,fS82r2,fS82r3,fS82r4,fS82r5,fS82r6,fS82r7,fS82b0,fS82r8,fS82b1,fS82r9,fS82,hE,reOL,reK]
      refine hmain _ _ _ (Less.auto (by simp[reOL,reK]) (by simp[reOL,reK]) (by first | rfl | simp[reOL,reK]) (by simp[reOL,reK]<;>(intro x hx; first | omega | exact⟨.inl hx,by omega⟩))) ?_
      clear hmain h
      rcases R with _ | ⟨r,R⟩
      all_goals
        simp[fS82r0,fS82r1,fS82r2,fS82r3,fS82r4,fS82r5,fS82r6,fS82r7,fS82b0,fS82r8,fS82b1,fS82r9,fS82,hE,reOL,reK]
        exact .inr (GivesF.keep rfl rfl (by simp[still2]) (by simp[ownB]))
theorem lattice_Unify_run {g d:Nat} (hN:E.con 80=embS newM) (hU:E.con 81=embS (triM (tuV g))) (hV:E.con 83=tvarsS) (hA:E.con 82=embS (reM (asV d))) {a b:Ty} {e:Int} {T R:List Assign} (ha:a.ok=true) (hb:b.ok=true) (pa:a.vplain=true) (pb:b.vplain=true) (hsz:a.size+b.size≤10000)
    (hu:tuM g [] a b=some (e,T)) (hR:e=0→∃ σ D',Tri T σ∧asM T d (varsM [a,b]) [] none=some (R,D')) (hR0:e≠0→R=[]) (hs:HS):CallOk ρ Try.prog 44 [enc a,enc b] hs (enc (R,e)) hs:=by
  refine fn hρ hE hcon Try.func44 fB44 rfl (by simp) ?_ hs
  have htk:tok []:=fun a ha=>by cases ha
  have hF1:tuV g [] [enc a,enc b]=some (.int .i64 e,T):=by
    unfold tuV
    simp only[Enc.dec_enc,J.ob_some,if_pos (And.intro htk (And.intro ha hb)),hu]
  by_cases he:e=0
  · subst he
    obtain⟨σ,D',hT,hR⟩:=hR rfl
    have hl:∀ t∈[a,b],t.vplain=true:=fun t ht=>by
      rcases List.mem_cons.1 ht with rfl | ht
      · exact pa
      · rw[List.mem_singleton.1 ht]; exact pb
    have hvl:(varsM [a,b]).length≤10000:=by
      have h1:=idsOf_len (leavesL 1 [a,b] [])
      have h2:=(leavesL_len 1 [a,b] []).2
      simp only[Ty.sizes,List.length_nil] at h2
      unfold varsM; omega
    have hF2:tvF [a,b]=some (varsM [a,b]):=by
      unfold tvF
      rw[if_pos ⟨by simp[Ty.oks,ha,hb],by simp,by simp only[Ty.sizes]; omega⟩,varsM_col (vplains_leafys [a,b] (vplains_iff.2 hl))]
    have hF3:=asV_mk (D:=none) hT (fun i r h=>by cases h) (tu_tok g [] a b 0 T htk ha hb hu) hvl hR
    clear hR hvl
    generalize varsM [a,b]=ids at hF2 hF3
    simp at hF3
    obtain⟨ak,an,ai,ah,al⟩:=a
    obtain⟨bk,bn,bi,bh,bl⟩:=b
    simp only[encTy_n,enc_Ty,Ty.kind_mk,Ty.name_mk,Ty.id_mk,Ty.home_mk,Ty.args_mk] at hF1
    rcases D' with _ | L'
    · simp[fS44r0,fS44r1,fS44r2,fS44r3,fS44r4,fS44r5,fS44,hE,hN,hU,hF1,hV,tvarsS,hF2,hA,hF3,vacant_eq,triB]
    · simp[fS44r0,fS44r1,fS44r2,fS44r3,fS44r4,fS44r5,fS44,hE,hN,hU,hF1,hV,tvarsS,hF2,hA,hF3,vacant_eq,triB]
  · have:=hR0 he
    subst this
    clear hR hR0
    obtain⟨ak,an,ai,ah,al⟩:=a
    obtain⟨bk,bn,bi,bh,bl⟩:=b
    simp only[encTy_n,enc_Ty,Ty.kind_mk,Ty.name_mk,Ty.id_mk,Ty.home_mk,Ty.args_mk] at hF1
    simp[fS44r0,fS44r1,fS44r2,fS44r3,fS44r4,fS44r5,fS44,hE,hN,hU,hF1,he,vacant_eq,triB]
end
theorem vAssigns (d:Nat):Valid ρ Try.prog 82 (embS (reM (asV d))):=by
  refine Valid.emb (fo Try.func82 fB82) fun vs hs D h=>?_
  obtain⟨args,T,D0,r,D1,a,m,c,hF,rfl,_,hr,hg,hfit⟩:=reM_inv h
  obtain⟨ids,R,D',σ,rfl,h1,h2,h3,h4,h5,h6⟩:=asV_inv hF
  cases h6
  have hEE:(EL [(98,embS (reM (rsV d))),(63,fnS (spec1 fun i:Int=>some (tVar i)))]).P=Try.prog:=rfl
  have hcn:ConsOk ρ (EL [(98,embS (reM (rsV d))),(63,fnS (spec1 fun i:Int=>some (tVar i)))]):=consOk_list (valid_cons (vResolve' hρ d) (valid_cons (vTVar hρ) valid_nil))
  exact emf hρ hEE hcn Try.func82 fB82 rfl hg (triangle_Assigns_w hρ hEE hcn rfl rfl h1 h3 h4 h2 h5 hg.le) hfit
theorem vLUnify:Valid ρ Try.prog 44 (fnS (spec2 luF)):=v2 (fo Try.func44 fB44) fun a b r h hs=>by
  obtain⟨⟨h1,h2,h3,h4,h5⟩,rfl⟩:=ite_inv h
  have hLU:=lu_ok h3 h4
  generalize luM a b=q at hLU
  obtain⟨R,e⟩:=q
  obtain⟨g,f,T,s,σ,q1,q2,q3,q4,q5,q6⟩:=hLU
  simp only at q1 q5 q6
  by_cases he:e=0
  · rw[if_pos he] at q6
    obtain⟨hT,_,_⟩:=q5 he
    obtain⟨d,D',hd⟩:=as_ok hT (varsM [a,b]) [] none (fun i r h=>by cases h)
    rw[List.nil_append,← q6] at hd
    exact lattice_Unify_run hρ (E:=EL [(80,embS newM),(81,embS (triM (tuV g))),(83,tvarsS),(82,embS (reM (asV d)))]) rfl (consOk_list (valid_cons (vTNew hρ) (valid_cons (vTUnify hρ g) (valid_cons (vTVars hρ) (valid_cons (vAssigns hρ d) valid_nil))))) rfl rfl rfl rfl h1 h2 h3 h4 h5 q1 (fun _=>⟨σ,D',hT,hd⟩) (fun h=>absurd he h) hs
  · rw[if_neg he] at q6
    exact lattice_Unify_run hρ (E:=EL [(80,embS newM),(81,embS (triM (tuV g))),(83,tvarsS),(82,embS (reM (asV 0)))]) rfl (consOk_list (valid_cons (vTNew hρ) (valid_cons (vTUnify hρ g) (valid_cons (vTVars hρ) (valid_cons (vAssigns hρ 0) valid_nil))))) rfl rfl rfl rfl h1 h2 h3 h4 h5 q1 (fun h=>absurd h he) (fun _=>q6) hs
end
end Go.Proofs.Ythfcfmkdeheicaa
