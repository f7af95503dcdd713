import Derived.Test.YthfcfmkdeheicaaPLUn
import Derived.Test.YthfcfmkdeheicaaJY
set_option linter.all false
noncomputable section
/- The law LatticePrincipal: what its function computes. -/
namespace Go.Proofs.Ythfcfmkdeheicaa
open Go.J
open Go.J.Enc (enc)
set_option maxRecDepth 100000
set_option maxHeartbeats 1000000
@[simp] theorem de82a:I82.desc=.array 2 25:=by kernel_rfl
def PFact (o:List Assign) (p q:Ty):Prop:=∃ r1 r2,replU p o=some r1∧replU q o=some r2∧(eqN r1 r2=some false∨(eqN r1 r2=some true∧∃ S ids R,luF p q=some (S,0)∧vuN [p,q]=some ids∧factF S o ids=some (R,true)))
theorem pfact {o:List Assign} {p q:Ty} {N M:Nat} (np:Nc N p) (nq:Nc M q) (hNM:N+M≤70) (ho:∀ a∈o,Nc 3 a.type) (hol:o.length≤8000):PFact o p q:=by
  have ook:okA o:=fun a ha=>(ho a ha).ok
  refine⟨p.repl o,q.repl o,if_pos ⟨np.ok,by omega⟩,if_pos ⟨nq.ok,by omega⟩,?_⟩
  have hpo:=repl_ok ook p np.ok
  by_cases he:p.repl o=q.repl o
  · refine .inr ⟨by unfold eqN; rw[if_pos hpo,decide_eq_true he],?_⟩
    have hsz:=np.sz
    have hsz2:=nq.sz
    have f1:luF p q=some (luM p q):=if_pos ⟨np.ok,nq.ok,np.pl,nq.pl,by omega⟩
    have hlu:=lu_ok np.pl nq.pl
    generalize luM p q=r at f1 hlu
    obtain⟨S,e⟩:=r
    obtain⟨g,f,T,s,σ,l1,l2,l3,l4,l5,l6⟩:=hlu
    simp only at l1 l2 l3 l4 l5 l6
    have heq:p.app (fnA o)=q.app (fnA o):=by rw[← repl_app _ _ np.pl,← repl_app _ _ nq.pl]; exact he
    obtain⟨rfl,hA⟩:=l3 _ heq
    rw[if_pos rfl] at l6
    obtain⟨hT,hab,hcl⟩:=l5 rfl
    have hpr:=principal_law np.pl nq.pl he hT fun θ h=>(l3 θ h).2
    have hvl:(leavesL 1 [p,q] []).length≤70:=by
      have:=(leavesL_len 1 [p,q] []).2
      simp only[Ty.sizes,List.length_nil] at this
      omega
    have hVl:(varsM [p,q]).length≤70:=Nat.le_trans (idsOf_len _) hvl
    have hall:=tu_all (P:=fun t:Ty=>t.ok=true) (fun t ht u hu=>Ty.ok_arg ht hu) g [] p q 0 T (fun a h=>by cases h) np.ok nq.ok l1
    have hσo:=tri_ok hT hall
    have hSl:S.length≤70:=by
      rw[l6]
      unfold asgF
      rw[List.length_map]
      exact Nat.le_trans (List.length_filter_le ..) hVl
    refine⟨S,varsM [p,q],(fcL S o (varsM [p,q]) []).1,f1,if_pos ⟨by simp[Ty.oks,np.ok,nq.ok],by simp,by omega⟩,if_pos ⟨by rw[l6]; exact hpr,fun a ha=>?_,ook,by omega,hol,hVl,fun i hi=>?_⟩⟩
    · rw[l6] at ha
      obtain⟨_,e⟩:=asgF_mem ha
      rw[e]; exact hσo _
    · rw[l6,repl_tVar,asgF_fn hT.props hi]
      have h1:=size_le_app (θ:=fnA o) (σ i) (hT.props.idem.plain i)
      have h2:((σ i).app (fnA o)).size≤3:=by rw[hA i]; exact fnA_size (by decide) (fun a ha=>(ho a ha).sz) i
      omega
  · exact .inl (by unfold eqN; rw[if_pos hpo,decide_eq_false he])
section
variable {ρ:Nat→Value} (hρ:J.Good ρ) {E:Env} (hE:E.P=Try.prog) (hcon:ConsOk ρ E)
include hρ hE hcon
theorem LP_in (h4:E.con 44=fnS (spec2 luF)) (h6:E.con 46=fnS (spec1 vuN)) (h10:E.con 50=fnS (spec2 replU)) (h11:E.con 19=fnS (spec2 eqN)) (h12:E.con 52=fnS (spec3 factF))
    {a b c:Ty} {o:List Assign} {ov:V} {i:Nat} (hp1:PFact o a b) (hp2:PFact o a c) {Q:Ex→PT V→HS→Prop} {T0:PT V} {hs0:HS}
    (h0:Less 0 T0 hs0 (mkP [(8,.ptr 0 0 0),(9,.ptr 1 0 0),(10,.ptr 2 0 0),(12,.sl (o.map encAssign) false),(47,ov),(48,.int .i64 2),(49,.int .i64 (i:Int)),(59,.sl [encTy a++encTy b,encTy a++encTy c] true),(60,.int .i64 2),(61,.int .i64 ((0:Nat):Int))]) { H:=mkP [(0,box (encTy a)),(1,box (encTy b)),(2,box (encTy c))],n:=3,log:=[] })
    (hQ:Q (.exit 2) (mkP [(8,.ptr 0 0 0),(9,.ptr 1 0 0),(10,.ptr 2 0 0),(47,ov),(48,.int .i64 2),(49,.int .i64 (i:Int))]) { H:=mkP [(0,box (encTy a)),(1,box (encTy b)),(2,box (encTy c))],n:=3,log:=[] }) (hov:ov.in3 (fun _=>false)=true) :
    Ls ρ E 0 101 (.loop fS8l0) T0 hs0 Q:=by
  have hor:∀ π:Nat→Nat,ov.ren π=ov:=fun π=>V.ren_none hov
  have hoi:∀ A:Nat→Bool,ov.in3 A=true:=fun A=>V.in3_mono (fun _ h=>by cases h) hov
  refine lpi hρ hE hcon 2 (nn:=3) (fun j (_:Unit)=>[(8,.ptr 0 0 0),(9,.ptr 1 0 0),(10,.ptr 2 0 0),(12,.sl (o.map encAssign) false),(47,ov),(48,.int .i64 2),(49,.int .i64 (i:Int)),(59,.sl [encTy a++encTy b,encTy a++encTy c] true),(60,.int .i64 2),(61,.int .i64 (j:Int))]) (fun _ _=>[(0,box (encTy a)),(1,box (encTy b)),(2,box (encTy c))]) (fun _ _=>True) () h0 trivial ?_ ?_
  · intro _ _ K
    simp[fS8l0,fS8r0,fS8r1,fS8r2,fS8r3,fS8r4,fS8r5,fS8r6,fS8r7,fS8r8,fS8r9,fS8r10,fS8r11,fS8r12,fS8r13,fS8r14,fS8r15,fS8r16,fS8r17,fS8r18,fS8r19,fS8r20,fS8r21,fS8r22,fS8b0,fS8r23,fS8b1,fS8b2,fS8r24,fS8b3,fS8r25,fS8,hE]
    exact LessQ.mk (Less.keep 3 (by simp[hoi,show IntKind.i64.wrap 1=1 from rfl,show IntKind.i64.wrap 2=2 from rfl]) (by simp) rfl rfl) hQ
  · intro j _ hj _ K hK
    have hnew:=hK () trivial
    clear h0 hQ hK
    rcases (show j=0∨j=1 by omega) with rfl | rfl
    · obtain⟨r1,r2,g1,g2,g3⟩:=hp1
      rcases g3 with g3 | ⟨g3,S,ids,R,g4,g5,g6⟩
      · simp[fS8l0,fS8r0,fS8r1,fS8r2,fS8r3,fS8r4,fS8r5,fS8r6,fS8r7,fS8r8,fS8r9,fS8r10,fS8r11,fS8r12,fS8r13,fS8r14,fS8r15,fS8r16,fS8r17,fS8r18,fS8r19,fS8r20,fS8r21,fS8r22,fS8b0,fS8r23,fS8b1,fS8b2,fS8r24,fS8b3,fS8r25,fS8,hE,h10,g1,g2,h11,g3]
        exact hnew _ _ (Less.keep 3 (by simp[hoi,show IntKind.i64.wrap 1=1 from rfl,show IntKind.i64.wrap 2=2 from rfl]) (by simp) rfl rfl)
      · simp[fS8l0,fS8r0,fS8r1,fS8r2,fS8r3,fS8r4,fS8r5,fS8r6,fS8r7,fS8r8,fS8r9,fS8r10,fS8r11,fS8r12,fS8r13,fS8r14,fS8r15,fS8r16,fS8r17,fS8r18,fS8r19,fS8r20,fS8r21,fS8r22,fS8b0,fS8r23,fS8b1,fS8b2,fS8r24,fS8b3,fS8r25,fS8,hE,h10,g1,g2,h11,g3,h4,g4,h6,g5,h12,g6]
        exact hnew _ _ (Less.keep 3 (by simp[hoi,show IntKind.i64.wrap 1=1 from rfl,show IntKind.i64.wrap 2=2 from rfl]) (by simp) rfl rfl)
    · obtain⟨r1,r2,g1,g2,g3⟩:=hp2
      rcases g3 with g3 | ⟨g3,S,ids,R,g4,g5,g6⟩
      · simp[fS8l0,fS8r0,fS8r1,fS8r2,fS8r3,fS8r4,fS8r5,fS8r6,fS8r7,fS8r8,fS8r9,fS8r10,fS8r11,fS8r12,fS8r13,fS8r14,fS8r15,fS8r16,fS8r17,fS8r18,fS8r19,fS8r20,fS8r21,fS8r22,fS8b0,fS8r23,fS8b1,fS8b2,fS8r24,fS8b3,fS8r25,fS8,hE,h10,g1,g2,h11,g3]
        exact hnew _ _ (Less.keep 3 (by simp[hoi,show IntKind.i64.wrap 1=1 from rfl,show IntKind.i64.wrap 2=2 from rfl]) (by simp) rfl rfl)
      · simp[fS8l0,fS8r0,fS8r1,fS8r2,fS8r3,fS8r4,fS8r5,fS8r6,fS8r7,fS8r8,fS8r9,fS8r10,fS8r11,fS8r12,fS8r13,fS8r14,fS8r15,fS8r16,fS8r17,fS8r18,fS8r19,fS8r20,fS8r21,fS8r22,fS8b0,fS8r23,fS8b1,fS8b2,fS8r24,fS8b3,fS8r25,fS8,hE,h10,g1,g2,h11,g3,h4,g4,h6,g5,h12,g6]
        exact hnew _ _ (Less.keep 3 (by simp[hoi,show IntKind.i64.wrap 1=1 from rfl,show IntKind.i64.wrap 2=2 from rfl]) (by simp) rfl rfl)
theorem LP_out (h4:E.con 44=fnS (spec2 luF)) (h6:E.con 46=fnS (spec1 vuN)) (h10:E.con 50=fnS (spec2 replU)) (h11:E.con 19=fnS (spec2 eqN)) (h12:E.con 52=fnS (spec3 factF))
    {a b c:Ty} {u v:List Assign} (p1:PFact u a b) (p2:PFact u a c) (p3:PFact v a b) (p4:PFact v a c) {Q:Ex→PT V→HS→Prop} {T0:PT V} {hs0:HS}
    (h0:Less 0 T0 hs0 (mkP [(8,.ptr 0 0 0),(9,.ptr 1 0 0),(10,.ptr 2 0 0),(47,.sl [[.sl (u.map encAssign) false],[.sl (v.map encAssign) false]] true),(48,.int .i64 2),(49,.int .i64 ((0:Nat):Int))]) { H:=mkP [(0,box (encTy a)),(1,box (encTy b)),(2,box (encTy c))],n:=3,log:=[] })
    (hQ:Q (.exit 0) (mkP [(8,.ptr 0 0 0)]) { H:=mkP [(0,box (encTy a))],n:=1,log:=[] }) :
    Ls ρ E 0 101 (.loop fS8l1) T0 hs0 Q:=by
  refine lpi hρ hE hcon 2 (nn:=3) (fun i (_:Unit)=>[(8,.ptr 0 0 0),(9,.ptr 1 0 0),(10,.ptr 2 0 0),(47,.sl [[.sl (u.map encAssign) false],[.sl (v.map encAssign) false]] true),(48,.int .i64 2),(49,.int .i64 (i:Int))]) (fun _ _=>[(0,box (encTy a)),(1,box (encTy b)),(2,box (encTy c))]) (fun _ _=>True) () h0 trivial ?_ ?_
  · intro _ _ K
    simp[fS8l1,fS8r0,fS8r1,fS8r2,fS8r3,fS8r4,fS8r5,fS8r6,fS8r7,fS8r8,fS8r9,fS8r10,fS8r11,fS8r12,fS8r13,fS8r14,fS8r15,fS8r16,fS8r17,fS8r18,fS8r19,fS8r20,fS8r21,fS8r22,fS8b0,fS8r23,fS8b1,fS8b2,fS8r24,fS8b3,fS8r25,fS8,hE]
    exact LessQ.mk (Less.auto (n:=1) (by simp) (by simp) rfl rfl) hQ
  · intro i _ hi _ K hK
    have hnew:=hK () trivial
    clear h0 hQ hK
    have hin:=fun (o:List Assign) (i:Nat) (q1:PFact o a b) (q2:PFact o a c) (Q) (T0) (hs0)=>LP_in (a:=a) (b:=b) (c:=c) (o:=o) (i:=i) (ov:=.sl [[.sl (u.map encAssign) false],[.sl (v.map encAssign) false]] true) (Q:=Q) (T0:=T0) (hs0:=hs0) hρ hE hcon h4 h6 h10 h11 h12 q1 q2
    rcases (show i=0∨i=1 by omega) with rfl | rfl
    · simp[fS8l1,fS8r0,fS8r1,fS8r2,fS8r3,fS8r4,fS8r5,fS8r6,fS8r7,fS8r8,fS8r9,fS8r10,fS8r11,fS8r12,fS8r13,fS8r14,fS8r15,fS8r16,fS8r17,fS8r18,fS8r19,fS8r20,fS8r21,fS8r22,fS8b0,fS8r23,fS8b1,fS8b2,fS8r24,fS8b3,fS8r25,fS8,hE]
      refine hin u 0 p1 p2 _ _ _ (Less.auto (by simp) (by simp) rfl rfl) ?_ rfl
      simp[fS8r0,fS8r1,fS8r2,fS8r3,fS8r4,fS8r5,fS8r6,fS8r7,fS8r8,fS8r9,fS8r10,fS8r11,fS8r12,fS8r13,fS8r14,fS8r15,fS8r16,fS8r17,fS8r18,fS8r19,fS8r20,fS8r21,fS8r22,fS8b0,fS8r23,fS8b1,fS8b2,fS8r24,fS8b3,fS8r25,fS8,hE]
      exact hnew _ _ (Less.auto (by simp[show IntKind.i64.wrap 1=1 from rfl]) (by simp) rfl rfl)
    · simp[fS8l1,fS8r0,fS8r1,fS8r2,fS8r3,fS8r4,fS8r5,fS8r6,fS8r7,fS8r8,fS8r9,fS8r10,fS8r11,fS8r12,fS8r13,fS8r14,fS8r15,fS8r16,fS8r17,fS8r18,fS8r19,fS8r20,fS8r21,fS8r22,fS8b0,fS8r23,fS8b1,fS8b2,fS8r24,fS8b3,fS8r25,fS8,hE]
      refine hin v 1 p3 p4 _ _ _ (Less.auto (by simp) (by simp) rfl rfl) ?_ rfl
      simp[fS8r0,fS8r1,fS8r2,fS8r3,fS8r4,fS8r5,fS8r6,fS8r7,fS8r8,fS8r9,fS8r10,fS8r11,fS8r12,fS8r13,fS8r14,fS8r15,fS8r16,fS8r17,fS8r18,fS8r19,fS8r20,fS8r21,fS8r22,fS8b0,fS8r23,fS8b1,fS8b2,fS8r24,fS8b3,fS8r25,fS8,hE]
      exact hnew _ _ (Less.auto (by simp[show IntKind.i64.wrap 2=2 from rfl]) (by simp) rfl rfl)
theorem LatticePrincipal_run (h1:E.con 42=yesS) (h2:E.con 11=fewS) (hD:E.con 15=fnS (spec1 fun bits:Int=>some (datasOf bits))) (hV:E.con 32=mkVarsS) (hT:E.con 31=stS (stF3 (typeF 2))) (hS:E.con 51=stS (stF2 substF))
    (h4:E.con 44=fnS (spec2 luF)) (h6:E.con 46=fnS (spec1 vuN)) (h10:E.con 50=fnS (spec2 replU)) (h11:E.con 19=fnS (spec2 eqN)) (h12:E.con 52=fnS (spec3 factF))
    {bits:Int} {codes:List Int} (hs:HS):CallOk ρ Try.prog 8 [enc bits,enc codes] hs (.bool true) hs:=by
  refine fn hρ hE hcon Try.func8 fB8 rfl (by simp) ?_ hs
  by_cases c1:codes.length≤60
  case neg=>simp[fS8r0,fS8r1,fS8r2,fS8r3,fS8r4,fS8r5,fS8r6,fS8r7,fS8r8,fS8r9,fS8r10,fS8r11,fS8r12,fS8r13,fS8r14,fS8r15,fS8r16,fS8r17,fS8r18,fS8r19,fS8r20,fS8r21,fS8r22,fS8b0,fS8r23,fS8b1,fS8b2,fS8r24,fS8b3,fS8r25,fS8,hE,h1,h2,yesS,fewS,c1]
  have htp:(⟨codes,0⟩:Tp).ok:=⟨Int.le_refl _,by show codes.length≤100000; omega⟩
  have hD3:=datasOf_ok3 bits
  have hDk:=datasOf_ok bits
  generalize hDq:datasOf bits=D at hD3 hDk
  have f1:substF ⟨codes,0⟩ D 4=some (substM ⟨codes,0⟩ D 4 4):=if_pos ⟨htp,hDk,by decide,by decide⟩
  have o1:=substM_ok htp D 4 4
  have nu:=substM_nc hD3 ⟨codes,0⟩ 4 4
  generalize substM ⟨codes,0⟩ D 4 4=X at f1 o1 nu
  obtain⟨t1,u⟩:=X
  simp only at o1 nu
  have f2:typeF 2 t1 D (varTs 4) 2=some (typeM 2 t1 D (varTs 4)):=if_pos ⟨o1.1,hDk,by simp,by decide⟩
  have o2:(typeM 2 t1 D (varTs 4)).1.ok:=(typeM_ok _ _ o1.1).1
  have na:Nc 7 (typeM 2 t1 D (varTs 4)).2:=typeM_nc hD3 (varTs_nc 4) 2 _ (by decide)
  generalize typeM 2 t1 D (varTs 4)=X at f2 o2 na
  obtain⟨t2,a⟩:=X
  simp only at o2 na
  have f3:typeF 2 t2 D (varTs 4) 2=some (typeM 2 t2 D (varTs 4)):=if_pos ⟨o2,hDk,by simp,by decide⟩
  have o3:(typeM 2 t2 D (varTs 4)).1.ok:=(typeM_ok _ _ o2).1
  have nb:Nc 7 (typeM 2 t2 D (varTs 4)).2:=typeM_nc hD3 (varTs_nc 4) 2 _ (by decide)
  generalize typeM 2 t2 D (varTs 4)=X at f3 o3 nb
  obtain⟨t3,b⟩:=X
  simp only at o3 nb
  have f4:replU a u=some (a.repl u):=if_pos ⟨na.ok,by omega⟩
  have nc:Nc 21 (a.repl u):=(repl_nc (by decide) nu a na.pl na.ok).mono (by have:=na.sz; omega)
  have f5:substF t3 D 4=some (substM t3 D 4 4):=if_pos ⟨o3,hDk,by decide,by decide⟩
  have o5:=substM_ok o3 D 4 4
  have nv:=substM_nc hD3 t3 4 4
  generalize substM t3 D 4 4=X at f5 o5 nv
  obtain⟨t4,v⟩:=X
  simp only at o5 nv
  have p1:=pfact na nb (by decide) nu (by omega)
  have p2:=pfact na nc (by decide) nu (by omega)
  have p3:=pfact na nb (by decide) nv (by omega)
  have p4:=pfact na nc (by decide) nv (by omega)
  generalize a.repl u=c at f4 p2 p4
  have hout:=fun (Q) (T0) (hs0)=>LP_out (a:=a) (b:=b) (c:=c) (u:=u) (v:=v) (Q:=Q) (T0:=T0) (hs0:=hs0) hρ hE hcon h4 h6 h10 h11 h12 p1 p2 p3 p4
  clear p1 p2 p3 p4 nu nv na nb nc o1 o2 o3 o5
  have hlv:=varTs_len 4
  generalize hW:varTs 4=W at f2 f3 hlv
  rcases W with _ | ⟨w,W⟩
  · simp at hlv
  simp[fS8r0,fS8r1,fS8r2,fS8r3,fS8r4,fS8r5,fS8r6,fS8r7,fS8r8,fS8r9,fS8r10,fS8r11,fS8r12,fS8r13,fS8r14,fS8r15,fS8r16,fS8r17,fS8r18,fS8r19,fS8r20,fS8r21,fS8r22,fS8b0,fS8r23,fS8b1,fS8b2,fS8r24,fS8b3,fS8r25,fS8,hE,h1,h2,yesS,fewS,c1,hD,hDq,hS,f1,hV,mkVarsS,hW,hT,f2,f3,h10,f4,f5,vacant_eq]
  refine⟨⟨rfl,rfl,rfl⟩,?_⟩
  refine hout _ _ _ (Less.auto (by simp) (by simp) rfl rfl) ?_
  simp[fS8r0,fS8r1,fS8r2,fS8r3,fS8r4,fS8r5,fS8r6,fS8r7,fS8r8,fS8r9,fS8r10,fS8r11,fS8r12,fS8r13,fS8r14,fS8r15,fS8r16,fS8r17,fS8r18,fS8r19,fS8r20,fS8r21,fS8r22,fS8b0,fS8r23,fS8b1,fS8b2,fS8r24,fS8b3,fS8r25,fS8,hE]
end
end Go.Proofs.Ythfcfmkdeheicaa
