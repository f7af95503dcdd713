import Derived.Test.YthfcfmkdeheicaaPX5
import Derived.Test.YthfcfmkdeheicaaJY
set_option linter.all false
noncomputable section
/- The law LatticeUnifies: what its function computes. -/
namespace Go.Proofs.Ythfcfmkdeheicaa
open Go.J
open Go.J.Enc (enc)
set_option maxRecDepth 100000
set_option maxHeartbeats 1000000
def vuN (l:List Ty):Option (List Int):=if Ty.oks l=true∧l.length≤10000∧(leavesL 1 l []).length≤10000 then some (varsM l) else none
def hasN (l:List Int) (x:Int):Option Bool:=if l.length≤1000000 then some (decide (x∈l)) else none
section
variable {ρ:Nat→Value} (hρ:J.Good ρ) {E:Env} (hE:E.P=Try.prog) (hcon:ConsOk ρ E)
include hρ hE hcon
theorem LU_in (hH:E.con 47=fnC (spec2 hasN)) {a b:Ty} {S:List Assign} {v w:List Int} {i:Nat} (hw:w.length≤1000000) (hvl:v.length≤1000000) (hwv:∀ j∈w,j∈v) {Q:Ex→PT V→HS→Prop} {T0:PT V} {hs0:HS}
    (h0:Less 0 T0 hs0 (mkP [(5,.ptr 0 0 0),(6,.ptr 1 0 0),(9,.sl (S.map encAssign) false),(13,.sl (v.map encI) false),(14,.int .i64 (i:Int)),(15,.sl (w.map encI) false),(16,.int .i64 ((0:Nat):Int))]) { H:=mkP [(0,box (encTy a)),(1,box (encTy b))],n:=2,log:=[] })
    (hQ:Q (.exit 2) (mkP [(5,.ptr 0 0 0),(6,.ptr 1 0 0),(9,.sl (S.map encAssign) false),(13,.sl (v.map encI) false),(14,.int .i64 (i:Int))]) { H:=mkP [(0,box (encTy a)),(1,box (encTy b))],n:=2,log:=[] }) :
    Ls ρ E 0 103 (.loop fS7l0) T0 hs0 Q:=by
  refine lpi hρ hE hcon w.length (nn:=2) (fun k (_:Unit)=>[(5,.ptr 0 0 0),(6,.ptr 1 0 0),(9,.sl (S.map encAssign) false),(13,.sl (v.map encI) false),(14,.int .i64 (i:Int)),(15,.sl (w.map encI) false),(16,.int .i64 (k:Int))]) (fun _ _=>[(0,box (encTy a)),(1,box (encTy b))]) (fun _ _=>True) () h0 trivial ?_ ?_
  · intro _ _ K
    simp[fS7l0,fS7r0,fS7r1,fS7r2,fS7r3,fS7r4,fS7r5,fS7r6,fS7r7,fS7r8,fS7r9,fS7r10,fS7r11,fS7r12,fS7r13,fS7r14,fS7r15,fS7r16,fS7r17,fS7r18,fS7r19,fS7r20,fS7r21,fS7b0,fS7r22,fS7b1,fS7b2,fS7r23,fS7b3,fS7r24,fS7,hE]
    exact LessQ.mk (Less.auto (n:=2) (by simp) (by simp) rfl rfl) hQ
  · intro k _ hk _ K hK
    have hnew:=hK () trivial
    have hk':(k:Int)<w.length:=by omega
    have hw2:IntKind.i64.wrap ((k:Int)+1)=((k+1:Nat):Int):=wrap_succ (by omega)
    have hF:hasN v w[k]=some true:=by unfold hasN; rw[if_pos hvl,decide_eq_true (hwv _ (List.getElem_mem hk))]
    generalize hx:w[k]=x at hF
    clear h0 hQ hK
    simp[fS7l0,fS7r0,fS7r1,fS7r2,fS7r3,fS7r4,fS7r5,fS7r6,fS7r7,fS7r8,fS7r9,fS7r10,fS7r11,fS7r12,fS7r13,fS7r14,fS7r15,fS7r16,fS7r17,fS7r18,fS7r19,fS7r20,fS7r21,fS7b0,fS7r22,fS7b1,fS7b2,fS7r23,fS7b3,fS7r24,fS7,hE,hk,hk',hx,hH,hF,hw2,-Int.natCast_add]
    exact hnew _ _ (Less.auto (by simp[-Int.natCast_add]) (by simp) rfl rfl)
theorem LU_out (hH:E.con 47=fnC (spec2 hasN)) (hV:E.con 46=fnS (spec1 vuN)) {a b:Ty} {S:List Assign} {v:List Int} (hvl:v.length≤4) (hSl:S.length≤4)
    (hS:∀ x∈S,x.id∈v∧(∀ j∈varsM [x.type],j∈v)∧x.type.ok=true∧(leavesL 1 [x.type] []).length≤4) {Q:Ex→PT V→HS→Prop} {T0:PT V} {hs0:HS}
    (h0:Less 0 T0 hs0 (mkP [(5,.ptr 0 0 0),(6,.ptr 1 0 0),(9,.sl (S.map encAssign) false),(13,.sl (v.map encI) false),(14,.int .i64 ((0:Nat):Int))]) { H:=mkP [(0,box (encTy a)),(1,box (encTy b))],n:=2,log:=[] })
    (hQ:Q (.exit 0) (mkP [(5,.ptr 0 0 0),(6,.ptr 1 0 0),(9,.sl (S.map encAssign) false)]) { H:=mkP [(0,box (encTy a)),(1,box (encTy b))],n:=2,log:=[] }) :
    Ls ρ E 0 103 (.loop fS7l1) T0 hs0 Q:=by
  refine lpi hρ hE hcon S.length (nn:=2) (fun i (_:Unit)=>[(5,.ptr 0 0 0),(6,.ptr 1 0 0),(9,.sl (S.map encAssign) false),(13,.sl (v.map encI) false),(14,.int .i64 (i:Int))]) (fun _ _=>[(0,box (encTy a)),(1,box (encTy b))]) (fun _ _=>True) () h0 trivial ?_ ?_
  · intro _ _ K
    simp[fS7l1,fS7r0,fS7r1,fS7r2,fS7r3,fS7r4,fS7r5,fS7r6,fS7r7,fS7r8,fS7r9,fS7r10,fS7r11,fS7r12,fS7r13,fS7r14,fS7r15,fS7r16,fS7r17,fS7r18,fS7r19,fS7r20,fS7r21,fS7b0,fS7r22,fS7b1,fS7b2,fS7r23,fS7b3,fS7r24,fS7,hE]
    exact LessQ.mk (Less.auto (n:=2) (by simp) (by simp) rfl rfl) hQ
  · intro i _ hi _ K hK
    have hnew:=hK () trivial
    have hi':(i:Int)<S.length:=by omega
    have hw2:IntKind.i64.wrap ((i:Int)+1)=((i+1:Nat):Int):=wrap_succ (by omega)
    have hm5:(i*6) / 6=i:=by omega
    have hm6:(i*6) % 6=0:=by omega
    have hm7:(i*6+1) / 6=i:=by omega
    have hm8:(i*6+1) % 6=1:=by omega
    obtain⟨k1,k2,k3,k4⟩:=hS _ (List.getElem_mem hi)
    have hF1:vuN [S[i].type]=some (varsM [S[i].type]):=if_pos ⟨by simp[Ty.oks,k3],by simp,by omega⟩
    have hF2:hasN v S[i].id=some true:=by unfold hasN; rw[if_pos (by omega),decide_eq_true k1]
    have hwl:(varsM [S[i].type]).length≤1000000:=by
      have:=idsOf_len (leavesL 1 [S[i].type] [])
      unfold varsM; omega
    have hin:=fun (w:List Int) (h1) (h3) (Q) (T0) (hs0)=>LU_in (a:=a) (b:=b) (S:=S) (v:=v) (w:=w) (i:=i) (Q:=Q) (T0:=T0) (hs0:=hs0) hρ hE hcon hH h1 (by omega) h3
    have hin:=hin (varsM [S[i].type]) hwl k2
    generalize varsM [S[i].type]=w at hF1 hin
    obtain⟨x,hx⟩:∃ x,S[i]=x:=⟨_,rfl⟩
    rw[hx] at hF1 hF2
    obtain⟨xi,xk,xn,xj,xh,xl⟩:=x
    simp only at hF1 hF2
    clear h0 hQ hK
    simp[fS7l1,fS7r0,fS7r1,fS7r2,fS7r3,fS7r4,fS7r5,fS7r6,fS7r7,fS7r8,fS7r9,fS7r10,fS7r11,fS7r12,fS7r13,fS7r14,fS7r15,fS7r16,fS7r17,fS7r18,fS7r19,fS7r20,fS7r21,fS7b0,fS7r22,fS7b1,fS7b2,fS7r23,fS7b3,fS7r24,fS7,hE,hi,hi',hm5,hm6,hm7,hm8,hx,hV,hF1,hH,hF2]
    refine hin _ _ _ (Less.auto (by simp) (by simp) rfl rfl) ?_
    simp[fS7r0,fS7r1,fS7r2,fS7r3,fS7r4,fS7r5,fS7r6,fS7r7,fS7r8,fS7r9,fS7r10,fS7r11,fS7r12,fS7r13,fS7r14,fS7r15,fS7r16,fS7r17,fS7r18,fS7r19,fS7r20,fS7r21,fS7b0,fS7r22,fS7b1,fS7b2,fS7r23,fS7b3,fS7r24,fS7,hE,hw2,-Int.natCast_add]
    exact hnew _ _ (Less.auto (by simp[-Int.natCast_add]) (by simp) rfl rfl)
theorem LatticeUnifies_run (h1:E.con 42=yesS) (h2:E.con 11=fewS) (h3:E.con 43=embS madeMM) (h4:E.con 44=fnS (spec2 luF)) (h5:E.con 45=fnS (spec2 rutF)) (h6:E.con 46=fnS (spec1 vuN)) (h7:E.con 47=fnC (spec2 hasN))
    (h8:E.con 48=fnS (spec1 validF)) (h9:E.con 49=fnS (spec1 idemF)) (h10:E.con 50=fnS (spec2 replU)) (h11:E.con 19=fnS (spec2 eqN))
    {bits:Int} {codes:List Int} (hs:HS):CallOk ρ Try.prog 7 [enc bits,enc codes] hs (.bool true) hs:=by
  refine fn hρ hE hcon Try.func7 fB7 rfl (by simp) ?_ hs
  by_cases c1:codes.length≤60
  case neg=>simp[fS7r0,fS7r1,fS7r2,fS7r3,fS7r4,fS7r5,fS7r6,fS7r7,fS7r8,fS7r9,fS7r10,fS7r11,fS7r12,fS7r13,fS7r14,fS7r15,fS7r16,fS7r17,fS7r18,fS7r19,fS7r20,fS7r21,fS7b0,fS7r22,fS7b1,fS7b2,fS7r23,fS7b3,fS7r24,fS7,hE,h1,h2,yesS,fewS,c1]
  have htp:(⟨codes,0⟩:Tp).ok:=⟨Int.le_refl _,by show codes.length≤100000; omega⟩
  have hD3:=datasOf_ok3 bits
  have hDk:=datasOf_ok bits
  have hDv:=datasOf_val bits
  have hmk:=madeM_ok htp hD3
  have hvd:=made_vd (t:=⟨codes,0⟩) hDv hD3
  rcases hm:madeM ⟨codes,0⟩ (datasOf bits) with⟨a,b,x,t⟩
  rw[hm] at hmk hvd
  obtain⟨na,nb,nx,hto⟩:=hmk
  obtain⟨va,vb⟩:=hvd
  simp only at na nb nx hto va vb
  have hval:=fun hs=>madeD_val (hs:=hs) hm
  have hheap:=fun hs=>madeD_heap (hs:=hs) hm
  have f1:luF a b=some (luM a b):=if_pos ⟨na.ok,nb.ok,na.pl,nb.pl,by have:=na.sz; have:=nb.sz; omega⟩
  have f2:rutF a b=some (rutM a b):=if_pos ⟨na.ok,nb.ok,na.pl,nb.pl,by have:=na.sz; have:=nb.sz; omega⟩
  have hlu:=lu_ok na.pl nb.pl
  have hru:=rut_ok na.pl nb.pl
  generalize luM a b=p at f1 hlu
  generalize rutM a b=q at f2 hru
  obtain⟨S,e⟩:=p
  obtain⟨s2,e2⟩:=q
  obtain⟨g,f,T,s,σ,l1,l2,l3,l4,l5,l6⟩:=hlu
  obtain⟨f',r1⟩:=hru
  simp only at l1 l2 l3 l4 l5 l6 r1
  obtain rfl:=ru_same na.pl nb.pl l2 r1
  have hlp:(⟨codes,0⟩:Tp)=⟨codes,0⟩:=rfl
  by_cases he:e=0
  · subst he
    rw[if_pos rfl] at l6
    obtain⟨hT,hab,hcl⟩:=l5 rfl
    obtain⟨u1,u2,u3,u4,u5⟩:=lat_unify na nb va vb l1 hT hab (fun θ h=>(l3 θ h).2) (l4 va.1 vb.1) hcl
    rw[← l6] at u1 u2 u3 u4
    have f3:vuN [a,b]=some (varsM [a,b]):=if_pos ⟨by simp[Ty.oks,na.ok,nb.ok],by simp,by
      have:=(leavesL_len 1 [a,b] []).2
      simp only[Ty.sizes,List.length_nil] at this
      have:=na.sz; have:=nb.sz; omega⟩
    have f4:validF S=some true:=if_pos ⟨u2,by omega,fun x hx=>⟨(u1 x hx).2.2.1,(u1 x hx).2.2.2.1,(u1 x hx).2.2.2.2.2.1⟩⟩
    have f5:idemF S=some true:=if_pos ⟨u2,by omega,fun x hx=>⟨(u1 x hx).2.2.2.2.2.2.1,(u1 x hx).2.2.2.2.1⟩⟩
    have f6:replU a S=some (b.repl S):=by rw[← u3]; exact if_pos ⟨na.ok,by omega⟩
    have f7:replU b S=some (b.repl S):=if_pos ⟨nb.ok,by omega⟩
    have f8:eqN (b.repl S) (b.repl S)=some true:=by unfold eqN; rw[if_pos (repl_ok (fun x hx=>(u1 x hx).2.2.2.2.2.2.1) b nb.ok),decide_eq_true rfl]
    have hout:=fun (Q) (T0) (hs0)=>LU_out (a:=a) (b:=b) (S:=S) (v:=varsM [a,b]) (Q:=Q) (T0:=T0) (hs0:=hs0) hρ hE hcon h7 h6 u5 u4 fun x hx=>⟨(u1 x hx).1,(u1 x hx).2.1,(u1 x hx).2.2.2.2.2.2.1,(u1 x hx).2.2.2.2.2.2.2⟩
    clear u1 u2 u3 u4 u5 l1 l2 l3 l4 l5 l6 r1 hT hab hcl
    generalize varsM [a,b]=v at f3 hout
    generalize b.repl S=r at f6 f7 f8
    simp[fS7r0,fS7r1,fS7r2,fS7r3,fS7r4,fS7r5,fS7r6,fS7r7,fS7r8,fS7r9,fS7r10,fS7r11,fS7r12,fS7r13,fS7r14,fS7r15,fS7r16,fS7r17,fS7r18,fS7r19,fS7r20,fS7r21,fS7b0,fS7r22,fS7b1,fS7b2,fS7r23,fS7b3,fS7r24,fS7,hE,h1,h2,h3,yesS,fewS,c1,hval,hheap,vacant_eq,h4,f1,h5,f2,h6,f3]
    refine hout _ _ _ (Less.auto (by simp) (by simp) rfl rfl) ?_
    simp[fS7r0,fS7r1,fS7r2,fS7r3,fS7r4,fS7r5,fS7r6,fS7r7,fS7r8,fS7r9,fS7r10,fS7r11,fS7r12,fS7r13,fS7r14,fS7r15,fS7r16,fS7r17,fS7r18,fS7r19,fS7r20,fS7r21,fS7b0,fS7r22,fS7b1,fS7b2,fS7r23,fS7b3,fS7r24,fS7,hE,h8,f4,h9,f5,h10,f6,f7,h11,f8]
  · rw[if_neg he] at l6
    subst l6
    simp[fS7r0,fS7r1,fS7r2,fS7r3,fS7r4,fS7r5,fS7r6,fS7r7,fS7r8,fS7r9,fS7r10,fS7r11,fS7r12,fS7r13,fS7r14,fS7r15,fS7r16,fS7r17,fS7r18,fS7r19,fS7r20,fS7r21,fS7b0,fS7r22,fS7b1,fS7b2,fS7r23,fS7b3,fS7r24,fS7,hE,h1,h2,h3,yesS,fewS,c1,hval,hheap,vacant_eq,h4,f1,h5,f2,he]
end
end Go.Proofs.Ythfcfmkdeheicaa
