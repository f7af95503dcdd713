import Derived.Test.YthfcfmkdeheicaaPT7
import Derived.Test.YthfcfmkdeheicaaJY
import Derived.Test.YthfcfmkdeheicaaPN1
set_option linter.all false
noncomputable section
/- The reference's substitutions and unification of chapters 13 and 15. -/
namespace Go.Proofs.Ythfcfmkdeheicaa
open Go.J
open Go.J.Enc (enc)
set_option maxRecDepth 100000
set_option maxHeartbeats 1000000
def replU (t:Ty) (s:List Assign):Option Ty:=if t.ok=true∧s.length≤100000 then some (t.repl s) else none
def applyU (s:List Assign) (t:Ty):Option Ty:=if t.ok=true∧s.length≤100000 then some (t.repl s) else none
section
variable {ρ:Nat→Value} (hρ:J.Good ρ)
include hρ
section
variable {E:Env} (hE:E.P=Try.prog) (hcon:ConsOk ρ E)
include hE hcon
theorem ref13_ApplyU_run (hc:E.con 50=fnS (spec2 replU)) {s:List Assign} {t:Ty} (h1:t.ok=true) (h3:s.length≤100000) (hs:HS):CallOk ρ Try.prog 87 [enc s,enc t] hs (enc (t.repl s)) hs:=by
  refine fn hρ hE hcon Try.func87 fB87 rfl (by simp) ?_ hs
  have hF:replU t s=some (t.repl s):=if_pos ⟨h1,h3⟩
  generalize t.repl s=r at hF
  simp[fS87r0,fS87r1,fS87,hE,hc,hF]
end
end
end Go.Proofs.Ythfcfmkdeheicaa
/- The reference's unification of chapter 15; which substitutions are valid and idempotent,and how one factors through another. -/
namespace Go.Proofs.Ythfcfmkdeheicaa
open Go.J
open Go.J.Enc (enc)
set_option maxRecDepth 100000
set_option maxHeartbeats 1000000
def eqN (a b:Ty):Option Bool:=if a.ok=true then some (decide (a=b)) else none
section
variable {ρ:Nat→Value} (hρ:J.Good ρ)
include hρ
section
variable {E:Env} (hE:E.P=Try.prog) (hcon:ConsOk ρ E)
include hE hcon
end
theorem vReplU:Valid ρ Try.prog 50 (fnS (spec2 replU)):=v2 (fo Try.func50 fB50) fun a b r h hs=>by
  obtain⟨⟨h1,h3⟩,rfl⟩:=ite_inv h
  exact ref3_Replace_run hρ (E:=EL [(50,fnS (spec2 (replF a.size)))]) rfl (consOk_list (valid_cons (vReplace hρ a.size) valid_nil)) rfl h1 (by omega) h3 hs
theorem vApplyU:Valid ρ Try.prog 87 (fnS (spec2 applyU)):=v2 (fo Try.func87 fB87) fun a b r h hs=>by
  obtain⟨⟨h1,h3⟩,rfl⟩:=ite_inv h
  exact ref13_ApplyU_run hρ (E:=EL [(50,fnS (spec2 replU))]) rfl (consOk_list (valid_cons (vReplU hρ) valid_nil)) rfl h1 h3 hs
end
end Go.Proofs.Ythfcfmkdeheicaa
/- Which substitutions are valid and idempotent,and how one factors through another: the reference of chapter 13. -/
namespace Go.Proofs.Ythfcfmkdeheicaa
open Go.J
open Go.J.Enc (enc)
set_option maxRecDepth 100000
set_option maxHeartbeats 1000000
def FcS (s o:List Assign) (ids:List Int):Prop:=(fcL s o ids []).2=true∧okA s∧okA o∧s.length≤8000∧o.length≤8000∧ids.length≤70∧∀ i∈ids,((tVar i).repl s).size≤100
open Classical in
def factF (s o:List Assign) (ids:List Int):Option (List Assign×Bool):=if FcS s o ids then some ((fcL s o ids []).1,true) else none
theorem tVar_ok (i:Int):(tVar i).ok=true:=by simp[tVar,Ty.ok,Ty.oks]
def slV (i:Nat) (A:List Assign):V:=match i with
  | 0=>.snil
  | _+1=>.sl (A.map encAssign) false
section
variable {ρ:Nat→Value} (hρ:J.Good ρ)
include hρ
section
variable {E:Env} (hE:E.P=Try.prog) (hcon:ConsOk ρ E)
include hE hcon
theorem ref13_Factor_run (hv:E.con 55=fnS (spec1 fun i:Int=>some (tVar i))) (hA:E.con 87=fnS (spec2 applyU)) (hM:E.con 88=fnS (spec3 (rmF 100))) {s o:List Assign} {ids:List Int} (h:FcS s o ids) (hs:HS) :
    CallOk ρ Try.prog 52 [enc s,enc o,enc ids] hs (enc ((fcL s o ids []).1,true)) hs:=by
  refine fn hρ hE hcon Try.func52 fB52 rfl (by simp) ?_ hs
  obtain⟨h1,h2,h3,h4,h5,h6,h7⟩:=h
  have hR:fcL s o ids []=((fcL s o ids []).1,true):=by rw[← h1]
  clear h1
  generalize (fcL s o ids []).1=R at hR
  simp[fS52r0,fS52r1,fS52r2,fS52r3,fS52r4,fS52r5,fS52b0,fS52r6,fS52b1,fS52r7,fS52r8,fS52r9,fS52,hE]
  refine lpi hρ hE hcon ids.length (nn:=0) (fun i (A:List Assign)=>[(0,.sl (s.map encAssign) false),(1,.sl (o.map encAssign) false),(2,.sl (ids.map encI) false),(8,slV i A),(9,.bool true),(10,.int .i64 (i:Int))]) (fun i _=>[])
    (fun i A=>fcL s o (ids.drop i) A=(R,true)∧okA A∧A.length≤100*i) [] (Less.auto (by simp[slV]) (by simp) (by simp) (by simp)) ⟨by simpa using hR,fun a ha=>(by cases ha),by simp⟩ ?_ ?_
  · rintro A ⟨g1,g2,g3⟩ K
    rw[List.drop_length,fcL] at g1
    cases g1
    cases hn:ids.length with
    | zero =>
      rw[hn] at g3
      have hR0:R=[]:=List.eq_nil_of_length_eq_zero (by omega)
      subst hR0
      simp[fS52l0,fS52r0,fS52r1,fS52r2,fS52r3,fS52r4,fS52r5,fS52b0,fS52r6,fS52b1,fS52r7,fS52r8,fS52r9,fS52,hE,hn,slV]
      refine LessQ.mk (Less.auto (TL:=[(8,.snil),(9,.bool true)]) (HL:=[]) (n:=0) (by simp) (by simp) (by simp) (by simp)) ?_
      simp[fS52r0,fS52r1,fS52r2,fS52r3,fS52r4,fS52r5,fS52b0,fS52r6,fS52b1,fS52r7,fS52r8,fS52r9,fS52,hE]
    | succ n =>
      simp[fS52l0,fS52r0,fS52r1,fS52r2,fS52r3,fS52r4,fS52r5,fS52b0,fS52r6,fS52b1,fS52r7,fS52r8,fS52r9,fS52,hE,hn,slV]
      refine LessQ.mk (Less.auto (TL:=[(8,.sl (R.map encAssign) false),(9,.bool true)]) (HL:=[]) (n:=0) (by simp) (by simp) (by simp) (by simp)) ?_
      simp[fS52r0,fS52r1,fS52r2,fS52r3,fS52r4,fS52r5,fS52b0,fS52r6,fS52b1,fS52r7,fS52r8,fS52r9,fS52,hE]
  · rintro i A hi ⟨g1,g2,g3⟩ K hK
    have hi':(i:Int)<ids.length:=by omega
    have hw2:IntKind.i64.wrap ((i:Int)+1)=((i+1:Nat):Int):=wrap_succ (by omega)
    rw[List.drop_eq_getElem_cons hi,fcL] at g1
    have hsz:=h7 _ (List.getElem_mem hi)
    obtain⟨x,hx⟩:∃ x,ids[i]=x:=⟨_,rfl⟩
    rw[hx] at g1 hsz
    have op:=repl_ok h2 (tVar x) (tVar_ok x)
    have ot:=repl_ok h3 (tVar x) (tVar_ok x)
    have f1:applyU s (tVar x)=some ((tVar x).repl s):=if_pos ⟨tVar_ok x,by omega⟩
    have f2:applyU o (tVar x)=some ((tVar x).repl o):=if_pos ⟨tVar_ok x,by omega⟩
    generalize (tVar x).repl s=p at f1 g1 hsz op
    generalize (tVar x).repl o=t at f2 g1 ot
    simp only[tVar] at f1 f2
    have hml:=(mt_len (p:=p) (t:=t) (s:=A)).2
    have hma:=mt_aok (p:=p) (t:=t) (s:=A) ot g2
    have f3:rmF 100 p t A=some (rmM p t A):=if_pos ⟨op,ot,g2,by omega,hsz⟩
    by_cases hm:(mtM p t A).2=true
    · rw[if_pos hm] at g1
      have hnew:=hK (mtM p t A).1 ⟨g1,hma,by omega⟩
      have f4:rmF 100 p t A=some ((mtM p t A).1,true):=by
        rw[f3]; unfold rmM; rw[if_pos hm,← hm]
      clear hK g1 hma hml hm f3
      generalize (mtM p t A).1=A2 at f4 hnew
      rcases i with _ | i
      · have hA0:A=[]:=List.eq_nil_of_length_eq_zero (by omega)
        subst hA0
        simp[fS52l0,fS52r0,fS52r1,fS52r2,fS52r3,fS52r4,fS52r5,fS52b0,fS52r6,fS52b1,fS52r7,fS52r8,fS52r9,fS52,hE,hi,hi',hx,hv,tVar,hA,f1,f2,hM,f4,hw2,slV,-Int.natCast_add]
        exact hnew _ _ (Less.auto (by simp[slV,show IntKind.i64.wrap 1=1 from rfl,-Int.natCast_add]) (by simp) (by simp) (by simp))
      · simp[fS52l0,fS52r0,fS52r1,fS52r2,fS52r3,fS52r4,fS52r5,fS52b0,fS52r6,fS52b1,fS52r7,fS52r8,fS52r9,fS52,hE,hi,hi',hx,hv,tVar,hA,f1,f2,hM,f4,hw2,slV,-Int.natCast_add]
        exact hnew _ _ (Less.auto (by simp[slV,-Int.natCast_add]) (by simp) (by simp) (by simp))
    · rw[if_neg hm] at g1
      cases g1
end
theorem vFactor13:Valid ρ Try.prog 52 (fnS (spec3 factF)):=v3 (fo Try.func52 fB52) fun a b c r h hs=>by
  obtain⟨h1,rfl⟩:=ite_inv h
  exact ref13_Factor_run hρ (E:=EL [(55,fnS (spec1 fun i:Int=>some (tVar i))),(87,fnS (spec2 applyU)),(88,fnS (spec3 (rmF 100)))]) rfl (consOk_list (valid_cons (vVar hρ) (valid_cons (vApplyU hρ) (valid_cons (vMatch13 hρ 100) valid_nil)))) rfl rfl rfl h1 hs
end
end Go.Proofs.Ythfcfmkdeheicaa
