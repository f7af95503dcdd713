import Derived.Test.YthfcfmkdeheicaaPM11
set_option linter.all false
noncomputable section
namespace Go.Proofs.Ythfcfmkdeheicaa
open Go.J
open Go.J.Enc (enc)
set_option maxRecDepth 100000
set_option maxHeartbeats 1000000
def has13F (s:List Assign) (i:Int):Option Bool:=if s.length≤100000 then some (hasA s i) else none
def has13S:J.Spec:=fnS (spec2 has13F)
section
variable {ρ:Nat→Value} (hρ:J.Good ρ)
include hρ
section
variable {E:Env} (hE:E.P=Try.prog) (hcon:ConsOk ρ E)
include hE hcon
theorem ref13_has_run {s:List Assign} {x:Int} (hl:s.length≤100000) (hs:HS):CallOk ρ Try.prog 86 [enc s,enc x] hs (enc (hasA s x)) hs:=by
  refine fn hρ hE hcon Try.func86 fB86 rfl (by simp) ?_ hs
  generalize hr:hasA s x=r
  simp[fS86r0,fS86r1,fS86r2,fS86r3,fS86r4,fS86b0,fS86r5,fS86b1,fS86r6,fS86,hE]
  refine lpi hρ hE hcon s.length (nn:=0) (fun i (_:Unit)=>[(0,.sl (s.map encAssign) false),(1,.int .i64 x),(5,.int .i64 (i:Int))]) (fun i _=>[]) (fun i _=>hasA (s.drop i) x=r) ()
    (Less.auto (by simp) (by simp) (by simp) (by simp)) (by simpa using hr) ?_ ?_
  · intro _ h K
    rw[List.drop_length] at h
    have h:false=r:=h
    simp[fS86l0,fS86r0,fS86r1,fS86r2,fS86r3,fS86r4,fS86b0,fS86r5,fS86b1,fS86r6,fS86,hE]
    refine LessQ.mk (Less.auto (TL:=[]) (HL:=[]) (n:=0) (by simp) (by simp) (by simp) (by simp)) ?_
    simp[fS86r0,fS86r1,fS86r2,fS86r3,fS86r4,fS86b0,fS86r5,fS86b1,fS86r6,fS86,hE,← h]
  · intro i _ hi h K hK
    have hi':(i:Int)<s.length:=by omega
    have hw2:IntKind.i64.wrap ((i:Int)+1)=((i+1:Nat):Int):=wrap_succ (by omega)
    have hm5:(i*6) / 6=i:=by omega
    have hm6:(i*6) % 6=0:=by omega
    rw[List.drop_eq_getElem_cons hi,hasA,List.any_cons] at h
    by_cases he:s[i].id=x
    · rw[show decide (s[i].id=x)=true by simpa using he,Bool.true_or] at h
      simp[fS86l0,fS86r0,fS86r1,fS86r2,fS86r3,fS86r4,fS86b0,fS86r5,fS86b1,fS86r6,fS86,hE,hi,hi',hm5,hm6,he]
      refine LessQ.mk (Less.auto (TL:=[(4,.bool true)]) (HL:=[]) (n:=0) (by simp) (by simp) (by simp) (by simp)) ?_
      simp[fS86r0,fS86r1,fS86r2,fS86r3,fS86r4,fS86b0,fS86r5,fS86b1,fS86r6,fS86,hE,← h]
    · rw[show decide (s[i].id=x)=false by simpa using he,Bool.false_or] at h
      have hnew:=hK () h
      simp[fS86l0,fS86r0,fS86r1,fS86r2,fS86r3,fS86r4,fS86b0,fS86r5,fS86b1,fS86r6,fS86,hE,hi,hi',hm5,hm6,he,hw2,-Int.natCast_add]
      exact hnew _ _ (Less.auto (by simp[-Int.natCast_add]) (by simp) (by simp) (by simp))
end
theorem vHas13:Valid ρ Try.prog 86 has13S:=v2 (fo Try.func86 fB86) fun a b r h hs=>by
  obtain⟨h1,rfl⟩:=ite_inv h
  exact ref13_has_run hρ (E:=EL []) rfl (consOk_list valid_nil) h1 hs
end
end Go.Proofs.Ythfcfmkdeheicaa
