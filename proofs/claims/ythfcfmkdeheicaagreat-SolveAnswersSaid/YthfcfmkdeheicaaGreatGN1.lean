import Derived.Test.YthfcfmkdeheicaaGreatGM11
set_option linter.all false
noncomputable section
namespace Go.Proofs.YthfcfmkdeheicaaGreat
open Go.J
open Go.J.Enc (enc)
set_option maxRecDepth 100000
set_option maxHeartbeats 1000000
def has13F(s:List Assign)(i:Int):Option Bool:=if s.length≤100000 then some (hasA s i)else none
def zic:J.Spec:=fnS (zF has13F)
section
variable {ρ:Nat→Value}(hρ:J.Good ρ)
include hρ
section
variable {E:Env}(hE:E.P=Tryz.prog)(hcon:ConsOk ρ E)
include hE hcon
theorem ref13_has_run{s:List Assign}{x:Int}(hl:s.length≤100000)(hs:HS):CallOk ρ Tryz.prog 92 [enc s,enc x] hs (enc (hasA s x)) hs:=by
 refine fn hρ hE hcon Tryz.func92 fB92 rfl (by simp) ?_ hs
 generalize hr:hasA s x=r
 simp[zpu,zpt,zps,zpr,zpq,zpw,zpp,zpv,zpo,fS92,hE]
 refine lpi hρ hE hcon s.length (nn:=0) (fun i (_:Unit)=>[(0,.sl (s.map zi) false),(1,.int .i64 x),(5,.int .i64 (i:Int))]) (fun i _=>[]) (fun i _=>hasA (s.drop i) x=r) ()
  (Less.auto (by simp) (by simp) (by simp) (by simp)) (by simpa using hr) ?_ ?_
 · intro _ h K
   rw[List.drop_length]at h
   have h:false=r:=h
   simp[fS92l0,zpu,zpt,zps,zpr,zpq,zpw,zpp,zpv,zpo,fS92,hE]
   refine LessQ.mk (Less.auto (TL:=[]) (HL:=[]) (n:=0) (by simp) (by simp) (by simp) (by simp)) ?_
   simp[zpu,zpt,zps,zpr,zpq,zpw,zpp,zpv,zpo,fS92,hE,← h]
 · intro i _ hi h K hK
   have hi':(i:Int)<s.length:=by omega
   have hw2:IntKind.i64.wrap ((i:Int)+1)=((i+1:Nat):Int):=zu (by omega)
   have hm5:(i*6) / 6=i:=by omega
   have hm6:(i*6) % 6=0:=by omega
   rw[List.drop_eq_getElem_cons hi,hasA,List.any_cons]at h
   by_cases he:s[i].id=x
   · rw[show decide (s[i].id=x)=true by simpa using he,Bool.true_or]at h
     simp[fS92l0,zpu,zpt,zps,zpr,zpq,zpw,zpp,zpv,zpo,fS92,hE,hi,hi',hm5,hm6,he]
     refine LessQ.mk (Less.auto (TL:=[(4,.bool true)]) (HL:=[]) (n:=0) (by simp) (by simp) (by simp) (by simp)) ?_
     simp[zpu,zpt,zps,zpr,zpq,zpw,zpp,zpv,zpo,fS92,hE,← h]
   · rw[show decide (s[i].id=x)=false by simpa using he,Bool.false_or]at h
     have hnew:=hK () h
     simp[fS92l0,zpu,zpt,zps,zpr,zpq,zpw,zpp,zpv,zpo,fS92,hE,hi,hi',hm5,hm6,he,hw2,-Int.natCast_add]
     exact hnew _ _ (Less.auto (by simp[-Int.natCast_add]) (by simp) (by simp) (by simp))
end
theorem vHas13:Valid ρ Tryz.prog 92 zic:=v2 (fo Tryz.func92 fB92) fun a b r h hs=>by
 obtain⟨h1,rfl⟩:=zB h
 exact ref13_has_run hρ (E:=EL []) rfl (zg valid_nil) h1 hs
end
end Go.Proofs.YthfcfmkdeheicaaGreat
