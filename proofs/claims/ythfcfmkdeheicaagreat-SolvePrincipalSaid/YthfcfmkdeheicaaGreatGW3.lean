import Derived.Test.YthfcfmkdeheicaaGreatGX4
import Derived.Test.YthfcfmkdeheicaaGreatJN
import Derived.Test.YthfcfmkdeheicaaGreatJP
import Derived.Test.YthfcfmkdeheicaaGreatGAL
set_option linter.all false
noncomputable section
/- Tapes: the contracts joined. -/
namespace Go.Proofs.YthfcfmkdeheicaaGreat
open Go.J
open Go.J.Enc (enc)
set_option maxRecDepth 100000
set_option maxHeartbeats 1000000
section
variable {ρ:Nat→Value}(hρ:J.Good ρ)
include hρ
theorem type_call(d:Nat)(hd:d≤1000){S:J.Spec}(hv:Valid ρ Tryz.prog 15 S){t:Tp}{D:List Decl}{Lv:List Ty}{n:Int}(hS:0<n→S=stS (stF3 (zmi d)))(h1:t.ok)(h2:DOk D)(h3:Lv.length≤100000)(h4:n≤d+1)(hs:HS)(id:Nat)(hid:id<hs.n)(hg:hs.H.get id=some (box (Cel.cells t))) :
 CallOk ρ Tryz.prog 15 [.ptr id 0 0,enc D,enc Lv,enc n] hs (enc (typeM n.toNat t D Lv).2) (hs.wr id (box (Cel.cells (typeM n.toNat t D Lv).1))) :=
 zl0 hρ (E:=EL [(56,stS (stF1 zly)),(61,conS),(49,fnS (zlp tInt)),(62,fnS (zD fun a b:Ty=>some (zhy a b))),(15,S)]) rfl
  (zg (za (vNext hρ) (za (vCon hρ) (za (vInt hρ) (za (vArrow hρ) (za hv valid_nil)))))) rfl rfl rfl rfl hS h1 h2 h3 h4 hd hs id hid hg
def noS:J.Spec:=fun _ _=>none
omit hρ in
theorem vNone{f:Nat}(hf:zjV Tryz.prog f):Valid ρ Tryz.prog f noS where
 fn:=hf
 ok:=fun {_ _ _ _} h=>by cases h
 kept:=fun {_ _ _} h=>by cases h
theorem vType(d:Nat)(hd:d≤1000):Valid ρ Tryz.prog 15 (stS (stF3 (zmi d))):=by
 induction d with
 | zero =>
   refine s3 (fo Tryz.func15 fB15) fun s a b c q h hs id hid hg=>?_
   obtain⟨⟨h1,h2,h3,h4⟩,rfl⟩:=z8 h
   exact type_call hρ 0 hd (vNone (fo Tryz.func15 fB15)) (fun h=>by omega) h1 h2 h3 (by omega) hs id hid hg
 | succ d ih =>
   refine s3 (fo Tryz.func15 fB15) fun s a b c q h hs id hid hg=>?_
   obtain⟨⟨h1,h2,h3,h4⟩,rfl⟩:=z8 h
   exact type_call hρ d (by omega) (ih (by omega)) (fun _=>rfl) h1 h2 h3 (by omega) hs id hid hg
omit hρ in
theorem call_norm{f:Nat}{vs:List V}{hs hs':HS}{v r:V}(h:CallOk ρ Tryz.prog f vs hs v hs')(e:zac v=r):CallOk ρ Tryz.prog f vs hs r hs':=by
 intro X w F μ xs hR hD hO hA
 refine CallsIn.mono (h X w F μ xs hR hD hO hA) fun e' w' he=>?_
 cases e' with
 | returned x =>
   obtain⟨F1,μ1,g1,g2,g3⟩:=he
   exact⟨F1,μ1,g1,by rw[← e];exact g2.norm,g3⟩
 |panicked c=>exact he
 |outgrown=>exact he
theorem vAll:Valid ρ Tryz.prog 60 (fnS (zlp allD)):=v0 (fnOk Tryz.func60 (by kernel_rfl)) fun hs=>call_norm
 (zkb hρ (E:=EL [(139,pureS scanV)]) (zg (za (scan_valid hρ) valid_nil)) follows named all_run rfl) (by kernel_rfl)
theorem vDatas:Valid ρ Tryz.prog 12 (fnS (zan fun bits:Int=>some (zaI bits))):=v1 (fo Tryz.func12 fB12) fun a r h hs=>by
 cases h
 exact make_Datas_run hρ (E:=EL [(60,fnS (zlp allD))]) rfl (zg (za (vAll hρ) valid_nil)) rfl hs
def zbj:J.Spec:=rowS 5 (fun vs=>ob (zan (fun n:Int=>if 0≤n∧n≤10000 then some (za0 n.toNat)else none) vs) fun v=>match v with|.sl es _=>some es|_=>none)
theorem vMkVars:Valid ρ Tryz.prog 16 zbj:=Valid.row (fo Tryz.func16 fB16) fun vs es _ h hs hv=>by
 rw[zb]at h
 obtain⟨v,h1,h2⟩:=h
 obtain⟨n,r,rfl,h3,rfl⟩:=zoy h1
 obtain⟨⟨h4,h5⟩,rfl⟩:=z8 h3
 obtain⟨m,rfl⟩:=Int.eq_ofNat_of_zero_le h4
 cases h2
 exact make_Vars_run hρ (E:=EL [(52,fnS (zan fun i:Int=>some (zA i)))]) rfl (zg (za (vVar hρ) valid_nil)) rfl (by omega) hv
end
end Go.Proofs.YthfcfmkdeheicaaGreat
