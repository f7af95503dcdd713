import Derived.Test.YtfgmnebfhemnpaaKX1
import Derived.Test.YtfgmnebfhemnpaaJN
import Derived.Test.YtfgmnebfhemnpaaJP
import Derived.Test.YtfgmnebfhemnpaaKAL
set_option linter.all false
noncomputable section
/- Tapes: the contracts joined. -/
namespace Go.Proofs.Ytfgmnebfhemnpaa
open Go.J
open Go.J.Enc (enc)
set_option maxRecDepth 100000
set_option maxHeartbeats 1000000
section
variable {ρ:Nat→Value}(hρ:J.Good ρ)
include hρ
theorem type_call(d:Nat)(hd:d≤1000){S:J.Spec}(hv:Valid ρ Try.prog 30 S){t:Tp}{D:List Decl}{Lv:List Ty}{n:Int}(hS:0<n→S=stS (stF3 (typeF d)))(h1:t.ok)(h2:DOk D)(h3:Lv.length≤100000)(h4:n≤d+1)(hs:HS)(id:Nat)(hid:id<hs.n)(hg:hs.H.get id=some (box (Cel.cells t))) :
 CallOk ρ Try.prog 30 [.ptr id 0 0,enc D,enc Lv,enc n] hs (enc (typeM n.toNat t D Lv).2) (hs.wr id (box (Cel.cells (typeM n.toNat t D Lv).1))) :=
 make_Tape_Type_run hρ (E:=EL [(45,stS (stF1 nextF)),(10,conS),(46,fnS (spec0 tInt)),(47,fnS (spec2 fun a b:Ty=>some (tArrow a b))),(30,S)]) rfl
  (consOk_list (valid_cons (vNext hρ) (valid_cons (vCon hρ) (valid_cons (vInt hρ) (valid_cons (vArrow hρ) (valid_cons hv valid_nil)))))) rfl rfl rfl rfl hS h1 h2 h3 h4 hd hs id hid hg
def noS:J.Spec:=fun _ _=>none
omit hρ in
theorem vNone{f:Nat}(hf:FnOk Try.prog f):Valid ρ Try.prog f noS where
 fn:=hf
 ok:=fun {_ _ _ _} h=>by cases h
 kept:=fun {_ _ _} h=>by cases h
theorem vType(d:Nat)(hd:d≤1000):Valid ρ Try.prog 30 (stS (stF3 (typeF d))):=by
 induction d with
 | zero =>
   refine s3 (fo Try.func30 fB30) fun s a b c q h hs id hid hg=>?_
   obtain⟨⟨h1,h2,h3,h4⟩,rfl⟩:=ite_inv h
   exact type_call hρ 0 hd (vNone (fo Try.func30 fB30)) (fun h=>by omega) h1 h2 h3 (by omega) hs id hid hg
 | succ d ih =>
   refine s3 (fo Try.func30 fB30) fun s a b c q h hs id hid hg=>?_
   obtain⟨⟨h1,h2,h3,h4⟩,rfl⟩:=ite_inv h
   exact type_call hρ d (by omega) (ih (by omega)) (fun _=>rfl) h1 h2 h3 (by omega) hs id hid hg
omit hρ in
theorem call_norm{f:Nat}{vs:List V}{hs hs':HS}{v r:V}(h:CallOk ρ Try.prog f vs hs v hs')(e:normV v=r):CallOk ρ Try.prog f vs hs r hs':=by
 intro X w F μ xs hR hD hO hA
 refine CallsIn.mono (h X w F μ xs hR hD hO hA) fun e' w' he=>?_
 cases e' with
 | returned x =>
   obtain⟨F1,μ1,g1,g2,g3⟩:=he
   exact⟨F1,μ1,g1,by rw[← e];exact g2.norm,g3⟩
 |panicked c=>exact he
 |outgrown=>exact he
theorem vAll:Valid ρ Try.prog 33 (fnS (spec0 allD)):=v0 (fnOk Try.func33 (by kernel_rfl)) fun hs=>call_norm
 (pure_callOk hρ (E:=EL [(58,pureS scanV)]) (consOk_list (valid_cons (scan_valid hρ) valid_nil)) follows named all_run rfl) (by kernel_rfl)
theorem vDatas:Valid ρ Try.prog 14 (fnS (spec1 fun bits:Int=>some (datasOf bits))):=v1 (fo Try.func14 fB14) fun a r h hs=>by
 cases h
 exact make_Datas_run hρ (E:=EL [(33,fnS (spec0 allD))]) rfl (consOk_list (valid_cons (vAll hρ) valid_nil)) rfl hs
def mkVarsS:J.Spec:=rowS 5 (fun vs=>ob (spec1 (fun n:Int=>if 0≤n∧n≤10000 then some (varTs n.toNat)else none) vs) fun v=>match v with|.sl es _=>some es|_=>none)
theorem vMkVars:Valid ρ Try.prog 31 mkVarsS:=Valid.row (fo Try.func31 fB31) fun vs es _ h hs hv=>by
 rw[ob_eq]at h
 obtain⟨v,h1,h2⟩:=h
 obtain⟨n,r,rfl,h3,rfl⟩:=spec1_inv h1
 obtain⟨⟨h4,h5⟩,rfl⟩:=ite_inv h3
 obtain⟨m,rfl⟩:=Int.eq_ofNat_of_zero_le h4
 cases h2
 exact make_Vars_run hρ (E:=EL [(9,fnS (spec1 fun i:Int=>some (tVar i)))]) rfl (consOk_list (valid_cons (vVar hρ) valid_nil)) rfl (by omega) hv
end
end Go.Proofs.Ytfgmnebfhemnpaa
/- Types made valid;the law StoreOperations: what its function computes. -/
namespace Go.Proofs.Ytfgmnebfhemnpaa
open Go.J
open Go.J.Enc (enc)
set_option maxRecDepth 100000
set_option maxHeartbeats 4000000
def yesS:J.Spec:=fnS (spec0 true)
section
variable {ρ:Nat→Value}(hρ:J.Good ρ){E:Env}(hE:E.P=Try.prog)(hcon:ConsOk ρ E)
include hρ hE hcon
end
end Go.Proofs.Ytfgmnebfhemnpaa
/- The contracts that the laws on stores use,joined. -/
namespace Go.Proofs.Ytfgmnebfhemnpaa
open Go.J
open Go.J.Enc (enc)
set_option maxRecDepth 100000
set_option maxHeartbeats 1000000
section
variable {ρ:Nat→Value}(hρ:J.Good ρ)
include hρ
theorem vTVar:Valid ρ Try.prog 22 (fnS (spec1 fun i:Int=>some (tVar i))):=v1 (fo Try.func22 fB22) fun a r h hs=>by
 cases h;exact types_Var_run hρ (E:=EL []) rfl (consOk_list valid_nil) hs
end
end Go.Proofs.Ytfgmnebfhemnpaa
