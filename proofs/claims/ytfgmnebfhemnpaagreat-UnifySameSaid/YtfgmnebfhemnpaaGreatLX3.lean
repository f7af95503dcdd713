import Derived.Test.YtfgmnebfhemnpaaGreatLX2
import Derived.Test.YtfgmnebfhemnpaaGreatJL
import Derived.Test.YtfgmnebfhemnpaaGreatJK
set_option linter.all false
noncomputable section
/- Ranges from the end,rolling back. -/
namespace Go.Proofs.YtfgmnebfhemnpaaGreat
open Go.J
open Go.J.Enc (enc)
set_option maxRecDepth 100000
set_option maxHeartbeats 4000000
section
variable {ρ:Nat->Value}(hρ:J.Good ρ){E:Env}(hE:E.P=Tryz.prog)(hcon:ConsOk ρ E)
include hρ hE hcon
theorem zeM{l:List Slot}(hs:HS):CallOk ρ Tryz.prog 38 [enc l] hs (enc l) hs:=by
 refine fn hρ hE hcon Tryz.func38 zRY rfl (by simp) ?_ hs;simp [hE,zbL,zjK,bounds,zk4,zS,zaO]
end
end Go.Proofs.YtfgmnebfhemnpaaGreat
/- The contracts of small functions,joined. -/
namespace Go.Proofs.YtfgmnebfhemnpaaGreat
open Go.J
open Go.J.Enc (enc)
set_option maxRecDepth 100000
set_option maxHeartbeats 1000000
theorem zT{c:Prop}{_:Decidable c}{α:Type}{x r:α}(h:(if c then some x else none)=some r):c/\x=r:=by
 split at h
 . cases h;exact⟨‹_›,rfl⟩
 . cases h
theorem fo{f:Nat}{fn:Func}{sc:SC}(hf:Tryz.prog.funcs[f]?=some fn)(hb:fn.body.bind zz=some sc):zeI Tryz.prog f:=zJV hf (by
 cases h:fn.body with
 |none=>rw[h]at hb;cases hb
 |some c=>rfl)
abbrev EL(L:List (Nat×J.Spec)):Env:=zG9 Tryz.prog pol L
section
variable {ρ:Nat->Value}(hρ:J.Good ρ)
include hρ
def zPq:J.Spec:=fnS (zV fun n m:Int=>if -1000000<=m/\m<=1000000 then some (zxy n m)else none)
theorem zSV:Valid ρ Tryz.prog 51 zPq:=v2 (fo Tryz.func51 zRV) fun a b r h hs=>by
 obtain⟨h1,rfl⟩:=zT h;exact zlw hρ (E:=EL []) rfl (zt valid_nil) (by omega) (by omega) hs
def zAn:J.Spec:=fnS (zaE fun l:List Int=>some (decide (l.length<=60)))
theorem zSX:Valid ρ Tryz.prog 9 zAn:=v1 (fo Tryz.func9 fB9) fun a r h hs=>by
 cases h;exact zlx hρ (E:=EL []) rfl (zt valid_nil) hs
def zK2:J.Spec:=fnS (zV fun (n:List Nat) (l:List Ty)=>if l.length<=10000 then some (zfP n l)else none)
theorem zLu:Valid ρ Tryz.prog 53 zK2:=v2 (fo Tryz.func53 zRT) fun a b r h hs=>by
 obtain⟨h1,rfl⟩:=zT h;exact zle hρ (E:=EL []) rfl (zt valid_nil) h1 hs
theorem zSW:Valid ρ Tryz.prog 52 (fnS (zfo tInt)):=v0 (fo Tryz.func52 zRU) fun hs =>
 zlc hρ (E:=EL [(53,zK2)]) rfl (zt (zq (zLu hρ) valid_nil)) rfl hs
theorem zDO:Valid ρ Tryz.prog 54 (fnS (zV fun a b:Ty=>some (zcw a b))):=v2 (fo Tryz.func54 zRS) fun a b r h hs=>by
 cases h;exact zi3 hρ (E:=EL [(53,zK2)]) rfl (zt (zq (zLu hρ) valid_nil)) rfl hs
theorem zIl:Valid ρ Tryz.prog 29 (fnS (zaE fun i:Int=>some (zac i))):=v1 (fo Tryz.func29 zSg) fun a r h hs=>by
 cases h;exact zlb hρ (E:=EL []) rfl (zt valid_nil) hs
theorem zDN:Valid ρ Tryz.prog 34 (fnS (zaE fun i:Int=>some (zcm i))):=v1 (fo Tryz.func34 zSb) fun a r h hs=>by
 cases h;exact zi2 hρ (E:=EL []) rfl (zt valid_nil) hs
theorem zyQ:Valid ρ Tryz.prog 32 (fnS (zV fun h i:Int=>some (zax h i))):=v2 (fo Tryz.func32 zSd) fun a b r h hs=>by
 cases h;exact zi1 hρ (E:=EL []) rfl (zt valid_nil) hs
theorem zDI:Valid ρ Tryz.prog 23 (stS (zqd zkg)):=s1 (fo Tryz.func23 zSi) fun s a q h hs id hid hg=>by
 obtain⟨⟨h1,h2⟩,rfl⟩:=zT h;exact zf3 hρ (E:=EL [(51,zPq)]) rfl (zt (zq (zSV hρ) valid_nil)) rfl h1.1 h1.2 h2 hs id hid hg
theorem vEq(d:Nat):Valid ρ Tryz.prog 40 (fnS (zV (eqF d)))/\Valid ρ Tryz.prog 63 (fnS (zV (zjq d))):=by
 have all:∀ d,Valid ρ Tryz.prog 40 (fnS (zV (eqF d)))->Valid ρ Tryz.prog 63 (fnS (zV (zjq d))):=fun d hv=>v2 (fo Tryz.func63 zRM) fun a b r h hs=>by
  obtain⟨⟨h1,h2,h3⟩,rfl⟩:=zT h;exact zgc hρ (E:=EL [(40,fnS (zV (eqF d)))]) rfl (zt (zq hv valid_nil)) rfl h1 h2 h3 hs
 have one:∀ d,Valid ρ Tryz.prog 40 (fnS (zV (eqF d))):=by
  intro d
  induction d with
  | zero =>
    refine v2 (fo Tryz.func40 zKa) fun a b r h hs=>?_
    obtain⟨⟨h1,h2⟩,rfl⟩:=zT h;have:=Ty.size_eq a;omega
  | succ d ih =>
    refine v2 (fo Tryz.func40 zKa) fun a b r h hs=>?_
    obtain⟨⟨h1,h2⟩,rfl⟩:=zT h;exact zeD hρ (E:=EL [(63,fnS (zV (zjq d)))]) rfl (zt (zq (all d ih) valid_nil)) rfl h1 h2 hs
 exact⟨one d,all d (one d)⟩
def zg2:J.Spec:=fnS (zV fun a b:Ty=>if a.ok=true then some (decide (a=b))else none)
theorem zqv:Valid ρ Tryz.prog 40 zg2:=v2 (fo Tryz.func40 zKa) fun a b r h hs=>by
 obtain⟨h1,rfl⟩:=zT h;exact zeD hρ (E:=EL [(63,fnS (zV (zjq a.size)))]) rfl (zt (zq (vEq hρ a.size).2 valid_nil)) rfl h1 (by omega) hs
theorem z8o(d:Nat):Valid ρ Tryz.prog 56 (ioS 5 (zvW (zcL d)) zof):=by
 induction d with
 | zero =>
   refine Valid.io (fo Tryz.func56 zN8) fun es vs r _ _ h0 _ _ _ hs v hv hvac=>?_
   obtain⟨l,a,b,q,rfl,rfl,h,rfl⟩:=zoh h0;obtain⟨⟨h1,h2,h3⟩,rfl⟩:=zT h;have:=Ty.size_eq a;omega
 | succ d ih =>
   refine Valid.io (fo Tryz.func56 zN8) fun es vs r _ _ h0 _ _ _ hs v hv hvac=>?_
   obtain⟨l,a,b,q,rfl,rfl,h,rfl⟩:=zoh h0;obtain⟨⟨h1,h2,h3,h4⟩,rfl⟩:=zT h;exact zhu hρ (E:=EL [(40,zg2),(56,ioS 5 (zvW (zcL d)) zof)]) rfl (zt (zq (zqv hρ) (zq ih valid_nil))) rfl rfl h2 h1 h3 h4 hv hvac
def zko:J.Spec:=fnC (zV fun (l:List Int) (x:Int)=>if l.length<=1000000 then some (decide (x∈l))else none)
theorem zO9:Valid ρ Tryz.prog 66 zko:=c2 (fo Tryz.func66 zRL) fun a b r h hs=>by
 obtain⟨h1,rfl⟩:=zT h;exact zld hρ (E:=EL []) rfl (zt valid_nil) h1 hs
end
end Go.Proofs.YtfgmnebfhemnpaaGreat
/- The contracts of the functions on stores,joined. -/
namespace Go.Proofs.YtfgmnebfhemnpaaGreat
open Go.J
open Go.J.Enc (enc)
set_option maxRecDepth 100000
set_option maxHeartbeats 1000000
theorem zv7(l:List Ty):l.length<=Ty.sizes l:=by
 induction l with
 |nil=>exact Nat.le_refl _
 |cons t l ih=>have:=Ty.size_pos t;simp only[Ty.sizes,List.length_cons];omega
section
variable {ρ:Nat->Value}(hρ:J.Good ρ)
include hρ
theorem zqx:Valid ρ Tryz.prog 38 (fnS (zaE fun l:List Slot=>some l)):=v1 (fo Tryz.func38 zRY) fun a r h hs=>by
 cases h;exact zeM hρ (E:=EL []) rfl (zt valid_nil) hs
end
end Go.Proofs.YtfgmnebfhemnpaaGreat
