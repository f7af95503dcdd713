import Derived.Test.YtfgmnebfhemnpaaGreatLX2
import Derived.Test.YtfgmnebfhemnpaaGreatJL
import Derived.Test.YtfgmnebfhemnpaaGreatJK
set_option linter.all false
noncomputable section
/- Ranges from the end,rolling back. -/
namespace Go.Proofs.YtfgmnebfhemnpaaGreat
open Go.J
open Go.J.Enc (enc)
set_option maxRecDepth 100000
set_option maxHeartbeats 1000000
section
variable {ρ:Nat→Value}(hρ:J.Good ρ){E:Env}(hE:E.P=Tryz.prog)(hcon:ConsOk ρ E)
include hρ hE hcon
theorem zeJ{l:List Slot}(hs:HS):CallOk ρ Tryz.prog 38 [enc l] hs (enc l) hs:=by
 refine fn hρ hE hcon Tryz.func38 zPe rfl (by simp) ?_ hs
 simp [hE,zbO,zj4,bounds,zki,zQ,zaN]
end
end Go.Proofs.YtfgmnebfhemnpaaGreat
/- The contracts of small functions,joined. -/
namespace Go.Proofs.YtfgmnebfhemnpaaGreat
open Go.J
open Go.J.Enc (enc)
set_option maxRecDepth 100000
set_option maxHeartbeats 1000000
theorem zY{c:Prop}{_:Decidable c}{α:Type}{x r:α}(h:(if c then some x else none)=some r):c∧x=r:=by
 split at h
 · cases h;exact⟨‹_›,rfl⟩
 · cases h
theorem fo{f:Nat}{fn:Func}{sc:SC}(hf:Tryz.prog.funcs[f]?=some fn)(hb:fn.body.bind zy=some sc):zeF Tryz.prog f:=zHz hf (by
 cases h:fn.body with
 |none=>rw[h]at hb;cases hb
 |some c=>rfl)
abbrev EL(L:List (Nat×J.Spec)):Env:=zEd Tryz.prog pol L
section
variable {ρ:Nat→Value}(hρ:J.Good ρ)
include hρ
def zMD:J.Spec:=fnS (zU fun n m:Int=>if -1000000≤m∧m≤1000000 then some (zwx n m)else none)
theorem zPY:Valid ρ Tryz.prog 51 zMD:=v2 (fo Tryz.func51 zPd) fun a b r h hs=>by
 obtain⟨h1,rfl⟩:=zY h
 exact zld hρ (E:=EL []) rfl (zt valid_nil) (by omega) (by omega) hs
def zDp:J.Spec:=fnS (zaU fun l:List Int=>some (decide (l.length≤60)))
theorem zQa:Valid ρ Tryz.prog 9 zDp:=v1 (fo Tryz.func9 fB9) fun a r h hs=>by
 cases h
 exact zle hρ (E:=EL []) rfl (zt valid_nil) hs
def zHX:J.Spec:=fnS (zU fun (n:List Nat) (l:List Ty)=>if l.length≤10000 then some (zfI n l)else none)
theorem zIL:Valid ρ Tryz.prog 53 zHX:=v2 (fo Tryz.func53 zPb) fun a b r h hs=>by
 obtain⟨h1,rfl⟩:=zY h
 exact zkL hρ (E:=EL []) rfl (zt valid_nil) h1 hs
theorem zPZ:Valid ρ Tryz.prog 52 (fnS (zfi tInt)):=v0 (fo Tryz.func52 zPc) fun hs =>
 zkJ hρ (E:=EL [(53,zHX)]) rfl (zt (zo (zIL hρ) valid_nil)) rfl hs
theorem zBw:Valid ρ Tryz.prog 54 (fnS (zU fun a b:Ty=>some (zcx a b))):=v2 (fo Tryz.func54 zPa) fun a b r h hs=>by
 cases h
 exact zio hρ (E:=EL [(53,zHX)]) rfl (zt (zo (zIL hρ) valid_nil)) rfl hs
theorem zFF:Valid ρ Tryz.prog 29 (fnS (zaU fun i:Int=>some (zX i))):=v1 (fo Tryz.func29 zPm) fun a r h hs=>by
 cases h
 exact zkI hρ (E:=EL []) rfl (zt valid_nil) hs
theorem zBv:Valid ρ Tryz.prog 34 (fnS (zaU fun i:Int=>some (zcn i))):=v1 (fo Tryz.func34 zPh) fun a r h hs=>by
 cases h
 exact zin hρ (E:=EL []) rfl (zt valid_nil) hs
theorem zxN:Valid ρ Tryz.prog 32 (fnS (zU fun h i:Int=>some (zaw h i))):=v2 (fo Tryz.func32 zPj) fun a b r h hs=>by
 cases h
 exact zim hρ (E:=EL []) rfl (zt valid_nil) hs
theorem zBp:Valid ρ Tryz.prog 23 (stS (zpJ zjN)):=s1 (fo Tryz.func23 zPo) fun s a q h hs id hid hg=>by
 obtain⟨⟨h1,h2⟩,rfl⟩:=zY h
 exact zfx hρ (E:=EL [(51,zMD)]) rfl (zt (zo (zPY hρ) valid_nil)) rfl h1.1 h1.2 h2 hs id hid hg
theorem vEq(d:Nat):Valid ρ Tryz.prog 40 (fnS (zU (eqF d)))∧Valid ρ Tryz.prog 63 (fnS (zU (zjb d))):=by
 have all:∀ d,Valid ρ Tryz.prog 40 (fnS (zU (eqF d)))→Valid ρ Tryz.prog 63 (fnS (zU (zjb d))):=fun d hv=>v2 (fo Tryz.func63 zOU) fun a b r h hs=>by
  obtain⟨⟨h1,h2,h3⟩,rfl⟩:=zY h
  exact zfR hρ (E:=EL [(40,fnS (zU (eqF d)))]) rfl (zt (zo hv valid_nil)) rfl h1 h2 h3 hs
 have one:∀ d,Valid ρ Tryz.prog 40 (fnS (zU (eqF d))):=by
  intro d
  induction d with
  | zero =>
    refine v2 (fo Tryz.func40 zH5) fun a b r h hs=>?_
    obtain⟨⟨h1,h2⟩,rfl⟩:=zY h
    have:=Ty.size_eq a
    omega
  | succ d ih =>
    refine v2 (fo Tryz.func40 zH5) fun a b r h hs=>?_
    obtain⟨⟨h1,h2⟩,rfl⟩:=zY h
    exact zeA hρ (E:=EL [(63,fnS (zU (zjb d)))]) rfl (zt (zo (all d ih) valid_nil)) rfl h1 h2 hs
 exact⟨one d,all d (one d)⟩
def z4K:J.Spec:=fnS (zU fun a b:Ty=>if a.ok=true then some (decide (a=b))else none)
theorem zBt:Valid ρ Tryz.prog 40 z4K:=v2 (fo Tryz.func40 zH5) fun a b r h hs=>by
 obtain⟨h1,rfl⟩:=zY h
 exact zeA hρ (E:=EL [(63,fnS (zU (zjb a.size)))]) rfl (zt (zo (vEq hρ a.size).2 valid_nil)) rfl h1 (by omega) hs
theorem z5v(d:Nat):Valid ρ Tryz.prog 56 (ioS 5 (zvb (zcL d)) znT):=by
 induction d with
 | zero =>
   refine Valid.io (fo Tryz.func56 zKV) fun es vs r _ _ h0 _ _ _ hs v hv hvac=>?_
   obtain⟨l,a,b,q,rfl,rfl,h,rfl⟩:=znV h0
   obtain⟨⟨h1,h2,h3⟩,rfl⟩:=zY h
   have:=Ty.size_eq a
   omega
 | succ d ih =>
   refine Valid.io (fo Tryz.func56 zKV) fun es vs r _ _ h0 _ _ _ hs v hv hvac=>?_
   obtain⟨l,a,b,q,rfl,rfl,h,rfl⟩:=znV h0
   obtain⟨⟨h1,h2,h3,h4⟩,rfl⟩:=zY h
   exact zhh hρ (E:=EL [(40,z4K),(56,ioS 5 (zvb (zcL d)) znT)]) rfl (zt (zo (zBt hρ) (zo ih valid_nil))) rfl rfl h2 h1 h3 h4 hv hvac
def zjT:J.Spec:=fnC (zU fun (l:List Int) (x:Int)=>if l.length≤1000000 then some (decide (x∈l))else none)
theorem zLW:Valid ρ Tryz.prog 66 zjT:=c2 (fo Tryz.func66 zOT) fun a b r h hs=>by
 obtain⟨h1,rfl⟩:=zY h
 exact zkK hρ (E:=EL []) rfl (zt valid_nil) h1 hs
end
end Go.Proofs.YtfgmnebfhemnpaaGreat
/- The contracts of the functions on stores,joined. -/
namespace Go.Proofs.YtfgmnebfhemnpaaGreat
open Go.J
open Go.J.Enc (enc)
set_option maxRecDepth 100000
set_option maxHeartbeats 1000000
theorem zuC(l:List Ty):l.length≤Ty.sizes l:=by
 induction l with
 |nil=>exact Nat.le_refl _
 |cons t l ih=>have:=Ty.size_pos t;simp only[Ty.sizes,List.length_cons];omega
section
variable {ρ:Nat→Value}(hρ:J.Good ρ)
include hρ
theorem zqb:Valid ρ Tryz.prog 38 (fnS (zaU fun l:List Slot=>some l)):=v1 (fo Tryz.func38 zPe) fun a r h hs=>by
 cases h;exact zeJ hρ (E:=EL []) rfl (zt valid_nil) hs
end
end Go.Proofs.YtfgmnebfhemnpaaGreat
