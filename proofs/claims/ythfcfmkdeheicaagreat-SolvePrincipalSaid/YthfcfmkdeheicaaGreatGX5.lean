import Derived.Test.YthfcfmkdeheicaaGreatGT7
import Derived.Test.YthfcfmkdeheicaaGreatJY
import Derived.Test.YthfcfmkdeheicaaGreatGN1
set_option linter.all false
noncomputable section
/- The reference's substitutions and unification of chapters 13 and 15. -/
namespace Go.Proofs.YthfcfmkdeheicaaGreat
open Go.J
open Go.J.Enc (enc)
set_option maxRecDepth 100000
set_option maxHeartbeats 1000000
def replU(t:Ty)(s:List Assign):Option Ty:=if t.ok=true∧s.length≤100000 then some (t.repl s)else none
def zlU(s:List Assign)(t:Ty):Option Ty:=if t.ok=true∧s.length≤100000 then some (t.repl s)else none
section
variable {ρ:Nat→Value}(hρ:J.Good ρ)
include hρ
section
variable {E:Env}(hE:E.P=Tryz.prog)(hcon:ConsOk ρ E)
include hE hcon
theorem znC(hc:E.con 25=fnS (zD replU)){s:List Assign}{t:Ty}(h1:t.ok=true)(h3:s.length≤100000)(hs:HS):CallOk ρ Tryz.prog 88 [enc s,enc t] hs (enc (t.repl s)) hs:=by
 refine fn hρ hE hcon Tryz.func88 fB88 rfl (by simp) ?_ hs
 have hF:replU t s=some (t.repl s):=if_pos ⟨h1,h3⟩
 generalize t.repl s=r at hF
 simp[fS88r0,fS88r1,fS88,hE,hc,hF]
end
end
end Go.Proofs.YthfcfmkdeheicaaGreat
/- The reference's unification of chapter 15;which substitutions are valid and idempotent,and how one factors through another. -/
namespace Go.Proofs.YthfcfmkdeheicaaGreat
open Go.J
open Go.J.Enc (enc)
set_option maxRecDepth 100000
set_option maxHeartbeats 1000000
def eqN(a b:Ty):Option Bool:=if a.ok=true then some (decide (a=b))else none
section
variable {ρ:Nat→Value}(hρ:J.Good ρ)
include hρ
section
variable {E:Env}(hE:E.P=Tryz.prog)(hcon:ConsOk ρ E)
include hE hcon
end
theorem vReplU:Valid ρ Tryz.prog 25 (fnS (zD replU)):=v2 (fo Tryz.func25 fB25) fun a b r h hs=>by
 obtain⟨⟨h1,h3⟩,rfl⟩:=z8 h
 exact zit hρ (E:=EL [(25,fnS (zD (replF a.size)))]) rfl (zg (za (vReplace hρ a.size) valid_nil)) rfl h1 (by omega) h3 hs
theorem vApplyU:Valid ρ Tryz.prog 88 (fnS (zD zlU)):=v2 (fo Tryz.func88 fB88) fun a b r h hs=>by
 obtain⟨⟨h1,h3⟩,rfl⟩:=z8 h
 exact znC hρ (E:=EL [(25,fnS (zD replU))]) rfl (zg (za (vReplU hρ) valid_nil)) rfl h1 h3 hs
end
end Go.Proofs.YthfcfmkdeheicaaGreat
/- Which substitutions are valid and idempotent,and how one factors through another: the reference of chapter 13. -/
namespace Go.Proofs.YthfcfmkdeheicaaGreat
open Go.J
open Go.J.Enc (enc)
set_option maxRecDepth 100000
set_option maxHeartbeats 1000000
theorem ziB(i:Int):(zA i).ok=true:=by simp[zA,Ty.ok,Ty.oks]
def slV(i:Nat)(A:List Assign):V:=match i with
 | 0=>.snil
 |_+1=>.sl (A.map zf) false
section
variable {ρ:Nat→Value}(hρ:J.Good ρ)
include hρ
section
variable {E:Env}(hE:E.P=Tryz.prog)(hcon:ConsOk ρ E)
include hE hcon
end
end
end Go.Proofs.YthfcfmkdeheicaaGreat
