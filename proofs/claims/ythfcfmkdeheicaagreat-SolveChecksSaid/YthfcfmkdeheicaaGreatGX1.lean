import Derived.Test.YthfcfmkdeheicaaGreatGX4
import Derived.Test.YthfcfmkdeheicaaGreatJZ
set_option linter.all false
noncomputable section
/- The set of types: following variables. -/
namespace Go.Proofs.YthfcfmkdeheicaaGreat
open Go.J
open Go.J.Enc (enc)
set_option maxRecDepth 100000
set_option maxHeartbeats 1000000
@[simp] theorem isSome_s {v:V}:isSomeO (some v)=true:=(rfl)
@[simp] theorem isSome_n:isSomeO (none:Option V)=false:=(rfl)
@[simp] theorem bi_t {α:Type} {x y:α}:bi true x y=x:=(rfl)
section
variable {ρ:Nat→Value}(hρ:J.Good ρ)
include hρ
section
variable {E:Env}(hE:E.P=Tryz.prog)(hcon:ConsOk ρ E)
include hE hcon
end
end
end Go.Proofs.YthfcfmkdeheicaaGreat
/- The set of types: binding a variable. -/
namespace Go.Proofs.YthfcfmkdeheicaaGreat
open Go.J
open Go.J.Enc (enc)
set_option maxRecDepth 100000
set_option maxHeartbeats 1000000
@[simp] theorem seenOf_e:seenOf []=some []:=(rfl)
section
variable {ρ:Nat→Value}(hρ:J.Good ρ)
include hρ
section
variable {E:Env}(hE:E.P=Tryz.prog)(hcon:ConsOk ρ E)
include hE hcon
end
end
end Go.Proofs.YthfcfmkdeheicaaGreat
/- The set of types: unification's run. -/
namespace Go.Proofs.YthfcfmkdeheicaaGreat
open Go.J
open Go.J.Enc (enc)
set_option maxRecDepth 100000
set_option maxHeartbeats 1000000
@[simp] theorem triD_v0 {args:List V} {T T':List Assign} {r:V} {a m:Nat}:(triD args T T' r a m).v0=r:=(rfl)
@[simp] theorem triD_valI {args:List V} {T T':List Assign} {e:Int} {a m:Nat} {hs:HS}:(triD args T T' (.int .i64 e) a m).val hs=.int .i64 e:=(rfl)
section
variable {ρ:Nat→Value}(hρ:J.Good ρ)
include hρ
section
variable {E:Env}(hE:E.P=Tryz.prog)(hcon:ConsOk ρ E)
include hE hcon
end
end
end Go.Proofs.YthfcfmkdeheicaaGreat
