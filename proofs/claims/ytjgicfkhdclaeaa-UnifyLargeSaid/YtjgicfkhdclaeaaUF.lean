import Derived.Test.YtjgicfkhdclaeaaYV
set_option linter.all false
namespace Go.Proofs.Ytjgicfkhdclaeaa
open Go.J
noncomputable def envF : Env := envL Try.prog pol [(15, scalS (sizeV 300)), (57, scalS boundV)]
theorem first17 : runJ envF 2000 22 [] = some (.bool true) := by kernel_rfl
def firstV (vs : List V) : Option V := match vs with | [] => some (.bool true) | _ => none
noncomputable def envU (r : Nat) : Env := envL Try.prog pol [(22, pureS firstV), (8, conMod 40 r), (15, scalS (sizeV 300)), (57, scalS boundV)]
end Go.Proofs.Ytjgicfkhdclaeaa
