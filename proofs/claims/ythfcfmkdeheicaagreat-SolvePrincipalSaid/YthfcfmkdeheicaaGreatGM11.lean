import Derived.Test.YthfcfmkdeheicaaGreatGM10
set_option linter.all false
noncomputable section
namespace Go.Proofs.YthfcfmkdeheicaaGreat
open Go.J
open Go.J.Enc (enc)
set_option maxRecDepth 100000
set_option maxHeartbeats 1000000
def madeD(bits:Int)(codes:List Int):EmbD where
 k:=0
 k':=1
 π:=fun i=>i
 OL:=[]
 OL':=[(0,box (Cel.cells (madeM ⟨codes,0⟩ (zaI bits)).2.2.2))]
 vs0:=[enc bits,enc codes]
 v0:=.tuple [enc (madeM ⟨codes,0⟩ (zaI bits)).1,enc (madeM ⟨codes,0⟩ (zaI bits)).2.1,enc (madeM ⟨codes,0⟩ (zaI bits)).2.2.1,.ptr 0 0 0]
def madeMM(vs:List V)(hs:HS):Option EmbD:=match vs with
 | [bv,cv]=>ob (Enc.dec bv:Option Int) fun bits=>ob (Enc.dec cv:Option (List Int)) fun codes=>gd (et (Nat.ble (zC codes) 60) (zR hs hs.n)) (some (madeD bits codes))
 |_=>none
@[simp] theorem madeMM_n {bv cv:V} {hs:HS}:madeMM [bv,cv] hs=ob (Enc.dec bv:Option Int) fun bits=>ob (Enc.dec cv:Option (List Int)) fun codes=>gd (et (Nat.ble (zC codes) 60) (zR hs hs.n)) (some (madeD bits codes)):=(rfl)
section
variable {ρ:Nat→Value}(hρ:J.Good ρ)
include hρ
section
variable {E:Env}(hE:E.P=Tryz.prog)(hcon:ConsOk ρ E)
include hE hcon
end
end
end Go.Proofs.YthfcfmkdeheicaaGreat
