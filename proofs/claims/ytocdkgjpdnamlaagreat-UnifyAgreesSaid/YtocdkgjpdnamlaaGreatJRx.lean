import Derived.Test.YtocdkgjpdnamlaaGreatJS
set_option linter.all false
noncomputable section
/- Functions of a row that they append to,and two values;they hand back the row and one more value. -/
namespace Go.J
open Enc (enc)
def zJ1(sz:Nat)(fst:Bool)(F:V->V->List (List V)->Option (List (List V)×V)):Spec:=fun vs hs=>match vs with
 | [v,a,b]=>gd (et a.pure (et b.pure (cB hs hs.n))) (ob (rowOf sz hs v) fun es=>ob (F a b es) fun r =>
  gd (et (r.1.all fun e=>e.all V.aI) (et (r.2.o5 fun _=>false) (Nat.ble (aN es) (aN r.1)))) (some (znL fst (iw sz v es r.1 hs).1 r.2,(iw sz v es r.1 hs).2)))
 |_=>none
section
variable {ρ:Nat->Value}{E:Env}{f:FuncId}{fn:Func}{sc:SC}{T:PT V}{es es':List (List V)}{a b r:V}{sz:Nat}{fst:Bool}
end
section
variable {ρ:Nat->Value}{P:Program}{f:Nat}{sz:Nat}{fst:Bool}{F:V->V->List (List V)->Option (List (List V)×V)}
end
section
variable {sz:Nat}{fst:Bool}{F:V->V->List (List V)->Option (List (List V)×V)}{a b v:V}{hs:HS}{Q:V×HS->Prop}
@[simp] theorem zJ0:qI (zJ1 sz fst F [v,a,b] hs) Q=((a.pure=true/\b.pure=true/\hs.H.get hs.n=none)/\qI (rowOf sz hs v) fun es=>qI (F a b es) fun r =>
 ((r.1.all fun e=>e.all V.aI)=true/\(r.2.o5 fun _=>false)=true/\es.length<=r.1.length)/\Q (znL fst (iw sz v es r.1 hs).1 r.2,(iw sz v es r.1 hs).2)):=by
  show ok (zJ1 sz fst F [v,a,b] hs) Q=((a.pure=true/\b.pure=true/\hs.H.get hs.n=none)/\ok (rowOf sz hs v) fun es=>ok (F a b es) fun r =>
   ((r.1.all fun e=>e.all V.aI)=true/\(r.2.o5 fun _=>false)=true/\es.length<=r.1.length)/\Q (znL fst (iw sz v es r.1 hs).1 r.2,(iw sz v es r.1 hs).2))
  simp only[zJ1,jA,dA,aW,bA,ae,dI,bJ]
end
end Go.J
