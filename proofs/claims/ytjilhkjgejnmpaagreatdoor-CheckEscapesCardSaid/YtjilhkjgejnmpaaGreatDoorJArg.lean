import Derived.Test.YtjilhkjgejnmpaaGreatDoorJE
import Derived.ChangeArms
set_option linter.all false
noncomputable section
/- Arguments that were read,as values of the evaluator: typed values without numbers. -/
namespace Go.J
section
variable (ρ:Nat→Value){H:Type}{enc:TypeId×Value→H}{P:Program}{w:World}{base:Nat}{sp:Nat→Bool}{held:Bool}
def Cells(w:World)(vs:List V)(cs:List Value):Prop:=vs.length=cs.length∧∀ (i:Nat) (v:V),vs[i]?=some v→∃ c,cs[i]?=some c∧Val ρ w v c
theorem Cells.one{v:V}{c:Value}(h:Val ρ w v c):Cells ρ w [v] [c]:=⟨rfl,fun i u hu=>by
 match i,hu with
 | 0,hu=>cases hu;exact⟨c,rfl,h⟩⟩
theorem Cells.append{vs us:List V}{cs ds:List Value}(h:Cells ρ w vs cs)(k:Cells ρ w us ds):Cells ρ w (vs++us) (cs++ds):=by
 refine⟨by rw[List.length_append,List.length_append,h.1,k.1],fun i v hv=>?_⟩
 by_cases hi:i<vs.length
 · rw[List.getElem?_append_left hi]at hv
   obtain⟨c,h1,h2⟩:=h.2 i v hv
   grind
 · rw[List.getElem?_append_right (by omega)]at hv
   obtain⟨c,h1,h2⟩:=k.2 _ v hv
   exact⟨c,by rw[List.getElem?_append_right (by rw[← h.1];omega),← h.1];exact h1,h2⟩
end
end Go.J
