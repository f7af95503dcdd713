import Derived.Test.YtjilhkjgejnmpaaGreatDoorJG
set_option linter.all false
noncomputable section
/- A call that leaves the memory that is there as it was,and answers with a value that lies in no memory. -/
namespace Go.J
def outS(s:List V→Option V)(vs:List V)(hs:HS):Option (V×HS):=ob (s vs) fun v=>some (v,hs)
section
variable {ρ:Nat→Value}{P:Program}
theorem out_callOk{f:FuncId}{vs:List V}{hs:HS}{v:V}(h:∀ w F μ xs,Args ρ w F μ vs xs→Gl ρ w F→Calls P f xs w fun e w'=>∃ x,e=.returned x∧PRep ρ w' (fun _=>False) v x∧Io w w'∧w.heap.size≤w'.heap.size∧∀ b,b<w.heap.size→w'.heap[b]?=w.heap[b]?):CallOk ρ P f vs hs v hs:=by
 intro X w F μ xs hR hD hO hA
 refine CallsIn.mono (callsIn_wide.2 (h w F μ xs hA hR.gl)) fun e w' he=>?_
 obtain⟨x,rfl,hx,hio,hsz,hk⟩:=he
 obtain⟨g1,g2⟩:=alone hR hio hsz hk
 exact⟨_,μ,g1,.pure (hx.mono ρ (fun _ h=>h.elim) fun _ h=>h.elim),g2⟩
theorem Valid.out{f:FuncId}{s:List V→Option V}(hf:FnOk P f)(h:∀ vs v,s vs=some v→∀ w F μ xs,Args ρ w F μ vs xs→Gl ρ w F→Calls P f xs w fun e w'=>∃ x,e=.returned x∧PRep ρ w' (fun _=>False) v x∧Io w w'∧w.heap.size≤w'.heap.size∧∀ b,b<w.heap.size→w'.heap[b]?=w.heap[b]?):Valid ρ P f (outS s) where
 fn:=hf
 ok:=by
  intro vs hs v hs' hq
  simp only[outS,ob_eq]at hq
  obtain⟨v',hv,hq⟩:=hq
  cases hq
  exact out_callOk fun w F μ xs=>h vs _ hv w F μ xs
 kept:=by
  intro vs hs q hq
  simp only[outS,ob_eq]at hq
  obtain⟨v',hv,hq⟩:=hq
  cases hq
  exact Kept.refl _
end
end Go.J
