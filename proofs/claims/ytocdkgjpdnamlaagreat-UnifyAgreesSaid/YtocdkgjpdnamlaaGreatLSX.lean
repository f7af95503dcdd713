import Derived.Test.YtocdkgjpdnamlaaGreatJArg
import Derived.Test.YtocdkgjpdnamlaaGreatJG
import Derived.Test.YtocdkgjpdnamlaaGreatRows
import Derived.WalkKit
import Derived.ProofKit
import Derived.OpenShut
import Derived.Lib.Hide
import Derived.ChangeSame
import Derived.Below
set_option linter.all false
noncomputable section
/- The seat's program: what the gI wants to know of it. -/
namespace Go.Proofs.YtocdkgjpdnamlaaGreat
open Go.J
theorem follows:Tryz.prog.follows .mixedOrders=true:=by kernel_rfl
def zun (P : Program) : Bool := P.funcs.toList.all fun fn => fn.name != "runtime.NumGoroutine"
theorem ZC:zun Tryz.prog=true:=by kernel_rfl
theorem named:nW Tryz.prog:=by
 intro f fn hf _ he;have h:=List.all_eq_true.1 ZC fn (List.mem_of_getElem? (by simpa using hf));simp[he]at h
theorem zoT{f:Nat}{fn:Func}(hf:Tryz.prog.funcs[f]?=some fn)(hb:fn.body.isSome=true):lW Tryz.prog f:=⟨fn,hf,hb,named f fn hf hb⟩
theorem LA:ownKnob Tryz.prog.godebug=none:=by kernel_rfl
def Rl(f:FuncId):Nat:=bi (tb 2475955636722717218230502400 f) 1 (bi (tb 624185929121338643292494552668767164478285964280 f) 2 (bi (tb 14272547710132720084786122725569830132123697152 f) 3 0))
theorem zFC{ρ:Nat->Value}{w:World}{v v2:V}{x x2:Value}(h:Val ρ w v x)(h2:Val ρ w v2 x2):∀ (i:Nat) (u:V),[v,v2][i]?=some u->∃ y,#[x,x2][i]?=some y/\Val ρ w u y:=by
 intro i u hu
 match i,hu with
 | 0,hu=>cases hu;exact⟨_,rfl,h⟩
 | 1,hu=>cases hu;exact⟨_,rfl,h2⟩
open Go.RowKit Go.WideShapes Go.ChangeShapes
section
variable {H:Type}{enc:TypeId×Value->H}{P:Program}
theorem Rk{f:Func}{s:ChangeSpec}{apart fresh handsOn again:Bool}{W W':World}{args:Array Value}{v:Value}{ds gs:List (DataW H)}{before pa pv:List MemPlace}
 (hW:DataW.Whole enc P f.params.toList s.vars apart W args.toList ds gs before)
 (hres:∀ (b:Nat) (sp:Nat->Bool) (hd:Bool),DataW.TrodAll enc P W' b sp hd f.resultTypes.toList (v.resultList f.resultTypes.size) (s.fn H (ds++gs)).results [])
 (hargs:∀ sp:Nat->Bool,(∀ p∈before,sp p.block=true)->DataW.TrodAll enc P W' 0 sp true f.params.toList args.toList (s.fn H (ds++gs)).args pa)
 (hvars:∀ sp:Nat->Bool,(∀ p∈before,sp p.block=true)->DataW.TrodVars enc P W' sp s.vars (s.fn H (ds++gs)).vars pv)
 (hps:before=pa++pv) (hb:Below W.heap.size W W')
 (hok:∀ (j:Nat) (t:TypeId) (r:Value),f.resultTypes[j]?=some t->(v.resultList f.resultTypes.size)[j]?=some r->Value.okWide P W' .any 0 t r) :
 s.post enc P f apart fresh handsOn again W args v W':=by
 have hlt:∀ p∈before,p.block<W.heap.size:=fun p hp=>hW.lt p hp
 have hold:∀ p∈before,(fun b=>decide (b<W.heap.size)) p.block=true:=fun p hp=>by simpa using hlt p hp
 refine⟨ds,gs,before,[],pa,pv,hW,hres _ _ _,hargs _ hold,hvars _ hold,World.keptBut_mono (fun p hp=>⟨hp,?_⟩) (hb.frame (·∈before)),fun _=>?_⟩
 . rw[hps,List.mem_append]at hp;exact Or.inr hp
 . obtain⟨_,_,_,_,_,hz,hn⟩:=hW;refine⟨hok,_,_,([]++pa)++pv,⟨[]++pa,pv,trodAll_append (hargs _ (fun _ _=>rfl)) (hres _ _ _),hvars _ (fun _ _=>rfl),rfl,?_,?_⟩,?_⟩
   . intro b off hp;have hin:MemPlace.cell b off∈before:=by rw[hps];simpa using hp
     rw[hb.frozen (hlt _ hin)];exact hz b off hin
   . intro ha;have:=hn ha;rw[hps]at this;simpa using this
   . intro p hp _;rw[hps];simpa using hp
end
end Go.Proofs.YtocdkgjpdnamlaaGreat
