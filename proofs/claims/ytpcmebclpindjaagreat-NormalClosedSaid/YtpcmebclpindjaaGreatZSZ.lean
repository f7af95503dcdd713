import Derived.Test.YtpcmebclpindjaaGreatJArg
import Derived.Test.YtpcmebclpindjaaGreatJG
import Derived.Test.YtpcmebclpindjaaGreatRows
import Derived.WalkKit
import Derived.ProofKit
import Derived.OpenShut
import Derived.Lib.Hide
import Derived.ChangeSame
import Derived.Below
set_option linter.all false
noncomputable section
/- The seat's program: what the evaluator wants to know of it. -/
namespace Go.Proofs.YtpcmebclpindjaaGreat
open Go.J
theorem follows:Tryz.prog.follows .mixedOrders=true:=by kernel_rfl
def zBj (P : Program) : Bool := P.funcs.toList.all fun fn => fn.name != "runtime.NumGoroutine"
theorem zqR:zBj Tryz.prog=true:=by kernel_rfl
theorem named:zeo Tryz.prog:=by
 intro f fn hf _ he;have h:=List.all_eq_true.1 zqR fn (List.mem_of_getElem? (by simpa using hf));simp[he]at h
theorem zB3{f:Nat}{fn:Func}(hf:Tryz.prog.funcs[f]?=some fn)(hb:fn.body.isSome=true):zeT Tryz.prog f:=⟨fn,hf,hb,named f fn hf hb⟩
theorem zk9:ownKnob Tryz.prog.godebug=none:=by kernel_rfl
def pol(f:FuncId):Nat:=bi (tb 72640507360634045726725094292236794427439205634251780437387210574024515023346881817576556411748352 f) 1 (bi (tb 1959035209627931311032598625808770857057025845869999321269666382894271792079534071267418420161585028038648 f) 2 (bi (tb 44795740702766111772526385139128888787446339926522369028563290769728684681070054184269444024157761208320 f) 3 0))
theorem zJE{ρ:Nat->Value}{w:World}{v v2 v3 v4:V}{x x2 x3 x4:Value}(h:Val ρ w v x)(h2:Val ρ w v2 x2)(h3:Val ρ w v3 x3)(h4:Val ρ w v4 x4):∀ (i:Nat) (u:V),[v,v2,v3,v4][i]?=some u->∃ y,#[x,x2,x3,x4][i]?=some y/\Val ρ w u y:=by
 intro i u hu
 match i,hu with
 | 0,hu=>cases hu;exact⟨_,rfl,h⟩
 | 1,hu=>cases hu;exact⟨_,rfl,h2⟩
 | 2,hu=>cases hu;exact⟨_,rfl,h3⟩
 | 3,hu=>cases hu;exact⟨_,rfl,h4⟩
open Go.RowKit Go.WideShapes Go.ChangeShapes
section
variable {H:Type}{enc:TypeId×Value->H}{P:Program}
theorem zoQ{f:Func}{s:ChangeSpec}{apart fresh handsOn again:Bool}{W W':World}{args:Array Value}{v:Value}{ds gs:List (DataW H)}{before pa pv:List MemPlace}
 (hW:DataW.Whole enc P f.params.toList s.vars apart W args.toList ds gs before)
 (hres:∀ (b:Nat) (sp:Nat->Bool) (hd:Bool),DataW.TrodAll enc P W' b sp hd f.resultTypes.toList (v.resultList f.resultTypes.size) (s.fn H (ds++gs)).results [])
 (hargs:∀ sp:Nat->Bool,(∀ p∈before,sp p.block=true)->DataW.TrodAll enc P W' 0 sp true f.params.toList args.toList (s.fn H (ds++gs)).args pa)
 (hvars:∀ sp:Nat->Bool,(∀ p∈before,sp p.block=true)->DataW.TrodVars enc P W' sp s.vars (s.fn H (ds++gs)).vars pv)
 (hps:before=pa++pv) (hb:Below W.heap.size W W')
 (hok:∀ (j:Nat) (t:TypeId) (r:Value),f.resultTypes[j]?=some t->(v.resultList f.resultTypes.size)[j]?=some r->Value.okWide P W' .any 0 t r) :
 s.post enc P f apart fresh handsOn again W args v W':=by
 have hlt:∀ p∈before,p.block<W.heap.size:=fun p hp=>hW.lt p hp
 have hold:∀ p∈before,(fun b=>decide (b<W.heap.size)) p.block=true:=fun p hp=>by simpa using hlt p hp
 refine⟨ds,gs,before,[],pa,pv,hW,hres _ _ _,hargs _ hold,hvars _ hold,World.keptBut_mono (fun p hp=>⟨hp,?_⟩) (hb.frame (·∈before)),fun _=>?_⟩
 . rw[hps,List.mem_append]at hp;exact Or.inr hp
 . obtain⟨_,_,_,_,_,hz,hn⟩:=hW;refine⟨hok,_,_,([]++pa)++pv,⟨[]++pa,pv,trodAll_append (hargs _ (fun _ _=>rfl)) (hres _ _ _),hvars _ (fun _ _=>rfl),rfl,?_,?_⟩,?_⟩
   . intro b off hp;have hin:MemPlace.cell b off∈before:=by rw[hps];simpa using hp
     rw[hb.frozen (hlt _ hin)];exact hz b off hin
   . intro ha;have:=hn ha;rw[hps]at this;simpa using this
   . intro p hp _;rw[hps];simpa using hp
end
end Go.Proofs.YtpcmebclpindjaaGreat
