import Derived.Test.YtfloillkpbhhhaaGreatJK5
import Derived.Test.YtfloillkpbhhhaaGreatJK6
import Derived.Test.YtfloillkpbhhhaaGreatRows
import Derived.WalkKit
import Derived.ProofKit
import Derived.OpenShut
import Derived.Lib.Hide
import Derived.ChangeSame
import Derived.Below
set_option linter.all false
noncomputable section
namespace Go.Proofs.YtfloillkpbhhhaaGreat
open Go.J
abbrev Pg:Program:=Tryz.prog
def follows:Pg.follows .mixedOrders=true:=by kernel_rfl
def zwS (P : Program) : Bool := P.funcs.toList.all fun fn => fn.name != "runtime.NumGoroutine"
def zjt:zwS Pg=true:=by kernel_rfl
def named:vK Pg:=by
 intro f fn hf _ he;have h:=aj.1 zjt fn (aC (by simpa using hf));simp[he]at h
def zsL{f:Nat}{fn:Func}(hf:Pg.funcs[f]?=some fn)(hb:fn.body.isSome=true):wh Pg f:=⟨fn,hf,hb,named f fn hf hb⟩
def YU:ownKnob Pg.godebug=none:=by kernel_rfl
def wx(f:FuncId):Nat:=bi (tb 129035027847231883390826435479712328755476844291075404606977437076104299714455797760 f) 1 (bi (tb 13919774398648024310545543477898068794004615955195957403531413794347771536153020377760664056 f) 2 (bi (tb 318305372202978941775769450187163326683643592213485169156535328905360759593899343837402112 f) 3 0))
def zFi{I:Nat->Value}{w:World}{v v2 v3:V}{x x2 x3:Value}(h:HR I w v x)(O:HR I w v2 x2)(h3:HR I w v3 x3):∀ (i:Nat) (u:V),[v,v2,v3][i]?=some u->∃ y,#[x,x2,x3][i]?=some y/\HR I w u y:=by
 intro i u hu
 match i,hu with
 | 0,hu=>cases hu;exact⟨_,rfl,h⟩
 | 1,hu=>cases hu;exact⟨_,rfl,O⟩
 | 2,hu=>cases hu;exact⟨_,rfl,h3⟩
open Go.RowKit Go.WideShapes Go.ChangeShapes
section
variable {H:Type}{enc:TypeId×Value->H}{P:Program}
def zed{f:Func}{s:ChangeSpec}{apart fresh handsOn again:Bool}{h2 W':World}{args:Array Value}{v:Value}{ds gs:Z (DataW H)}{before pa pv:Z MemPlace}
 (hW:DataW.Whole enc P f.params.toList s.vars apart h2 args.toList ds gs before)
 (nB:∀ (b:Nat) (sp:Nat->Bool) (hd:Bool),DataW.TrodAll enc P W' b sp hd f.resultTypes.toList (v.resultList f.resultTypes.size) (s.fn H (ds++gs)).results [])
 (ef:∀ sp:Nat->Bool,(∀ p∈before,sp p.block=true)->DataW.TrodAll enc P W' 0 sp true f.params.toList args.toList (s.fn H (ds++gs)).args pa)
 (Of:∀ sp:Nat->Bool,(∀ p∈before,sp p.block=true)->DataW.TrodVars enc P W' sp s.vars (s.fn H (ds++gs)).vars pv)
 (rn:before=pa++pv) (hb:Below h2.heap.size h2 W')
 (er:∀ (j:Nat) (t:TypeId) (r:Value),f.resultTypes[j]?=some t->(v.resultList f.resultTypes.size)[j]?=some r->Value.okWide P W' .any 0 t r) :
 s.post enc P f apart fresh handsOn again h2 args v W':=by
 have cC:∀ p∈before,p.block<h2.heap.size:=λp hp=>hW.lt p hp
 have hold:∀ p∈before,(λb=>decide (b<h2.heap.size)) p.block=true:=λp hp=>by simpa using cC p hp
 refine⟨ds,gs,before,[],pa,pv,hW,nB _ _ _,ef _ hold,Of _ hold,World.keptBut_mono (λp hp=>⟨hp,?_⟩) (hb.frame (·∈before)),λ_=>?_⟩
 . rw[rn,bA]at hp;exact Or.inr hp
 . obtain⟨_,_,_,_,_,hz,hn⟩:=hW;refine⟨er,_,_,([]++pa)++pv,⟨[]++pa,pv,trodAll_append (ef _ (λ_ _=>rfl)) (nB _ _ _),Of _ (λ_ _=>rfl),rfl,?_,?_⟩,?_⟩
   . intro b off hp;have gS:MemPlace.cell b off∈before:=by rw[rn];simpa using hp
     rw[hb.frozen (cC _ gS)];exact hz b off gS
   . intro ha;have:=hn ha;rw[rn]at this;simpa using this
   . intro p hp _;rw[rn];simpa using hp
end
end Go.Proofs.YtfloillkpbhhhaaGreat
