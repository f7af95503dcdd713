import Derived.Test.YtfloillkpbhhhaaGreatJK5
import Derived.Test.YtfloillkpbhhhaaGreatJK6
import Derived.Test.YtfloillkpbhhhaaGreatRows
import Derived.WalkKit
import Derived.ProofKit
import Derived.OpenShut
import Derived.Lib.Hide
import Derived.ChangeSame
import Derived.Below
set_option linter.all false
noncomputable section
namespace Go.Proofs.YtfloillkpbhhhaaGreat
open Go.J
abbrev Pg:Program:=Tryz.prog
theorem follows:Pg.follows .mixedOrders=true:=by kernel_rfl
def zyr (P : Program) : Bool := P.funcs.toList.all fun fn => fn.name != "runtime.NumGoroutine"
def zkE:zyr Pg=true:=by kernel_rfl
def named:vX Pg:=by
 intro f fn hf _ he;have h:=au.1 zkE fn (aI (by simpa using hf));simp[he]at h
def zuk{f:Nat}{fn:Func}(hf:Pg.funcs[f]?=some fn)(hb:fn.body.isSome=true):vM Pg f:=⟨fn,hf,hb,named f fn hf hb⟩
def Z9:ownKnob Pg.godebug=none:=by kernel_rfl
def zj(f:FuncId):Nat:=bi (tb 129035027847231883390826435479712328755476844291075404606977437076104299714455797760 f) 1 (bi (tb 13919774398648024310545543477898068794004615955195957403531413794347771536153020377760664056 f) 2 (bi (tb 318305372202978941775769450187163326683643592213485169156535328905360759593899343837402112 f) 3 0))
def zHd{I:Nat->Value}{w:World}{v v2:V}{x x2:Value}(h:P4 I w v x)(O:P4 I w v2 x2):∀ (i:Nat) (u:V),[v,v2][i]?=some u->∃ y,#[x,x2][i]?=some y/\P4 I w u y:=by
 intro i u hu
 match i,hu with
 | 0,hu=>cases hu;exact⟨_,rfl,h⟩
 | 1,hu=>cases hu;exact⟨_,rfl,O⟩
open Go.RowKit Go.WideShapes Go.ChangeShapes
section
variable {H:Type}{enc:TypeId×Value->H}{P:Program}
def zfh{f:Func}{s:ChangeSpec}{apart fresh handsOn again:Bool}{er W':World}{args:Array Value}{v:Value}{ds gs:Z (DataW H)}{before pa pv:Z MemPlace}
 (hW:DataW.Whole enc P f.params.toList s.vars apart er args.toList ds gs before)
 (oj:∀ (b:Nat) (sp:Nat->Bool) (hd:Bool),DataW.TrodAll enc P W' b sp hd f.resultTypes.toList (v.resultList f.resultTypes.size) (s.fn H (ds++gs)).results [])
 (eg:∀ sp:Nat->Bool,(∀ p∈before,sp p.block=true)->DataW.TrodAll enc P W' 0 sp true f.params.toList args.toList (s.fn H (ds++gs)).args pa)
 (S1:∀ sp:Nat->Bool,(∀ p∈before,sp p.block=true)->DataW.TrodVars enc P W' sp s.vars (s.fn H (ds++gs)).vars pv)
 (oX:before=pa++pv) (hb:Below er.heap.size er W')
 (eC:∀ (j:Nat) (t:TypeId) (r:Value),f.resultTypes[j]?=some t->(v.resultList f.resultTypes.size)[j]?=some r->Value.okWide P W' .any 0 t r) :
 s.post enc P f apart fresh handsOn again er args v W':=by
 have cG:∀ p∈before,p.block<er.heap.size:=λp hp=>hW.lt p hp;have hold:∀ p∈before,(λb=>decide (b<er.heap.size)) p.block=true:=λp hp=>by simpa using cG p hp
 refine⟨ds,gs,before,[],pa,pv,hW,oj _ _ _,eg _ hold,S1 _ hold,World.keptBut_mono (λp hp=>⟨hp,?_⟩) (hb.frame (·∈before)),λ_=>?_⟩;rw[oX,bu]at hp;exact Or.inr hp;let⟨_,_,_,_,_,hz,hn⟩:=hW;refine⟨eC,_,_,([]++pa)++pv,⟨[]++pa,pv,trodAll_append (eg _ (λ_ _=>rfl)) (oj _ _ _),S1 _ (λ_ _=>rfl),rfl,?_,?_⟩,?_⟩;intro b off hp;have h1:MemPlace.cell b off∈before:=by rw[oX];simpa using hp
 rw[hb.frozen (cG _ h1)];exact hz b off h1;intro ha;have:=hn ha;rw[oX]at this;simpa using this;intro p hp _;rw[oX];simpa using hp
end
end Go.Proofs.YtfloillkpbhhhaaGreat
