import Derived.Test.YtjilhkjgejnmpaaGreatDoorJArg
import Derived.Test.YtjilhkjgejnmpaaGreatDoorJG
import Derived.Test.YtjilhkjgejnmpaaGreatDoorRows
import Derived.WalkKit
import Derived.ProofKit
import Derived.OpenShut
import Derived.Lib.Hide
import Derived.ChangeSame
import Derived.Below
set_option linter.all false
noncomputable section
/- The seat's program: what the evaluator wants to know of it. -/
namespace Go.Proofs.YtjilhkjgejnmpaaGreatDoor
open Go.J
theorem follows:Tryz.prog.follows .mixedOrders=true:=by kernel_rfl
def namedB (P : Program) : Bool := P.funcs.toList.all fun fn => fn.name != "runtime.NumGoroutine"
theorem namedB_ok:namedB Tryz.prog=true:=by kernel_rfl
theorem named:Named Tryz.prog:=by
 intro f fn hf _ he
 have h:=List.all_eq_true.1 namedB_ok fn (List.mem_of_getElem? (by simpa using hf))
 simp[he]at h
theorem fnOk{f:Nat}{fn:Func}(hf:Tryz.prog.funcs[f]?=some fn)(hb:fn.body.isSome=true):FnOk Tryz.prog f:=⟨fn,hf,hb,named f fn hf hb⟩
theorem ownKnob_none:ownKnob Tryz.prog.godebug=none:=by kernel_rfl
def pol(f:FuncId):Nat:=bi (tb 6257776508592961261977062568502963948575862250772460869379112394413624760432270846924012126208 f) 1 (bi (tb 10362765389226375575350444228846413074947285968163968446654637327693340575865053637852650766456 f) 2 (bi (tb 517376217082408183761427919745038651627152982370226763170726652233447966108862813020963858841479 f) 3 0))
theorem run_true{ρ:Nat→Value}(hρ:J.Good ρ){L:List (Nat×J.Spec)}(hL:∀ p∈L,Valid ρ Tryz.prog p.1 p.2){n f:Nat}{vs:List V}(h:runJ (envL Tryz.prog pol L) n f vs=some (.bool true)){w:World}{xs:Array Value}
 (hlen:xs.size=vs.length) (hA:∀ (i:Nat) (v:V),vs[i]?=some v→∃ x,xs[i]?=some x∧Val ρ w v x)
 (hg:Gl ρ w (fun b=>b<w.heap.size):=by exact fun v hv=>absurd rfl hv) :
 Calls Tryz.prog f xs w fun e w'=>e=.returned (.bool true)∧RowKit.Below w.heap.size w w':=by
 refine(run_calls hρ (E:=envL Tryz.prog pol L) (consOk_list hL) follows named h hlen hA hg).mono fun e w' ⟨x,h1,h2,h3⟩=>⟨?_,h3⟩
 cases h2
 exact h1
theorem args2{ρ:Nat→Value}{w:World}{v v2:V}{x x2:Value}(h:Val ρ w v x)(h2:Val ρ w v2 x2):∀ (i:Nat) (u:V),[v,v2][i]?=some u→∃ y,#[x,x2][i]?=some y∧Val ρ w u y:=by
 intro i u hu
 match i,hu with
 | 0,hu=>cases hu;exact⟨_,rfl,h⟩
 | 1,hu=>cases hu;exact⟨_,rfl,h2⟩
theorem mod_nat(n:Int){m:Nat}(hm:0<m):∃ r,r<m∧n % (m:Int)=(r:Nat):=by
 have h1:=Int.emod_nonneg n (show (m:Int)≠0 by omega)
 have h2:=Int.emod_lt_of_pos n (show (0:Int)<m by omega)
 exact⟨(n % (m:Int)).toNat,by omega,by omega⟩
def trueV(vs:List V):Option V:=match vs with | []=>some (.bool true)|_=>none
theorem true_valid{ρ:Nat→Value}(hρ:J.Good ρ){f n:Nat}{fn:Func}{L:List (Nat×J.Spec)}(hL:∀ p∈L,Valid ρ Tryz.prog p.1 p.2)(hf:Tryz.prog.funcs[f]?=some fn)(hb:fn.body.isSome=true)(h:runJ (envL Tryz.prog pol L) n f []=some (.bool true)):Valid ρ Tryz.prog f (pureS trueV):=by
 refine Valid.pure hρ follows named (fnOk hf hb) fun vs v hp hv=>?_
 unfold trueV at hv
 split at hv
 · cases hv
   exact⟨_,n,consOk_list hL,rfl,h⟩
 · cases hv
end Go.Proofs.YtjilhkjgejnmpaaGreatDoor
namespace Go.Proofs.YtjilhkjgejnmpaaGreatDoor
open Go.RowKit Go.WideShapes Go.ChangeShapes
section
variable {H:Type}{enc:TypeId×Value→H}{P:Program}
theorem post_below{f:Func}{s:ChangeSpec}{apart fresh handsOn again:Bool}{W W':World}{args:Array Value}{v:Value}{ds gs:List (DataW H)}{before pa pv:List MemPlace}
 (hW:DataW.Whole enc P f.params.toList s.vars apart W args.toList ds gs before)
 (hres:∀ (b:Nat) (sp:Nat→Bool) (hd:Bool),DataW.TrodAll enc P W' b sp hd f.resultTypes.toList (v.resultList f.resultTypes.size) (s.fn H (ds++gs)).results [])
 (hargs:∀ sp:Nat→Bool,(∀ p∈before,sp p.block=true)→DataW.TrodAll enc P W' 0 sp true f.params.toList args.toList (s.fn H (ds++gs)).args pa)
 (hvars:∀ sp:Nat→Bool,(∀ p∈before,sp p.block=true)→DataW.TrodVars enc P W' sp s.vars (s.fn H (ds++gs)).vars pv)
 (hps:before=pa++pv) (hb:Below W.heap.size W W')
 (hok:∀ (j:Nat) (t:TypeId) (r:Value),f.resultTypes[j]?=some t→(v.resultList f.resultTypes.size)[j]?=some r→Value.okWide P W' .any 0 t r) :
 s.post enc P f apart fresh handsOn again W args v W':=by
 have hlt:∀ p∈before,p.block<W.heap.size:=fun p hp=>hW.lt p hp
 have hold:∀ p∈before,(fun b=>decide (b<W.heap.size)) p.block=true:=fun p hp=>by simpa using hlt p hp
 refine⟨ds,gs,before,[],pa,pv,hW,hres _ _ _,hargs _ hold,hvars _ hold,World.keptBut_mono (fun p hp=>⟨hp,?_⟩) (hb.frame (·∈before)),fun _=>?_⟩
 · rw[hps,List.mem_append]at hp
   exact Or.inr hp
 · obtain⟨_,_,_,_,_,hz,hn⟩:=hW
   refine⟨hok,_,_,([]++pa)++pv,⟨[]++pa,pv,trodAll_append (hargs _ (fun _ _=>rfl)) (hres _ _ _),hvars _ (fun _ _=>rfl),rfl,?_,?_⟩,?_⟩
   · intro b off hp
     have hin:MemPlace.cell b off∈before:=by rw[hps];simpa using hp
     rw[hb.frozen (hlt _ hin)]
     exact hz b off hin
   · intro ha
     have:=hn ha
     rw[hps]at this
     simpa using this
   · intro p hp _
     rw[hps]
     simpa using hp
end
end Go.Proofs.YtjilhkjgejnmpaaGreatDoor
