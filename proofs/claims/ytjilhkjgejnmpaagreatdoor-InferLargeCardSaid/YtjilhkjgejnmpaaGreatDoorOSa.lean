import Derived.Test.YtjilhkjgejnmpaaGreatDoorJX2
import Derived.Test.YtjilhkjgejnmpaaGreatDoorJX1
import Derived.Test.YtjilhkjgejnmpaaGreatDoorRows
import Derived.WalkKit
import Derived.ProofKit
import Derived.OpenShut
import Derived.Lib.Hide
import Derived.ChangeSame
import Derived.Below
import Derived.Test.YtjilhkjgejnmpaaGreatDoorDFa
import Derived.ChangeVars
import Derived.JoinedOf
import Derived.RowKit
import Derived.RowKitTokens
import Derived.LaidLaws
import Derived.LaidHandle
import Derived.Stop.Joined
set_option linter.all false
noncomputable section
/- The seat's program: what the evaluator wants to know of it. -/
namespace Go.Proofs.YtjilhkjgejnmpaaGreatDoor
open Go.J
theorem follows:Tryz.prog.follows .mixedOrders=true:=by kernel_rfl
def namedB (P : Program) : Bool := P.funcs.toList.all fun fn => fn.name != "runtime.NumGoroutine"
theorem namedB_ok:namedB Tryz.prog=true:=by kernel_rfl
theorem named:Named Tryz.prog:=by
 intro f fn hf _ he
 have h:=List.all_eq_true.1 namedB_ok fn (List.mem_of_getElem? (by simpa using hf))
 simp[he]at h
theorem fnOk{f:Nat}{fn:Func}(hf:Tryz.prog.funcs[f]?=some fn)(hb:fn.body.isSome=true):FnOk Tryz.prog f:=⟨fn,hf,hb,named f fn hf hb⟩
theorem ownKnob_none:ownKnob Tryz.prog.godebug=none:=by kernel_rfl
def pol(f:FuncId):Nat:=bi (tb 6257776508592961261977062568502963948575862250772460869379112394413624760432270846924012126208 f) 1 (bi (tb 10362765389226375575350444228846413074947285968163968446654637327693340575865053637852650766456 f) 2 (bi (tb 517376217082408183761427919745038651627152982370226763170726652233447966108862813020963858841479 f) 3 0))
theorem run_true{ρ:Nat→Value}(hρ:J.Good ρ){L:List (Nat×J.Spec)}(hL:∀ p∈L,Valid ρ Tryz.prog p.1 p.2){n f:Nat}{vs:List V}(h:runJ (envL Tryz.prog pol L) n f vs=some (.bool true)){w:World}{xs:Array Value}
 (hlen:xs.size=vs.length) (hA:∀ (i:Nat) (v:V),vs[i]?=some v→∃ x,xs[i]?=some x∧Val ρ w v x)
 (hg:Gl ρ w (fun b=>b<w.heap.size):=by exact fun v hv=>absurd rfl hv) :
 Calls Tryz.prog f xs w fun e w'=>e=.returned (.bool true)∧RowKit.Below w.heap.size w w':=by
 refine(run_calls hρ (E:=envL Tryz.prog pol L) (consOk_list hL) follows named h hlen hA hg).mono fun e w' ⟨x,h1,h2,h3⟩=>⟨?_,h3⟩
 cases h2
 exact h1
theorem args2{ρ:Nat→Value}{w:World}{v v2:V}{x x2:Value}(h:Val ρ w v x)(h2:Val ρ w v2 x2):∀ (i:Nat) (u:V),[v,v2][i]?=some u→∃ y,#[x,x2][i]?=some y∧Val ρ w u y:=by
 intro i u hu
 match i,hu with
 | 0,hu=>cases hu;exact⟨_,rfl,h⟩
 | 1,hu=>cases hu;exact⟨_,rfl,h2⟩
theorem mod_nat(n:Int){m:Nat}(hm:0<m):∃ r,r<m∧n % (m:Int)=(r:Nat):=by
 have h1:=Int.emod_nonneg n (show (m:Int)≠0 by omega)
 have h2:=Int.emod_lt_of_pos n (show (0:Int)<m by omega)
 exact⟨(n % (m:Int)).toNat,by omega,by omega⟩
def trueV(vs:List V):Option V:=match vs with | []=>some (.bool true)|_=>none
theorem true_valid{ρ:Nat→Value}(hρ:J.Good ρ){f n:Nat}{fn:Func}{L:List (Nat×J.Spec)}(hL:∀ p∈L,Valid ρ Tryz.prog p.1 p.2)(hf:Tryz.prog.funcs[f]?=some fn)(hb:fn.body.isSome=true)(h:runJ (envL Tryz.prog pol L) n f []=some (.bool true)):Valid ρ Tryz.prog f (pureS trueV):=by
 refine Valid.pure hρ follows named (fnOk hf hb) fun vs v hp hv=>?_
 unfold trueV at hv
 split at hv
 · cases hv
   exact⟨_,n,consOk_list hL,rfl,h⟩
 · cases hv
end Go.Proofs.YtjilhkjgejnmpaaGreatDoor
namespace Go.Proofs.YtjilhkjgejnmpaaGreatDoor
open Go.RowKit Go.WideShapes Go.ChangeShapes
section
variable {H:Type}{enc:TypeId×Value→H}{P:Program}
theorem post_below{f:Func}{s:ChangeSpec}{apart fresh handsOn again:Bool}{W W':World}{args:Array Value}{v:Value}{ds gs:List (DataW H)}{before pa pv:List MemPlace}
 (hW:DataW.Whole enc P f.params.toList s.vars apart W args.toList ds gs before)
 (hres:∀ (b:Nat) (sp:Nat→Bool) (hd:Bool),DataW.TrodAll enc P W' b sp hd f.resultTypes.toList (v.resultList f.resultTypes.size) (s.fn H (ds++gs)).results [])
 (hargs:∀ sp:Nat→Bool,(∀ p∈before,sp p.block=true)→DataW.TrodAll enc P W' 0 sp true f.params.toList args.toList (s.fn H (ds++gs)).args pa)
 (hvars:∀ sp:Nat→Bool,(∀ p∈before,sp p.block=true)→DataW.TrodVars enc P W' sp s.vars (s.fn H (ds++gs)).vars pv)
 (hps:before=pa++pv) (hb:Below W.heap.size W W')
 (hok:∀ (j:Nat) (t:TypeId) (r:Value),f.resultTypes[j]?=some t→(v.resultList f.resultTypes.size)[j]?=some r→Value.okWide P W' .any 0 t r) :
 s.post enc P f apart fresh handsOn again W args v W':=by
 have hlt:∀ p∈before,p.block<W.heap.size:=fun p hp=>hW.lt p hp
 have hold:∀ p∈before,(fun b=>decide (b<W.heap.size)) p.block=true:=fun p hp=>by simpa using hlt p hp
 refine⟨ds,gs,before,[],pa,pv,hW,hres _ _ _,hargs _ hold,hvars _ hold,World.keptBut_mono (fun p hp=>⟨hp,?_⟩) (hb.frame (·∈before)),fun _=>?_⟩
 · rw[hps,List.mem_append]at hp
   exact Or.inr hp
 · obtain⟨_,_,_,_,_,hz,hn⟩:=hW
   refine⟨hok,_,_,([]++pa)++pv,⟨[]++pa,pv,trodAll_append (hargs _ (fun _ _=>rfl)) (hres _ _ _),hvars _ (fun _ _=>rfl),rfl,?_,?_⟩,?_⟩
   · intro b off hp
     have hin:MemPlace.cell b off∈before:=by rw[hps];simpa using hp
     rw[hb.frozen (hlt _ hin)]
     exact hz b off hin
   · intro ha
     have:=hn ha
     rw[hps]at this
     simpa using this
   · intro p hp _
     rw[hps]
     simpa using hp
end
end Go.Proofs.YtjilhkjgejnmpaaGreatDoor
/- The errors of inference: infer.Fault and errors.Is at them. -/
namespace Go.Proofs.YtjilhkjgejnmpaaGreatDoor
open Go.J
def faultSp(vs:List V):Option V:=match vs with
 | [.iface t (.agg [.int k p,.int l q])]=>gd (et (Nat.beq t 272) (et (kindEq k .i64) (kindEq l .i64))) (some (.agg [.int .i64 q,.int .i64 p]))
 |_=>none
def isSp(vs:List V):Option V:=match vs with
 | [.iface t (.agg [.int k p,.int l q]),.iface u (.int m c)]=>gd (et (et (Nat.beq t 272) (Nat.beq u 214)) (et (kindEq m .i64) (et (kindEq k .i64) (kindEq l .i64)))) (some (.bool (eqI q c)))
 |_=>none
section
variable {ρ:Nat→Value}
theorem err_val{w:World}{F:Nat→Prop}{μ:Nat→Nat→Option MI}{t:TypeId}{p q:Int}{x:Value}(h:Rep ρ w F μ (.iface t (.agg [.int .i64 p,.int .i64 q])) x):x=.iface t (.agg #[.int .i64 p,.int .i64 q]):=by
 obtain⟨y,rfl,hy⟩:=h.iface_inv
 obtain⟨ys,rfl,hs,hc⟩:=hy.agg_inv
 have h0:=(hc 0 _ rfl).int_inv
 have h1:=(hc 1 _ rfl).int_inv
 have:ys=#[.int .i64 p,.int .i64 q]:=by
  refine Array.ext hs fun i h2 h3=>?_
  match i with
  | 0=>simpa [Array.getD,h2]using h0
  | 1=>simpa [Array.getD,h2]using h1
  |i+2=>simp at h3;omega
 rw[this]
theorem vFault(hg:ρ gB=.iface 318 (.agg #[.pointer (some ⟨1,143,none⟩)])):Valid ρ Tryz.prog 58 (outS faultSp):=Valid.out (fnOk Tryz.func58 (by kernel_rfl)) fun vs v hv w F μ xs hA hG=>by
 unfold faultSp at hv
 split at hv
 · rename_i t k p l q
   simp only[gd_eq,et_true,J.beq_true,kindEq_true]at hv
   obtain⟨⟨rfl,rfl,rfl⟩,hv⟩:=hv
   cases hv
   obtain⟨x,hx,hr⟩:=hA.2 0 _ rfl
   have e:=err_val hr
   subst e
   have hxs:xs=#[.iface 272 (.agg #[.int .i64 p,.int .i64 q])]:=by
    refine Array.ext hA.1 fun i h2 h3=>?_
    have h1:xs.size=1:=hA.1
    obtain rfl:i=0:=by omega
    rw[Array.getElem?_eq_getElem h2]at hx
    exact Option.some.inj hx
   subst hxs
   have hgl:=(hG 0 (by show ρ gB≠_;rw[hg];simp)).2
   replace hgl:w.cell? ⟨0,0,none⟩=some (ρ gB):=hgl
   rw[hg]at hgl
   refine(fault_calls p q w hgl).mono fun e w' he=>?_
   obtain⟨rfl,h1,h2,h3⟩:=he
   refine⟨_,rfl,.agg _ _ rfl fun i u hu=>?_,h1,h2,h3⟩
   match i,hu with
   | 0,hu=>cases hu;exact .int _ _
   | 1,hu=>cases hu;exact .int _ _
 · cases hv
theorem vIs:Valid ρ Tryz.prog 182 (outS isSp):=Valid.out (fnOk Tryz.func182 (by kernel_rfl)) fun vs v hv w F μ xs hA hG=>by
 unfold isSp at hv
 split at hv
 · rename_i t k p l q u m c
   simp only[gd_eq,et_true,J.beq_true,kindEq_true]at hv
   obtain⟨⟨⟨rfl,rfl⟩,rfl,rfl,rfl⟩,hv⟩:=hv
   cases hv
   obtain⟨x,hx,hr⟩:=hA.2 0 _ rfl
   obtain⟨y,hy,hs⟩:=hA.2 1 _ rfl
   have e:=err_val hr
   subst e
   obtain⟨z,rfl,hz⟩:=hs.iface_inv
   have e2:=hz.int_inv
   subst e2
   have hxs:xs=#[.iface 272 (.agg #[.int .i64 p,.int .i64 q]),.iface 214 (.int .i64 c)]:=by
    refine Array.ext hA.1 fun i h2 h3=>?_
    have h1:xs.size=2:=hA.1
    match i with
    | 0 =>
      rw[Array.getElem?_eq_getElem h2]at hx
      exact Option.some.inj hx
    | 1 =>
      rw[Array.getElem?_eq_getElem h2]at hy
      exact Option.some.inj hy
    |i+2=>omega
   subst hxs
   refine(is_calls p q c w).mono fun e w' he=>?_
   obtain⟨rfl,rfl⟩:=he
   have hh:∀ (W:World) (o:Go.Obj) (b:Nat),b<W.heap.size→(W.alloc o).heap[b]?=W.heap[b]?:=fun W o b hb=>by
    show (W.heap.push o)[b]?=_
    rw[Array.getElem?_push,if_neg (Nat.ne_of_lt hb)]
   have hsz:∀ (W:World) (o:Go.Obj),(W.alloc o).heap.size=W.heap.size+1:=fun W o=>Array.size_push ..
   refine⟨_,rfl,by rw[eqI_beq];exact .bool _,⟨rfl,rfl,rfl⟩,by simp only[hsz];omega,fun b hb=>?_⟩
   rw[hh _ _ _ (by simp only[hsz];omega),hh _ _ _ hb]
 · cases hv
end
end Go.Proofs.YtjilhkjgejnmpaaGreatDoor
/- Mod,of numbers that are left open. -/
namespace Go.Proofs.YtjilhkjgejnmpaaGreatDoor
open Go.J Go.RowKit
theorem tmod_mod(n m:Int):n % m=n.tmod m % m:=by
 have h:=Int.mul_tdiv_add_tmod n m
 calc n % m=(m*n.tdiv m+n.tmod m) % m:=by rw[h]
  _=n.tmod m % m:=by rw[Int.add_comm,Int.add_mul_emod_self_left]
theorem tmod_neg{n m:Int}(hm:1≤m)(h:n.tmod m<0):n % m=n.tmod m+m:=by
 have h1:=Int.lt_tmod_of_pos n (show 0<m by omega)
 rw[tmod_mod,← Int.add_emod_right,Int.emod_eq_of_lt (by omega) (by omega)]
theorem tmod_pos{n m:Int}(hm:1≤m)(h:0≤n.tmod m):n % m=n.tmod m:=by
 rw[tmod_mod,Int.emod_eq_of_lt h (Int.tmod_lt_of_pos n (by omega))]
theorem mod_any(n m:Int)(w:World)(hm:1≤m)(hm2:m≤1000000) :
 Calls Tryz.prog 6 #[.int .i64 n,.int .i64 m] w fun e w'=>e=.returned (.int .i64 (n % m))∧w=w':=by
 have hm0:¬ m<1:=by omega
 have hmz:m≠0:=by omega
 by_cases hn:n.tmod m<0
 · have h1:=Int.lt_tmod_of_pos n (show 0<m by omega)
   have e:=tmod_neg hm hn
   have H:=Lib.hid e
   clear e
   go_enter Tryz.func6,Tryz.ntmps6
   go_wp2
   go_ret
   exact⟨congrArg (fun z=>Ending.returned (.int .i64 z)) H.out.symm,rfl⟩
 · have e:=tmod_pos hm (show 0≤n.tmod m by omega)
   have H:=Lib.hid e
   clear e
   go_enter Tryz.func6,Tryz.ntmps6
   go_wp2
   go_ret
   exact⟨congrArg (fun z=>Ending.returned (.int .i64 z)) H.out.symm,rfl⟩
def conMod(l:List (Nat×Nat×Nat))(vs:List V)(hs:HS):Option (V×HS) :=
 match vs with
 | [.sym i,.int .i64 (.ofNat m)]=>lr none (fun p _ ih=>bi (et (Nat.beq p.1 i) (Nat.beq p.2.1 m)) (some (.int .i64 (.ofNat p.2.2),hs)) ih) l
 |_=>none
theorem conMod_eq {l:List (Nat×Nat×Nat)} {vs:List V} {hs:HS} {q:V×HS} (h:conMod l vs hs=some q):∃ i m r,(i,m,r)∈l∧vs=[.sym i,.int .i64 (m:Nat)]∧q=(.int .i64 (r:Nat),hs):=by
 unfold conMod at h
 split at h
 · rename_i i m
   induction l with
   |nil=>cases h
   | cons p l ih =>
     replace h:bi (et (Nat.beq p.1 i) (Nat.beq p.2.1 m)) (some (.int .i64 (.ofNat p.2.2),hs)) (lr none (fun (p:Nat×Nat×Nat) _ ih=>bi (et (Nat.beq p.1 i) (Nat.beq p.2.1 m)) (some (V.int .i64 (.ofNat p.2.2),hs)) ih) l)=some q:=h
     rw[bi_eq]at h
     split at h
     · rename_i e
       rw[et_true,J.beq_true,J.beq_true]at e
       cases h
       obtain⟨a,b,c⟩:=p
       obtain⟨rfl,rfl⟩:=e
       exact⟨_,_,_,List.mem_cons_self ..,rfl,rfl⟩
     · obtain⟨a,b,c,h1,h2⟩:=ih h
       exact⟨a,b,c,List.mem_cons_of_mem _ h1,h2⟩
 · cases h
theorem mod_valid{ρ:Nat→Value}{ns:Nat→Int}{l:List (Nat×Nat×Nat)}(hn:∀ p∈l,ρ p.1=.int .i64 (ns p.1))(hl:∀ p∈l,1≤p.2.1∧p.2.1≤1000000∧ns p.1 % (p.2.1:Int)=(p.2.2:Nat)):Valid ρ Tryz.prog 6 (conMod l) where
 fn:=fnOk Tryz.func6 (by kernel_rfl)
 ok:=by
  intro vs hs v hs' h
  obtain⟨i,m,r,hp,rfl,e⟩:=conMod_eq h
  cases e
  obtain⟨h1,h2,h3⟩:=hl _ hp
  refine scal_callOk rfl fun w F μ xs hA=>?_
  obtain⟨x,hx,hxr⟩:=hA.2 0 _ rfl
  obtain⟨y,hy,hyr⟩:=hA.2 1 _ rfl
  have ex:x=.int .i64 (ns i):=by
   cases hxr with|pure h=>cases h;exact hn _ hp
  have ey:=hyr.int_inv
  have e:xs=#[.int .i64 (ns i),.int .i64 m]:=by
   apply Array.ext_getElem?
   intro i
   match i with
   | 0=>rw[hx,ex];rfl
   | 1=>rw[hy,ey];rfl
   |i+2=>rw[Array.getElem?_eq_none (by rw[hA.1];simp)];simp
  rw[e]
  simp only at h1 h2 h3
  refine(mod_any (ns i) m w (by omega) (by omega)).mono fun e w' ⟨h1,h2⟩=>⟨_,h1,?_,h2.symm⟩
  rw[h3];exact .int _ _
 kept:=by
  intro vs hs q h
  obtain⟨_,_,_,_,_,rfl⟩:=conMod_eq h
  exact Kept.refl _
end Go.Proofs.YtjilhkjgejnmpaaGreatDoor
/- What start-up has laid: the handle of the type 'error'. -/
namespace Go.Proofs.YtjilhkjgejnmpaaGreatDoor
open Go.ChangeShapes Go.WideShapes Go.RowKit
abbrev laidL : List (String × DataW Unit) := [("errors.errorType", Rows.laid_errors_errorType)]
theorem Tryz.et : Tryz.prog.globalNamed "errors.errorType" = some 0 := by kernel_rfl
theorem Tryz.rt : (Tryz.prog.cutTypes.find? (·.1 == "internal/reflectlite.rtype")).map (·.2) = some 318 := by kernel_rfl
theorem Tryz.size:Tryz.prog.types.size=378:=by kernel_rfl
theorem Tryz.oneRow:((List.range 378).filter fun t=>Tryz.prog.rowNamed t [101,114,114,111,114])=[143]:=by kernel_rfl
theorem handle_of_laid{W:World}(h:laidMetH Tryz.prog laidL W):W.cell? ⟨0,0,none⟩=some (.iface 318 (.agg #[.pointer (some ⟨1,143,none⟩)])):=by
 have h':laidMet Tryz.prog [] W∧handlesMet Tryz.prog laidL W:=h
 obtain⟨name,u,ty,e1,e2,e3,e4,e5⟩:=h'.2 _ (List.mem_singleton.2 rfl)
 have en:name=[101,114,114,111,114]:=(Option.some.inj e1).symm
 subst en
 obtain rfl:=Option.some.inj (Tryz.rt.symm.trans e2)
 have hm:ty∈(List.range 378).filter fun t=>Tryz.prog.rowNamed t [101,114,114,111,114]:=List.mem_filter.2 ⟨List.mem_range.2 (by rw[← Tryz.size];exact e3),e4⟩
 rw[Tryz.oneRow]at hm
 obtain rfl:=List.mem_singleton.1 hm
 have hh:typeHandle Tryz.prog 143=.pointer (some ⟨1,143,none⟩):=by kernel_rfl
 rw[hh]at e5
 simpa using World.var?_cell Tryz.et e5 0
def laidWorld(os:Os):World :=
 let w0:=World.holding Tryz.prog os ⟨#[],#[],[]⟩
 { w0 with heap:=w0.heap.modify 0 fun
     |.cells _ t frozen=>.cells #[.iface 318 (.agg #[.pointer (some ⟨1,143,none⟩)])] t frozen
     |o=>o }
theorem laidWorld_met(os:Os)(args:Array Value):laidMetH Tryz.prog laidL ((laidWorld os).forCall (fun _ _=>0) ⟨#[],args,[]⟩).memory :=
 laidMetH_of_parts (laidMet_nil _ _) (by kernel_rfl)
end Go.Proofs.YtjilhkjgejnmpaaGreatDoor
/- The argument and what start-up has laid. -/
namespace Go.Proofs.YtjilhkjgejnmpaaGreatDoor
open Go.J
def rhoG(a:Int):Nat→Value:=fun k=>if k=gB then .iface 318 (.agg #[.pointer (some ⟨1,143,none⟩)])else if k=0 then .int .i64 a else .int .i64 0
theorem rhoG_good(a:Int):J.Good (rhoG a):=by
 intro k
 unfold rhoG
 split
 · rfl
 · split<;>rfl
theorem rhoG_laid(a:Int):rhoG a gB=.iface 318 (.agg #[.pointer (some ⟨1,143,none⟩)]):=by simp[rhoG]
theorem rhoG_zero(a:Int):rhoG a 0=.int .i64 a:=by
 unfold rhoG
 rw[if_neg (by decide),if_pos rfl]
theorem rhoG_gl(a:Int){w:World}(h:w.cell? ⟨0,0,none⟩=some (.iface 318 (.agg #[.pointer (some ⟨1,143,none⟩)]))):Gl (rhoG a) w (fun b=>b<w.heap.size):=by
 intro v hv
 by_cases h0:v=0
 · subst h0
   refine⟨?_,by rw[h];exact congrArg some (rhoG_laid a).symm⟩
   show 0<w.heap.size
   by_cases hs:0<w.heap.size
   · exact hs
   · exfalso
     have:w.heap=#[]:=Array.eq_empty_of_size_eq_zero (by omega)
     simp[World.cell?,this]at h
 · exact absurd (by unfold rhoG;rw[if_neg (by omega),if_neg (by unfold gB;omega)]) hv
end Go.Proofs.YtjilhkjgejnmpaaGreatDoor
