/- Exchanging the sides of equations, and their order, does not matter for whether they have a solution, and the solutions are as general as one another: true at every choice of data declarations, codes and number of equations; the arguments read afterwards as they read before. No condition. -/
import Derived.Test.YtfgmnebfhemnpaaKXB
import Derived.Below
import Derived.Test.YtfgmnebfhemnpaaJEnd
import Derived.Test.YtfgmnebfhemnpaaKF18
set_option linter.all false
noncomputable section
namespace Go.Proofs.Ytfgmnebfhemnpaa
open Go.J
open Go.J.Enc (enc)
theorem good0:J.Good fun _=>Value.int .i64 0:=fun _=>rfl
theorem vFirst18{ρ:Nat→Value}(hρ:J.Good ρ):Valid ρ Try.prog 4 yesS:=v0 (fnOk Try.func4 (by kernel_rfl)) fun hs =>
 pure_callOk hρ (E:=EL []) (consOk_list valid_nil) follows named first18 rfl
theorem laidOut1:laidOutB Try.prog=true:=by kernel_rfl
theorem plain22:plainB Try.prog [22,3]=true:=by kernel_rfl
end Go.Proofs.Ytfgmnebfhemnpaa
namespace Go.Proofs.Ytfgmnebfhemnpaa.solveTurns
open Go.J Go.ChangeShapes Go.WideShapes Go.ChangeAt Go.RowKit
open Go.J.Enc (enc)
theorem walk(a0:Int)(a1:List Int)(v1:Value)(a2:Int)(w:World)(h1:Val (fun _=>Value.int .i64 0) w (Enc.enc a1) v1) :
 Calls Try.prog 3 #[.int .i64 a0,v1,.int .i64 a2] w fun e w'=>e=.returned (.bool true)∧Below w.heap.size w w':=by
 refine call_true (ρ:=fun _=>Value.int .i64 0) (SolveTurns_run good0 (E:=EL [(4,yesS),(5,fewS),(6,embS made18M),(7,fnS (spec1 suF)),(8,fnS (spec3 prF))]) rfl
  (consOk_list (valid_cons (vFirst18 good0) (valid_cons (vFew good0) (valid_cons (vMade18 good0) (valid_cons (vSolve good0) (valid_cons (vPrincipal good0) valid_nil)))))) rfl rfl rfl rfl rfl  (bits:=a0) (codes:=a1) (n:=a2) emptyHS) rfl ?_
 exact args3 (.int .i64 a0) h1 (.int .i64 a2)
set_option maxRecDepth 100000 in
theorem lifted(os:Os)(started:os.Started)(H:Type)(enc:TypeId×Value→H) :
 ReturnsInHanded {} Try.checked os 3 .any (Rows.solveTurnsSpec.pre6 enc Try.prog Try.f3 Rows.solveTurnsRow.domain false) (Rows.solveTurnsSpec.post enc Try.prog Try.f3 false true false false):=by
 refine returnsInHanded_of_change (C:=Try.checked) ownKnob_none started (by kernel_rfl) Try.func3
  (ChangeSpec.witness6 (enc:=enc) (C:=Try.checked) false ⟨#[],#[.int .i64 0,.slice none 0 0,.int .i64 0],[]⟩ 8 (by kernel_rfl) (by kernel_rfl) (by kernel_rfl) (by kernel_rfl)) ?_
 intro W base args ds gs before hval0 hW hcnd _
 have hval:∀ (j:Nat) t v,Try.f3.params[j]?=some t→args[j]?=some v→Value.okWide Try.prog W .any base t v:=hval0
 have hW':=hW
 have hlt:∀ p∈before,p.block<W.heap.size:=fun p hp=>hW.lt p hp
 obtain⟨p,q,hA0,hV,rfl,hfz,hnd⟩:=hW
 have hA:DataW.TrodAll enc Try.prog W 0 (fun _=>true) true Try.f3.params.toList args.toList ds p:=hA0
 have hA1:=hA
 rw[Try.params3]at hA hval
 obtain⟨v0,vs0,d0,ds0,p0,q0,hargs,rfl,rfl,h0,r0⟩:=trodAll_cons hA
 obtain⟨v1,vs1,d1,ds1,p1,q1,rfl,rfl,rfl,h1,r1⟩:=trodAll_cons r0
 obtain⟨v2,vs2,d2,ds2,p2,q2,rfl,rfl,rfl,h2,r2⟩:=trodAll_cons r1
 obtain⟨rfl,rfl,rfl⟩:=trodAll_nil r2
 obtain rfl:args=#[v0,v1,v2]:=by cases args;simp_all
 obtain⟨rfl,rfl⟩:=trodVars_none hV
 obtain⟨a0,rfl,rfl,rfl,w0⟩:=open_int Try.underlying3 (hval 0 3 v0 rfl rfl) h0
 obtain⟨a2,rfl,rfl,rfl,w2⟩:=open_int Try.underlying3 (hval 2 3 v2 rfl rfl) h2
 have hcell:∀ (j:Nat) (v:Value) (d:DataW H) (ps:List MemPlace),(∀ t,Try.f3.params[j]?=some t→Value.okWide Try.prog W .any base t v)→Try.f3.params[j]?=some 22→DataW.Trod enc Try.prog W 0 (fun _=>true) true 22 v d ps→v.cells.toList=[v]:=by
  intro j v d ps hv hj hd
  obtain⟨fuel,hf⟩:=hd
  obtain⟨vs,g1,g2,g3⟩:=read_cells (fun _=>Value.int .i64 0) plain22 fuel 22 _ _ (by simp) hf
  have hc:Try.prog.cellsOf 22=1:=by kernel_rfl
  rw[hc]at g3
  have hl:=g2.1
  rw[g3]at hl
  cases v<;>first|rfl|skip
  rename_i cs
  exfalso
  have hh:=hv 22 hj
  unfold Value.okWide at hh
  rw[Try.underlying22]at hh
  exact hh
 obtain⟨a1,_,_,hv1⟩:=read_ints (ρ:=fun _=>Value.int .i64 0) Try.underlying22 Try.underlying3 plain22 (hcell 1 v1 _ _ (fun t ht=>by rw[Try.params3]at ht;exact hval 1 t v1 ht rfl) (by rw[Try.params3];rfl) h1) h1
 refine(walk a0 a1 v1 a2 W hv1).mono fun e W' ⟨he,hg⟩=>?_
 subst he
 simp only[List.append_nil]at hlt
 exact⟨_,rfl,post_below (pa:=_) (pv:=[]) hW' (fun _ _ _=>(trodAll_cons_mk (shut_bool Try.underlying4 _) trodAll_mk0))
  (fun sp hsp=>by
    exact args_after laidOut1 hg (sp:=sp) (ts:=Try.f3.params.toList) (by rw[Try.params3];decide) hA1 (by simpa using hlt) (by simpa using hsp)) (fun _ _=>rfl) (by simp)
  hg (ok_one (by kernel_rfl) rfl (okWide_bool_mk Try.underlying4 _))⟩
theorem over:Rows.solveTurnsRow.holds Try.pinned (OpenSpec.ofChange Rows.solveTurnsSpec) :=
 OpenClaim.holds_of_wide 3 Try.f3 rfl rfl rfl rfl rfl rfl rfl ⟨rfl,rfl,rfl,rfl,rfl⟩ rfl rfl rfl rfl rfl (by kernel_rfl) Try.func3 (by kernel_rfl)
  (of_decide_eq_true (by kernel_rfl)) (by unfold Func.isWrapper;first|(rw[if_pos (by decide +kernel)];kernel_rfl)|(rw[if_neg (by decide +kernel)];exact⟨rfl,rfl⟩))
  (fun os started H enc _=>lifted os started H enc)
theorem proved:Rows.SolveTurnsSaid :=
 over
#print axioms proved
end Go.Proofs.Ytfgmnebfhemnpaa.solveTurns
