/- Every unifier of two types factors through the one that is found: true at every choice of data declarations and codes; the arguments read afterwards as they read before. No condition. -/
import Derived.Test.YthfcfmkdeheicaaPLPr
import Derived.Below
import Derived.Test.YthfcfmkdeheicaaJEnd
import Derived.Test.YthfcfmkdeheicaaPF15
set_option linter.all false
noncomputable section
namespace Go.Proofs.Ythfcfmkdeheicaa
open Go.J
open Go.J.Enc (enc)
theorem good0:J.Good fun _=>Value.int .i64 0:=fun _=>rfl
theorem vFirst15 {ρ:Nat→Value} (hρ:J.Good ρ):Valid ρ Try.prog 42 yesS:=v0 (fnOk Try.func42 (by kernel_rfl)) fun hs =>
  pure_callOk hρ (E:=EL []) (consOk_list valid_nil) follows named first15 rfl
theorem laidOut1:laidOutB Try.prog=true:=by kernel_rfl
theorem plain22:plainB Try.prog [22,3]=true:=by kernel_rfl
end Go.Proofs.Ythfcfmkdeheicaa
namespace Go.Proofs.Ythfcfmkdeheicaa.latticePrincipal
open Go.J Go.ChangeShapes Go.WideShapes Go.ChangeAt Go.RowKit
open Go.J.Enc (enc)
theorem walk (a0:Int) (a1:List Int) (v1:Value) (w:World) (h1:Val (fun _=>Value.int .i64 0) w (Enc.enc a1) v1) :
    Calls Try.prog 8 #[.int .i64 a0,v1] w fun e w'=>e=.returned (.bool true)∧Below w.heap.size w w':=by
  refine call_true (ρ:=fun _=>Value.int .i64 0) (LatticePrincipal_run good0 (E:=EL [(42,yesS),(11,fewS),(15,fnS (spec1 fun bits:Int=>some (datasOf bits))),(32,mkVarsS),(31,stS (stF3 (typeF 2))),(51,stS (stF2 substF)),(44,fnS (spec2 luF)),(46,fnS (spec1 vuN)),(50,fnS (spec2 replU)),(19,fnS (spec2 eqN)),(52,fnS (spec3 factF))]) rfl
    (consOk_list (valid_cons (vFirst15 good0) (valid_cons (vFew good0) (valid_cons (vDatas good0) (valid_cons (vMkVars good0) (valid_cons (vType good0 2 (by omega)) (valid_cons (vSubst good0) (valid_cons (vLUnify good0) (valid_cons (vVarsU good0) (valid_cons (vReplU good0) (valid_cons (vEqual good0) (valid_cons (vFactor13 good0) valid_nil)))))))))))) rfl rfl rfl rfl rfl rfl rfl rfl rfl rfl rfl  (bits:=a0) (codes:=a1) emptyHS) rfl ?_
  exact args2 (.int .i64 a0) h1
set_option maxRecDepth 100000 in
theorem lifted (os:Os) (started:os.Started) (H:Type) (enc:TypeId×Value→H) :
    ReturnsInHanded {} Try.checked os 8 .any (Rows.latticePrincipalSpec.pre6 enc Try.prog Try.f8 Rows.latticePrincipalRow.domain false) (Rows.latticePrincipalSpec.post enc Try.prog Try.f8 false true false false):=by
  refine returnsInHanded_of_change (C:=Try.checked) ownKnob_none started (by kernel_rfl) Try.func8
    (ChangeSpec.witness6 (enc:=enc) (C:=Try.checked) false ⟨#[],#[.int .i64 0,.slice none 0 0],[]⟩ 8 (by kernel_rfl) (by kernel_rfl) (by kernel_rfl) (by kernel_rfl)) ?_
  intro W base args ds gs before hval0 hW hcnd _
  have hval:∀ (j:Nat) t v,Try.f8.params[j]?=some t→args[j]?=some v→Value.okWide Try.prog W .any base t v:=hval0
  have hW':=hW
  have hlt:∀ p∈before,p.block<W.heap.size:=fun p hp=>hW.lt p hp
  obtain⟨p,q,hA0,hV,rfl,hfz,hnd⟩:=hW
  have hA:DataW.TrodAll enc Try.prog W 0 (fun _=>true) true Try.f8.params.toList args.toList ds p:=hA0
  have hA1:=hA
  rw[Try.params8] at hA hval
  obtain⟨v0,vs0,d0,ds0,p0,q0,hargs,rfl,rfl,h0,r0⟩:=trodAll_cons hA
  obtain⟨v1,vs1,d1,ds1,p1,q1,rfl,rfl,rfl,h1,r1⟩:=trodAll_cons r0
  obtain⟨rfl,rfl,rfl⟩:=trodAll_nil r1
  obtain rfl:args=#[v0,v1]:=by cases args; simp_all
  obtain⟨rfl,rfl⟩:=trodVars_none hV
  obtain⟨a0,rfl,rfl,rfl,w0⟩:=open_int Try.underlying3 (hval 0 3 v0 rfl rfl) h0
  have hcell:∀ (j:Nat) (v:Value) (d:DataW H) (ps:List MemPlace),(∀ t,Try.f8.params[j]?=some t→Value.okWide Try.prog W .any base t v)→Try.f8.params[j]?=some 22→DataW.Trod enc Try.prog W 0 (fun _=>true) true 22 v d ps→v.cells.toList=[v]:=by
    intro j v d ps hv hj hd
    obtain⟨fuel,hf⟩:=hd
    obtain⟨vs,g1,g2,g3⟩:=read_cells (fun _=>Value.int .i64 0) plain22 fuel 22 _ _ (by simp) hf
    have hc:Try.prog.cellsOf 22=1:=by kernel_rfl
    rw[hc] at g3
    have hl:=g2.1
    rw[g3] at hl
    cases v<;>first | rfl | skip
    rename_i cs
    exfalso
    have hh:=hv 22 hj
    unfold Value.okWide at hh
    rw[Try.underlying22] at hh
    exact hh
  obtain⟨a1,_,_,hv1⟩:=read_ints (ρ:=fun _=>Value.int .i64 0) Try.underlying22 Try.underlying3 plain22 (hcell 1 v1 _ _ (fun t ht=>by rw[Try.params8] at ht; exact hval 1 t v1 ht rfl) (by rw[Try.params8]; rfl) h1) h1
  refine (walk a0 a1 v1 W hv1).mono fun e W' ⟨he,hg⟩=>?_
  subst he
  simp only[List.append_nil] at hlt
  exact⟨_,rfl,post_below (pa:=_) (pv:=[]) hW' (fun _ _ _=>(trodAll_cons_mk (shut_bool Try.underlying4 _) trodAll_mk0))
    (fun sp hsp=>by
      exact args_after laidOut1 hg (sp:=sp) (ts:=Try.f8.params.toList) (by rw[Try.params8]; decide) hA1 (by simpa using hlt) (by simpa using hsp)) (fun _ _=>rfl) (by simp)
    hg (ok_one (by kernel_rfl) rfl (okWide_bool_mk Try.underlying4 _))⟩
theorem over:Rows.latticePrincipalRow.holds Try.pinned (OpenSpec.ofChange Rows.latticePrincipalSpec) :=
  OpenClaim.holds_of_wide 8 Try.f8 rfl rfl rfl rfl rfl rfl rfl ⟨rfl,rfl,rfl,rfl,rfl⟩ rfl rfl rfl rfl rfl (by kernel_rfl) Try.func8 (by kernel_rfl)
    (of_decide_eq_true (by kernel_rfl)) (by unfold Func.isWrapper; first | (rw[if_pos (by decide +kernel)]; kernel_rfl) | (rw[if_neg (by decide +kernel)]; exact⟨rfl,rfl⟩))
    (fun os started H enc _=>lifted os started H enc)
theorem proved:Rows.LatticePrincipalSaid :=
  over
#print axioms proved
end Go.Proofs.Ythfcfmkdeheicaa.latticePrincipal
