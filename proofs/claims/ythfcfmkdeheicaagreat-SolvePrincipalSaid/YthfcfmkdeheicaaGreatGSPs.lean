/- A list of equations that has a solution is solved, and every solution factors through the result: true at every choice of data declarations, codes and number of equations; the arguments read afterwards as they read before. No condition. -/
import Derived.Test.YthfcfmkdeheicaaGreatGS5
import Derived.Below
import Derived.Test.YthfcfmkdeheicaaGreatJEnd
import Derived.Test.YthfcfmkdeheicaaGreatGF18
set_option linter.all false
noncomputable section
namespace Go.Proofs.YthfcfmkdeheicaaGreat
open Go.J
open Go.J.Enc (enc)
theorem good0:J.Good fun _=>Value.int .i64 0:=fun _=>rfl
theorem vFirst18{ρ:Nat→Value}(hρ:J.Good ρ):Valid ρ Tryz.prog 28 yesS:=v0 (fnOk Tryz.func28 (by kernel_rfl)) fun hs =>
 zkb hρ (E:=EL []) (zg valid_nil) follows named first18 rfl
theorem laidOut1:laidOutB Tryz.prog=true:=by kernel_rfl
theorem plain26:plainB Tryz.prog [26,3]=true:=by kernel_rfl
end Go.Proofs.YthfcfmkdeheicaaGreat
namespace Go.Proofs.YthfcfmkdeheicaaGreat.solvePrincipal
open Go.J Go.ChangeShapes Go.WideShapes Go.ChangeAt Go.RowKit
open Go.J.Enc (enc)
theorem walk(a0:Int)(a1:List Int)(v1:Value)(a2:Int)(w:World)(h1:Val (fun _=>Value.int .i64 0) w (Enc.enc a1) v1) :
 Calls Tryz.prog 6 #[.int .i64 a0,v1,.int .i64 a2] w fun e w'=>e=.returned (.bool true)∧Below w.heap.size w w':=by
 refine call_true (ρ:=fun _=>Value.int .i64 0) (zlZ good0 (E:=EL [(28,yesS),(10,fewS),(39,fnS (zfY slvF)),(37,fnS (zD unF)),(30,fnS (zan suF)),(40,fnS (zfY gfF)),(32,fnS (zan ev18F)),(41,fnS (zfY prF))]) rfl
  (zg (za (vFirst18 good0) (za (vFew good0) (za (vSolvable good0) (za (vUnifies18 good0) (za (vSolve good0) (za (vFactorG good0) (za (vEqVars18 good0) (za (vPrincipal good0) valid_nil))))))))) rfl rfl rfl rfl rfl rfl rfl rfl  (bits:=a0) (codes:=a1) (n:=a2) zdm) rfl ?_
 exact args3 (.int .i64 a0) h1 (.int .i64 a2)
set_option maxRecDepth 100000 in
theorem lifted(os:Os)(started:os.Started)(H:Type)(enc:TypeId×Value→H) :
 ReturnsInHanded {} Tryz.checked os 6 .any (Rows.solvePrincipalSpec.pre6 enc Tryz.prog Tryz.f6 Rows.solvePrincipalRow.domain false) (Rows.solvePrincipalSpec.post enc Tryz.prog Tryz.f6 false true false false):=by
 refine returnsInHanded_of_change (C:=Tryz.checked) ownKnob_none started (by kernel_rfl) Tryz.func6
  (ChangeSpec.witness6 (enc:=enc) (C:=Tryz.checked) false ⟨#[],#[.int .i64 0,.slice none 0 0,.int .i64 0],[]⟩ 8 (by kernel_rfl) (by kernel_rfl) (by kernel_rfl) (by kernel_rfl)) ?_
 intro W base args ds gs before hval0 hW hcnd _
 have hval:∀ (j:Nat) t v,Tryz.f6.params[j]?=some t→args[j]?=some v→Value.okWide Tryz.prog W .any base t v:=hval0
 have hW':=hW
 have hlt:∀ p∈before,p.block<W.heap.size:=fun p hp=>hW.lt p hp
 obtain⟨p,q,hA0,hV,rfl,hfz,hnd⟩:=hW
 have hA:DataW.TrodAll enc Tryz.prog W 0 (fun _=>true) true Tryz.f6.params.toList args.toList ds p:=hA0
 have hA1:=hA
 rw[Tryz.params6]at hA hval
 obtain⟨v0,vs0,d0,ds0,p0,q0,hargs,rfl,rfl,h0,r0⟩:=trodAll_cons hA
 obtain⟨v1,vs1,d1,ds1,p1,q1,rfl,rfl,rfl,h1,r1⟩:=trodAll_cons r0
 obtain⟨v2,vs2,d2,ds2,p2,q2,rfl,rfl,rfl,h2,r2⟩:=trodAll_cons r1
 obtain⟨rfl,rfl,rfl⟩:=trodAll_nil r2
 obtain rfl:args=#[v0,v1,v2]:=by cases args;simp_all
 obtain⟨rfl,rfl⟩:=trodVars_none hV
 obtain⟨a0,rfl,rfl,rfl,w0⟩:=open_int Tryz.underlying3 (hval 0 3 v0 rfl rfl) h0
 obtain⟨a2,rfl,rfl,rfl,w2⟩:=open_int Tryz.underlying3 (hval 2 3 v2 rfl rfl) h2
 have hcell:∀ (j:Nat) (v:Value) (d:DataW H) (ps:List MemPlace),(∀ t,Tryz.f6.params[j]?=some t→Value.okWide Tryz.prog W .any base t v)→Tryz.f6.params[j]?=some 26→DataW.Trod enc Tryz.prog W 0 (fun _=>true) true 26 v d ps→v.cells.toList=[v]:=by
  intro j v d ps hv hj hd
  obtain⟨fuel,hf⟩:=hd
  obtain⟨vs,g1,g2,g3⟩:=read_cells (fun _=>Value.int .i64 0) plain26 fuel 26 _ _ (by simp) hf
  have hc:Tryz.prog.cellsOf 26=1:=by kernel_rfl
  rw[hc]at g3
  have hl:=g2.1
  rw[g3]at hl
  cases v<;>first|rfl|skip
  rename_i cs
  exfalso
  have hh:=hv 26 hj
  unfold Value.okWide at hh
  rw[Tryz.underlying26]at hh
  exact hh
 obtain⟨a1,_,_,hv1⟩:=read_ints (ρ:=fun _=>Value.int .i64 0) Tryz.underlying26 Tryz.underlying3 plain26 (hcell 1 v1 _ _ (fun t ht=>by rw[Tryz.params6]at ht;exact hval 1 t v1 ht rfl) (by rw[Tryz.params6];rfl) h1) h1
 refine(walk a0 a1 v1 a2 W hv1).mono fun e W' ⟨he,hg⟩=>?_
 subst he
 simp only[List.append_nil]at hlt
 exact⟨_,rfl,post_below (pa:=_) (pv:=[]) hW' (fun _ _ _=>(trodAll_cons_mk (shut_bool Tryz.underlying4 _) trodAll_mk0))
  (fun sp hsp=>by
    exact args_after laidOut1 hg (sp:=sp) (ts:=Tryz.f6.params.toList) (by rw[Tryz.params6];decide) hA1 (by simpa using hlt) (by simpa using hsp)) (fun _ _=>rfl) (by simp)
  hg (ok_one (by kernel_rfl) rfl (okWide_bool_mk Tryz.underlying4 _))⟩
theorem over:Rows.solvePrincipalRow.holds Tryz.pinned (OpenSpec.ofChange Rows.solvePrincipalSpec) :=
 OpenClaim.holds_of_wide 6 Tryz.f6 rfl rfl rfl rfl rfl rfl rfl ⟨rfl,rfl,rfl,rfl,rfl⟩ rfl rfl rfl rfl rfl (by kernel_rfl) Tryz.func6 (by kernel_rfl)
  (of_decide_eq_true (by kernel_rfl)) (by unfold Func.isWrapper;first|(rw[if_pos (by decide +kernel)];kernel_rfl)|(rw[if_neg (by decide +kernel)];exact⟨rfl,rfl⟩))
  (fun os started H enc _=>lifted os started H enc)
theorem proved:Rows.SolvePrincipalSaid :=
 over
#print axioms proved
end Go.Proofs.YthfcfmkdeheicaaGreat.solvePrincipal
