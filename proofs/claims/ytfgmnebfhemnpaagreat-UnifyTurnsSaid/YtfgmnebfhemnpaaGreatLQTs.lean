/- The order of the two types of an equation does not matter for whether there is an error, nor for what they stand for, up to variables: true at every choice of data declarations and codes; the arguments read afterwards as they read before. No condition. -/
import Derived.Test.YtfgmnebfhemnpaaGreatLQTr
import Derived.Below
import Derived.Test.YtfgmnebfhemnpaaGreatJEnd
import Derived.Test.YtfgmnebfhemnpaaGreatLF17
set_option linter.all false
noncomputable section
namespace Go.Proofs.YtfgmnebfhemnpaaGreat
open Go.J
open Go.J.Enc (enc)
theorem znk:J.Good fun _=>Value.int .i64 0:=fun _=>rfl
theorem zwu{ρ:Nat->Value}(hρ:J.Good ρ):Valid ρ Tryz.prog 8 zC2:=v0 (zJq Tryz.func8 (by kernel_rfl)) fun hs =>
 zeP hρ (E:=EL []) (zu valid_nil) follows named z9r rfl
theorem zxA:laidOutB Tryz.prog=true:=by kernel_rfl
theorem zrn:zrm Tryz.prog [22,3]=true:=by kernel_rfl
end Go.Proofs.YtfgmnebfhemnpaaGreat
namespace Go.Proofs.YtfgmnebfhemnpaaGreat.unifyTurns
open Go.J Go.ChangeShapes Go.WideShapes Go.ChangeAt Go.RowKit
open Go.J.Enc (enc)
theorem walk(a0:Int)(a1:List Int)(v1:Value)(w:World)(h1:Val (fun _=>Value.int .i64 0) w (Enc.enc a1) v1) :
 Calls Tryz.prog 5 #[.int .i64 a0,v1] w fun e w'=>e=.returned (.bool true)/\Below w.heap.size w w':=by
 refine zvq (ρ:=fun _=>Value.int .i64 0) (ziI znk (E:=EL [(8,zC2),(9,zFd),(10,zaT zhA),(11,fnS (zaA Store.uniF)),(18,zdo),(19,zgE)]) rfl
  (zu (zq (zwu znk) (zq (zSf znk) (zq (z7j znk) (zq (zCH znk) (zq (ziK znk) (zq (zwm znk) valid_nil))))))) rfl rfl rfl rfl rfl rfl  (bits:=a0) (codes:=a1) emptyHS) rfl ?_
 exact zNx (.int .i64 a0) h1
set_option maxRecDepth 100000 in
theorem lifted(os:Os)(started:os.Started)(H:Type)(enc:TypeId×Value->H) :
 ReturnsInHanded {} Tryz.checked os 5 .any (Rows.unifyTurnsSpec.pre6 enc Tryz.prog Tryz.f5 Rows.unifyTurnsRow.domain false) (Rows.unifyTurnsSpec.post enc Tryz.prog Tryz.f5 false true false false):=by
 refine returnsInHanded_of_change (C:=Tryz.checked) zlm started (by kernel_rfl) Tryz.func5
  (ChangeSpec.witness6 (enc:=enc) (C:=Tryz.checked) false ⟨#[],#[.int .i64 0,.slice none 0 0],[]⟩ 8 (by kernel_rfl) (by kernel_rfl) (by kernel_rfl) (by kernel_rfl)) ?_
 intro W base args ds gs before hval0 hW hcnd _;have hval:∀ (j:Nat) t v,Tryz.f5.params[j]?=some t->args[j]?=some v->Value.okWide Tryz.prog W .any base t v:=hval0;have hW':=hW;have hlt:∀ p∈before,p.block<W.heap.size:=fun p hp=>hW.lt p hp
 obtain⟨p,q,hA0,hV,rfl,hfz,hnd⟩:=hW;have hA:DataW.TrodAll enc Tryz.prog W 0 (fun _=>true) true Tryz.f5.params.toList args.toList ds p:=hA0;have hA1:=hA;rw[Tryz.params5]at hA hval;obtain⟨v0,vs0,d0,ds0,p0,q0,hargs,rfl,rfl,h0,r0⟩:=trodAll_cons hA;obtain⟨v1,vs1,d1,ds1,p1,q1,rfl,rfl,rfl,h1,r1⟩:=trodAll_cons r0;obtain⟨rfl,rfl,rfl⟩:=trodAll_nil r1;obtain rfl:args=#[v0,v1]:=by cases args;simp_all
 obtain⟨rfl,rfl⟩:=trodVars_none hV;obtain⟨a0,rfl,rfl,rfl,w0⟩:=open_int Tryz.underlying3 (hval 0 3 v0 rfl rfl) h0
 have hcell:∀ (j:Nat) (v:Value) (d:DataW H) (ps:List MemPlace),(∀ t,Tryz.f5.params[j]?=some t->Value.okWide Tryz.prog W .any base t v)->Tryz.f5.params[j]?=some 22->DataW.Trod enc Tryz.prog W 0 (fun _=>true) true 22 v d ps->v.cells.toList=[v]:=by
  intro j v d ps hv hj hd;obtain⟨fuel,hf⟩:=hd;obtain⟨vs,g1,g2,g3⟩:=ziV (fun _=>Value.int .i64 0) zrn fuel 22 _ _ (by simp) hf;have hc:Tryz.prog.cellsOf 22=1:=by kernel_rfl
  rw[hc]at g3;have hl:=g2.1;rw[g3]at hl;cases v<;>first|rfl|skip
  rename_i cs;exfalso;have hh:=hv 22 hj;unfold Value.okWide at hh;rw[Tryz.underlying22]at hh;exact hh
 obtain⟨a1,_,_,hv1⟩:=zrg (ρ:=fun _=>Value.int .i64 0) Tryz.underlying22 Tryz.underlying3 zrn (hcell 1 v1 _ _ (fun t ht=>by rw[Tryz.params5]at ht;exact hval 1 t v1 ht rfl) (by rw[Tryz.params5];rfl) h1) h1;refine(walk a0 a1 v1 W hv1).mono fun e W' ⟨he,hg⟩=>?_
 subst he;simp only[List.append_nil]at hlt
 exact⟨_,rfl,zpv (pa:=_) (pv:=[]) hW' (fun _ _ _=>(trodAll_cons_mk (shut_bool Tryz.underlying4 _) trodAll_mk0))
  (fun sp hsp=>by
    exact zqb zxA hg (sp:=sp) (ts:=Tryz.f5.params.toList) (by rw[Tryz.params5];decide) hA1 (by simpa using hlt) (by simpa using hsp)) (fun _ _=>rfl) (by simp)
  hg (ok_one (by kernel_rfl) rfl (okWide_bool_mk Tryz.underlying4 _))⟩
theorem over:Rows.unifyTurnsRow.holds Tryz.pinned (OpenSpec.ofChange Rows.unifyTurnsSpec) :=
 OpenClaim.holds_of_wide 5 Tryz.f5 rfl rfl rfl rfl rfl rfl rfl ⟨rfl,rfl,rfl,rfl,rfl⟩ rfl rfl rfl rfl rfl (by kernel_rfl) Tryz.func5 (by kernel_rfl)
  (of_decide_eq_true (by kernel_rfl)) (by unfold Func.isWrapper;first|(rw[if_pos (by decide +kernel)];kernel_rfl)|(rw[if_neg (by decide +kernel)];exact⟨rfl,rfl⟩))
  (fun os started H enc _=>lifted os started H enc)
theorem proved:Rows.UnifyTurnsSaid :=
 over
#print axioms proved
end Go.Proofs.YtfgmnebfhemnpaaGreat.unifyTurns
