/- Without rigid constants and bases, two types can be made equal in a store exactly if their resolved forms have a unifier, which is then as general: true at every choice of data declarations and codes; the arguments read afterwards as they read before. No condition. -/
import Derived.Test.YtocdkgjpdnamlaaGreatLQAr
import Derived.Below
import Derived.Test.YtocdkgjpdnamlaaGreatJEnd
import Derived.Test.YtocdkgjpdnamlaaGreatLF17
set_option linter.all false
noncomputable section
namespace Go.Proofs.YtocdkgjpdnamlaaGreat
open Go.J
open Go.J.Enc (enc)
theorem qJ:J.Good fun _=>Value.int .i64 0:=fun _=>rfl
theorem zbp{ρ:Nat->Value}(hρ:J.Good ρ):Valid ρ Tryz.prog 8 zaY:=v0 (zoT Tryz.func8 (by kernel_rfl)) fun hs =>
 w9 hρ (E:=EL []) (au az) follows named zoU rfl
theorem zcY:laidOutB Tryz.prog=true:=by kernel_rfl
theorem Ud:Rm Tryz.prog [22,3]=true:=by kernel_rfl
end Go.Proofs.YtocdkgjpdnamlaaGreat
namespace Go.Proofs.YtocdkgjpdnamlaaGreat.unifyAgrees
open Go.J Go.ChangeShapes Go.WideShapes Go.ChangeAt Go.RowKit
open Go.J.Enc (enc)
theorem walk(a0:Int)(a1:List Int)(v1:Value)(w:World)(h1:Val (fun _=>Value.int .i64 0) w (Enc.enc a1) v1) :
 Calls Tryz.prog 7 #[.int .i64 a0,v1] w fun e w'=>e=.returned (.bool true)/\Below w.heap.size w w':=by
 refine zaf (ρ:=fun _=>Value.int .i64 0) (Fj qJ (E:=EL [(8,zaY),(9,zdy),(23,bZ (fO fun bits:Int=>some (jd bits))),(24,bZ (sU (⟨[],[]⟩:Store))),(25,Mj),(26,K5 (K7 Bq)),(28,mf),(27,K5 (K6 (AY 2))),(12,bZ (dH (Store.znn 7))),(15,ik),(29,bZ (fO (xw 10000))),(11,bZ (dH Store.AR)),(30,bZ (bz znM)),(22,AP),(31,bZ (bz wW))]) rfl
  (au (ag (zbp qJ) (ag (zJB qJ) (ag (zsX qJ) (ag (zsS qJ) (ag (zbo qJ) (ag (zp2 qJ) (ag (zm6 qJ) (ag (zAH qJ 2 (by omega)) (ag (zsO qJ 7 (by omega)) (ag (FP qJ) (ag (zsR qJ 10000) (ag (zsJ qJ) (ag (zbd qJ) (ag (zbc qJ) (ag (QG qJ) az)))))))))))))))) rfl rfl rfl rfl rfl rfl rfl rfl rfl rfl rfl rfl rfl rfl rfl  (bits:=a0) (codes:=a1) eQ) rfl ?_
 exact zFC (.int .i64 a0) h1
set_option maxRecDepth 100000 in
theorem lifted(os:Os)(started:os.Started)(H:Type)(enc:TypeId×Value->H) :
 ReturnsInHanded {} Tryz.checked os 7 .any (Rows.unifyAgreesSpec.pre6 enc Tryz.prog Tryz.f7 Rows.unifyAgreesRow.domain false) (Rows.unifyAgreesSpec.post enc Tryz.prog Tryz.f7 false true false false):=by
 refine returnsInHanded_of_change (C:=Tryz.checked) LA started (by kernel_rfl) Tryz.func7
  (ChangeSpec.witness6 (enc:=enc) (C:=Tryz.checked) false ⟨#[],#[.int .i64 0,.slice none 0 0],[]⟩ 8 (by kernel_rfl) (by kernel_rfl) (by kernel_rfl) (by kernel_rfl)) ?_
 intro W base args ds gs before hval0 hW hcnd _;have hval:∀ (j:Nat) t v,Tryz.f7.params[j]?=some t->args[j]?=some v->Value.okWide Tryz.prog W .any base t v:=hval0;have hW':=hW;have hlt:∀ p∈before,p.block<W.heap.size:=fun p hp=>hW.lt p hp
 obtain⟨p,q,zLC,hV,rfl,hfz,hnd⟩:=hW;have hA:DataW.TrodAll enc Tryz.prog W 0 (fun _=>true) true Tryz.f7.params.toList args.toList ds p:=zLC;have hA1:=hA;rw[Tryz.params7]at hA hval;obtain⟨v0,vs0,d0,ds0,p0,q0,hargs,rfl,rfl,h0,r0⟩:=trodAll_cons hA;obtain⟨v1,vs1,d1,ds1,p1,q1,rfl,rfl,rfl,h1,r1⟩:=trodAll_cons r0;obtain⟨rfl,rfl,rfl⟩:=trodAll_nil r1;obtain rfl:args=#[v0,v1]:=by cases args;simp_all
 obtain⟨rfl,rfl⟩:=trodVars_none hV;obtain⟨a0,rfl,rfl,rfl,w0⟩:=open_int Tryz.underlying3 (hval 0 3 v0 rfl rfl) h0
 have hcell:∀ (j:Nat) (v:Value) (d:DataW H) (ps:List MemPlace),(∀ t,Tryz.f7.params[j]?=some t->Value.okWide Tryz.prog W .any base t v)->Tryz.f7.params[j]?=some 22->DataW.Trod enc Tryz.prog W 0 (fun _=>true) true 22 v d ps->v.cells.toList=[v]:=by
  intro j v d ps hv hj hd;obtain⟨fuel,hf⟩:=hd;obtain⟨vs,g1,g2,g3⟩:=Gn (fun _=>Value.int .i64 0) Ud fuel 22 _ _ (by simp) hf;have hc:Tryz.prog.cellsOf 22=1:=by kernel_rfl
  rw[hc]at g3;have hl:=g2.1;rw[g3]at hl;cases v<;>first|rfl|skip
  rename_i cs;exfalso;have hh:=hv 22 hj;unfold Value.okWide at hh;rw[Tryz.underlying22]at hh;exact hh
 obtain⟨a1,_,_,hv1⟩:=Zg (ρ:=fun _=>Value.int .i64 0) Tryz.underlying22 Tryz.underlying3 Ud (hcell 1 v1 _ _ (fun t ht=>by rw[Tryz.params7]at ht;exact hval 1 t v1 ht rfl) (by rw[Tryz.params7];rfl) h1) h1;refine(walk a0 a1 v1 W hv1).mono fun e W' ⟨he,hg⟩=>?_
 subst he;simp only[List.append_nil]at hlt
 exact⟨_,rfl,Rk (pa:=_) (pv:=[]) hW' (fun _ _ _=>(trodAll_cons_mk (shut_bool Tryz.underlying4 _) trodAll_mk0))
  (fun sp hsp=>by
    exact SB zcY hg (sp:=sp) (ts:=Tryz.f7.params.toList) (by rw[Tryz.params7];decide) hA1 (by simpa using hlt) (by simpa using hsp)) (fun _ _=>rfl) (by simp)
  hg (ok_one (by kernel_rfl) rfl (okWide_bool_mk Tryz.underlying4 _))⟩
theorem over:Rows.unifyAgreesRow.holds Tryz.pinned (OpenSpec.ofChange Rows.unifyAgreesSpec) :=
 OpenClaim.holds_of_wide 7 Tryz.f7 rfl rfl rfl rfl rfl rfl rfl ⟨rfl,rfl,rfl,rfl,rfl⟩ rfl rfl rfl rfl rfl (by kernel_rfl) Tryz.func7 (by kernel_rfl)
  (of_decide_eq_true (by kernel_rfl)) (by unfold Func.isWrapper;first|(rw[if_pos (by decide +kernel)];kernel_rfl)|(rw[if_neg (by decide +kernel)];exact⟨rfl,rfl⟩))
  (fun os started H enc _=>lifted os started H enc)
theorem proved:Rows.UnifyAgreesSaid :=
 over
#print axioms proved
end Go.Proofs.YtocdkgjpdnamlaaGreat.unifyAgrees
