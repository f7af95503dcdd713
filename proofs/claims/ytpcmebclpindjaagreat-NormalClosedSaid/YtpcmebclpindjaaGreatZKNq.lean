import Derived.Test.YtpcmebclpindjaaGreatZX8
import Derived.Below
import Derived.Test.YtpcmebclpindjaaGreatJEnd
import Derived.Test.YtpcmebclpindjaaGreatZF28
set_option linter.all false
noncomputable section
/- The law NormalClosed: its entrance and its end. -/
namespace Go.Proofs.YtpcmebclpindjaaGreat
open Go.J
open Go.J.Enc (enc)
theorem zfN:J.Good fun _=>Value.int .i64 0:=fun _=>rfl
theorem zwg{ρ:Nat->Value}(hρ:J.Good ρ):Valid ρ Tryz.prog 36 z3E:=v0 (zB3 Tryz.func36 (by kernel_rfl)) fun hs =>
 zdt hρ (E:=z3i Tryz.prog pol []) (zf valid_nil) follows named z5N rfl
theorem zxh:laidOutB Tryz.prog=true:=by kernel_rfl
theorem zmi:zqC Tryz.prog [22,3]=true:=by kernel_rfl
end Go.Proofs.YtpcmebclpindjaaGreat
namespace Go.Proofs.YtpcmebclpindjaaGreat.normalClosed
open Go.J Go.ChangeShapes Go.WideShapes Go.ChangeAt Go.RowKit
open Go.J.Enc (enc)
theorem walk(a0:Int)(a1:List Int)(v1:Value)(a2:List Int)(v2:Value)(a3:Int)(w:World)(h1:Val (fun _=>Value.int .i64 0) w (Enc.enc a1) v1)(h2:Val (fun _=>Value.int .i64 0) w (Enc.enc a2) v2) :
 Calls Tryz.prog 8 #[.int .i64 a0,v1,v2,.int .i64 a3] w fun e w'=>e=.returned (.bool true)/\Below w.heap.size w w':=by
 refine zvk (ρ:=fun _=>Value.int .i64 0) (zgu zfN (E:=EL [(36,z3E),(14,z5O),(37,zpD zhd),(24,zyI),(16,fnS (zy fun bits:Int=>some (zD bits))),(17,zpD lvM),(41,fnS (zex zcQ)),(15,stS (zjj (zf8 2))),(27,fnS (zex tInt)),(42,fnS (zH fun a b:Ty=>some (zbI a b))),(43,zcO),(44,zcO)]) rfl
  (zf (za (zwg zfN) (za (zNJ zfN) (za (z3Q zfN) (za (zKj zfN) (za (zyr zfN) (za (zwf zfN) (za (zwe zfN) (za (z9I zfN 2 (by omega)) (za (zKk zfN) (za (zyt zfN) (za (z3S zfN) (za (zwc zfN) valid_nil))))))))))))) rfl rfl rfl rfl rfl rfl rfl rfl rfl rfl rfl rfl  (bits:=a0) (codes:=a1) (more:=a2) (n:=a3) zb2) rfl ?_
 exact zJE (.int .i64 a0) h1 h2 (.int .i64 a3)
set_option maxRecDepth 100000 in
theorem lifted(os:Os)(started:os.Started)(H:Type)(enc:TypeId×Value->H) :
 ReturnsInHanded {} Tryz.checked os 8 .any (Rows.normalClosedSpec.pre6 enc Tryz.prog Tryz.f8 Rows.normalClosedRow.domain false) (Rows.normalClosedSpec.post enc Tryz.prog Tryz.f8 false true false false):=by
 refine returnsInHanded_of_change (C:=Tryz.checked) zk9 started (by kernel_rfl) Tryz.func8
  (ChangeSpec.witness6 (enc:=enc) (C:=Tryz.checked) false ⟨#[],#[.int .i64 0,.slice none 0 0,.slice none 0 0,.int .i64 0],[]⟩ 8 (by kernel_rfl) (by kernel_rfl) (by kernel_rfl) (by kernel_rfl)) ?_
 intro W base args ds gs before hval0 hW hcnd _;have hval:∀ (j:Nat) t v,Tryz.f8.params[j]?=some t->args[j]?=some v->Value.okWide Tryz.prog W .any base t v:=hval0;have hW':=hW;have hlt:∀ p∈before,p.block<W.heap.size:=fun p hp=>hW.lt p hp
 obtain⟨p,q,hA0,hV,rfl,hfz,hnd⟩:=hW;have hA:DataW.TrodAll enc Tryz.prog W 0 (fun _=>true) true Tryz.f8.params.toList args.toList ds p:=hA0;have hA1:=hA;rw[Tryz.params8]at hA hval;obtain⟨v0,vs0,d0,ds0,p0,q0,hargs,rfl,rfl,h0,r0⟩:=trodAll_cons hA;obtain⟨v1,vs1,d1,ds1,p1,q1,rfl,rfl,rfl,h1,r1⟩:=trodAll_cons r0;obtain⟨v2,vs2,d2,ds2,p2,q2,rfl,rfl,rfl,h2,r2⟩:=trodAll_cons r1;obtain⟨v3,vs3,d3,ds3,p3,q3,rfl,rfl,rfl,h3,r3⟩:=trodAll_cons r2;obtain⟨rfl,rfl,rfl⟩:=trodAll_nil r3;obtain rfl:args=#[v0,v1,v2,v3]:=by cases args;simp_all
 obtain⟨rfl,rfl⟩:=trodVars_none hV;obtain⟨a0,rfl,rfl,rfl,w0⟩:=open_int Tryz.underlying3 (hval 0 3 v0 rfl rfl) h0;obtain⟨a3,rfl,rfl,rfl,w3⟩:=open_int Tryz.underlying3 (hval 3 3 v3 rfl rfl) h3
 have hcell:∀ (j:Nat) (v:Value) (d:DataW H) (ps:List MemPlace),(∀ t,Tryz.f8.params[j]?=some t->Value.okWide Tryz.prog W .any base t v)->Tryz.f8.params[j]?=some 22->DataW.Trod enc Tryz.prog W 0 (fun _=>true) true 22 v d ps->v.cells.toList=[v]:=by
  intro j v d ps hv hj hd;obtain⟨fuel,hf⟩:=hd;obtain⟨vs,g1,g2,g3⟩:=ziB (fun _=>Value.int .i64 0) zmi fuel 22 _ _ (by simp) hf;have hc:Tryz.prog.cellsOf 22=1:=by kernel_rfl
  rw[hc]at g3;have hl:=g2.1;rw[g3]at hl;cases v<;>first|rfl|skip
  rename_i cs;exfalso;have hh:=hv 22 hj;unfold Value.okWide at hh;rw[Tryz.underlying22]at hh;exact hh
 obtain⟨a1,_,_,hv1⟩:=zky (ρ:=fun _=>Value.int .i64 0) Tryz.underlying22 Tryz.underlying3 zmi (hcell 1 v1 _ _ (fun t ht=>by rw[Tryz.params8]at ht;exact hval 1 t v1 ht rfl) (by rw[Tryz.params8];rfl) h1) h1;obtain⟨a2,_,_,hv2⟩:=zky (ρ:=fun _=>Value.int .i64 0) Tryz.underlying22 Tryz.underlying3 zmi (hcell 2 v2 _ _ (fun t ht=>by rw[Tryz.params8]at ht;exact hval 2 t v2 ht rfl) (by rw[Tryz.params8];rfl) h2) h2;refine(walk a0 a1 v1 a2 v2 a3 W hv1 hv2).mono fun e W' ⟨he,hg⟩=>?_
 subst he;simp only[List.append_nil]at hlt
 exact⟨_,rfl,zoQ (pa:=_) (pv:=[]) hW' (fun _ _ _=>(trodAll_cons_mk (shut_bool Tryz.underlying4 _) trodAll_mk0))
  (fun sp hsp=>by
    exact zp8 zxh hg (sp:=sp) (ts:=Tryz.f8.params.toList) (by rw[Tryz.params8];decide) hA1 (by simpa using hlt) (by simpa using hsp)) (fun _ _=>rfl) (by simp)
  hg (ok_one (by kernel_rfl) rfl (okWide_bool_mk Tryz.underlying4 _))⟩
end Go.Proofs.YtpcmebclpindjaaGreat.normalClosed
