import Derived.Test.YtfloillkpbhhhaaGreatNK7
import Derived.Below
import Derived.Test.YtfloillkpbhhhaaGreatJK13
import Derived.Test.YtfloillkpbhhhaaGreatNF28
set_option linter.all false
noncomputable section
namespace Go.Proofs.YtfloillkpbhhhaaGreat
open Go.J
open Go.J.bo (enc)
def VJ:J.Good λ_=>Value.int .i64 0:=λ_=>rfl
def zm5{I:Nat->Value}(hρ:J.Good I):Valid I Tryz.prog 20 zjg:=v0 (zuk Tryz.func20 (by kernel_rfl)) λC =>
 Jr hρ (E:=zlw Tryz.prog zj []) (aj aH) follows named zul rfl
def zoT:laidOutB Tryz.prog=true:=by kernel_rfl
def zhT:zfi Tryz.prog [22,3]=true:=by kernel_rfl
end Go.Proofs.YtfloillkpbhhhaaGreat
namespace Go.Proofs.YtfloillkpbhhhaaGreat.normalRenames
open Go.J Go.ChangeShapes Go.WideShapes Go.ChangeAt Go.RowKit
open Go.J.bo (enc)
def walk(a0:Int)(a1:Z Int)(v1:Value)(w:World)(M:P4 (λ_=>Value.int .i64 0) w (bo.enc a1) v1) :
 Calls Tryz.prog 5 #[.int .i64 a0,v1] w λe w'=>e=.returned (.bool true)/\Below w.heap.size w w':=by
 have zk5:∃ d f,a1.length<=60->∃ v e',X3 (gX a1 (bA a0)).2.2.1 ((gX a1 (bA a0)).1.map (·.name)++[Yd 2])=some e'/\D7 d f 4 (bA a0) (gX a1 (bA a0)).1 (gX a1 (bA a0)).2.1 (gX a1 (bA a0)).2.2.1=some v /\
  D7 d f 4 (bA a0) (gX a1 (bA a0)).1 (gX a1 (bA a0)).2.1 e'=some v:=by
  by_cases hc:a1.length<=60;let⟨d,f,v,h⟩:=zcs (bits:=a0) hc;exact⟨d,f,λ_=>⟨v,h⟩⟩;exact⟨0,0,λh=>absurd h hc⟩
 let⟨d,f,zk5⟩:=zk5
 refine zlU (I:=λ_=>Value.int .i64 0) (Ps VJ (E:=EL [(20,zjg),(8,zlt),(21,sI Oi),(23,UB 1 zkB),(28,dC (cB X3)),(26,Wo d f 4)]) rfl
  (aj (ae (zm5 VJ) (ae (zKp VJ) (ae (zsc VJ) (ae (zsa VJ) (ae (zbM VJ) (ae (zxq VJ d f 4) aH))))))) rfl rfl rfl rfl rfl rfl zk5 (bits:=a0) (b6:=a1) jv) rfl ?_
 exact zHd (.int .i64 a0) M
set_option maxRecDepth 100000 in
theorem lifted(os:Os)(started:os.Started)(H:Type)(enc:TypeId×Value->H) :
 ReturnsInHanded {} Tryz.checked os 5 .any (Rows.normalRenamesSpec.pre6 enc Tryz.prog Tryz.f5 Rows.normalRenamesRow.domain false) (Rows.normalRenamesSpec.post enc Tryz.prog Tryz.f5 false true false false):=by
 refine returnsInHanded_of_change (C:=Tryz.checked) Z9 started (by kernel_rfl) Tryz.func5
  (ChangeSpec.witness6 (enc:=enc) (C:=Tryz.checked) false ⟨#[],#[.int .i64 0,.slice none 0 0],[]⟩ 8 (by kernel_rfl) (by kernel_rfl) (by kernel_rfl) (by kernel_rfl)) ?_
 intro er base args ds gs before hval0 hW hcnd _;have me:∀ (j:Nat) t v,Tryz.f5.params[j]?=some t->args[j]?=some v->Value.okWide Tryz.prog er .any base t v:=hval0;have hW':=hW;have cG:∀ p∈before,p.block<er.heap.size:=λp hp=>hW.lt p hp;obtain⟨p,q,zMx,hV,rfl,xF,eV⟩:=hW;have hA:DataW.TrodAll enc Tryz.prog er 0 (λ_=>true) true Tryz.f5.params.toList args.toList ds p:=zMx;have hA1:=hA;rw[Tryz.params5]at hA me;obtain⟨v0,eb,d0,ds0,p0,q0,eg,rfl,rfl,h0,r0⟩:=trodAll_cons hA;obtain⟨v1,vs1,d1,ds1,p1,q1,rfl,rfl,rfl,M,r1⟩:=trodAll_cons r0;obtain⟨rfl,rfl,rfl⟩:=trodAll_nil r1;obtain rfl:args=#[v0,v1]:=by cases args;simp_all
 obtain⟨rfl,rfl⟩:=trodVars_none hV;obtain⟨a0,rfl,rfl,rfl,w0⟩:=open_int Tryz.underlying3 (me 0 3 v0 rfl rfl) h0
 have fh:∀ (j:Nat) (v:Value) (d:DataW H) (ps:Z MemPlace),(∀ t,Tryz.f5.params[j]?=some t->Value.okWide Tryz.prog er .any base t v)->Tryz.f5.params[j]?=some 22->DataW.Trod enc Tryz.prog er 0 (λ_=>true) true 22 v d ps->v.cells.toList=[v]:=by
  intro j v d ps hv hj hd;let⟨fuel,hf⟩:=hd;let⟨vs,g1,g2,g3⟩:=UM (λ_=>Value.int .i64 0) zhT fuel 22 _ _ (by simp) hf;have hc:Tryz.prog.cellsOf 22=1:=by kernel_rfl
  rw[hc]at g3;have hl:=g2.1;rw[g3]at hl;cases v<;>first|rfl|skip
  rename_i cs;exfalso;have hh:=hv 22 hj;unfold Value.okWide at hh;rw[Tryz.underlying22]at hh;exact hh
 let⟨a1,_,_,rm⟩:=zkb (I:=λ_=>Value.int .i64 0) Tryz.underlying22 Tryz.underlying3 zhT (fh 1 v1 _ _ (λt ht=>by rw[Tryz.params5]at ht;exact me 1 t v1 ht rfl) (by rw[Tryz.params5];rfl) M) M;refine(walk a0 a1 v1 er rm).mono λe W' ⟨he,hg⟩=>?_;subst he;simp only[List.append_nil]at cG
 exact⟨_,rfl,zfh (pa:=_) (pv:=[]) hW' (λ_ _ _=>(trodAll_cons_mk (shut_bool Tryz.underlying4 _) trodAll_mk0))
  (λsp tG=>by
    exact zgN zoT hg (sp:=sp) (ts:=Tryz.f5.params.toList) (by rw[Tryz.params5];decide) hA1 (by simpa using cG) (by simpa using tG)) (λ_ _=>rfl) (by simp)
  hg (ok_one (by kernel_rfl) rfl (okWide_bool_mk Tryz.underlying4 _))⟩
end Go.Proofs.YtfloillkpbhhhaaGreat.normalRenames
