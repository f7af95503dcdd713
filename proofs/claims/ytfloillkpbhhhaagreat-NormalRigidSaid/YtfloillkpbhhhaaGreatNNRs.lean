import Derived.Test.YtfloillkpbhhhaaGreatNK13
import Derived.Below
import Derived.Test.YtfloillkpbhhhaaGreatJK13
import Derived.Test.YtfloillkpbhhhaaGreatNF28
set_option linter.all false
noncomputable section
namespace Go.Proofs.YtfloillkpbhhhaaGreat
open Go.J
open Go.J.bo (enc)
def QA:J.Good λ_=>Value.int .i64 0:=λ_=>rfl
def zlK{I:Nat->Value}(hρ:J.Good I):Valid I Tryz.prog 20 Tb:=v0 (zsL Tryz.func20 (by kernel_rfl)) λC =>
 IK hρ (E:=zkg Tryz.prog wx []) (ag aG) follows named zsM rfl
def znN:laidOutB Tryz.prog=true:=by kernel_rfl
def zgN:zee Tryz.prog [22,3]=true:=by kernel_rfl
end Go.Proofs.YtfloillkpbhhhaaGreat
namespace Go.Proofs.YtfloillkpbhhhaaGreat.normalRigid
open Go.J Go.ChangeShapes Go.WideShapes Go.ChangeAt Go.RowKit
open Go.J.bo (enc)
def walk(a0:Int)(a1:Z Int)(v1:Value)(a2:Bool)(w:World)(M:HR (λ_=>Value.int .i64 0) w (bo.enc a1) v1) :
 Calls Tryz.prog 6 #[.int .i64 a0,v1,.bool a2] w λe w'=>e=.returned (.bool true)/\Below w.heap.size w w':=by
 have s6:zpv (fD 0 0) (HB a2):=by cases a2;exact zrz;exact zry
 have zjU:∃ d f,a1.length<=60->∃ v,Dx d f 4 (bu a0) (iB a1 (bu a0)).1 (iB a1 (bu a0)).2.1 (iB a1 (bu a0)).2.2.1=some v /\
  (v=0->Dx d f 4 (bu a0) ((iB a1 (bu a0)).1.map (xL (fD 0 0) (HB a2))) ((iB a1 (bu a0)).2.1.th (fD 0 0) (HB a2)) (iB a1 (bu a0)).2.2.1=some 0):=by
  by_cases hc:a1.length<=60
  . obtain⟨d,f,v,h⟩:=ziQ s6 (bits:=a0) hc;exact⟨d,f,λ_=>⟨v,h⟩⟩
  . exact⟨0,0,λh=>absurd h hc⟩
 obtain⟨d,f,zjU⟩:=zjU
 refine zkD (I:=λ_=>Value.int .i64 0) (RP QA (E:=EL [(20,Tb),(8,S6),(21,sj Nj),(15,dH (Fh Ik)),(16,dH (dC λh i:Int=>some (fD h i))),(29,dH (tZ (IA 100))),(26,ES d f 4)]) rfl
  (ag (ae (zlK QA) (ae (zIn QA) (ae (zqO QA) (ae (zBT QA) (ae (zlH QA) (ae (zh8 QA 100) (ae (zvQ QA d f 4) aG)))))))) rfl rfl rfl rfl rfl rfl rfl zjU (bits:=a0) (b5:=a1) (other:=a2) ji) rfl ?_
 exact zFi (.int .i64 a0) M (.bool a2)
set_option maxRecDepth 100000 in
theorem lifted(os:Os)(started:os.Started)(H:Type)(enc:TypeId×Value->H) :
 ReturnsInHanded {} Tryz.checked os 6 .any (Rows.normalRigidSpec.pre6 enc Tryz.prog Tryz.f6 Rows.normalRigidRow.domain false) (Rows.normalRigidSpec.post enc Tryz.prog Tryz.f6 false true false false):=by
 refine returnsInHanded_of_change (C:=Tryz.checked) YU started (by kernel_rfl) Tryz.func6
  (ChangeSpec.witness6 (enc:=enc) (C:=Tryz.checked) false ⟨#[],#[.int .i64 0,.slice none 0 0,.bool false],[]⟩ 8 (by kernel_rfl) (by kernel_rfl) (by kernel_rfl) (by kernel_rfl)) ?_
 intro h2 base args ds gs before hval0 hW hcnd _;have kj:∀ (j:Nat) t v,Tryz.f6.params[j]?=some t->args[j]?=some v->Value.okWide Tryz.prog h2 .any base t v:=hval0;have hW':=hW;have cC:∀ p∈before,p.block<h2.heap.size:=λp hp=>hW.lt p hp
 obtain⟨p,q,zKp,hV,rfl,v9,eN⟩:=hW;have hA:DataW.TrodAll enc Tryz.prog h2 0 (λ_=>true) true Tryz.f6.params.toList args.toList ds p:=zKp;have hA1:=hA;rw[Tryz.params6]at hA kj;obtain⟨v0,dq,d0,ds0,p0,q0,ef,rfl,rfl,h0,r0⟩:=trodAll_cons hA;obtain⟨v1,vs1,d1,ds1,p1,q1,rfl,rfl,rfl,M,r1⟩:=trodAll_cons r0;obtain⟨v2,vs2,d2,ds2,p2,q2,rfl,rfl,rfl,O,r2⟩:=trodAll_cons r1;obtain⟨rfl,rfl,rfl⟩:=trodAll_nil r2;obtain rfl:args=#[v0,v1,v2]:=by cases args;simp_all
 obtain⟨rfl,rfl⟩:=trodVars_none hV;obtain⟨a0,rfl,rfl,rfl,w0⟩:=open_int Tryz.underlying3 (kj 0 3 v0 rfl rfl) h0;obtain⟨a2,rfl,rfl,rfl⟩:=open_bool Tryz.underlying4 (kj 2 4 v2 rfl rfl) O
 have fc:∀ (j:Nat) (v:Value) (d:DataW H) (ps:Z MemPlace),(∀ t,Tryz.f6.params[j]?=some t->Value.okWide Tryz.prog h2 .any base t v)->Tryz.f6.params[j]?=some 22->DataW.Trod enc Tryz.prog h2 0 (λ_=>true) true 22 v d ps->v.cells.toList=[v]:=by
  intro j v d ps hv hj hd;obtain⟨fuel,hf⟩:=hd;obtain⟨vs,g1,g2,g3⟩:=TC (λ_=>Value.int .i64 0) zgN fuel 22 _ _ (by simp) hf;have hc:Tryz.prog.cellsOf 22=1:=by kernel_rfl
  rw[hc]at g3;have hl:=g2.1;rw[g3]at hl;cases v<;>first|rfl|skip
  rename_i cs;exfalso;have hh:=hv 22 hj;unfold Value.okWide at hh;rw[Tryz.underlying22]at hh;exact hh
 obtain⟨a1,_,_,se⟩:=zi1 (I:=λ_=>Value.int .i64 0) Tryz.underlying22 Tryz.underlying3 zgN (fc 1 v1 _ _ (λt ht=>by rw[Tryz.params6]at ht;exact kj 1 t v1 ht rfl) (by rw[Tryz.params6];rfl) M) M;refine(walk a0 a1 v1 a2 h2 se).mono λe W' ⟨he,hg⟩=>?_
 subst he;simp only[List.append_nil]at cC
 exact⟨_,rfl,zed (pa:=_) (pv:=[]) hW' (λ_ _ _=>(trodAll_cons_mk (shut_bool Tryz.underlying4 _) trodAll_mk0))
  (λsp vA=>by
    exact zfH znN hg (sp:=sp) (ts:=Tryz.f6.params.toList) (by rw[Tryz.params6];decide) hA1 (by simpa using cC) (by simpa using vA)) (λ_ _=>rfl) (by simp)
  hg (ok_one (by kernel_rfl) rfl (okWide_bool_mk Tryz.underlying4 _))⟩
end Go.Proofs.YtfloillkpbhhhaaGreat.normalRigid
