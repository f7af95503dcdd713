/- Which stores are valid, the program says as the reference does: any slots and trails, those that unification makes, and those with one slot replaced: true at every store, every choice of data declarations and codes; the arguments read afterwards as they read before. No condition. -/
import Derived.Test.YthfcfmkdeheicaaGreatGRDz
import Derived.Below
import Derived.Test.YthfcfmkdeheicaaGreatJEnd
import Derived.Test.YthfcfmkdeheicaaGreatGF1
set_option linter.all false
noncomputable section
namespace Go.Proofs.YthfcfmkdeheicaaGreat
open Go.J
open Go.J.Enc (enc)
theorem good0:J.Good fun _=>Value.int .i64 0:=fun _=>rfl
theorem vFirst16 {ρ:Nat→Value} (hρ:J.Good ρ):Valid ρ Tryz.prog 8 yesS:=v0 (fnOk Tryz.func8 (by kernel_rfl)) fun hs =>
  pure_callOk hρ (E:=EL []) (consOk_list valid_nil) follows named first16 rfl
theorem laidOut1:laidOutB Tryz.prog=true:=by kernel_rfl
theorem plain26:plainB Tryz.prog [26,3]=true:=by kernel_rfl
theorem args5 {ρ:Nat→Value} {w:World} {v v2 v3 v4 v5:V} {x x2 x3 x4 x5:Value} (h:Val ρ w v x) (h2:Val ρ w v2 x2) (h3:Val ρ w v3 x3) (h4:Val ρ w v4 x4) (h5:Val ρ w v5 x5):∀ (i:Nat) (u:V),[v,v2,v3,v4,v5][i]?=some u→∃ y,#[x,x2,x3,x4,x5][i]?=some y∧Val ρ w u y:=by
  intro i u hu
  match i,hu with
  | 0,hu=>cases hu; exact⟨_,rfl,h⟩
  | 1,hu=>cases hu; exact⟨_,rfl,h2⟩
  | 2,hu=>cases hu; exact⟨_,rfl,h3⟩
  | 3,hu=>cases hu; exact⟨_,rfl,h4⟩
  | 4,hu=>cases hu; exact⟨_,rfl,h5⟩
end Go.Proofs.YthfcfmkdeheicaaGreat
namespace Go.Proofs.YthfcfmkdeheicaaGreat.storeValid
open Go.J Go.ChangeShapes Go.WideShapes Go.ChangeAt Go.RowKit
open Go.J.Enc (enc)
theorem walk {a0:Store} (hs0:∀ x∈a0.slots,x.type.short=true) (v0:Value) (a1:Int) (a2:List Int) (v2:Value) (a3:Int) (a4:List Int) (v4:Value) (w:World) (h0:Val (fun _=>Value.int .i64 0) w (Enc.enc a0) v0) (h2:Val (fun _=>Value.int .i64 0) w (Enc.enc a2) v2) (h4:Val (fun _=>Value.int .i64 0) w (Enc.enc a4) v4) :
    Calls Tryz.prog 3 #[v0,.int .i64 a1,v2,.int .i64 a3,v4] w fun e w'=>e=.returned (.bool true)∧Below w.heap.size w w':=by
  refine call_true (ρ:=fun _=>Value.int .i64 0) (StoreValid_run good0 (E:=EL [(8,yesS),(9,fnS (spec1 fun s:Store=>some (decide s.few))),(10,fewS),(12,fnS (spec1 fun bits:Int=>some (datasOf bits))),(11,stS (stF1 storeF)),(16,mkVarsS),(15,stS (stF3 (typeF 2))),(14,modS),(13,setS),(17,pvalidS),(18,valid16S)]) rfl
    (consOk_list (valid_cons (vFirst16 good0) (valid_cons (vFew16 good0) (valid_cons (vFew good0) (valid_cons (vDatas good0) (valid_cons (vTapeStore good0) (valid_cons (vMkVars good0) (valid_cons (vType good0 2 (by omega)) (valid_cons (vMod good0) (valid_cons (vSet16 good0) (valid_cons (vPValid good0) (valid_cons (vValid16 good0) valid_nil)))))))))))) rfl rfl rfl rfl rfl rfl rfl rfl rfl rfl rfl  hs0 (bits:=a1) (codes:=a2) (id:=a3) (more:=a4) emptyHS) rfl ?_
  exact args5 h0 (.int .i64 a1) h2 (.int .i64 a3) h4
set_option maxRecDepth 100000 in
theorem lifted (os:Os) (started:os.Started) (H:Type) (enc:TypeId×Value→H) :
    ReturnsInHanded {} Tryz.checked os 3 .any (Rows.storeValidSpec.pre6 enc Tryz.prog Tryz.f3 Rows.storeValidRow.domain false) (Rows.storeValidSpec.post enc Tryz.prog Tryz.f3 false true false false):=by
  refine returnsInHanded_of_change (C:=Tryz.checked) ownKnob_none started (by kernel_rfl) Tryz.func3
    (ChangeSpec.witness6 (enc:=enc) (C:=Tryz.checked) false ⟨#[],#[.agg #[.slice none 0 0,.slice none 0 0],.int .i64 0,.slice none 0 0,.int .i64 0,.slice none 0 0],[]⟩ 8 (by kernel_rfl) (by kernel_rfl) (by kernel_rfl) (by kernel_rfl)) ?_
  intro W base args ds gs before hval0 hW hcnd _
  have hval:∀ (j:Nat) t v,Tryz.f3.params[j]?=some t→args[j]?=some v→Value.okWide Tryz.prog W .any base t v:=hval0
  have hW':=hW
  have hlt:∀ p∈before,p.block<W.heap.size:=fun p hp=>hW.lt p hp
  obtain⟨p,q,hA0,hV,rfl,hfz,hnd⟩:=hW
  have hA:DataW.TrodAll enc Tryz.prog W 0 (fun _=>true) true Tryz.f3.params.toList args.toList ds p:=hA0
  have hA1:=hA
  rw[Tryz.params3] at hA hval
  obtain⟨v0,vs0,d0,ds0,p0,q0,hargs,rfl,rfl,h0,r0⟩:=trodAll_cons hA
  obtain⟨v1,vs1,d1,ds1,p1,q1,rfl,rfl,rfl,h1,r1⟩:=trodAll_cons r0
  obtain⟨v2,vs2,d2,ds2,p2,q2,rfl,rfl,rfl,h2,r2⟩:=trodAll_cons r1
  obtain⟨v3,vs3,d3,ds3,p3,q3,rfl,rfl,rfl,h3,r3⟩:=trodAll_cons r2
  obtain⟨v4,vs4,d4,ds4,p4,q4,rfl,rfl,rfl,h4,r4⟩:=trodAll_cons r3
  obtain⟨rfl,rfl,rfl⟩:=trodAll_nil r4
  obtain rfl:args=#[v0,v1,v2,v3,v4]:=by cases args; simp_all
  obtain⟨rfl,rfl⟩:=trodVars_none hV
  obtain⟨a1,rfl,rfl,rfl,w1⟩:=open_int Tryz.underlying3 (hval 1 3 v1 rfl rfl) h1
  obtain⟨a3,rfl,rfl,rfl,w3⟩:=open_int Tryz.underlying3 (hval 3 3 v3 rfl rfl) h3
  have hcell:∀ (j:Nat) (v:Value) (d:DataW H) (ps:List MemPlace),(∀ t,Tryz.f3.params[j]?=some t→Value.okWide Tryz.prog W .any base t v)→Tryz.f3.params[j]?=some 26→DataW.Trod enc Tryz.prog W 0 (fun _=>true) true 26 v d ps→v.cells.toList=[v]:=by
    intro j v d ps hv hj hd
    obtain⟨fuel,hf⟩:=hd
    obtain⟨vs,g1,g2,g3⟩:=read_cells (fun _=>Value.int .i64 0) plain26 fuel 26 _ _ (by simp) hf
    have hc:Tryz.prog.cellsOf 26=1:=by kernel_rfl
    rw[hc] at g3
    have hl:=g2.1
    rw[g3] at hl
    cases v<;>first | rfl | skip
    rename_i cs
    exfalso
    have hh:=hv 26 hj
    unfold Value.okWide at hh
    rw[Tryz.underlying26] at hh
    exact hh
  obtain⟨a2,_,_,hv2⟩:=read_ints (ρ:=fun _=>Value.int .i64 0) Tryz.underlying26 Tryz.underlying3 plain26 (hcell 2 v2 _ _ (fun t ht=>by rw[Tryz.params3] at ht; exact hval 2 t v2 ht rfl) (by rw[Tryz.params3]; rfl) h2) h2
  obtain⟨a4,_,_,hv4⟩:=read_ints (ρ:=fun _=>Value.int .i64 0) Tryz.underlying26 Tryz.underlying3 plain26 (hcell 4 v4 _ _ (fun t ht=>by rw[Tryz.params3] at ht; exact hval 4 t v4 ht rfl) (by rw[Tryz.params3]; rfl) h4) h4
  obtain⟨a0,hs0,hv0⟩:=read_store (ρ:=fun _=>Value.int .i64 0) h0
  refine (walk hs0 v0 a1 a2 v2 a3 a4 v4 W hv0 hv2 hv4).mono fun e W' ⟨he,hg⟩=>?_
  subst he
  simp only[List.append_nil] at hlt
  exact⟨_,rfl,post_below (pa:=_) (pv:=[]) hW' (fun _ _ _=>(trodAll_cons_mk (shut_bool Tryz.underlying4 _) trodAll_mk0))
    (fun sp hsp=>by
      exact args_after laidOut1 hg (sp:=sp) (ts:=Tryz.f3.params.toList) (by rw[Tryz.params3]; decide) hA1 (by simpa using hlt) (by simpa using hsp)) (fun _ _=>rfl) (by simp)
    hg (ok_one (by kernel_rfl) rfl (okWide_bool_mk Tryz.underlying4 _))⟩
theorem over:Rows.storeValidRow.holds Tryz.pinned (OpenSpec.ofChange Rows.storeValidSpec) :=
  OpenClaim.holds_of_wide 3 Tryz.f3 rfl rfl rfl rfl rfl rfl rfl ⟨rfl,rfl,rfl,rfl,rfl⟩ rfl rfl rfl rfl rfl (by kernel_rfl) Tryz.func3 (by kernel_rfl)
    (of_decide_eq_true (by kernel_rfl)) (by unfold Func.isWrapper; first | (rw[if_pos (by decide +kernel)]; kernel_rfl) | (rw[if_neg (by decide +kernel)]; exact⟨rfl,rfl⟩))
    (fun os started H enc _=>lifted os started H enc)
theorem proved:Rows.StoreValidSaid :=
  over
#print axioms proved
end Go.Proofs.YthfcfmkdeheicaaGreat.storeValid
