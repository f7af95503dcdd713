import Derived.Test.YtjilhkjgejnmpaaGreatDoorOE1
import Derived.Test.YtjilhkjgejnmpaaGreatDoorOOM
import Derived.Test.YtjilhkjgejnmpaaGreatDoorOFi
import Derived.Test.YtjilhkjgejnmpaaGreatDoorOC0
import Derived.Test.YtjilhkjgejnmpaaGreatDoorOC1
import Derived.Test.YtjilhkjgejnmpaaGreatDoorOC2
import Derived.Test.YtjilhkjgejnmpaaGreatDoorOC3
import Derived.Test.YtjilhkjgejnmpaaGreatDoorOC4
import Derived.Test.YtjilhkjgejnmpaaGreatDoorOP0
import Derived.Test.YtjilhkjgejnmpaaGreatDoorOP1
import Derived.Test.YtjilhkjgejnmpaaGreatDoorOP2
import Derived.Test.YtjilhkjgejnmpaaGreatDoorOP3
import Derived.Test.YtjilhkjgejnmpaaGreatDoorOP4
import Derived.Test.YtjilhkjgejnmpaaGreatDoorOP5
set_option linter.all false
noncomputable section
/- The law CheckEscapes: its entrance and its end. -/
namespace Go.Proofs.YtjilhkjgejnmpaaGreatDoor
open Go.J
theorem prg_run {vs:List V} {v:V} (h:prgSp vs=some v):runJ (envL Tryz.prog pol []) 2000 20 vs=some v:=by
 unfold prgSp at h
 split at h
 · rename_i s
   have step:∀ (a:List Nat) (u:V) (r:Option V),runJ (envL Tryz.prog pol []) 2000 20 [.str a]=some u→(r=some v→runJ (envL Tryz.prog pol []) 2000 20 [.str s]=some v)→bi (eqNs a s) (some u) r=some v→runJ (envL Tryz.prog pol []) 2000 20 [.str s]=some v:=by
    intro a u r hu hr hb
    rw[bi_eq]at hb
    split at hb
    · rename_i e
      have:=eqNs_true.1 e
      subst this
      cases hb
      exact hu
    · exact hr hb
   exact step _ _ _ par0 (step _ _ _ par1 (step _ _ _ par2 (step _ _ _ par3 (step _ _ _ par4 (step _ _ _ par5 (step _ _ _ par6 (step _ _ _ par7 (step _ _ _ par8 (step _ _ _ par9 (step _ _ _ par10 (step _ _ _ par11 (step _ _ _ par12 (step _ _ _ par13 (step _ _ _ par14 (step _ _ _ par15 (step _ _ _ par16 (fun h=>by cases h))))))))))))))))) h
 · cases h
theorem vPrg{ρ:Nat→Value}(hρ:J.Good ρ):Valid ρ Tryz.prog 20 (pureS prgSp) :=
 Valid.pure hρ follows named (fnOk Tryz.func20 (by kernel_rfl)) fun vs v _ hv=>⟨_,2000,consOk_list valid_nil,rfl,prg_run hv⟩
def rhoG(a:Int):Nat→Value:=fun k=>if k=gB then .iface 318 (.agg #[.pointer (some ⟨1,143,none⟩)])else if k=0 then .int .i64 a else .int .i64 0
theorem rhoG_good(a:Int):J.Good (rhoG a):=by
 intro k
 unfold rhoG
 split
 · rfl
 · split<;>rfl
theorem rhoG_laid(a:Int):rhoG a gB=.iface 318 (.agg #[.pointer (some ⟨1,143,none⟩)]):=by simp[rhoG]
theorem rhoG_zero(a:Int):rhoG a 0=.int .i64 a:=by
 unfold rhoG
 rw[if_neg (by decide),if_pos rfl]
theorem rhoG_gl(a:Int){w:World}(h:w.cell? ⟨0,0,none⟩=some (.iface 318 (.agg #[.pointer (some ⟨1,143,none⟩)]))):Gl (rhoG a) w (fun b=>b<w.heap.size):=by
 intro v hv
 by_cases h0:v=0
 · subst h0
   refine⟨?_,by rw[h];exact congrArg some (rhoG_laid a).symm⟩
   show 0<w.heap.size
   by_cases hs:0<w.heap.size
   · exact hs
   · exfalso
     have:w.heap=#[]:=Array.eq_empty_of_size_eq_zero (by omega)
     simp[World.cell?,this]at h
 · exact absurd (by unfold rhoG;rw[if_neg (by omega),if_neg (by unfold gB;omega)]) hv
end Go.Proofs.YtjilhkjgejnmpaaGreatDoor
namespace Go.Proofs.YtjilhkjgejnmpaaGreatDoor.checkEscapes
open Go.J Go.ChangeShapes Go.WideShapes Go.ChangeAt Go.RowKit
theorem conts(a0:Int)(k:Nat)(hk:a0 % 5=(k:Int)):∀ p∈[(17,pureS trueV),(6,conMod [(0,5,k)]),(20,pureS prgSp),(58,outS faultSp),(182,outS isSp)],Valid (rhoG a0) Tryz.prog p.1 p.2:=by
 have hg:=rhoG_good a0
 have vP:=vPrg hg
 have vF:=vFault (rhoG_laid a0)
 have vI:Valid (rhoG a0) Tryz.prog 182 (outS isSp):=vIs
 have v1:Valid (rhoG a0) Tryz.prog 17 (pureS trueV):=true_valid hg (valid_cons vP (valid_cons vF (valid_cons vI valid_nil))) Tryz.func17 (by kernel_rfl) first22
 have vM:Valid (rhoG a0) Tryz.prog 6 (conMod [(0,5,k)]):=mod_valid (ns:=fun _=>a0) (fun p hp=>by
  obtain rfl:=List.mem_singleton.1 hp
  exact rhoG_zero a0) (fun p hp=>by
  obtain rfl:=List.mem_singleton.1 hp
  exact⟨by show (1:Nat)≤5;omega,by show (5:Nat)≤1000000;omega,hk⟩)
 exact valid_cons v1 (valid_cons vM (valid_cons vP (valid_cons vF (valid_cons vI valid_nil))))
theorem walk(a0:Int)(a1:Bool)(w:World)(hL:w.cell? ⟨0,0,none⟩=some (.iface 318 (.agg #[.pointer (some ⟨1,143,none⟩)]))) :
 Calls Tryz.prog 4 #[.int .i64 a0,.bool a1] w fun e w'=>e=.returned (.bool true)∧Below w.heap.size w w':=by
 obtain⟨k,hk5,hk⟩:=mod_nat a0 (m:=5) (by omega)
 have hg:=rhoG_gl a0 hL
 have h0:Val (rhoG a0) w (.sym 0) (.int .i64 a0):=by
  rw[← rhoG_zero a0]
  exact .sym 0
 have h1:Val (rhoG a0) w (.bool a1) (.bool a1):=.bool _
 have hc:=conts a0 k hk
 match k,a1,hk5,hc,h1 with
 | 0,false,_,hc,h1=>exact run_true (rhoG_good a0) hc runC_0_false rfl (args2 h0 h1) hg
 | 0,true,_,hc,h1=>exact run_true (rhoG_good a0) hc runC_0_true rfl (args2 h0 h1) hg
 | 1,false,_,hc,h1=>exact run_true (rhoG_good a0) hc runC_1_false rfl (args2 h0 h1) hg
 | 1,true,_,hc,h1=>exact run_true (rhoG_good a0) hc runC_1_true rfl (args2 h0 h1) hg
 | 2,false,_,hc,h1=>exact run_true (rhoG_good a0) hc runC_2_false rfl (args2 h0 h1) hg
 | 2,true,_,hc,h1=>exact run_true (rhoG_good a0) hc runC_2_true rfl (args2 h0 h1) hg
 | 3,false,_,hc,h1=>exact run_true (rhoG_good a0) hc runC_3_false rfl (args2 h0 h1) hg
 | 3,true,_,hc,h1=>exact run_true (rhoG_good a0) hc runC_3_true rfl (args2 h0 h1) hg
 | 4,false,_,hc,h1=>exact run_true (rhoG_good a0) hc runC_4_false rfl (args2 h0 h1) hg
 | 4,true,_,hc,h1=>exact run_true (rhoG_good a0) hc runC_4_true rfl (args2 h0 h1) hg
set_option maxRecDepth 100000 in
theorem lifted(os:Os)(started:os.Started)(H:Type)(enc:TypeId×Value→H) :
 ReturnsInHanded {} Tryz.checked os 4 .any (fun w args=>(Rows.checkEscapesSpec.pre enc Tryz.prog Tryz.f4 [] false w args∧laidMetH Tryz.prog laidL w)∧sizedMet enc Tryz.prog Tryz.f4 (OpenSpec.ofChange Rows.checkEscapesSpec) false w args)
  (Rows.checkEscapesSpec.post enc Tryz.prog Tryz.f4 false true false false):=by
 refine returnsInHanded_of_change_and (C:=Tryz.checked) (X:=fun w _=>laidMetH Tryz.prog laidL w) (fun _ _ _ hh h=>h.of_heap hh) ownKnob_none started (by kernel_rfl) Tryz.func4
  (ChangeSpec.witness_at (enc:=enc) (C:=Tryz.checked) (os:=os) (X:=fun w _=>laidMetH Tryz.prog laidL w) false (laidWorld os) #[.int .i64 0,.bool false] 8 rfl (by kernel_rfl) (by kernel_rfl) (by kernel_rfl) (by kernel_rfl) (by kernel_rfl) (laidWorld_met os _)) ?_
 intro W base args ds gs before hval0 hW _ _ hL _
 have hval:∀ (j:Nat) t v,Tryz.f4.params[j]?=some t→args[j]?=some v→Value.okWide Tryz.prog W .any base t v:=hval0
 have hW':=hW
 obtain⟨p,q,hA0,hV,rfl,hfz,hnd⟩:=hW
 have hA:DataW.TrodAll enc Tryz.prog W 0 (fun _=>true) true Tryz.f4.params.toList args.toList ds p:=hA0
 rw[Tryz.params4]at hA hval
 obtain⟨v0,vs0,d0,ds0,p0,q0,hargs,rfl,rfl,h0,r0⟩:=trodAll_cons hA
 obtain⟨v1,vs1,d1,ds1,p1,q1,rfl,rfl,rfl,h1,r1⟩:=trodAll_cons r0
 obtain⟨rfl,rfl,rfl⟩:=trodAll_nil r1
 obtain rfl:args=#[v0,v1]:=by cases args;simp_all
 obtain⟨rfl,rfl⟩:=trodVars_none hV
 obtain⟨a0,rfl,rfl,rfl,w0⟩:=open_int Tryz.underlying3 (hval 0 3 v0 rfl rfl) h0
 obtain⟨a1,rfl,rfl,rfl⟩:=open_bool Tryz.underlying4 (hval 1 4 v1 rfl rfl) h1
 clear hA0 hval0
 simp only[List.append_nil]at hW'
 refine(walk a0 a1 W (handle_of_laid hL)).mono fun e W' ⟨he,hg⟩=>?_
 subst he
 exact⟨_,rfl,post_below (pa:=[]) (pv:=[]) hW' (fun _ _ _=>(trodAll_cons_mk (shut_bool Tryz.underlying4 _) trodAll_mk0)) (fun sp _=>(trodAll_cons_mk (shut_int Tryz.underlying3 w0) (trodAll_cons_mk (shut_bool Tryz.underlying4 _) trodAll_mk0))) (fun _ _=>rfl) rfl
  hg (ok_one (by kernel_rfl) rfl (okWide_bool_mk Tryz.underlying4 _))⟩
end Go.Proofs.YtjilhkjgejnmpaaGreatDoor.checkEscapes
