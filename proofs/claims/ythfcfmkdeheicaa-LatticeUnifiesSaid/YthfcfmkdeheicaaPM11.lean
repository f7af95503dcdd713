import Derived.Test.YthfcfmkdeheicaaPM10
set_option linter.all false
noncomputable section
namespace Go.Proofs.Ythfcfmkdeheicaa
open Go.J
open Go.J.Enc (enc)
set_option maxRecDepth 100000
set_option maxHeartbeats 1000000
def madeD (bits:Int) (codes:List Int):EmbD where
  k:=0
  k':=1
  π:=fun i=>i
  OL:=[]
  OL':=[(0,box (Cel.cells (madeM ⟨codes,0⟩ (datasOf bits)).2.2.2))]
  vs0:=[enc bits,enc codes]
  v0:=.tuple [enc (madeM ⟨codes,0⟩ (datasOf bits)).1,enc (madeM ⟨codes,0⟩ (datasOf bits)).2.1,enc (madeM ⟨codes,0⟩ (datasOf bits)).2.2.1,.ptr 0 0 0]
def madeMM (vs:List V) (hs:HS):Option EmbD:=match vs with
  | [bv,cv]=>ob (Enc.dec bv:Option Int) fun bits=>ob (Enc.dec cv:Option (List Int)) fun codes=>gd (et (Nat.ble (lenL codes) 60) (vacant hs hs.n)) (some (madeD bits codes))
  | _=>none
@[simp] theorem madeMM_n {bv cv:V} {hs:HS}:madeMM [bv,cv] hs=ob (Enc.dec bv:Option Int) fun bits=>ob (Enc.dec cv:Option (List Int)) fun codes=>gd (et (Nat.ble (lenL codes) 60) (vacant hs hs.n)) (some (madeD bits codes)):=(rfl)
theorem madeD_val {bits:Int} {codes:List Int} {hs:HS} {a b x:Ty} {t:Tp} (h:madeM ⟨codes,0⟩ (datasOf bits)=(a,b,x,t)):(madeD bits codes).val hs=.tuple [enc a,enc b,enc x,.ptr hs.n 0 0]:=by
  have e:(madeD bits codes).v0=.tuple [enc a,enc b,enc x,.ptr 0 0 0]:=by show V.tuple _=_; rw[h]
  show (madeD bits codes).v0.ren _=_
  rw[e]
  have hv:∀ (π:Nat→Nat) (t:Ty),(enc t:V).ren2 π=enc t:=fun π t=>V.ren2_none (V.in3_pure (enc_pure1 t))
  show V.tuple [(enc a:V).ren2 _,(enc b:V).ren2 _,(enc x:V).ren2 _,(V.ptr 0 0 0).ren2 _]=_
  rw[hv,hv,hv]
  rfl
theorem madeD_heap {bits:Int} {codes:List Int} {hs:HS} {a b x:Ty} {t:Tp} (h:madeM ⟨codes,0⟩ (datasOf bits)=(a,b,x,t)):(madeD bits codes).heap hs={ H:=hs.H.set hs.n (box (Cel.cells t)),n:=hs.n+1,log:=hs.n::hs.log }:=by
  have e:(madeD bits codes).OL'=[(0,box (Cel.cells t))]:=by show [(0,_)]=_; rw[h]
  show embH hs 0 1 _ (madeD bits codes).OL'=_
  rw[e]
  show ({ H:=hs.H.set (news hs.n 0 (fun i=>i) 0) ((box (Cel.cells t)).ren _),n:=hs.n+1,log:=[news hs.n 0 (fun i=>i) 0]++hs.log }:HS)=_
  rfl
section
variable {ρ:Nat→Value} (hρ:J.Good ρ)
include hρ
section
variable {E:Env} (hE:E.P=Try.prog) (hcon:ConsOk ρ E)
include hE hcon
theorem law15_made_run (h3:E.con 15=fnS (spec1 fun bits:Int=>some (datasOf bits))) (h5:E.con 32=mkVarsS) (h6:E.con 59=fnS (spec2 fun h i:Int=>some (tRigid h i))) (h7:E.con 31=stS (stF3 (typeF 2))) (h8:E.con 51=stS (stF2 substF))
    (h9:E.con 50=fnS (spec2 (replF 7))) (h10:E.con 58=stS (stF1 nextF)) {bits:Int} {codes:List Int} (hl:codes.length≤60) {hs:HS} (hvac:hs.H.get hs.n=none) :
    CallOk ρ Try.prog 43 [enc bits,enc codes] hs ((madeD bits codes).v0.ren (news hs.n 0 fun i=>i)) (embH hs 0 1 (fun i=>i) (madeD bits codes).OL'):=by
  have htp:(⟨codes,0⟩:Tp).ok:=⟨Int.le_refl _,by show codes.length≤100000; omega⟩
  have hDk:=datasOf_ok bits
  have hD3:=datasOf_ok3 bits
  rcases hm:madeM ⟨codes,0⟩ (datasOf bits) with⟨ra,rb,rx,rt⟩
  have hv0:(madeD bits codes).v0=.tuple [enc ra,enc rb,enc rx,.ptr 0 0 0]:=by show V.tuple _=_; rw[hm]
  have hOL:(madeD bits codes).OL'=[(0,box (Cel.cells rt))]:=by show [(0,_)]=_; rw[hm]
  refine em hρ hE hcon (D:=madeD bits codes) Try.func43 fB43 rfl ⟨rfl,rfl,Nat.zero_le _,fun p hp=>(by cases hp),fun p hp=>?_,?_,fun v hv=>?_⟩ ?_ ⟨rfl,fun i j hi=>absurd hi (Nat.not_lt_zero _),fun p hp=>(by cases hp),fun i hi=>?_,fun i hi=>absurd hi (Nat.not_lt_zero _)⟩
  · obtain rfl:=List.mem_singleton.1 hp
    exact⟨rfl,rfl⟩
  · rw[hv0,hOL]
    show ([enc ra,enc rb,enc rx,V.ptr 0 0 0].all (V.in2 _))=true
    have hp:∀ t:Ty,(enc t:V).in2 (dom [(0,box (Cel.cells rt))])=true:=fun t=>V.in3_pure (enc_pure1 t)
    simp only[List.all_cons,List.all_nil,Bool.and_true,hp,Bool.true_and]
    rfl
  · have hv:v∈[(enc bits:V),enc codes]:=hv
    simp only[List.mem_cons,List.not_mem_nil,or_false] at hv
    rcases hv with rfl | rfl<;>rfl
  · rw[hv0,hOL]
    show Wp ρ E 0 _ _ _ { H:=mkP [],n:=0,log:=[] } (J.Leaves _ _ (GivesL 0 _ _))
    rw[show Try.f43.ntmps=49 from rfl]
    generalize hDq:datasOf bits=D at hm hDk hD3
    have hlv:=varTs_len 3
    have hxn:Nc 7 (madeX ⟨codes,0⟩ D).2:=typeM_nc hD3 (leaves_nc (nc_rigid _ _ (Nat.le_refl _))) 2 _ (by decide)
    have f1:typeF 2 ⟨codes,0⟩ D (varTs 3++[tRigid 0 0]) 2=some (madeX ⟨codes,0⟩ D):=if_pos ⟨htp,hDk,by simp,by decide⟩
    have o1:(madeX ⟨codes,0⟩ D).1.ok:=(typeM_ok _ _ htp).1
    unfold madeM at hm
    generalize madeX ⟨codes,0⟩ D=X at hm hxn f1 o1
    obtain⟨t1,x⟩:=X
    simp only at hm hxn o1
    have f2:substF t1 D 3=some (substM t1 D 3 3):=if_pos ⟨o1,hDk,by decide,by decide⟩
    have o2:=substM_ok o1 D 3 3
    generalize substM t1 D 3 3=S1 at hm f2 o2
    obtain⟨t2,s1⟩:=S1
    simp only at hm o2
    have f3:replF 7 x s1=some (x.repl s1):=if_pos ⟨hxn.ok,hxn.sz,by omega⟩
    have f4:substF t2 D 3=some (substM t2 D 3 3):=if_pos ⟨o2.1,hDk,by decide,by decide⟩
    have o4:=substM_ok o2.1 D 3 3
    generalize substM t2 D 3 3=S2 at hm f4 o4
    obtain⟨t3,s2⟩:=S2
    simp only at hm o4
    have f5:replF 7 x s2=some (x.repl s2):=if_pos ⟨hxn.ok,hxn.sz,by omega⟩
    have f6:nextF t3 3=some (t3.next 3):=if_pos ⟨o4.1,by decide,by decide⟩
    have o6:=next_ok o4.1 3
    generalize t3.next 3=C at hm f6 o6
    obtain⟨t4,c⟩:=C
    simp only at hm o6
    have f7:typeF 2 t4 D (varTs 3++[tRigid 0 1]) 2=some (typeM 2 t4 D (varTs 3++[tRigid 0 1])):=if_pos ⟨o6,hDk,by simp,by decide⟩
    generalize typeM 2 t4 D (varTs 3++[tRigid 0 1])=Y at hm f7
    obtain⟨t5,y⟩:=Y
    generalize x.repl s1=a at hm f3
    generalize x.repl s2=b at hm f5
    generalize hV:varTs 3=W at f1 f7 hlv
    rcases W with _ | ⟨v,W⟩
    · simp at hlv
    have h64:(W.length+1+1)*64≤1048576:=Nat.le_trans (Nat.mul_le_mul_right 64 (show W.length+1+1≤102 by simp only[List.length_cons] at hlv; omega)) (by decide)
    rw[List.cons_append] at f1 f7
    by_cases hc:c=0
    · rw[if_pos hc] at hm
      simp only[Prod.mk.injEq] at hm
      obtain⟨rfl,rfl,rfl,rfl⟩:=hm
      simp[fS43r0,fS43r1,fS43r2,fS43r3,fS43r4,fS43r5,fS43r6,fS43r7,fS43r8,fS43,hE,h3,h5,h6,h7,h8,h9,h10,hDq,mkVarsS,hV,f1,f2,f3,f4,f5,f6,f7,h64,hc,Nat.not_succ_le_self]
      exact GivesL.litX (fun k=>if k=0 then 6 else k) rfl rfl ⟨rfl,rfl⟩ (by simp)
    · rw[if_neg hc] at hm
      simp only[Prod.mk.injEq] at hm
      obtain⟨rfl,rfl,rfl,rfl⟩:=hm
      simp[fS43r0,fS43r1,fS43r2,fS43r3,fS43r4,fS43r5,fS43r6,fS43r7,fS43r8,fS43,hE,h3,h5,h6,h7,h8,h9,h10,hDq,mkVarsS,hV,f1,f2,f3,f4,f5,f6,f7,h64,hc,Nat.not_succ_le_self]
      exact GivesL.litX (fun k=>if k=0 then 6 else k) rfl rfl ⟨rfl,rfl⟩ (by simp)
  · obtain rfl:i=0:=Nat.lt_one_iff.1 hi
    exact hvac
end
theorem vMade:Valid ρ Try.prog 43 (embS madeMM):=Valid.emb (fo Try.func43 fB43) fun vs hs D h=>by
  unfold madeMM at h
  split at h
  · simp only[ob_eq,gd_eq,et_true,ble_true,vacant_eq,lenL_eq] at h
    obtain⟨bits,hb,codes,hc,⟨h1,h2⟩,h⟩:=h
    cases h
    rw[Enc.enc_dec _ _ hb,Enc.enc_dec _ _ hc]
    exact law15_made_run hρ (E:=EL [(15,fnS (spec1 fun bits:Int=>some (datasOf bits))),(32,mkVarsS),(59,fnS (spec2 fun h i:Int=>some (tRigid h i))),(31,stS (stF3 (typeF 2))),(51,stS (stF2 substF)),(50,fnS (spec2 (replF 7))),(58,stS (stF1 nextF))]) rfl
      (consOk_list (valid_cons (vDatas hρ) (valid_cons (vMkVars hρ) (valid_cons (vRigid hρ) (valid_cons (vType hρ 2 (by omega)) (valid_cons (vSubst hρ) (valid_cons (vReplace hρ 7) (valid_cons (vNext hρ) valid_nil)))))))) rfl rfl rfl rfl rfl rfl rfl h1 h2
  · cases h
end
end Go.Proofs.Ythfcfmkdeheicaa
