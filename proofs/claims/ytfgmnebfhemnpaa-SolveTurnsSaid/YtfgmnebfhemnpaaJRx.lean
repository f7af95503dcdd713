import Derived.Test.YtfgmnebfhemnpaaJS
set_option linter.all false
noncomputable section
/- Functions of a row that they append to,and two values;they hand back the row and one more value. -/
namespace Go.J
open Enc (enc)
def rxS(sz:Nat)(fst:Bool)(F:V→V→List (List V)→Option (List (List V)×V)):Spec:=fun vs hs=>match vs with
 | [v,a,b]=>gd (et a.pure (et b.pure (vacant hs hs.n))) (ob (rowOf sz hs v) fun es=>ob (F a b es) fun r =>
  gd (et (r.1.all fun e=>e.all V.pure2) (et (r.2.in2 fun _=>false) (Nat.ble (lenL es) (lenL r.1)))) (some (rwK fst (rowTo sz v es r.1 hs).1 r.2,(rowTo sz v es r.1 hs).2)))
 |_=>none
section
variable {ρ:Nat→Value}{E:Env}{f:FuncId}{fn:Func}{sc:SC}{T:PT V}{es es':List (List V)}{a b r:V}{sz:Nat}{fst:Bool}
theorem rx_run {KK:V→HS→Prop} (hρ:Good ρ) (hcon:ConsOk ρ E) (hP:E.P.follows .mixedOrders=true) (hN:Named E.P) (hf:E.P.funcs[f]?=some fn) (hb:fn.body.bind stripC=some sc) (he:enterJ fn.ntmps [oV 0 es,a,b] 0 .leaf=some T) (hpa:a.pure=true) (hpb:b.pure=true)
 (h0:(es.all fun e=>e.all V.pure2)=true) (h1:(es'.all fun e=>e.all V.pure2)=true) (hr:(r.in2 fun _=>false)=true) (hle:es.length≤es'.length)
 (h:Wp ρ E (if es=[]then 0 else 1) fn.ntmps sc T { H:=mkP (oH 0 sz es),n:=if es=[]then 0 else 1,log:=[] } (Leaves E.P fn KK))
 (hKK:∀ v hs,KK v hs→GivesL (if es=[]then 0 else 1) (rwK fst (oV 0 es') r) (oH 0 sz es') v hs∨GivesP (if es=[]then 0 else 1) (rwK fst (oV 0 es') r) (oH 0 sz es') v hs)
 {hs:HS} {v:V} (hv:rowOf sz hs v=some es) (hvac:hs.H.get hs.n=none):CallOk ρ E.P f [v,a,b] hs (rwK fst (rowTo sz v es es' hs).1 r) (rowTo sz v es es' hs).2:=by
 have hva:∀ π:Nat→Nat,a.ren π=a:=fun π=>V.ren_none (V.in3_pure hpa)
 have hvb:∀ π:Nat→Nat,b.ren π=b:=fun π=>V.ren_none (V.in3_pure hpb)
 have hrr:∀ π:Nat→Nat,r.ren2 π=r:=fun π=>V.ren2_none hr
 have hKr:∀ (π:Nat→Nat) (i:Nat),(rwK fst (oV i es') r).ren π=rwK fst (oV (π i) es') r:=by
  intro π i
  cases fst
  · show V.tuple ([r,oV i es'].map (V.ren2 π))=_
    rw[List.map_cons,List.map_cons,hrr]
    cases es'<;>rfl
  · show V.tuple ([oV i es',r].map (V.ren2 π))=_
    rw[List.map_cons,List.map_cons,hrr]
    cases es'<;>rfl
 have hKi:(rwK fst (oV 0 es') r).in3 (dom (oH 0 sz es'))=true:=by
  have hr2:r.in2 (dom (oH 0 sz es'))=true:=V.in2_mono (fun _ h=>by cases h) hr
  have ho2:(oV 0 es').in2 (dom (oH 0 sz es'))=true:=by cases es'<;>rfl
  cases fst
  · show ([r,oV 0 es'].all (V.in2 (dom (oH 0 sz es'))))=true
    simp[hr2,ho2]
  · show ([oV 0 es',r].all (V.in2 (dom (oH 0 sz es'))))=true
    simp[hr2,ho2]
 have hin':∀ p∈oH 0 sz es',p.2.in (dom (oH 0 sz es'))=true∧p.2.fz=false:=by
  intro p hp
  cases es' with
  |nil=>cases hp
  | cons a l =>
    simp only[oH_cons,List.mem_singleton]at hp
    subst hp
    exact⟨h1,rfl⟩
 have hB:=fun (s:Start) (e:Ending) (w:World) (he:BackL ρ E.P s KK e w)=>backP hKK he
 rcases rowOf_inv hv with⟨rfl,rfl⟩|⟨id,rfl,hne,hg,hid,_⟩
 · rw [if_pos rfl]at h hB
   have hin3:∀ v∈[V.snil,a,b],v.in3 (dom (oH 0 sz []))=true:=by
    intro v hv
    simp only[List.mem_cons,List.not_mem_nil,or_false]at hv
    rcases hv with rfl|rfl|rfl
    · rfl
    · exact V.in3_pure hpa
    · exact V.in3_pure hpb
   cases es' with
   | nil =>
     have key:=emb_okB (k:=0) (k':=0) (OL:=oH 0 sz []) (OL':=oH 0 sz []) (vs0:=[.snil,a,b]) hf hb he (Wp_ok hρ hcon hP hN h) hB rfl rfl (Nat.le_refl _) (fun p hp=>by cases hp) hin' hKi
      hin3 (hs:=hs) (π:=fun i=>i) (fun i j hi=>by omega) (fun p hp=>by cases hp) (fun i hi=>by omega) (fun i hi=>by omega)
     rw[List.map_cons,List.map_cons,List.map_cons,hva,hvb,hKr]at key
     exact key
   | cons c l =>
     have key:=emb_okB (k:=0) (k':=1) (OL:=oH 0 sz []) (OL':=oH 0 sz (c::l)) (vs0:=[.snil,a,b]) hf hb he (Wp_ok hρ hcon hP hN h) hB rfl rfl (Nat.zero_le _) (fun p hp=>by cases hp) hin' hKi
      hin3 (hs:=hs) (π:=fun i=>i) (fun i j hi=>by omega) (fun p hp=>by cases hp) (fun i hi=>by
       have:i=0:=by omega
       subst this;exact hvac) (fun i hi=>by omega)
     rw[List.map_cons,List.map_cons,List.map_cons,hva,hvb,hKr]at key
     have e2:embH hs 0 1 (fun i=>i) (oH 0 sz (c::l))={ H:=hs.H.set hs.n (oO sz (c::l)),n:=hs.n+1,log:=hs.n::hs.log }:=by
      show ({ H:=hs.H.set (news hs.n 0 (fun i=>i) 0) ((oO sz (c::l)).ren _),n:=hs.n+1,log:=[news hs.n 0 (fun i=>i) 0]++hs.log }:HS)=_
      rw[oO_ren h1];rfl
     rw[e2]at key
     exact key
 · rw [if_neg hne]at h hB
   have hne':es'≠[]:=by
    intro e
    rw[e]at hle
    exact hne (List.eq_nil_of_length_eq_zero (by simpa using hle))
   have key:=emb_okB (k:=1) (k':=1) (OL:=oH 0 sz es) (OL':=oH 0 sz es') (vs0:=[oV 0 es,a,b]) hf hb he (Wp_ok hρ hcon hP hN h) hB (by rw[oH_cons' hne];rfl) (by rw[oH_cons' hne'];rfl) (Nat.le_refl _)
    (fun p hp=>by
      rw[oH_cons' hne]at hp
      simp only[List.mem_singleton]at hp
      subst hp;exact h0) hin' hKi
    (fun v hv=>by
      simp only[List.mem_cons,List.not_mem_nil,or_false]at hv
      rcases hv with rfl|rfl|rfl
      · rw[oV_cons' hne,oH_cons' hne];rfl
      · exact V.in3_pure hpa
      · exact V.in3_pure hpb) (hs:=hs) (π:=fun _=>id) (fun i j hi hj _=>by omega) (fun p hp=>by
        rw[oH_cons' hne]at hp
        simp only[List.mem_singleton]at hp
        subst hp
        rw[oO_ren h0];exact hg) (fun i hi=>by omega) (fun _ _=>hid)
   rw[List.map_cons,List.map_cons,List.map_cons,hva,hvb,hKr]at key
   have e1:(oV 0 es).ren (fun _=>id)=oV id es:=by rw[oV_cons' hne,oV_cons' hne];rfl
   rw[e1]at key
   have e2:embH hs 1 1 (fun _=>id) (oH 0 sz es')=hs.wr id (oO sz es'):=by
    rw[oH_cons' hne']
    show ({ H:=hs.H.set (news hs.n 1 (fun _=>id) 0) ((oO sz es').ren _),n:=hs.n+0,log:=[news hs.n 1 (fun _=>id) 0]++hs.log }:HS)=_
    rw[oO_ren h1];rfl
   rw[e2]at key
   have e3:rowTo sz (oV id es) es es' hs=(oV id es',hs.wr id (oO sz es')):=by
    cases es with
    |nil=>exact absurd rfl hne
    |cons a l=>rfl
   rw[e3]
   exact key
end
section
variable {ρ:Nat→Value}{P:Program}{f:Nat}{sz:Nat}{fst:Bool}{F:V→V→List (List V)→Option (List (List V)×V)}
theorem Valid.rx (hf:FnOk P f) (h:∀ a b es r,a.pure=true→b.pure=true→(es.all fun e=>e.all V.pure2)=true→F a b es=some r→(r.1.all fun e=>e.all V.pure2)=true→(r.2.in2 fun _=>false)=true→es.length≤r.1.length →
 ∀ (hs:HS) (v:V),rowOf sz hs v=some es→hs.H.get hs.n=none→CallOk ρ P f [v,a,b] hs (rwK fst (rowTo sz v es r.1 hs).1 r.2) (rowTo sz v es r.1 hs).2):Valid ρ P f (rxS sz fst F) where
 fn:=hf
 ok := by
  intro vs hs v hs' hq
  unfold rxS at hq
  split at hq
  · rename_i v0 a b
    simp only[gd_eq,ob_eq,et_true]at hq
    obtain⟨⟨ha,hb,hvac⟩,es,hes,r,hr,⟨h1,h2,h3⟩,hq⟩:=hq
    cases hq
    rw[vacant_eq]at hvac
    rw[ble_true,lenL_eq,lenL_eq]at h3
    have h0:(es.all fun e=>e.all V.pure2)=true:=by
     rcases rowOf_inv hes with⟨_,rfl⟩|⟨_,_,_,_,_,h⟩
     · rfl
     · exact h
    exact h a b es r ha hb h0 hr h1 h2 h3 hs v0 hes hvac
  · cases hq
 kept := by
  intro vs hs q hq
  unfold rxS at hq
  split at hq
  · rename_i v0 a b
    simp only[gd_eq,ob_eq,et_true]at hq
    obtain⟨⟨_,_,hvac⟩,es,hes,r,hr,_,hq⟩:=hq
    cases hq
    rw[vacant_eq]at hvac
    unfold rowTo
    cases es with
    | nil =>
      show Kept hs (bi (Nat.beq (lenL r.1) 0) hs _)
      rw[bi_eq]
      split
      · exact .refl _
      · refine⟨fun k hk=>List.mem_cons_of_mem _ hk,fun k o ho hn=>?_,Nat.le_succ _,fun k hk=>?_⟩
        · show (hs.H.set hs.n _).get k=_
          rw[PT.set_get];split
          · rename_i e;subst e;rw[hvac]at ho;cases ho
          · exact ho
        · show (hs.H.set hs.n _).get k≠none
          rw[PT.set_get];split
          · simp
          · exact hk
    |cons a l=>exact wr_kept ..
  · cases hq
end
section
variable {sz:Nat}{fst:Bool}{F:V→V→List (List V)→Option (List (List V)×V)}{a b v:V}{hs:HS}{Q:V×HS→Prop}
@[simp] theorem rxS_ok:okT (rxS sz fst F [v,a,b] hs) Q=((a.pure=true∧b.pure=true∧hs.H.get hs.n=none)∧okT (rowOf sz hs v) fun es=>okT (F a b es) fun r =>
 ((r.1.all fun e=>e.all V.pure2)=true∧(r.2.in2 fun _=>false)=true∧es.length≤r.1.length)∧Q (rwK fst (rowTo sz v es r.1 hs).1 r.2,(rowTo sz v es r.1 hs).2)):=by
  show ok (rxS sz fst F [v,a,b] hs) Q=((a.pure=true∧b.pure=true∧hs.H.get hs.n=none)∧ok (rowOf sz hs v) fun es=>ok (F a b es) fun r =>
   ((r.1.all fun e=>e.all V.pure2)=true∧(r.2.in2 fun _=>false)=true∧es.length≤r.1.length)∧Q (rwK fst (rowTo sz v es r.1 hs).1 r.2,(rowTo sz v es r.1 hs).2))
  simp only[rxS,ok_gd,ok_ob,ok_some,et_true,vacant_eq,ble_true,lenL_eq]
end
end Go.J
