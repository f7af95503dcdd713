import Derived.Test.YthfcfmkdeheicaaGreatJS
set_option linter.all false
noncomputable section
/- Functions of two values and a row that they append to;they hand back the row and one more value. -/
namespace Go.J
open Enc (enc)
def rwK(fst:Bool)(v r:V):V:=match fst with
 |true=>.tuple [v,r]
 |false=>.tuple [r,v]
@[simp] theorem rwK_true {v r:V}:rwK true v r=.tuple [v,r]:=(rfl)
@[simp] theorem rwK_false {v r:V}:rwK false v r=.tuple [r,v]:=(rfl)
def rwS(sz:Nat)(fst:Bool)(F:V→V→List (List V)→Option (List (List V)×V)):Spec:=fun vs hs=>match vs with
 | [a,b,v]=>gd (et a.pure (et b.pure (zR hs hs.n))) (ob (rowOf sz hs v) fun es=>ob (F a b es) fun r =>
  gd (et (r.1.all fun e=>e.all V.pure2) (et (r.2.in2 fun _=>false) (Nat.ble (zC es) (zC r.1)))) (some (rwK fst (zbh sz v es r.1 hs).1 r.2,(zbh sz v es r.1 hs).2)))
 |_=>none
def GivesP(k:Nat)(v0:V)(OL:List (Nat×Obj))(v:V)(hs:HS):Prop:=∃ a b q,v=.tuple [a,b]∧zbG a hs=some q∧GivesL k v0 OL (.tuple [zac q.1,b]) q.2
theorem backP{ρ:Nat→Value}{P:Program}{s:Start}{K:V→HS→Prop}{k:Nat}{v0:V}{OL:List (Nat×Obj)}(hK:∀ v hs,K v hs→GivesL k v0 OL v hs∨GivesP k v0 OL v hs){e:Ending}{w:World}(h:BackL ρ P s K e w):BackL ρ P s (GivesL k v0 OL) e w:=by
 cases e with
 |panicked c=>exact h
 |outgrown=>exact h
 | returned x =>
   obtain⟨v,hs',F',μ',q,hL,hR,hD,hx⟩:=h
   rcases hK _ _ q with h|⟨a,b,p,rfl,hp,hg⟩
   · exact⟨v,hs',F',μ',h,hL,hR,hD,hx⟩
   · obtain⟨ys,rfl,hsz,hc⟩:=Rep.tuple_inv ρ hx
     obtain⟨F2,R2,f2,_,P2⟩:=zfu hR (hc 0 a rfl) hp
     refine⟨.tuple [zac p.1,b],p.2,F2,μ',hg,hL.step f2,R2,fun id g hg=>(zbT hp).hm id (hD id g hg),.tuple _ ys hsz fun i v hi=>?_⟩
     rcases i with _|_|i
     · cases hi;exact .pure P2.norm
     · cases hi;exact f2.rep hR (hc 1 b rfl)
     · simp at hi
section
variable {ρ:Nat→Value}{E:Env}{f:FuncId}{fn:Func}{sc:SC}{T:PT V}{es es':List (List V)}{a b r:V}{sz:Nat}{fst:Bool}
end
section
variable {ρ:Nat→Value}{P:Program}{f:Nat}{sz:Nat}{fst:Bool}{F:V→V→List (List V)→Option (List (List V)×V)}
theorem Valid.rw (hf:zjV P f) (h:∀ a b es r,a.pure=true→b.pure=true→(es.all fun e=>e.all V.pure2)=true→F a b es=some r→(r.1.all fun e=>e.all V.pure2)=true→(r.2.in2 fun _=>false)=true→es.length≤r.1.length →
 ∀ (hs:HS) (v:V),rowOf sz hs v=some es→hs.H.get hs.n=none→CallOk ρ P f [a,b,v] hs (rwK fst (zbh sz v es r.1 hs).1 r.2) (zbh sz v es r.1 hs).2):Valid ρ P f (rwS sz fst F) where
 fn:=hf
 ok := by
  intro vs hs v hs' hq
  unfold rwS at hq
  split at hq
  · rename_i a b v0
    simp only[zl,zb,et_true]at hq
    obtain⟨⟨ha,hb,hvac⟩,es,hes,r,hr,⟨h1,h2,h3⟩,hq⟩:=hq
    cases hq
    rw[vacant_eq]at hvac
    rw[ble_true,zB,zB]at h3
    have h0:(es.all fun e=>e.all V.pure2)=true:=by
     rcases zeA hes with⟨_,rfl⟩|⟨_,_,_,_,_,h⟩
     · rfl
     · exact h
    exact h a b es r ha hb h0 hr h1 h2 h3 hs v0 hes hvac
  · cases hq
 kept := by
  intro vs hs q hq
  unfold rwS at hq
  split at hq
  · rename_i a b v0
    simp only[zl,zb,et_true]at hq
    obtain⟨⟨_,_,hvac⟩,es,hes,r,hr,_,hq⟩:=hq
    cases hq
    rw[vacant_eq]at hvac
    unfold zbh
    cases es with
    | nil =>
      show Kept hs (bi (Nat.beq (zC r.1) 0) hs _)
      rw[zak]
      split
      · exact .refl _
      · refine⟨fun k hk=>List.mem_cons_of_mem _ hk,fun k o ho hn=>?_,Nat.le_succ _,fun k hk=>?_⟩
        · show (hs.H.set hs.n _).get k=_
          rw[PT.set_get];split
          · rename_i e;subst e;rw[hvac]at ho;cases ho
          · exact ho
        · show (hs.H.set hs.n _).get k≠none
          rw[PT.set_get];split
          · simp
          · exact hk
    |cons a l=>exact zbg ..
  · cases hq
end
section
variable {sz:Nat}{fst:Bool}{F:V→V→List (List V)→Option (List (List V)×V)}{a b v:V}{hs:HS}{Q:V×HS→Prop}
@[simp] theorem rwS_ok:okT (rwS sz fst F [a,b,v] hs) Q=((a.pure=true∧b.pure=true∧hs.H.get hs.n=none)∧okT (rowOf sz hs v) fun es=>okT (F a b es) fun r =>
 ((r.1.all fun e=>e.all V.pure2)=true∧(r.2.in2 fun _=>false)=true∧es.length≤r.1.length)∧Q (rwK fst (zbh sz v es r.1 hs).1 r.2,(zbh sz v es r.1 hs).2)):=by
  show ok (rwS sz fst F [a,b,v] hs) Q=((a.pure=true∧b.pure=true∧hs.H.get hs.n=none)∧ok (rowOf sz hs v) fun es=>ok (F a b es) fun r =>
   ((r.1.all fun e=>e.all V.pure2)=true∧(r.2.in2 fun _=>false)=true∧es.length≤r.1.length)∧Q (rwK fst (zbh sz v es r.1 hs).1 r.2,(zbh sz v es r.1 hs).2))
  simp only[rwS,zeE,zT,zm,et_true,vacant_eq,ble_true,zB]
variable {α β γ δ:Type} [Enc α] [Enc β] [Cel γ] [Enc δ]
def rwF(F:α→β→List γ→Option (List γ×δ))(a b:V)(es:List (List V)):Option (List (List V)×V) :=
 ob (Enc.dec a) fun a=>ob (Enc.dec b) fun b=>ob (zae es) fun L=>ob (F a b L) fun r=>some (r.1.map Cel.cells,enc r.2)
theorem rwF_inv{F:α→β→List γ→Option (List γ×δ)}{a b:V}{es:List (List V)}{r:List (List V)×V}(h:rwF F a b es=some r):∃ x y L q,a=enc x∧b=enc y∧es=L.map Cel.cells∧F x y L=some q∧r=(q.1.map Cel.cells,enc q.2):=by
 simp only[rwF,zb]at h
 obtain⟨x,hx,y,hy,L,hL,q,hq,h⟩:=h
 cases h
 exact⟨x,y,L,q,Enc.enc_dec _ _ hx,Enc.enc_dec _ _ hy,zar hL,hq,rfl⟩
@[simp] theorem rwF_n {F:α→β→List γ→Option (List γ×δ)} {es:List (List V)}:rwF F a b es=ob (Enc.dec a) fun a=>ob (Enc.dec b) fun b=>ob (zae es) fun L=>ob (F a b L) fun r=>some (r.1.map Cel.cells,enc r.2):=(rfl)
end
end Go.J
namespace Go.J
open Enc (enc)
theorem GivesP.keep{k:Nat}{v0 a b:V}{OL:List (Nat×Obj)}{hs:HS}(hi:nodupB (OL.map fun p=>p.1)=true)(hk:(List.range k).all (fun i=>dom OL i)=true)(hs2:ok (zaL hs a) fun a'=>V.tuple [zac a',b]=v0∧v0.in3 (dom OL)=true)
 (hH:∀ p∈OL,p.2.in (dom OL)=true∧(a.cells.any (ownB p.1))=false∧hs.H.get p.1=some p.2):GivesP k v0 OL (.tuple [a,b]) hs:=by
 obtain⟨a',ha,rfl,hv⟩:=hs2
 refine⟨a,b,(a',zbm hs a.cells),rfl,by simp only[zbG,ha];rfl,GivesL.keepX hi hk hv fun p hp=>?_⟩
 obtain⟨h1,h2,h3⟩:=hH p hp
 exact⟨h1,by rw[zoO h2];exact h3⟩
end Go.J
namespace Go.J
open Enc (enc)
section
variable {ρ:Nat→Value}{E:Env}{f:FuncId}{fn:Func}{sc:SC}{vs:List V}{T:PT V}{r:V}{c c':List V}
end
end Go.J
/- Functions of a row that they append to,and two values;they hand back the row and one more value. -/
namespace Go.J
open Enc (enc)
def rxS(sz:Nat)(fst:Bool)(F:V→V→List (List V)→Option (List (List V)×V)):Spec:=fun vs hs=>match vs with
 | [v,a,b]=>gd (et a.pure (et b.pure (zR hs hs.n))) (ob (rowOf sz hs v) fun es=>ob (F a b es) fun r =>
  gd (et (r.1.all fun e=>e.all V.pure2) (et (r.2.in2 fun _=>false) (Nat.ble (zC es) (zC r.1)))) (some (rwK fst (zbh sz v es r.1 hs).1 r.2,(zbh sz v es r.1 hs).2)))
 |_=>none
section
variable {ρ:Nat→Value}{E:Env}{f:FuncId}{fn:Func}{sc:SC}{T:PT V}{es es':List (List V)}{a b r:V}{sz:Nat}{fst:Bool}
theorem rx_run {KK:V→HS→Prop} (hρ:Good ρ) (hcon:ConsOk ρ E) (hP:E.P.follows .mixedOrders=true) (hN:zhx E.P) (hf:E.P.funcs[f]?=some fn) (hb:fn.body.bind zi=some sc) (he:zb3 fn.ntmps [oV 0 es,a,b] 0 .leaf=some T) (hpa:a.pure=true) (hpb:b.pure=true)
 (h0:(es.all fun e=>e.all V.pure2)=true) (h1:(es'.all fun e=>e.all V.pure2)=true) (hr:(r.in2 fun _=>false)=true) (hle:es.length≤es'.length)
 (h:Wp ρ E (if es=[]then 0 else 1) fn.ntmps sc T { H:=mkP (oH 0 sz es),n:=if es=[]then 0 else 1,log:=[] } (Leaves E.P fn KK))
 (hKK:∀ v hs,KK v hs→GivesL (if es=[]then 0 else 1) (rwK fst (oV 0 es') r) (oH 0 sz es') v hs∨GivesP (if es=[]then 0 else 1) (rwK fst (oV 0 es') r) (oH 0 sz es') v hs)
 {hs:HS} {v:V} (hv:rowOf sz hs v=some es) (hvac:hs.H.get hs.n=none):CallOk ρ E.P f [v,a,b] hs (rwK fst (zbh sz v es es' hs).1 r) (zbh sz v es es' hs).2:=by
 have hva:∀ π:Nat→Nat,a.ren π=a:=fun π=>V.ren_none (V.in3_pure hpa)
 have hvb:∀ π:Nat→Nat,b.ren π=b:=fun π=>V.ren_none (V.in3_pure hpb)
 have hrr:∀ π:Nat→Nat,r.ren2 π=r:=fun π=>V.ren2_none hr
 have hKr:∀ (π:Nat→Nat) (i:Nat),(rwK fst (oV i es') r).ren π=rwK fst (oV (π i) es') r:=by
  intro π i
  cases fst
  · show V.tuple ([r,oV i es'].map (V.ren2 π))=_
    rw[List.map_cons,List.map_cons,hrr]
    cases es'<;>rfl
  · show V.tuple ([oV i es',r].map (V.ren2 π))=_
    rw[List.map_cons,List.map_cons,hrr]
    cases es'<;>rfl
 have hKi:(rwK fst (oV 0 es') r).in3 (dom (oH 0 sz es'))=true:=by
  have hr2:r.in2 (dom (oH 0 sz es'))=true:=V.in2_mono (fun _ h=>by cases h) hr
  have ho2:(oV 0 es').in2 (dom (oH 0 sz es'))=true:=by cases es'<;>rfl
  cases fst
  · show ([r,oV 0 es'].all (V.in2 (dom (oH 0 sz es'))))=true
    simp[hr2,ho2]
  · show ([oV 0 es',r].all (V.in2 (dom (oH 0 sz es'))))=true
    simp[hr2,ho2]
 have hin':∀ p∈oH 0 sz es',p.2.in (dom (oH 0 sz es'))=true∧p.2.fz=false:=by
  intro p hp
  cases es' with
  |nil=>cases hp
  | cons a l =>
    simp only[zkd,List.mem_singleton]at hp
    subst hp
    exact⟨h1,rfl⟩
 have hB:=fun (s:Start) (e:Ending) (w:World) (he:BackL ρ E.P s KK e w)=>backP hKK he
 rcases zeA hv with⟨rfl,rfl⟩|⟨id,rfl,hne,hg,hid,_⟩
 · rw [if_pos rfl]at h hB
   have hin3:∀ v∈[V.snil,a,b],v.in3 (dom (oH 0 sz []))=true:=by
    intro v hv
    simp only[List.mem_cons,List.not_mem_nil,or_false]at hv
    rcases hv with rfl|rfl|rfl
    · rfl
    · exact V.in3_pure hpa
    · exact V.in3_pure hpb
   cases es' with
   | nil =>
     have key:=emb_okB (k:=0) (k':=0) (OL:=oH 0 sz []) (OL':=oH 0 sz []) (vs0:=[.snil,a,b]) hf hb he (zlb hρ hcon hP hN h) hB rfl rfl (Nat.le_refl _) (fun p hp=>by cases hp) hin' hKi
      hin3 (hs:=hs) (π:=fun i=>i) (fun i j hi=>by omega) (fun p hp=>by cases hp) (fun i hi=>by omega) (fun i hi=>by omega)
     rw[List.map_cons,List.map_cons,List.map_cons,hva,hvb,hKr]at key
     exact key
   | cons c l =>
     have key:=emb_okB (k:=0) (k':=1) (OL:=oH 0 sz []) (OL':=oH 0 sz (c::l)) (vs0:=[.snil,a,b]) hf hb he (zlb hρ hcon hP hN h) hB rfl rfl (Nat.zero_le _) (fun p hp=>by cases hp) hin' hKi
      hin3 (hs:=hs) (π:=fun i=>i) (fun i j hi=>by omega) (fun p hp=>by cases hp) (fun i hi=>by
       have:i=0:=by omega
       subst this;exact hvac) (fun i hi=>by omega)
     rw[List.map_cons,List.map_cons,List.map_cons,hva,hvb,hKr]at key
     have e2:zmc hs 0 1 (fun i=>i) (oH 0 sz (c::l))={ H:=hs.H.set hs.n (oO sz (c::l)),n:=hs.n+1,log:=hs.n::hs.log }:=by
      show ({ H:=hs.H.set (news hs.n 0 (fun i=>i) 0) ((oO sz (c::l)).ren _),n:=hs.n+1,log:=[news hs.n 0 (fun i=>i) 0]++hs.log }:HS)=_
      rw[zeF h1];rfl
     rw[e2]at key
     exact key
 · rw [if_neg hne]at h hB
   have hne':es'≠[]:=by
    intro e
    rw[e]at hle
    exact hne (List.eq_nil_of_length_eq_zero (by simpa using hle))
   have key:=emb_okB (k:=1) (k':=1) (OL:=oH 0 sz es) (OL':=oH 0 sz es') (vs0:=[oV 0 es,a,b]) hf hb he (zlb hρ hcon hP hN h) hB (by rw[zaj hne];rfl) (by rw[zaj hne'];rfl) (Nat.le_refl _)
    (fun p hp=>by
      rw[zaj hne]at hp
      simp only[List.mem_singleton]at hp
      subst hp;exact h0) hin' hKi
    (fun v hv=>by
      simp only[List.mem_cons,List.not_mem_nil,or_false]at hv
      rcases hv with rfl|rfl|rfl
      · rw[zai hne,zaj hne];rfl
      · exact V.in3_pure hpa
      · exact V.in3_pure hpb) (hs:=hs) (π:=fun _=>id) (fun i j hi hj _=>by omega) (fun p hp=>by
        rw[zaj hne]at hp
        simp only[List.mem_singleton]at hp
        subst hp
        rw[zeF h0];exact hg) (fun i hi=>by omega) (fun _ _=>hid)
   rw[List.map_cons,List.map_cons,List.map_cons,hva,hvb,hKr]at key
   have e1:(oV 0 es).ren (fun _=>id)=oV id es:=by rw[zai hne,zai hne];rfl
   rw[e1]at key
   have e2:zmc hs 1 1 (fun _=>id) (oH 0 sz es')=hs.wr id (oO sz es'):=by
    rw[zaj hne']
    show ({ H:=hs.H.set (news hs.n 1 (fun _=>id) 0) ((oO sz es').ren _),n:=hs.n+0,log:=[news hs.n 1 (fun _=>id) 0]++hs.log }:HS)=_
    rw[zeF h1];rfl
   rw[e2]at key
   have e3:zbh sz (oV id es) es es' hs=(oV id es',hs.wr id (oO sz es')):=by
    cases es with
    |nil=>exact absurd rfl hne
    |cons a l=>rfl
   rw[e3]
   exact key
end
section
variable {ρ:Nat→Value}{P:Program}{f:Nat}{sz:Nat}{fst:Bool}{F:V→V→List (List V)→Option (List (List V)×V)}
theorem Valid.rx (hf:zjV P f) (h:∀ a b es r,a.pure=true→b.pure=true→(es.all fun e=>e.all V.pure2)=true→F a b es=some r→(r.1.all fun e=>e.all V.pure2)=true→(r.2.in2 fun _=>false)=true→es.length≤r.1.length →
 ∀ (hs:HS) (v:V),rowOf sz hs v=some es→hs.H.get hs.n=none→CallOk ρ P f [v,a,b] hs (rwK fst (zbh sz v es r.1 hs).1 r.2) (zbh sz v es r.1 hs).2):Valid ρ P f (rxS sz fst F) where
 fn:=hf
 ok := by
  intro vs hs v hs' hq
  unfold rxS at hq
  split at hq
  · rename_i v0 a b
    simp only[zl,zb,et_true]at hq
    obtain⟨⟨ha,hb,hvac⟩,es,hes,r,hr,⟨h1,h2,h3⟩,hq⟩:=hq
    cases hq
    rw[vacant_eq]at hvac
    rw[ble_true,zB,zB]at h3
    have h0:(es.all fun e=>e.all V.pure2)=true:=by
     rcases zeA hes with⟨_,rfl⟩|⟨_,_,_,_,_,h⟩
     · rfl
     · exact h
    exact h a b es r ha hb h0 hr h1 h2 h3 hs v0 hes hvac
  · cases hq
 kept := by
  intro vs hs q hq
  unfold rxS at hq
  split at hq
  · rename_i v0 a b
    simp only[zl,zb,et_true]at hq
    obtain⟨⟨_,_,hvac⟩,es,hes,r,hr,_,hq⟩:=hq
    cases hq
    rw[vacant_eq]at hvac
    unfold zbh
    cases es with
    | nil =>
      show Kept hs (bi (Nat.beq (zC r.1) 0) hs _)
      rw[zak]
      split
      · exact .refl _
      · refine⟨fun k hk=>List.mem_cons_of_mem _ hk,fun k o ho hn=>?_,Nat.le_succ _,fun k hk=>?_⟩
        · show (hs.H.set hs.n _).get k=_
          rw[PT.set_get];split
          · rename_i e;subst e;rw[hvac]at ho;cases ho
          · exact ho
        · show (hs.H.set hs.n _).get k≠none
          rw[PT.set_get];split
          · simp
          · exact hk
    |cons a l=>exact zbg ..
  · cases hq
end
section
variable {sz:Nat}{fst:Bool}{F:V→V→List (List V)→Option (List (List V)×V)}{a b v:V}{hs:HS}{Q:V×HS→Prop}
@[simp] theorem rxS_ok:okT (rxS sz fst F [v,a,b] hs) Q=((a.pure=true∧b.pure=true∧hs.H.get hs.n=none)∧okT (rowOf sz hs v) fun es=>okT (F a b es) fun r =>
 ((r.1.all fun e=>e.all V.pure2)=true∧(r.2.in2 fun _=>false)=true∧es.length≤r.1.length)∧Q (rwK fst (zbh sz v es r.1 hs).1 r.2,(zbh sz v es r.1 hs).2)):=by
  show ok (rxS sz fst F [v,a,b] hs) Q=((a.pure=true∧b.pure=true∧hs.H.get hs.n=none)∧ok (rowOf sz hs v) fun es=>ok (F a b es) fun r =>
   ((r.1.all fun e=>e.all V.pure2)=true∧(r.2.in2 fun _=>false)=true∧es.length≤r.1.length)∧Q (rwK fst (zbh sz v es r.1 hs).1 r.2,(zbh sz v es r.1 hs).2))
  simp only[rxS,zeE,zT,zm,et_true,vacant_eq,ble_true,zB]
end
end Go.J
/- Functions that read a row of their caller and answer with two values. -/
namespace Go.J
open Enc (enc)
theorem V.in2_pure{A:Nat→Bool}{a:V}(h:a.pure=true):a.in2 A=true:=by
 have h3:=V.in3_pure (A:=A) h
 cases a<;>first|exact h3|cases h
def zmu(v:V):Bool:=match v with
 |.tuple [a,b]=>et a.pure b.pure
 |_=>false
@[simp] theorem pair2_n {a b:V}:zmu (.tuple [a,b])=et a.pure b.pure:=(rfl)
theorem pair2_inv{v:V}(h:zmu v=true):∃ a b,v=.tuple [a,b]∧a.pure=true∧b.pure=true:=by
 unfold zmu at h
 split at h
 · rename_i a b
   rw[et_true]at h
   exact⟨a,b,rfl,h.1,h.2⟩
 · cases h
theorem pair2_in3{A:Nat→Bool}{v:V}(h:zmu v=true):v.in3 A=true:=by
 obtain⟨a,b,rfl,ha,hb⟩:=pair2_inv h
 show ([a,b].all (V.in2 A))=true
 simp only[List.all_cons,List.all_nil,V.in2_pure ha,V.in2_pure hb,Bool.and_self]
theorem CallOk.quietT{ρ:Nat→Value}{P:Program}{hs hs1:HS}{f:FuncId}{vs:List V}{v:V}(h:CallOk ρ P f vs hs v hs1)(hv:zmu v=true)(hsub:∀ id o,hs.H.get id=some o→hs1.H.get id=some o)
 (hnew:∀ id,id<hs.n→hs.H.get id=none→hs1.H.get id=none):CallOk ρ P f vs hs v hs:=by
 obtain⟨a,b,rfl,ha,hb⟩:=pair2_inv hv
 intro X w F μ xs hR hD hO hA
 have hO1:Off X hs1:=fun id hx=>hnew id (Nat.lt_of_not_le fun hle=>hD.2 id hle hx) (hO id hx)
 refine CallsIn.mono (h X w F μ xs hR hD hO1 hA) fun e w' he=>?_
 cases e with
 | returned x =>
   obtain⟨F1,μ1,g1,g2,g3⟩:=he
   obtain⟨ys,rfl,hsz,hc⟩:=Rep.tuple_inv ρ g2
   refine⟨F1,μ,⟨fun id g m hm=>Nat.lt_of_lt_of_le (hR.lt id g m hm) g3.size,g1.flt,fun id o ho=>?_,hR.inj,hR.gens⟩,.tuple _ ys hsz fun i v hi=>?_,
    ⟨g3.io,g3.size,g3.keep,g3.fm,g3.fnew,fun _ _ _ hm=>hm,fun b hb=>.inl hb,fun _ hh=>hh,fun _ _ _=>rfl,fun _ _ hh=>hh,fun id g m hm=>.inr ⟨id,g,m,hm,rfl⟩⟩⟩
   · exact(hR.obj id o ho).part (g1.obj id o (hsub id o ho)) g3.mm
   · rcases i with _|_|i
     · cases hi;exact .pure (Rep.of_pure ρ (hc 0 a rfl) ha)
     · cases hi;exact .pure (Rep.of_pure ρ (hc 1 b rfl) hb)
     · simp at hi
 |panicked c=>exact he
 |outgrown=>exact he
def rdT(M:List V→HS→Option EmbD):Spec:=fun vs hs=>ob (M vs hs) fun D=>gd (zmu D.v0) (some (D.v0,hs))
theorem rdT_run{ρ:Nat→Value}{E:Env}{f:FuncId}{fn:Func}{sc:SC}{T:PT V}{D:EmbD}(hρ:J.Good ρ)(hcon:ConsOk ρ E)(hP:E.P.follows .mixedOrders=true)(hN:zhx E.P)(hf:E.P.funcs[f]?=some fn)(hb:fn.body.bind zi=some sc)(he:zb3 fn.ntmps D.vs0 0 .leaf=some T)
 (hg:D.Good) (ho:D.OL'=D.OL) (hr:zmu D.v0=true) (h:Wp ρ E D.k fn.ntmps sc T { H:=mkP D.OL,n:=D.k,log:=[] } (Leaves E.P fn (GivesL D.k D.v0 D.OL))) {vs:List V} {hs:HS} (hfit:D.Fits vs hs) :
 CallOk ρ E.P f vs hs D.v0 hs:=by
 have key:=em_run hρ hcon hP hN hf hb he hg (by rw[ho];exact h) hfit
 rw[V.ren_none (pair2_in3 hr)]at key
 have hsame:∀ id,(zmc hs D.k D.k' D.π D.OL').H.get id=hs.H.get id:=by
  intro id
  refine zka (fun p hp=>?_) id
  obtain⟨p0,hp0,rfl⟩:=List.mem_map.1 hp
  have hp1:p0∈D.OL:=by rw[← ho];exact hp0
  have hlt:∀ i,dom D.OL i=true→i<D.k:=by
   intro i hi
   obtain⟨q,hq,hqi⟩:=List.any_eq_true.1 hi
   rw[beq_true]at hqi
   exact List.mem_range.1 (by rw[← hg.ol];exact List.mem_map.2 ⟨q,hq,hqi⟩)
  have h0:p0.1<D.k:=hlt _ (List.any_eq_true.2 ⟨p0,hp1,beq_true.2 rfl⟩)
  show hs.H.get (news hs.n D.k D.π p0.1)=some (p0.2.ren (news hs.n D.k D.π))
  rw[show news hs.n D.k D.π p0.1=D.π p0.1 from if_pos h0,Obj.ren_congr (A:=dom D.OL) (π:=news hs.n D.k D.π) (σ:=D.π) (fun i hi=>if_pos (hlt i hi)) (hg.inn p0 hp1)]
  exact hfit.obj p0 hp1
 exact CallOk.quietT key hr (fun id o ho=>by rw[hsame];exact ho) (fun id _ hn=>by rw[hsame];exact hn)
theorem Valid.rdT{ρ:Nat→Value}{P:Program}{f:Nat}{M:List V→HS→Option EmbD}(hf:zjV P f)(h:∀ vs hs D,M vs hs=some D→zmu D.v0=true→CallOk ρ P f vs hs D.v0 hs):Valid ρ P f (rdT M) where
 fn:=hf
 ok:=by
  intro vs hs v hs' hq
  simp only[J.rdT,zb,zl]at hq
  obtain⟨D,hD,hp,hq⟩:=hq
  cases hq
  exact h _ _ _ hD hp
 kept:=by
  intro vs hs q hq
  simp only[J.rdT,zb,zl]at hq
  obtain⟨D,hD,hp,hq⟩:=hq
  cases hq
  exact .refl _
@[simp] theorem rdT_ok {M:List V→HS→Option EmbD} {vs:List V} {hs:HS} {Q:V×HS→Prop}:okT (J.rdT M vs hs) Q=okT (M vs hs) fun D=>zmu D.v0=true∧Q (D.v0,hs):=by
  show ok (J.rdT M vs hs) Q=ok (M vs hs) fun D=>zmu D.v0=true∧Q (D.v0,hs)
  simp only[J.rdT,zT,zeE,zm]
section
variable {α β γ:Type} [Enc α] [Enc β] [Cel γ]
def rtM(sz:Nat)(F:α→List γ→Option β)(vs:List V)(hs:HS):Option EmbD :=
 match vs with
 | [.own ro x o n c,a]=>ob (Enc.dec a:Option α) fun t=>ob (rowOf sz hs (.own ro x o n c)) fun es=>ob (zae es:Option (List γ)) fun l=>ob (F t l) fun r=>some (rrD sz 1 0 a 0 ro es (enc r))
 |_=>none
theorem rrD_goodT{sz w g:Nat}{a r:V}{id ro:Nat}{es:List (List V)}(hne:es≠[])(hp:(es.all fun e=>e.all V.pure2)=true)(ha:a.pure=true)(hr:zmu r=true):(rrD sz w g a id ro es r).Good:=by
 obtain⟨h1,h2,h3,h4,h5,_,h7⟩:=rrD_good (sz:=sz) (w:=w) (g:=g) (id:=id) (ro:=ro) (r:=.bool true) hne hp ha rfl
 exact⟨h1,h2,h3,h4,h5,pair2_in3 hr,h7⟩
theorem rrD_fitsT{sz g:Nat}{a r:V}{id ro:Nat}{es:List (List V)}(hne:es≠[])(hp:(es.all fun e=>e.all V.pure2)=true)(ha:a.pure=true){hs:HS}(h1:hs.H.get ro=some (oO sz es))(h2:ro<hs.n)
 {vs:List V} (hvs:vs=rrV 1 g a (oV ro es) id):(rrD sz 1 g a id ro es r).Fits vs hs:=by
 obtain⟨g1,g2,g3,g4,g5⟩:=rrD_fits (sz:=sz) (w:=1) (g:=g) (id:=id) (r:=.bool true) hne hp ha h1 h2 (fun h=>absurd h (by omega)) hvs
 exact⟨g1,g2,g3,g4,g5⟩
theorem rtM_inv{sz:Nat}{F:α→List γ→Option β}(hα:∀ a:α,(enc a:V).pure=true)(hβ:∀ a:β,zmu (enc a:V)=true){vs:List V}{hs:HS}{D:EmbD}(h:rtM sz F vs hs=some D) :
 ∃ t l r ro,F t l=some r∧l≠[]∧D=rrD sz 1 0 (enc t) 0 ro (l.map Cel.cells) (enc r)∧D.Good∧D.Fits vs hs:=by
 unfold rtM at h
 split at h
 · rename_i ro x o n c a
   simp only[zb]at h
   obtain⟨t,ht,es,hes,l,hl,r,hr,h⟩:=h
   cases h
   have e1:=Enc.enc_dec _ _ ht
   have e2:=zar hl
   rcases zeA hes with⟨h1,_⟩|⟨i,h1,h2,h3,h4,h5⟩
   · cases h1
   · have e3:ro=i:=by rw[zai h2]at h1;injection h1
     subst e3 e1
     refine⟨t,l,r,ro,hr,?_,by rw[← e2],rrD_goodT h2 h5 (hα _) (hβ _),rrD_fitsT h2 h5 (hα _) h3 h4 (by rw[h1];rfl)⟩
     rintro rfl
     exact h2 e2
 · cases h
variable {sz:Nat}{F:α→List γ→Option β}{a:V}{hs:HS}
@[simp] theorem rtM_n {ro x o n:Nat} {c:Option Nat}:rtM sz F [.own ro x o n c,a] hs=ob (Enc.dec a:Option α) fun t=>ob (rowOf sz hs (.own ro x o n c)) fun es=>ob (zae es:Option (List γ)) fun l=>ob (F t l) fun r=>some (rrD sz 1 0 a 0 ro es (enc r)):=(rfl)
end
def nrS(A B:Spec):Spec:=fun vs hs=>match vs with
 |.snil::l=>A (.snil::l) hs
 |.own i g o n c::l=>B (.own i g o n c::l) hs
 |_=>none
@[simp] theorem nrS_nil {A B:Spec} {l:List V} {hs:HS}:nrS A B (.snil::l) hs=A (.snil::l) hs:=(rfl)
@[simp] theorem nrS_own {A B:Spec} {i g o n:Nat} {c:Option Nat} {l:List V} {hs:HS}:nrS A B (.own i g o n c::l) hs=B (.own i g o n c::l) hs:=(rfl)
theorem Valid.nrS{ρ:Nat→Value}{P:Program}{f:Nat}{A B:Spec}(hA:Valid ρ P f A)(hB:Valid ρ P f B):Valid ρ P f (nrS A B) where
 fn:=hA.fn
 ok:=by
  intro vs hs v hs' hq
  unfold J.nrS at hq
  split at hq
  · exact hA.ok hq
  · exact hB.ok hq
  · cases hq
 kept:=by
  intro vs hs q hq
  unfold J.nrS at hq
  split at hq
  · exact hA.kept hq
  · exact hB.kept hq
  · cases hq
end Go.J
