import Derived.Test.YthfcfmkdeheicaaGreatGP1
import Derived.Test.YthfcfmkdeheicaaGreatJL
set_option linter.all false
noncomputable section
namespace Go.Proofs.YthfcfmkdeheicaaGreat
open Go.J
open Go.J.Enc (enc)
set_option maxRecDepth 100000
set_option maxHeartbeats 4000000
theorem room1 {n:Nat} (h:n≤1000):∀ b,b≤200→n*b≤1048576:=fun b hb=>Nat.le_trans (Nat.mul_le_mul h hb) (by decide)
theorem room2 {n:Nat} (h:n≤1000):∀ b,b≤200→(n+1)*b≤1048576:=fun b hb=>Nat.le_trans (Nat.mul_le_mul (Nat.succ_le_succ h) hb) (by decide)
section
variable {ρ:Nat→Value} (hρ:J.Good ρ) {E:Env} (hE:E.P=Tryz.prog) (hcon:ConsOk ρ E)
include hρ hE hcon
theorem ref16_New_run (hs:HS):CallOk ρ Tryz.prog 55 [] hs (enc (⟨[],[]⟩:Store)) hs:=by
  refine fn hρ hE hcon Tryz.func55 fB55 rfl (by simp) ?_ hs
  simp[fS55r0,fS55r1,fS55,hE]
theorem ref16_Fresh_run (hc:E.con 52=fnS (spec1 fun i=>some (tVar i))) {s:Store} {home:Int} {base:Bool} (h:s.small) (hs:HS):CallOk ρ Tryz.prog 57 [enc s,enc home,enc base] hs (enc (s.fresh home base)) hs:=by
  refine fn hρ hE hcon Tryz.func57 fB57 rfl (by simp) ?_ hs
  obtain⟨sl,tr⟩:=s
  obtain⟨h1,h2⟩:=h
  simp only at h1 h2
  have k1:=room1 h1
  have k2:=room2 h1
  have k3:=room1 h2
  have k4:=room2 h2
  rcases sl with _ | ⟨a,sl⟩<;>rcases tr with _ | ⟨b,tr⟩<;>simp at k1 k2 k3 k4 <;>
  simp[fS57r0,fS57r1,fS57r2,fS57r3,fS57r4,fS57,hE,hc,Store.fresh,ty0,slotZ,tVar,k1,k2,k3,k4,Nat.not_succ_le_self]
theorem ref3_IsArrow_run {t:Ty} (hs:HS):CallOk ρ Tryz.prog 166 [enc t] hs (enc (isArrow t)) hs:=by
  refine fn hρ hE hcon Tryz.func166 fB166 rfl (by simp) ?_ hs
  obtain⟨k,n,i,h,l⟩:=t
  rcases l with _ | ⟨a,_ | ⟨b,_ | ⟨c,l⟩⟩⟩<;>simp[fS166r0,fS166r1,fS166r2,fS166r3,fS166,hE] <;>
  repeat' (refine brT_mk (fun h=>?_) (fun h=>?_)<;>simp[h,hE,fS166r0,fS166r1,fS166r2,fS166r3,fS166])
  all_goals first | omega | simp_all [isArrow,ty0]
theorem store_has_run {s:Store} {i:Int} (hs:HS):CallOk ρ Tryz.prog 68 [enc s,enc i] hs (enc (s.slot? i).isSome) hs:=by
  refine fn hρ hE hcon Tryz.func68 fB68 rfl (by simp) ?_ hs
  have e:(s.slot? i).isSome=decide (0≤i∧i<s.slots.length):=by
    cases h:s.slot? i with
    | none=>have:=Store.slot?_none h; simp; omega
    | some x=>obtain⟨j,rfl,hj,_⟩:=Store.slot?_some h; simp; omega
  rw[e]
  simp[fS68r0,fS68r1,fS68,hE]
  repeat' (refine brT_mk (fun h=>?_) (fun h=>?_)<;>simp[h,hE,fS68r0,fS68r1,fS68])
end
end Go.Proofs.YthfcfmkdeheicaaGreat
namespace Go.Proofs.YthfcfmkdeheicaaGreat
open Go.J
open Go.J.Enc (enc)
set_option maxRecDepth 100000
set_option maxHeartbeats 4000000
section
variable {ρ:Nat→Value} (hρ:J.Good ρ) {E:Env} (hE:E.P=Tryz.prog) (hcon:ConsOk ρ E)
include hρ hE hcon
theorem ref16_bound_run {s:Store} {t:Ty} (hs:HS):CallOk ρ Tryz.prog 164 [enc s,enc t] hs (enc (s.bound t)) hs:=by
  refine fn hρ hE hcon Tryz.func164 fB164 rfl (by simp) ?_ hs
  by_cases hk:t.kind=1
  · cases h:s.slot? t.id with
    | none =>
      have e:s.bound t=false:=by unfold Store.bound; rw[h]; split<;>simp_all
      have:=Store.slot?_none h
      simp[fS164r0,fS164r1,fS164,hE,hk,e]
      repeat' (refine brT_mk (fun h=>?_) (fun h=>?_)<;>simp[h,hE,e])
      all_goals omega
    | some x =>
      obtain⟨i,hl,hi,hx⟩:=Store.slot?_at h
      rw[Store.bound_eq hk h]
      simp[fS164r0,fS164r1,fS164,hE,hk,hi,hl,hx]
  · have e:s.bound t=false:=by unfold Store.bound; simp[hk]
    simp[fS164r0,fS164r1,fS164,hE,hk,e]
theorem ref16_Walk_loop (hc:E.con 164=fnS (spec2 fun (s:Store) (t:Ty)=>some (s.bound t))) {s:Store} (h:s.slots.length≤1000000) {r:Ty} {Q:Ex→PT V→HS→Prop}
    (hQ:Q (.exit 0) (mkP [(3,.ptr 1 0 0),(4,.ptr 2 0 0)]) { H:=mkP [(1,box (encTy r)),(2,.arr 5 0 [[.int .i64 0,.str [],.int .i64 0,.int .i64 0,.snil]] true false false)],n:=3,log:=[] }) :
    ∀ (m i:Nat) (t:Ty),i+m=s.slots.length+1→s.walkN m t=r→LsN ρ E 0 26 fS135l0 (LessQ 0 Q) (m+1) (mkP [(2,.ptr 0 0 0),(3,.ptr 1 0 0),(4,.ptr 2 0 0),(5,.int .i64 (i:Int))])
      { H:=mkP [(0,box (encStore s)),(1,box (encTy t)),(2,.arr 5 0 [[.int .i64 0,.str [],.int .i64 0,.int .i64 0,.snil]] true false false)],n:=3,log:=[] }:=by
  intro m
  induction m with
  | zero =>
    intro i t hi ht
    have hil:¬ (i:Int)≤s.slots.length:=by omega
    refine lp hρ hE hcon fun K hK=>?_
    simp[fS135l0,fS135r0,fS135r1,fS135r2,fS135r3,fS135b0,fS135r4,fS135b1,fS135r5,fS135,hE,hil]
    cases ht
    refine LessQ.mk (Less.keep 3 ?_ ?_ rfl rfl) hQ<;>simp[Store.walkN]
  | succ m ih =>
    intro i t hi ht
    have hil:(i:Int)≤s.slots.length:=by omega
    have hw:IntKind.i64.wrap ((i:Int)+1)=((i+1:Nat):Int):=wrap_succ (by omega)
    refine lp hρ hE hcon fun K hK=>?_
    unfold Store.walkN at ht
    by_cases hb:s.bound t=true
    · rw[if_pos hb] at ht
      obtain⟨hk,x,hx,hxb⟩:=Store.bound_true hb
      obtain⟨j,hjl,hj,hxj⟩:=Store.slot?_at hx
      have ht2:s.to t=x.type:=by unfold Store.to; rw[hx]
      obtain⟨k,n,id,hm,l⟩:=t
      simp only[Ty.id_mk] at hj
      subst hj
      simp[fS135l0,fS135r0,fS135r1,fS135r2,fS135r3,fS135b0,fS135r4,fS135b1,fS135r5,fS135,hE,hil,hc,hb,hw,hjl,hxj,-Int.natCast_add]
      rw[ht2] at ht
      exact hK _ _ (LsN_less (Less.keep 3 (by simp[-Int.natCast_add]) (by simp) rfl rfl) (ih (i+1) _ (by omega) ht))
    · rw[if_neg hb] at ht
      subst ht
      simp[fS135l0,fS135r0,fS135r1,fS135r2,fS135r3,fS135b0,fS135r4,fS135b1,fS135r5,fS135,hE,hil,hc,hb]
      refine LessQ.mk (Less.keep 3 ?_ ?_ rfl rfl) hQ<;>simp
theorem ref16_Walk_run (hc:E.con 164=fnS (spec2 fun (s:Store) (t:Ty)=>some (s.bound t))) {s:Store} (h:s.slots.length≤1000000) {t:Ty} (hs:HS):CallOk ρ Tryz.prog 135 [enc s,enc t] hs (enc (s.walkN (s.slots.length+1) t)) hs:=by
  refine fn hρ hE hcon Tryz.func135 fB135 rfl (by simp) ?_ hs
  simp[fS135r0,fS135r1,fS135r2,fS135r3,fS135b0,fS135r4,fS135b1,fS135r5,fS135,hE]
  refine Ls_lessQ (Ls_loop (LsN_less (Less.keep (TL:=[(2,.ptr 0 0 0),(3,.ptr 1 0 0),(4,.ptr 2 0 0),(5,.int .i64 ((0:Nat):Int))]) 3 ?_ ?_ rfl rfl) (ref16_Walk_loop hρ hE hcon hc h (r:=s.walkN (s.slots.length+1) t) ?_ (s.slots.length+1) 0 t (by omega) rfl)))
  · simp
  · simp
  · simp[fS135r0,fS135r1,fS135r2,fS135r3,fS135b0,fS135r4,fS135b1,fS135r5,fS135,hE]
end
end Go.Proofs.YthfcfmkdeheicaaGreat
namespace Go.Proofs.YthfcfmkdeheicaaGreat
open Go.J
open Go.J.Enc (enc)
set_option maxRecDepth 100000
set_option maxHeartbeats 4000000
def leavesF (d:Nat) (L:List Ty) (t:Ty) (kind:Int):Option (List Ty):=if t.size≤d∧t.ok=true∧Ty.oks L=true∧L.length+t.size≤10000 then some (leavesM kind t L) else none
section
variable {ρ:Nat→Value} (hρ:J.Good ρ) {E:Env} (hE:E.P=Tryz.prog) (hcon:ConsOk ρ E)
include hρ hE hcon
theorem ref3_leaves_loop1 {d:Nat} (hc:E.con 91=ioS 5 (ioF2 (leavesF d)) kOne) {k:Nat} {t:Ty} {kind:Int} {L0:List Ty} (hk:k=0∨k=1∧L0≠[]) (ht:t.ok=true) (hd:t.size≤d+1) (h0:Ty.oks L0=true) (hl0:L0.length+t.size≤10000) {Q:Ex→PT V→HS→Prop}
    (hQ:Q (.exit 2) (mkP [(0,oV 0 ((leavesL kind t.args L0).map encTy))]) { H:=mkP (oH 0 5 ((leavesL kind t.args L0).map encTy)),n:=1,log:=[] }) :
    ∀ (n i:Nat) (L:List Ty),i+n=t.args.length→L=leavesL kind (t.args.take i) L0→LsN ρ E k 52 fS91l1 (LessQ k Q) (n+1) (mkP [(0,oV 0 (L.map encTy)),(2,.int .i64 kind),(4,.ptr 1 0 0),(8,.int .i64 (i:Int))])
      { H:=mkP ((1,box (encTy t))::oH 0 5 (L.map encTy)),n:=2,log:=[] }:=by
  intro n
  induction n with
  | zero =>
    intro i L hi hL
    have hil:¬ (i:Int)<t.args.length:=by omega
    have e:L=leavesL kind t.args L0:=by rw[hL,List.take_of_length_le (by omega)]
    rw[← e] at hQ
    have hlen:=leavesL_len kind t.args L0
    rw[← e] at hlen
    refine lp hρ hE hcon fun K hK=>?_
    rcases L with _ | ⟨x,L⟩
    · have hk0:k=0:=by
        rcases hk with h | ⟨_,h⟩
        · exact h
        · cases L0 with
          | nil=>exact absurd rfl h
          | cons a l=>simp at hlen
      subst hk0
      simp[fS91l1,fS91r0,fS91r1,fS91r2,fS91r3,fS91r4,fS91r5,fS91b0,fS91r6,fS91b1,fS91r7,fS91r8,fS91r9,fS91r10,fS91b2,fS91r11,fS91b3,fS91r12,fS91,hE,hil]
      exact LessQ.mk (Less.keep 1 (by simp) (by simp) rfl rfl) hQ
    · simp[fS91l1,fS91r0,fS91r1,fS91r2,fS91r3,fS91r4,fS91r5,fS91b0,fS91r6,fS91b1,fS91r7,fS91r8,fS91r9,fS91r10,fS91b2,fS91r11,fS91b3,fS91r12,fS91,hE,hil]
      rcases hk with rfl | ⟨rfl,_⟩<;>exact LessQ.mk (Less.keep 1 (by simp) (by simp) rfl rfl) hQ
  | succ n ih =>
    intro i L hi hL
    have hil:i<t.args.length:=by omega
    have hil':(i:Int)<t.args.length:=by omega
    have hw:IntKind.i64.wrap ((i:Int)+1)=((i+1:Nat):Int):=wrap_succ (by have:=Ty.ok_len ht; omega)
    have hm:=List.getElem_mem hil
    have hs1:=Ty.size_arg hm
    have hok:=Ty.ok_arg ht hm
    have hLok:Ty.oks L=true:=by rw[hL]; exact leavesL_ok (oks_take (Ty.oks_iff.2 (Ty.ok_iff.1 ht).2) i) _ h0
    have hlen:=leavesL_len kind (t.args.take i) L0
    rw[← hL] at hlen
    have hsz:Ty.sizes (t.args.take i)+t.args[i].size≤Ty.sizes t.args:=by
      have:=sizes_take_le t.args (i+1)
      rw[List.take_add_one,List.getElem?_eq_getElem hil,sizes_app] at this
      simpa [Ty.sizes] using this
    have hts:=Ty.size_eq t
    have hb:L.length+t.args[i].size≤10000:=by omega
    have hnew:leavesM kind t.args[i] L=leavesL kind (t.args.take (i+1)) L0:=by
      rw[List.take_add_one,List.getElem?_eq_getElem hil,Option.toList_some,leavesL_snoc,hL]
    have hF:leavesF d L t.args[i] kind=some (leavesM kind t.args[i] L):=by
      unfold leavesF; rw[if_pos ⟨by omega,hok,hLok,hb⟩]
    have hml:=leavesM_len kind t.args[i] L
    refine lp hρ hE hcon fun K hK=>?_
    generalize hR:leavesM kind t.args[i] L=R at hF hnew hml
    rcases L with _ | ⟨x,L⟩
    · have hk0:k=0:=by
        rcases hk with h | ⟨_,h⟩
        · exact h
        · cases L0 with
          | nil=>exact absurd rfl h
          | cons a l=>simp at hlen
      subst hk0
      rcases R with _ | ⟨y,R⟩<;>simp[fS91l1,fS91r0,fS91r1,fS91r2,fS91r3,fS91r4,fS91r5,fS91b0,fS91r6,fS91b1,fS91r7,fS91r8,fS91r9,fS91r10,fS91b2,fS91r11,fS91b3,fS91r12,fS91,hE,hil,hil',hc,hw,hF,kOne,-Int.natCast_add]
      · exact hK _ _ (LsN_less (Less.keep 2 (by simp[-Int.natCast_add]) (by simp) rfl rfl) (ih (i+1) _ (by omega) hnew))
      · exact hK _ _ (LsN_less (Less.lit (fun k=>if k=0 then 16 else k) 2 (by simp[-Int.natCast_add]) (by simp) rfl rfl) (ih (i+1) _ (by omega) hnew))
    · rcases R with _ | ⟨y,R⟩
      · simp at hml
      · have hml0:L.length≤R.length:=by simp at hml; omega
        simp[fS91l1,fS91r0,fS91r1,fS91r2,fS91r3,fS91r4,fS91r5,fS91b0,fS91r6,fS91b1,fS91r7,fS91r8,fS91r9,fS91r10,fS91b2,fS91r11,fS91b3,fS91r12,fS91,hE,hil,hil',hc,hw,hF,kOne,hml0,-Int.natCast_add]
        rcases hk with rfl | ⟨rfl,_⟩<;>exact hK _ _ (LsN_less (Less.keep 2 (by simp[-Int.natCast_add]) (by simp) rfl rfl) (ih (i+1) _ (by omega) hnew))
theorem ref3_leaves_loop0 (hc:E.con 23=fnS (spec2 fun a b:Ty=>if a.ok=true then some (decide (a=b)) else none)) {k:Nat} {t:Ty} {L:List Ty} (hk:k=0∨k=1∧L≠[]) (h0:Ty.oks L=true) (hl0:L.length≤10000) {Q:Ex→PT V→HS→Prop}
    (hf:t∈L→Q .ret (mkP [(6,oV 0 (L.map encTy))]) { H:=mkP (oH 0 5 (L.map encTy)),n:=1,log:=[] })
    (hn:t ∉ L→Q (.exit 0) (mkP [(0,oV 0 (L.map encTy)),(4,.ptr 1 0 0)]) { H:=mkP ((1,box (encTy t))::oH 0 5 (L.map encTy)),n:=2,log:=[] }) :
    ∀ (n i:Nat),i+n=L.length→t ∉ L.take i→LsN ρ E k 52 fS91l0 (LessQ k Q) (n+1) (mkP [(0,oV 0 (L.map encTy)),(4,.ptr 1 0 0),(7,.int .i64 (i:Int))])
      { H:=mkP ((1,box (encTy t))::oH 0 5 (L.map encTy)),n:=2,log:=[] }:=by
  intro n
  induction n with
  | zero =>
    intro i hi hL
    have hil:¬ (i:Int)<L.length:=by omega
    have e:t ∉ L:=by rw[List.take_of_length_le (by omega)] at hL; exact hL
    have hn:=hn e
    refine lp hρ hE hcon fun K hK=>?_
    rcases L with _ | ⟨x,L⟩
    · have hk0:k=0:=by
        rcases hk with h | ⟨_,h⟩
        · exact h
        · exact absurd rfl h
      subst hk0
      obtain rfl:i=0:=by simpa using hi
      simp[fS91l0,fS91r0,fS91r1,fS91r2,fS91r3,fS91r4,fS91r5,fS91b0,fS91r6,fS91b1,fS91r7,fS91r8,fS91r9,fS91r10,fS91b2,fS91r11,fS91b3,fS91r12,fS91,hE]
      exact LessQ.mk (Less.keep 2 (by simp) (by simp) rfl rfl) hn
    · have hil2:¬ (i:Int)<(L.length:Int)+1:=by simp at hil; omega
      simp[fS91l0,fS91r0,fS91r1,fS91r2,fS91r3,fS91r4,fS91r5,fS91b0,fS91r6,fS91b1,fS91r7,fS91r8,fS91r9,fS91r10,fS91b2,fS91r11,fS91b3,fS91r12,fS91,hE,hil2]
      rcases hk with rfl | ⟨rfl,_⟩<;>exact LessQ.mk (Less.keep 2 (by simp) (by simp) rfl rfl) hn
  | succ n ih =>
    intro i hi hL
    have hil:i<L.length:=by omega
    have hw:IntKind.i64.wrap ((i:Int)+1)=((i+1:Nat):Int):=wrap_succ (by omega)
    have hok:=Ty.oks_iff.1 h0 _ (List.getElem_mem hil)
    have hnext:L[i]≠t→t ∉ L.take (i+1):=by
      intro h hm
      rw[List.take_add_one,List.getElem?_eq_getElem hil] at hm
      rcases List.mem_append.1 hm with hm | hm
      · exact hL hm
      · exact h (List.mem_singleton.1 hm).symm
    have hmem:L[i]=t→t∈L:=fun h=>h ▸ List.getElem_mem hil
    have hgi:(L.map encTy)[i]?=some (encTy L[i]):=by rw[List.getElem?_map,List.getElem?_eq_getElem hil]; rfl
    refine lp hρ hE hcon fun K hK=>?_
    generalize L[i]=y at hok hnext hmem hgi
    rcases L with _ | ⟨x,L⟩
    · simp at hil
    · have hil2:(i:Int)<(L.length:Int)+1:=by simp at hil; omega
      have hil3:i<L.length+1:=by simpa using hil
      simp only[List.map_cons,encTy_n] at hgi
      have hgi3:∀ h,(encTy x::L.map encTy)[i]'h=encTy y:=fun h=>by simp only[encTy_n]; exact (List.getElem?_eq_some_iff.1 hgi).2
      simp only[encTy_n] at hgi3
      have hd1:i*5 / 5=i:=by omega
      have hd2:i*5 % 5=0:=by omega
      simp[fS91l0,fS91r0,fS91r1,fS91r2,fS91r3,fS91r4,fS91r5,fS91b0,fS91r6,fS91b1,fS91r7,fS91r8,fS91r9,fS91r10,fS91b2,fS91r11,fS91b3,fS91r12,fS91,hE,hil2,hil3,hc,hok,hd1,hd2,hgi3]
      refine brT_mk (fun h=>?_) (fun h=>?_)<;>simp[fS91r0,fS91r1,fS91r2,fS91r3,fS91r4,fS91r5,fS91b0,fS91r6,fS91b1,fS91r7,fS91r8,fS91r9,fS91r10,fS91b2,fS91r11,fS91b3,fS91r12,fS91,hE,hw,-Int.natCast_add]
      · rcases hk with rfl | ⟨rfl,_⟩<;>exact LessQ.mk (Less.keep 1 (by simp) (by simp) rfl rfl) (hf (hmem h))
      · rcases hk with rfl | ⟨rfl,_⟩<;>exact hK _ _ (LsN_less (Less.keep 2 (by simp[-Int.natCast_add]) (by simp) rfl rfl) (ih (i+1) (by omega) (hnext h)))
theorem ref3_leaves_run {d:Nat} (hcE:E.con 23=fnS (spec2 fun a b:Ty=>if a.ok=true then some (decide (a=b)) else none)) (hc:E.con 91=ioS 5 (ioF2 (leavesF d)) kOne) {L:List Ty} {t:Ty} {kind:Int} (ht:t.ok=true) (hd:t.size≤d+1) (h0:Ty.oks L=true) (hl0:L.length+t.size≤10000)
    {hs:HS} {v:V} (hv:rowOf 5 hs v=some (L.map encTy)) (hvac:hs.H.get hs.n=none):CallOk ρ Tryz.prog 91 [v,enc t,enc kind] hs (rowTo 5 v (L.map encTy) ((leavesM kind t L).map encTy) hs).1 (rowTo 5 v (L.map encTy) ((leavesM kind t L).map encTy) hs).2:=by
  have hlen:=leavesM_len kind t L
  refine io hρ hE hcon (K:=kOne) (rs:=[]) (.inl rfl) Tryz.func91 fB91 rfl (by simp) (by simp) (by simp) rfl (by simpa using hlen.1) ?_ hv hvac
  clear hv hvac
  rw[leavesM_eq]
  have hk:(if L.map encTy=[] then 0 else 1)=0∨(if L.map encTy=[] then 0 else 1)=1∧L≠[]:=by
    cases L with
    | nil=>exact .inl rfl
    | cons a l=>exact .inr ⟨rfl,by simp⟩
  by_cases hleaf:t.kind=kind∧t.args=[]
  · rw [if_pos hleaf]
    obtain⟨hkd,har⟩:=hleaf
    rcases L with _ | ⟨x,L⟩
    · simp[fS91r0,fS91r1,fS91r2,fS91r3,fS91r4,fS91r5,fS91b0,fS91r6,fS91b1,fS91r7,fS91r8,fS91r9,fS91r10,fS91b2,fS91r11,fS91b3,fS91r12,fS91,hE,hkd,har]
      refine Ls_lessQ (Ls_loop (LsN_less (Less.lit (TL:=[(0,oV 0 (([]:List Ty).map encTy)),(4,.ptr 1 0 0),(7,.int .i64 ((0:Nat):Int))]) (HL:=(1,box (encTy t))::oH 0 5 (([]:List Ty).map encTy)) (fun k=>if k=1 then 0 else k) 2 ?_ ?_ rfl rfl) (ref3_leaves_loop0 hρ hE hcon hcE (.inl rfl) h0 (by simp) ?_ ?_ 0 0 rfl (by simp))))
      · simp
      · simp[har,hkd]
      · intro h; cases h
      · intro _
        simp[fS91r0,fS91r1,fS91r2,fS91r3,fS91r4,fS91r5,fS91b0,fS91r6,fS91b1,fS91r7,fS91r8,fS91r9,fS91r10,fS91b2,fS91r11,fS91b3,fS91r12,fS91,hE,hkd,har]
        exact GivesL.litX (fun k=>if k=0 then 5 else k) rfl rfl ⟨rfl,rfl⟩ (by simp)
    · simp[fS91r0,fS91r1,fS91r2,fS91r3,fS91r4,fS91r5,fS91b0,fS91r6,fS91b1,fS91r7,fS91r8,fS91r9,fS91r10,fS91b2,fS91r11,fS91b3,fS91r12,fS91,hE,hkd,har]
      refine Ls_lessQ (Ls_loop (LsN_less (Less.keep (TL:=[(0,oV 0 ((x::L).map encTy)),(4,.ptr 1 0 0),(7,.int .i64 ((0:Nat):Int))]) (HL:=(1,box (encTy t))::oH 0 5 ((x::L).map encTy)) 2 ?_ ?_ rfl rfl) (ref3_leaves_loop0 hρ hE hcon hcE (.inr ⟨rfl,by simp⟩) h0 (by omega) ?_ ?_ (x::L).length 0 (by omega) (by simp))))
      · simp
      · simp[har,hkd]
      · intro h
        simp[fS91r0,fS91r1,fS91r2,fS91r3,fS91r4,fS91r5,fS91b0,fS91r6,fS91b1,fS91r7,fS91r8,fS91r9,fS91r10,fS91b2,fS91r11,fS91b3,fS91r12,fS91,hE,hkd,har,h]
        exact GivesL.keepX rfl rfl rfl (by simp)
      · intro hn
        have h64:(L.length+1+1)*64≤1048576:=by simp at hl0; omega
        simp[fS91r0,fS91r1,fS91r2,fS91r3,fS91r4,fS91r5,fS91b0,fS91r6,fS91b1,fS91r7,fS91r8,fS91r9,fS91r10,fS91b2,fS91r11,fS91b3,fS91r12,fS91,hE,hkd,har,hn,h64,Nat.not_succ_le_self]
        exact GivesL.keepX rfl rfl rfl (by simp)
  · rw [if_neg hleaf]
    have hneq:t.kind=kind→¬ t.args=[]:=fun h1 h2=>hleaf ⟨h1,h2⟩
    rcases L with _ | ⟨x,L⟩
    · have go:∀ T hs',Less 0 T hs' (mkP [(0,oV 0 (([]:List Ty).map encTy)),(2,.int .i64 kind),(4,.ptr 1 0 0),(8,.int .i64 ((0:Nat):Int))]) { H:=mkP ((1,box (encTy t))::oH 0 5 (([]:List Ty).map encTy)),n:=2,log:=[] } →
          ∀ Q,Q (.exit 2) (mkP [(0,oV 0 ((leavesL kind t.args []).map encTy))]) { H:=mkP (oH 0 5 ((leavesL kind t.args []).map encTy)),n:=1,log:=[] }→Ls ρ E 0 52 (.loop fS91l1) T hs' Q:=fun T hs' hl Q hQ =>
        Ls_lessQ (Ls_loop (LsN_less hl (ref3_leaves_loop1 hρ hE hcon hc (.inl rfl) ht hd h0 hl0 hQ t.args.length 0 [] (by omega) rfl)))
      by_cases h1:t.kind=kind
      · have h2:=hneq h1
        simp[fS91r0,fS91r1,fS91r2,fS91r3,fS91r4,fS91r5,fS91b0,fS91r6,fS91b1,fS91r7,fS91r8,fS91r9,fS91r10,fS91b2,fS91r11,fS91b3,fS91r12,fS91,hE,h1,h2]
        refine go _ _ (Less.lit (fun k=>if k=1 then 0 else k) 2 (by simp) (by simp[h1]) rfl rfl) _ ?_
        generalize leavesL kind t.args []=R
        rcases R with _ | ⟨y,R⟩<;>simp[fS91r0,fS91r1,fS91r2,fS91r3,fS91r4,fS91r5,fS91b0,fS91r6,fS91b1,fS91r7,fS91r8,fS91r9,fS91r10,fS91b2,fS91r11,fS91b3,fS91r12,fS91,hE]<;>exact GivesL.keepX rfl rfl rfl (by simp)
      · simp[fS91r0,fS91r1,fS91r2,fS91r3,fS91r4,fS91r5,fS91b0,fS91r6,fS91b1,fS91r7,fS91r8,fS91r9,fS91r10,fS91b2,fS91r11,fS91b3,fS91r12,fS91,hE,h1]
        refine go _ _ (Less.lit (fun k=>if k=1 then 0 else k) 2 (by simp) (by simp) rfl rfl) _ ?_
        generalize leavesL kind t.args []=R
        rcases R with _ | ⟨y,R⟩<;>simp[fS91r0,fS91r1,fS91r2,fS91r3,fS91r4,fS91r5,fS91b0,fS91r6,fS91b1,fS91r7,fS91r8,fS91r9,fS91r10,fS91b2,fS91r11,fS91b3,fS91r12,fS91,hE]<;>exact GivesL.keepX rfl rfl rfl (by simp)
    · have hRl:=(leavesL_len kind t.args (x::L)).1
      have go:∀ T hs',Less 1 T hs' (mkP [(0,oV 0 ((x::L).map encTy)),(2,.int .i64 kind),(4,.ptr 1 0 0),(8,.int .i64 ((0:Nat):Int))]) { H:=mkP ((1,box (encTy t))::oH 0 5 ((x::L).map encTy)),n:=2,log:=[] } →
          ∀ Q,Q (.exit 2) (mkP [(0,oV 0 ((leavesL kind t.args (x::L)).map encTy))]) { H:=mkP (oH 0 5 ((leavesL kind t.args (x::L)).map encTy)),n:=1,log:=[] }→Ls ρ E 1 52 (.loop fS91l1) T hs' Q:=fun T hs' hl Q hQ =>
        Ls_lessQ (Ls_loop (LsN_less hl (ref3_leaves_loop1 hρ hE hcon hc (.inr ⟨rfl,by simp⟩) ht hd h0 hl0 hQ t.args.length 0 (x::L) (by omega) rfl)))
      by_cases h1:t.kind=kind
      · have h2:=hneq h1
        simp[fS91r0,fS91r1,fS91r2,fS91r3,fS91r4,fS91r5,fS91b0,fS91r6,fS91b1,fS91r7,fS91r8,fS91r9,fS91r10,fS91b2,fS91r11,fS91b3,fS91r12,fS91,hE,h1,h2]
        refine go _ _ (Less.keep 2 (by simp) (by simp[h1]) rfl rfl) _ ?_
        generalize leavesL kind t.args (x::L)=R at hRl
        rcases R with _ | ⟨y,R⟩
        · simp at hRl
        · simp[fS91r0,fS91r1,fS91r2,fS91r3,fS91r4,fS91r5,fS91b0,fS91r6,fS91b1,fS91r7,fS91r8,fS91r9,fS91r10,fS91b2,fS91r11,fS91b3,fS91r12,fS91,hE]
          exact GivesL.keepX rfl rfl rfl (by simp)
      · simp[fS91r0,fS91r1,fS91r2,fS91r3,fS91r4,fS91r5,fS91b0,fS91r6,fS91b1,fS91r7,fS91r8,fS91r9,fS91r10,fS91b2,fS91r11,fS91b3,fS91r12,fS91,hE,h1]
        refine go _ _ (Less.keep 2 (by simp) (by simp) rfl rfl) _ ?_
        generalize leavesL kind t.args (x::L)=R at hRl
        rcases R with _ | ⟨y,R⟩
        · simp at hRl
        · simp[fS91r0,fS91r1,fS91r2,fS91r3,fS91r4,fS91r5,fS91b0,fS91r6,fS91b1,fS91r7,fS91r8,fS91r9,fS91r10,fS91b2,fS91r11,fS91b3,fS91r12,fS91,hE]
          exact GivesL.keepX rfl rfl rfl (by simp)
end
end Go.Proofs.YthfcfmkdeheicaaGreat
namespace Go.Proofs.YthfcfmkdeheicaaGreat
open Go.J
open Go.J.Enc (enc)
set_option maxRecDepth 100000
set_option maxHeartbeats 4000000
section
variable {ρ:Nat→Value} (hρ:J.Good ρ) {E:Env} (hE:E.P=Tryz.prog) (hcon:ConsOk ρ E)
include hρ hE hcon
theorem ref3_Has_loop {l:List Int} {x:Int} (h1:l.length≤1000000) {Q:Ex→PT V→HS→Prop}
    (hf:x∈l→∀ T hs,T.get 4=some (.bool true)→Q .ret T hs) (ht:x ∉ l→∀ T hs,Q (.exit 0) T hs) :
    ∀ (n i:Nat),i+n=l.length→x ∉ l.take i→LsN ρ E 0 18 fS34l0 Q (n+1) (mkP [(0,.sl (l.map encI) false),(1,.int .i64 x),(5,.int .i64 (i:Int))]) { H:=mkP [],n:=0,log:=[] }:=by
  intro n
  induction n with
  | zero =>
    intro i hi he
    have hil:¬ (i:Int)<l.length:=by omega
    have e:x ∉ l:=by rw[List.take_of_length_le (by omega)] at he; exact he
    refine lp hρ hE hcon fun K hK=>?_
    simp[fS34l0,fS34r0,fS34r1,fS34r2,fS34r3,fS34r4,fS34b0,fS34r5,fS34b1,fS34r6,fS34,hE,hil]
    exact ht e _ _
  | succ n ih =>
    intro i hi he
    have hil:i<l.length:=by omega
    have hil':(i:Int)<l.length:=by omega
    have hw:IntKind.i64.wrap ((i:Int)+1)=((i+1:Nat):Int):=wrap_succ (by omega)
    have hnext:l[i]≠x→x ∉ l.take (i+1):=by
      intro h hm
      rw[List.take_add_one,List.getElem?_eq_getElem hil] at hm
      rcases List.mem_append.1 hm with hm | hm
      · exact he hm
      · exact h (List.mem_singleton.1 hm).symm
    have hmem:l[i]=x→x∈l:=fun h=>h ▸ List.getElem_mem hil
    refine lp hρ hE hcon fun K hK=>?_
    simp[fS34l0,fS34r0,fS34r1,fS34r2,fS34r3,fS34r4,fS34b0,fS34r5,fS34b1,fS34r6,fS34,hE,hil',hil]
    refine brT_mk (fun h=>?_) (fun h=>?_)<;>simp[fS34r0,fS34r1,fS34r2,fS34r3,fS34r4,fS34b0,fS34r5,fS34b1,fS34r6,fS34,hE,hw,-Int.natCast_add]
    · exact hf (hmem h) _ _ (by simp)
    · exact hK _ _ (LsN_less (Less.keep 0 (by simp[-Int.natCast_add]) (by simp) rfl rfl) (ih (i+1) (by omega) (hnext h)))
theorem ref3_Has_run {l:List Int} {x:Int} (h1:l.length≤1000000) (hs:HS):CallOk ρ Tryz.prog 34 [enc l,enc x] hs (enc (decide (x∈l))) hs:=by
  refine fn hρ hE hcon Tryz.func34 fB34 rfl (by simp) ?_ hs
  simp[fS34r0,fS34r1,fS34r2,fS34r3,fS34r4,fS34b0,fS34r5,fS34b1,fS34r6,fS34,hE]
  refine Ls_loop (LsN_less (Less.keep (TL:=[(0,.sl (l.map encI) false),(1,.int .i64 x),(5,.int .i64 ((0:Nat):Int))]) (HL:=[]) 0 (by simp) (by simp) rfl rfl) (ref3_Has_loop hρ hE hcon h1 ?_ ?_ l.length 0 (by omega) (by simp)))
  · intro h T hs hT
    simp[hT,h,hE]
  · intro h T hs
    simp[fS34r0,fS34r1,fS34r2,fS34r3,fS34r4,fS34b0,fS34r5,fS34b1,fS34r6,fS34,h,hE]
theorem ref3_Rigids_loop {d:Nat} (hc:E.con 91=ioS 5 (ioF2 (leavesF d)) kOne) {l:List Ty} (hl:Ty.oks l=true) (hll:l.length≤10000) (hd:Ty.sizes l≤d) (hd2:d≤10000) {Q:Ex→PT V→HS→Prop}
    (hQ:Q (.exit 0) (mkP [(3,oV 0 ((leavesL 3 l []).map encTy))]) { H:=mkP (oH 0 5 ((leavesL 3 l []).map encTy)),n:=1,log:=[] }) :
    ∀ (n i:Nat) (L:List Ty),i+n=l.length→L=leavesL 3 (l.take i) []→LsN ρ E 0 18 fS168l0 (LessQ 0 Q) (n+1) (mkP [(0,.sl (l.map encTy) false),(3,oV 0 (L.map encTy)),(4,.int .i64 (i:Int))])
      { H:=mkP (oH 0 5 (L.map encTy)),n:=1,log:=[] }:=by
  intro n
  induction n with
  | zero =>
    intro i L hi hL
    have hil:¬ (i:Int)<l.length:=by omega
    have e:L=leavesL 3 l []:=by rw[hL,List.take_of_length_le (by omega)]
    rw[← e] at hQ
    refine lp hρ hE hcon fun K hK=>?_
    rcases L with _ | ⟨x,L⟩<;>simp[fS168l0,fS168r0,fS168r1,fS168r2,fS168r3,fS168r4,fS168b0,fS168r5,fS168b1,fS168r6,fS168,hE,hil]<;>exact LessQ.mk (Less.keep 1 (by simp) (by simp) rfl rfl) hQ
  | succ n ih =>
    intro i L hi hL
    have hil:i<l.length:=by omega
    have hil':(i:Int)<l.length:=by omega
    have hw:IntKind.i64.wrap ((i:Int)+1)=((i+1:Nat):Int):=wrap_succ (by omega)
    have hm:=List.getElem_mem hil
    have hok:=Ty.oks_iff.1 hl _ hm
    have hLok:Ty.oks L=true:=by rw[hL]; exact leavesL_ok (oks_take hl i) _ rfl
    have hlen:=leavesL_len 3 (l.take i) []
    rw[← hL] at hlen
    have hsz:Ty.sizes (l.take i)+l[i].size≤Ty.sizes l:=by
      have:=sizes_take_le l (i+1)
      rw[List.take_add_one,List.getElem?_eq_getElem hil,sizes_app] at this
      simpa [Ty.sizes] using this
    have hb:L.length+l[i].size≤10000:=by simp at hlen; omega
    have hnew:leavesM 3 l[i] L=leavesL 3 (l.take (i+1)) []:=by
      rw[List.take_add_one,List.getElem?_eq_getElem hil,Option.toList_some,leavesL_snoc,hL]
    have hF:leavesF d L l[i] 3=some (leavesM 3 l[i] L):=by
      unfold leavesF; rw[if_pos ⟨by omega,hok,hLok,hb⟩]
    have hml:=leavesM_len 3 l[i] L
    refine lp hρ hE hcon fun K hK=>?_
    generalize hR:leavesM 3 l[i] L=R at hF hnew hml
    rcases L with _ | ⟨x,L⟩
    · rcases R with _ | ⟨y,R⟩<;>simp[fS168l0,fS168r0,fS168r1,fS168r2,fS168r3,fS168r4,fS168b0,fS168r5,fS168b1,fS168r6,fS168,hE,hil,hil',hc,hw,hF,kOne,-Int.natCast_add]
      · exact hK _ _ (LsN_less (Less.keep 1 (by simp[-Int.natCast_add]) (by simp) rfl rfl) (ih (i+1) _ (by omega) hnew))
      · exact hK _ _ (LsN_less (Less.lit (fun k=>if k=0 then 12 else k) 1 (by simp[-Int.natCast_add]) (by simp) rfl rfl) (ih (i+1) _ (by omega) hnew))
    · rcases R with _ | ⟨y,R⟩
      · simp at hml
      · have hml0:L.length≤R.length:=by simp at hml; omega
        simp[fS168l0,fS168r0,fS168r1,fS168r2,fS168r3,fS168r4,fS168b0,fS168r5,fS168b1,fS168r6,fS168,hE,hil,hil',hc,hw,hF,kOne,hml0,-Int.natCast_add]
        exact hK _ _ (LsN_less (Less.keep 1 (by simp[-Int.natCast_add]) (by simp) rfl rfl) (ih (i+1) _ (by omega) hnew))
theorem ref3_Rigids_run {d:Nat} (hc:E.con 91=ioS 5 (ioF2 (leavesF d)) kOne) {l:List Ty} (hl:Ty.oks l=true) (hll:l.length≤10000) (hd:Ty.sizes l≤d) (hd2:d≤10000) (hs:HS):CallOk ρ Tryz.prog 168 [enc l] hs (enc (rigidsM l)) hs:=by
  refine fn hρ hE hcon Tryz.func168 fB168 rfl (by simp) ?_ hs
  simp[fS168r0,fS168r1,fS168r2,fS168r3,fS168r4,fS168b0,fS168r5,fS168b1,fS168r6,fS168,hE]
  refine Ls_lessQ (Ls_loop (LsN_less (Less.keep (TL:=[(0,.sl (l.map encTy) false),(3,oV 0 (([]:List Ty).map encTy)),(4,.int .i64 ((0:Nat):Int))]) (HL:=oH 0 5 (([]:List Ty).map encTy)) 1 (by simp) (by simp) rfl rfl) (ref3_Rigids_loop hρ hE hcon hc hl hll hd hd2 ?_ l.length 0 [] (by omega) rfl)))
  unfold rigidsM
  generalize leavesL 3 l []=R
  rcases R with _ | ⟨y,R⟩<;>simp[fS168r0,fS168r1,fS168r2,fS168r3,fS168r4,fS168b0,fS168r5,fS168b1,fS168r6,fS168,hE]
theorem ref3_Vars_loop0 {d:Nat} (hc:E.con 91=ioS 5 (ioF2 (leavesF d)) kOne) {l:List Ty} (hl:Ty.oks l=true) (hll:l.length≤10000) (hd:Ty.sizes l≤d) (hd2:d≤10000) {Q:Ex→PT V→HS→Prop}
    (hQ:Q (.exit 0) (mkP [(3,oV 0 ((leavesL 1 l []).map encTy))]) { H:=mkP (oH 0 5 ((leavesL 1 l []).map encTy)),n:=1,log:=[] }) :
    ∀ (n i:Nat) (L:List Ty),i+n=l.length→L=leavesL 1 (l.take i) []→LsN ρ E 0 42 fS33l0 (LessQ 0 Q) (n+1) (mkP [(0,.sl (l.map encTy) false),(3,oV 0 (L.map encTy)),(4,.int .i64 (i:Int))])
      { H:=mkP (oH 0 5 (L.map encTy)),n:=1,log:=[] }:=by
  intro n
  induction n with
  | zero =>
    intro i L hi hL
    have hil:¬ (i:Int)<l.length:=by omega
    have e:L=leavesL 1 l []:=by rw[hL,List.take_of_length_le (by omega)]
    rw[← e] at hQ
    refine lp hρ hE hcon fun K hK=>?_
    rcases L with _ | ⟨x,L⟩<;>simp[fS33l0,fS33r0,fS33r1,fS33r2,fS33r3,fS33r4,fS33b0,fS33r5,fS33b1,fS33r6,fS33r7,fS33r8,fS33r9,fS33r10,fS33b2,fS33r11,fS33b3,fS33r12,fS33,hE,hil]<;>exact LessQ.mk (Less.keep 1 (by simp) (by simp) rfl rfl) hQ
  | succ n ih =>
    intro i L hi hL
    have hil:i<l.length:=by omega
    have hil':(i:Int)<l.length:=by omega
    have hw:IntKind.i64.wrap ((i:Int)+1)=((i+1:Nat):Int):=wrap_succ (by omega)
    have hm:=List.getElem_mem hil
    have hok:=Ty.oks_iff.1 hl _ hm
    have hLok:Ty.oks L=true:=by rw[hL]; exact leavesL_ok (oks_take hl i) _ rfl
    have hlen:=leavesL_len 1 (l.take i) []
    rw[← hL] at hlen
    have hsz:Ty.sizes (l.take i)+l[i].size≤Ty.sizes l:=by
      have:=sizes_take_le l (i+1)
      rw[List.take_add_one,List.getElem?_eq_getElem hil,sizes_app] at this
      simpa [Ty.sizes] using this
    have hb:L.length+l[i].size≤10000:=by simp at hlen; omega
    have hnew:leavesM 1 l[i] L=leavesL 1 (l.take (i+1)) []:=by
      rw[List.take_add_one,List.getElem?_eq_getElem hil,Option.toList_some,leavesL_snoc,hL]
    have hF:leavesF d L l[i] 1=some (leavesM 1 l[i] L):=by
      unfold leavesF; rw[if_pos ⟨by omega,hok,hLok,hb⟩]
    have hml:=leavesM_len 1 l[i] L
    refine lp hρ hE hcon fun K hK=>?_
    generalize hR:leavesM 1 l[i] L=R at hF hnew hml
    rcases L with _ | ⟨x,L⟩
    · rcases R with _ | ⟨y,R⟩<;>simp[fS33l0,fS33r0,fS33r1,fS33r2,fS33r3,fS33r4,fS33b0,fS33r5,fS33b1,fS33r6,fS33r7,fS33r8,fS33r9,fS33r10,fS33b2,fS33r11,fS33b3,fS33r12,fS33,hE,hil,hil',hc,hw,hF,kOne,-Int.natCast_add]
      · exact hK _ _ (LsN_less (Less.keep 1 (by simp[-Int.natCast_add]) (by simp) rfl rfl) (ih (i+1) _ (by omega) hnew))
      · exact hK _ _ (LsN_less (Less.lit (fun k=>if k=0 then 12 else k) 1 (by simp[-Int.natCast_add]) (by simp) rfl rfl) (ih (i+1) _ (by omega) hnew))
    · rcases R with _ | ⟨y,R⟩
      · simp at hml
      · have hml0:L.length≤R.length:=by simp at hml; omega
        simp[fS33l0,fS33r0,fS33r1,fS33r2,fS33r3,fS33r4,fS33b0,fS33r5,fS33b1,fS33r6,fS33r7,fS33r8,fS33r9,fS33r10,fS33b2,fS33r11,fS33b3,fS33r12,fS33,hE,hil,hil',hc,hw,hF,kOne,hml0,-Int.natCast_add]
        exact hK _ _ (LsN_less (Less.keep 1 (by simp[-Int.natCast_add]) (by simp) rfl rfl) (ih (i+1) _ (by omega) hnew))
theorem ref3_Vars_loop1 (hc:E.con 34=fnC (spec2 fun (l:List Int) (x:Int)=>if l.length≤1000000 then some (decide (x∈l)) else none)) {F:List Ty} (hl:F.length≤10000) {Q:Ex→PT V→HS→Prop}
    (hQ:Q (.exit 2) (mkP [(5,oV 1 ((idsOf F).map encI))]) { H:=mkP (oH 1 1 ((idsOf F).map encI)),n:=2,log:=[] }) :
    ∀ (n i:Nat) (O:List Int),i+n=F.length→O=idsOf (F.take i)→LsN ρ E 0 42 fS33l1 (LessQ 0 Q) (n+1) (mkP [(3,oV 0 (F.map encTy)),(5,oV 1 (O.map encI)),(6,.int .i64 (i:Int))])
      { H:=mkP (oH 0 5 (F.map encTy)++oH 1 1 (O.map encI)),n:=2,log:=[] }:=by
  intro n
  induction n with
  | zero =>
    intro i O hi hO
    have e:O=idsOf F:=by rw[hO,List.take_of_length_le (by omega)]
    rw[← e] at hQ
    refine lp hρ hE hcon fun K hK=>?_
    rcases F with _ | ⟨x,F⟩
    · obtain rfl:i=0:=by simpa using hi
      rcases O with _ | ⟨y,O⟩<;>simp[fS33l1,fS33r0,fS33r1,fS33r2,fS33r3,fS33r4,fS33b0,fS33r5,fS33b1,fS33r6,fS33r7,fS33r8,fS33r9,fS33r10,fS33b2,fS33r11,fS33b3,fS33r12,fS33,hE]<;>exact LessQ.mk (Less.keep 2 (by simp) (by simp) rfl rfl) hQ
    · have hil:¬ (i:Int)<(F.length:Int)+1:=by simp at hi; omega
      rcases O with _ | ⟨y,O⟩<;>simp[fS33l1,fS33r0,fS33r1,fS33r2,fS33r3,fS33r4,fS33b0,fS33r5,fS33b1,fS33r6,fS33r7,fS33r8,fS33r9,fS33r10,fS33b2,fS33r11,fS33b3,fS33r12,fS33,hE,hil]<;>exact LessQ.mk (Less.keep 2 (by simp) (by simp) rfl rfl) hQ
  | succ n ih =>
    intro i O hi hO
    have hil:i<F.length:=by omega
    have hw:IntKind.i64.wrap ((i:Int)+1)=((i+1:Nat):Int):=wrap_succ (by omega)
    have hOl:O.length≤10000:=by rw[hO]; have:=idsOf_len (F.take i); rw[List.length_take] at this; omega
    have hnew:addId O F[i]=idsOf (F.take (i+1)):=by
      rw[List.take_add_one,List.getElem?_eq_getElem hil,Option.toList_some,idsOf_snoc,hO]
    have hgi:(F.map encTy)[i]?=some (encTy F[i]):=by rw[List.getElem?_map,List.getElem?_eq_getElem hil]; rfl
    refine lp hρ hE hcon fun K hK=>?_
    generalize F[i]=y at hnew hgi
    rcases F with _ | ⟨x,F⟩
    · simp at hil
    have hil2:(i:Int)<(F.length:Int)+1:=by simp at hil; omega
    have hil3:i<F.length+1:=by simpa using hil
    simp only[List.map_cons,encTy_n] at hgi
    have hgi3:∀ h,(encTy x::F.map encTy)[i]'h=encTy y:=fun h=>by simp only[encTy_n]; exact (List.getElem?_eq_some_iff.1 hgi).2
    simp only[encTy_n] at hgi3
    have hd1:(i*5+2) / 5=i:=by omega
    have hd2:(i*5+2) % 5=2:=by omega
    by_cases hmem:y.id∈O
    · have hadd:addId O y=O:=if_pos hmem
      rw[hadd] at hnew
      rcases O with _ | ⟨z,O⟩
      · cases hmem
      · have hOl2:O.length+1≤1000000:=by simp at hOl; omega
        simp[fS33l1,fS33r0,fS33r1,fS33r2,fS33r3,fS33r4,fS33b0,fS33r5,fS33b1,fS33r6,fS33r7,fS33r8,fS33r9,fS33r10,fS33b2,fS33r11,fS33b3,fS33r12,fS33,hE,hil2,hil3,hc,hd1,hd2,hgi3,hmem,hw,hOl2,-Int.natCast_add,-List.mem_cons]
        exact hK _ _ (LsN_less (Less.keep 2 (by simp[-Int.natCast_add]) (by simp) rfl rfl) (ih (i+1) _ (by omega) hnew))
    · have hadd:addId O y=O++[y.id]:=if_neg hmem
      rw[hadd] at hnew
      rcases O with _ | ⟨z,O⟩
      · simp[fS33l1,fS33r0,fS33r1,fS33r2,fS33r3,fS33r4,fS33b0,fS33r5,fS33b1,fS33r6,fS33r7,fS33r8,fS33r9,fS33r10,fS33b2,fS33r11,fS33b3,fS33r12,fS33,hE,hil2,hil3,hc,hd1,hd2,hgi3,hw,-Int.natCast_add]
        exact hK _ _ (LsN_less (Less.lit (fun k=>if k=1 then 21 else k) 2 (by simp[-Int.natCast_add]) (by simp) rfl rfl) (ih (i+1) _ (by omega) hnew))
      · have hOl2:O.length+1≤1000000:=by simp at hOl; omega
        have h64:(O.length+1+1)*8≤1048576:=by simp at hOl; omega
        simp[fS33l1,fS33r0,fS33r1,fS33r2,fS33r3,fS33r4,fS33b0,fS33r5,fS33b1,fS33r6,fS33r7,fS33r8,fS33r9,fS33r10,fS33b2,fS33r11,fS33b3,fS33r12,fS33,hE,hil2,hil3,hc,hd1,hd2,hgi3,hmem,hw,hOl2,h64,Nat.not_succ_le_self,-Int.natCast_add,-List.mem_cons]
        exact hK _ _ (LsN_less (Less.keep 2 (by simp[-Int.natCast_add]) (by simp) rfl rfl) (ih (i+1) _ (by omega) hnew))
theorem ref3_Vars_run {d:Nat} (hcH:E.con 34=fnC (spec2 fun (l:List Int) (x:Int)=>if l.length≤1000000 then some (decide (x∈l)) else none)) (hc:E.con 91=ioS 5 (ioF2 (leavesF d)) kOne) {l:List Ty} (hl:Ty.oks l=true) (hll:l.length≤10000) (hd:Ty.sizes l≤d) (hd2:d≤10000) (hs:HS):CallOk ρ Tryz.prog 33 [enc l] hs (enc (varsM l)) hs:=by
  refine fn hρ hE hcon Tryz.func33 fB33 rfl (by simp) ?_ hs
  simp[fS33r0,fS33r1,fS33r2,fS33r3,fS33r4,fS33b0,fS33r5,fS33b1,fS33r6,fS33r7,fS33r8,fS33r9,fS33r10,fS33b2,fS33r11,fS33b3,fS33r12,fS33,hE]
  refine Ls_lessQ (Ls_loop (LsN_less (Less.keep (TL:=[(0,.sl (l.map encTy) false),(3,oV 0 (([]:List Ty).map encTy)),(4,.int .i64 ((0:Nat):Int))]) (HL:=oH 0 5 (([]:List Ty).map encTy)) 1 (by simp) (by simp) rfl rfl) (ref3_Vars_loop0 hρ hE hcon hc hl hll hd hd2 ?_ l.length 0 [] (by omega) rfl)))
  have hlen:=leavesL_len 1 l []
  unfold varsM
  generalize leavesL 1 l []=F at hlen
  have hF:F.length≤10000:=by simp at hlen; omega
  rcases F with _ | ⟨y,F⟩
  · simp[fS33r0,fS33r1,fS33r2,fS33r3,fS33r4,fS33b0,fS33r5,fS33b1,fS33r6,fS33r7,fS33r8,fS33r9,fS33r10,fS33b2,fS33r11,fS33b3,fS33r12,fS33,hE]
    refine Ls_lessQ (Ls_loop (LsN_less (Less.keep (TL:=[(3,oV 0 (([]:List Ty).map encTy)),(5,oV 1 (([]:List Int).map encI)),(6,.int .i64 ((0:Nat):Int))]) (HL:=oH 0 5 (([]:List Ty).map encTy)++oH 1 1 (([]:List Int).map encI)) 2 (by simp) (by simp) rfl rfl) (ref3_Vars_loop1 hρ hE hcon hcH hF ?_ 0 0 [] (by simp) rfl)))
    generalize idsOf []=O
    rcases O with _ | ⟨z,O⟩<;>simp[fS33r0,fS33r1,fS33r2,fS33r3,fS33r4,fS33b0,fS33r5,fS33b1,fS33r6,fS33r7,fS33r8,fS33r9,fS33r10,fS33b2,fS33r11,fS33b3,fS33r12,fS33,hE]
  · simp[fS33r0,fS33r1,fS33r2,fS33r3,fS33r4,fS33b0,fS33r5,fS33b1,fS33r6,fS33r7,fS33r8,fS33r9,fS33r10,fS33b2,fS33r11,fS33b3,fS33r12,fS33,hE]
    refine Ls_lessQ (Ls_loop (LsN_less (Less.keep (TL:=[(3,oV 0 ((y::F).map encTy)),(5,oV 1 (([]:List Int).map encI)),(6,.int .i64 ((0:Nat):Int))]) (HL:=oH 0 5 ((y::F).map encTy)++oH 1 1 (([]:List Int).map encI)) 2 (by simp) (by simp) rfl rfl) (ref3_Vars_loop1 hρ hE hcon hcH hF ?_ (y::F).length 0 [] (by omega) rfl)))
    generalize idsOf (y::F)=O
    rcases O with _ | ⟨z,O⟩<;>simp[fS33r0,fS33r1,fS33r2,fS33r3,fS33r4,fS33b0,fS33r5,fS33b1,fS33r6,fS33r7,fS33r8,fS33r9,fS33r10,fS33b2,fS33r11,fS33b3,fS33r12,fS33,hE]
end
end Go.Proofs.YthfcfmkdeheicaaGreat
namespace Go.Proofs.YthfcfmkdeheicaaGreat
open Go.J
open Go.J.Enc (enc)
set_option maxRecDepth 100000
set_option maxHeartbeats 4000000
section
variable {ρ:Nat→Value} (hρ:J.Good ρ) {E:Env} (hE:E.P=Tryz.prog) (hcon:ConsOk ρ E)
include hρ hE hcon
theorem ref16_Set_run {s:Store} {id:Int} {x:Slot} (h:s.small) (hs:HS):CallOk ρ Tryz.prog 13 [enc s,enc id,enc x] hs (enc (s.set id x)) hs:=by
  refine fn hρ hE hcon Tryz.func13 fB13 rfl (by simp) ?_ hs
  cases hx:s.slot? id with
  | none =>
    have:=Store.slot?_none hx
    by_cases h0:id<0
    · simp[fS13r0,fS13r1,fS13r2,fS13r3,fS13r4,fS13r5,fS13r6,fS13,hE,Store.set,hx,h0]
    · have h3:(s.slots.length:Int)≤id:=by omega
      simp[fS13r0,fS13r1,fS13r2,fS13r3,fS13r4,fS13r5,fS13r6,fS13,hE,Store.set,hx,h0,h3]
  | some old =>
    have hset:s.set id x=(⟨s.slots.set id.toNat x,s.trail++[⟨id,old,false⟩]⟩,true):=by unfold Store.set; rw[hx]
    rw[hset]
    obtain⟨i,hl,rfl,hold⟩:=Store.slot?_at hx
    clear hset hx
    obtain⟨sl,tr⟩:=s
    obtain⟨h1,h2⟩:=h
    simp only at h1 h2 hl hold
    have k1:=room1 h1
    have k2:=room2 h1
    have k3:=room1 h2
    have k4:=room2 h2
    have hgi:(sl.map encSlot)[i]?=some (encSlot old):=by rw[List.getElem?_map,List.getElem?_eq_getElem hl,hold]; rfl
    have hd1:i*8 / 8=i:=by omega
    have hd2:i*8 % 8=0:=by omega
    rcases sl with _ | ⟨a,sl⟩
    · simp at hl
    have hl2:i<sl.length+1:=by simpa using hl
    have hl3:¬ (sl.length:Int)+1≤(i:Int):=by omega
    have hl4:¬ (i:Int)<0:=by omega
    simp only[List.map_cons,encSlot] at hgi
    have hgi3:∀ h,(encSlot a::sl.map encSlot)[i]'h=encSlot old:=fun h=>by simp only[encSlot]; exact (List.getElem?_eq_some_iff.1 hgi).2
    simp only[encSlot] at hgi3
    rcases tr with _ | ⟨b,tr⟩<;>simp at k1 k2 k3 k4 <;>
    simp[fS13r0,fS13r1,fS13r2,fS13r3,fS13r4,fS13r5,fS13r6,fS13,hE,k1,k2,k3,k4,Nat.not_succ_le_self,hl2,hl3,hl4,hd1,hd2,hgi3,hold]
    all_goals
      have e1:(encSlot a::sl.map encSlot).set i (encSlot x)=((a::sl).set i x).map encSlot:=by rw[List.map_set]; rfl
      simp only[encSlot] at e1
      rw[e1,List.take_of_length_le (by simp),norm_Slot]
theorem make_types_loop {d:Nat} (hc:E.con 104=fnS (spec2 fun (t:Ty) (n:Int)=>if t.size≤d∧-1000000≤n∧n≤1000000 then some (max (n-t.size) 0) else none)) {t:Ty} (ht:t.size≤d+1) {n0:Int} (hn0:n0≤1000000) {Q:Ex→PT V→HS→Prop}
    (hQ:∀ r:Int,max r 0=max (n0-(Ty.sizes t.args:Nat)) 0→Q (.exit 0) (mkP [(1,.int .i64 r)]) { H:=mkP [],n:=0,log:=[] }) :
    ∀ (n i:Nat) (r:Int),i+n=t.args.length→-1000001≤r→r≤1000000→(r≤0∨(i:Int)≤1000000-r)→max r 0=max (n0-(Ty.sizes (t.args.take i):Nat)) 0→LsN ρ E 0 28 fS104l0 (LessQ 0 Q) (n+1) (mkP [(1,.int .i64 r),(2,.ptr 0 0 0),(5,.int .i64 (i:Int))]) { H:=mkP [(0,box (encTy t))],n:=1,log:=[] }:=by
  intro n
  induction n with
  | zero =>
    intro i r hi hr1 hr2 hri hr
    have hil:¬ (i:Int)<t.args.length:=by omega
    rw[List.take_of_length_le (by omega)] at hr
    refine lp hρ hE hcon fun K hK=>?_
    simp[fS104l0,fS104r0,fS104r1,fS104r2,fS104r3,fS104r4,fS104b0,fS104r5,fS104b1,fS104r6,fS104,hE,hil]
    exact LessQ.mk (Less.keep 0 (by simp) (by simp) rfl rfl) (hQ r hr)
  | succ n ih =>
    intro i r hi hr1 hr2 hri hr
    have hil:i<t.args.length:=by omega
    have hil':(i:Int)<t.args.length:=by omega
    refine lp hρ hE hcon fun K hK=>?_
    by_cases hpos:0<r
    · have hw:IntKind.i64.wrap ((i:Int)+1)=((i+1:Nat):Int):=wrap_succ (by omega)
      have hsz:Ty.sizes (t.args.take (i+1))=Ty.sizes (t.args.take i)+t.args[i].size:=by
        rw[List.take_add_one,List.getElem?_eq_getElem hil,sizes_app]; simp[Ty.sizes]
      have hs1:=Ty.size_arg (List.getElem_mem hil)
      have hp1:=Ty.size_pos t.args[i]
      have hd:t.args[i].size≤d:=by omega
      simp[fS104l0,fS104r0,fS104r1,fS104r2,fS104r3,fS104r4,fS104b0,fS104r5,fS104b1,fS104r6,fS104,hE,hil',hil,hpos,hc,hd,show -1000000≤r by omega,hr2,hw,-Int.natCast_add]
      refine hK _ _ (LsN_less (Less.keep 1 (by simp[-Int.natCast_add]) (by simp) rfl rfl) (ih (i+1) (max (r-(t.args[i].size:Nat)) 0) (by omega) (by omega) (by omega) (by omega) ?_))
      rw[hsz]; omega
    · simp[fS104l0,fS104r0,fS104r1,fS104r2,fS104r3,fS104r4,fS104b0,fS104r5,fS104b1,fS104r6,fS104,hE,hil',hil,hpos]
      refine LessQ.mk (Less.keep 0 (by simp) (by simp) rfl rfl) (hQ r ?_)
      have:=sizes_take_le t.args i
      omega
theorem make_types_run {d:Nat} (hc:E.con 104=fnS (spec2 fun (t:Ty) (n:Int)=>if t.size≤d∧-1000000≤n∧n≤1000000 then some (max (n-t.size) 0) else none)) {t:Ty} (ht:t.size≤d+1) {n:Int} (h1:-1000000≤n) (h2:n≤1000000) (hs:HS):CallOk ρ Tryz.prog 104 [enc t,enc n] hs (enc (max (n-t.size) 0)) hs:=by
  refine fn hρ hE hcon Tryz.func104 fB104 rfl (by simp) ?_ hs
  have hw:IntKind.i64.wrap (n-1)=n-1:=wrap_i64 (by omega) (by omega)
  have hts:=Ty.size_eq t
  simp[fS104r0,fS104r1,fS104r2,fS104r3,fS104r4,fS104b0,fS104r5,fS104b1,fS104r6,fS104,hE,hw]
  refine Ls_lessQ (Ls_loop (LsN_less (Less.keep (TL:=[(1,.int .i64 (n-1)),(2,.ptr 0 0 0),(5,.int .i64 ((0:Nat):Int))]) (HL:=[(0,box (encTy t))]) 1 (by simp) (by simp) rfl rfl) (make_types_loop hρ hE hcon hc ht (n0:=n-1) (by omega) ?_ t.args.length 0 (n-1) (by omega) (by omega) (by omega) (by omega) (by simp[Ty.sizes]))))
  intro r hr
  simp[fS104r0,fS104r1,fS104r2,fS104r3,fS104r4,fS104b0,fS104r5,fS104b1,fS104r6,fS104,hE]
  omega
end
end Go.Proofs.YthfcfmkdeheicaaGreat
namespace Go.Proofs.YthfcfmkdeheicaaGreat
open Go.J
open Go.J.Enc (enc)
set_option maxRecDepth 100000
set_option maxHeartbeats 4000000
section
variable {ρ:Nat→Value} (hρ:J.Good ρ) {E:Env} (hE:E.P=Tryz.prog) (hcon:ConsOk ρ E)
include hρ hE hcon
theorem ref2_lower_run {c:Byte} (hs:HS):CallOk ρ Tryz.prog 152 [enc c] hs (enc (lowerB c.n)) hs:=by
  refine fn hρ hE hcon Tryz.func152 fB152 rfl (by simp) ?_ hs
  obtain⟨c⟩:=c
  by_cases h1:97≤c<;>by_cases h2:c≤122<;>simp[fS152r0,fS152r1,fS152,hE,lowerB,h1,h2,show (97≤(c:Int))↔97≤c by omega,show ((c:Int)≤122)↔c≤122 by omega]
theorem ref2_upper_run {c:Byte} (hs:HS):CallOk ρ Tryz.prog 154 [enc c] hs (enc (upperB c.n)) hs:=by
  refine fn hρ hE hcon Tryz.func154 fB154 rfl (by simp) ?_ hs
  obtain⟨c⟩:=c
  by_cases h1:65≤c<;>by_cases h2:c≤90<;>simp[fS154r0,fS154r1,fS154,hE,upperB,h1,h2,show (65≤(c:Int))↔65≤c by omega,show ((c:Int)≤90)↔c≤90 by omega]
theorem ref2_digit_run {c:Byte} (hs:HS):CallOk ρ Tryz.prog 190 [enc c] hs (enc (digitB c.n)) hs:=by
  refine fn hρ hE hcon Tryz.func190 fB190 rfl (by simp) ?_ hs
  obtain⟨c⟩:=c
  by_cases h1:48≤c<;>by_cases h2:c≤57<;>simp[fS190r0,fS190r1,fS190,hE,digitB,h1,h2,show (48≤(c:Int))↔48≤c by omega,show ((c:Int)≤57)↔c≤57 by omega]
theorem ref2_inner_run (h1:E.con 152=fnS (spec1 fun c:Byte=>some (lowerB c.n))) (h2:E.con 154=fnS (spec1 fun c:Byte=>some (upperB c.n))) (h3:E.con 190=fnS (spec1 fun c:Byte=>some (digitB c.n)))
    {c:Byte} (hs:HS):CallOk ρ Tryz.prog 169 [enc c] hs (enc (innerB c.n)) hs:=by
  refine fn hρ hE hcon Tryz.func169 fB169 rfl (by simp) ?_ hs
  obtain⟨c⟩:=c
  by_cases e4:c=95
  · subst e4
    have hd:(Enc.dec (V.int .u8 95):Option Byte)=some ⟨95⟩:=rfl
    simp[fS169r0,fS169r1,fS169,hE,h1,h2,h3,innerB,hd,show lowerB 95=false from rfl,show upperB 95=false from rfl,show digitB 95=false from rfl]
  · have h95:¬ (c:Int)=95:=by omega
    cases e1:lowerB c<;>cases e2:upperB c<;>cases e3:digitB c<;>simp[fS169r0,fS169r1,fS169,hE,h1,h2,h3,innerB,e1,e2,e3,e4,h95]
theorem ref2_word_loop (hc:E.con 169=fnS (spec1 fun c:Byte=>some (innerB c.n))) {s:List Nat} (hl:s.length<2^63) {Q:Ex→PT V→HS→Prop}
    (hf:s.all innerB=false→∀ T hs,T.get 2=some (.bool false)→Q .ret T hs) (ht:s.all innerB=true→Q (.exit 0) (mkP [(0,.str s)]) { H:=mkP [],n:=0,log:=[] }) :
    ∀ (n i:Nat),i+n=s.length→(s.take i).all innerB=true→LsN ρ E 0 17 fS151l0 (LessQ 0 Q) (n+1) (mkP [(0,.str s),(3,.int .i64 (i:Int))]) { H:=mkP [],n:=0,log:=[] }:=by
  intro n
  induction n with
  | zero =>
    intro i hi he
    have hil:¬ (i:Int)<s.length:=by omega
    rw[List.take_of_length_le (by omega)] at he
    refine lp hρ hE hcon fun K hK=>?_
    simp[fS151l0,fS151r0,fS151r1,fS151r2,fS151r3,fS151r4,fS151b0,fS151r5,fS151b1,fS151r6,fS151,hE,hil]
    exact LessQ.mk (Less.keep 0 (by simp) (by simp) rfl rfl) (ht he)
  | succ n ih =>
    intro i hi he
    have hil:i<s.length:=by omega
    have hil':(i:Int)<s.length:=by omega
    have hw:IntKind.i64.wrap ((i:Int)+1)=((i+1:Nat):Int):=wrap_succ (by omega)
    refine lp hρ hE hcon fun K hK=>?_
    cases hb:innerB s[i] with
    | true =>
      have hnx:(s.take (i+1)).all innerB=true:=by
        rw[List.take_add_one,List.getElem?_eq_getElem hil,List.all_append,he]; simp[hb]
      simp[fS151l0,fS151r0,fS151r1,fS151r2,fS151r3,fS151r4,fS151b0,fS151r5,fS151b1,fS151r6,fS151,hE,hil',hil,hc,hb,hw,-Int.natCast_add]
      exact hK _ _ (LsN_less (Less.keep 0 (by simp[-Int.natCast_add]) (by simp) rfl rfl) (ih (i+1) (by omega) hnx))
    | false =>
      simp[fS151l0,fS151r0,fS151r1,fS151r2,fS151r3,fS151r4,fS151b0,fS151r5,fS151b1,fS151r6,fS151,hE,hil',hil,hc,hb]
      exact LessQ.mk (Less.keep (TL:=[(2,.bool false)]) (HL:=[]) 0 (by simp) (by simp) rfl rfl) (hf (List.all_eq_false.2 ⟨_,List.getElem_mem hil,by simp[hb]⟩) _ _ (by simp))
theorem ref2_word_run (hc:E.con 169=fnS (spec1 fun c:Byte=>some (innerB c.n))) {s:List Nat} (hl:s.length<2^63) (hs:HS):CallOk ρ Tryz.prog 151 [enc s] hs (enc (wordN s)) hs:=by
  refine fn hρ hE hcon Tryz.func151 fB151 rfl (by simp) ?_ hs
  simp[fS151r0,fS151r1,fS151r2,fS151r3,fS151r4,fS151b0,fS151r5,fS151b1,fS151r6,fS151,hE]
  refine Ls_lessQ (Ls_loop (LsN_less (Less.keep (TL:=[(0,.str s),(3,.int .i64 ((0:Nat):Int))]) (HL:=[]) 0 (by simp) (by simp) rfl rfl) (ref2_word_loop hρ hE hcon hc hl ?_ ?_ s.length 0 (by omega) (by simp))))
  · intro h T hs hT
    simp[hT,wordN,h,hE]
  · intro h
    have e:wordN s=!s.isEmpty:=by unfold wordN; rw[h]; rfl
    rw[e]
    rcases s with _ | ⟨c,s⟩<;>simp[fS151r0,fS151r1,fS151r2,fS151r3,fS151r4,fS151b0,fS151r5,fS151b1,fS151r6,fS151,hE]
theorem ref2_Keyword_run {s:List Nat} (hs:HS):CallOk ρ Tryz.prog 153 [enc s] hs (enc (decide (s∈keywords))) hs:=by
  refine fn hρ hE hcon Tryz.func153 fB153 rfl (by simp) ?_ hs
  simp[fS153r0,fS153r1,fS153r2,fS153r3,fS153r4,fS153r5,fS153b0,fS153r6,fS153b1,fS153r7,fS153,hE]
  refine lpi hρ hE hcon 7 (nn:=0) (fun i (_:Unit)=>[(0,.str s),(3,.sl (keywords.map encS) true),(4,.int .i64 (i:Int))]) (fun i _=>[]) (fun i _=>s ∉ keywords.take i) ()
    (Less.auto (by simp[keywords]) (by simp) rfl rfl) (by simp) ?_ ?_
  · intro _ he K
    have hn:s ∉ keywords:=by rwa [List.take_of_length_le (by decide)] at he
    simp[fS153l0,fS153r0,fS153r1,fS153r2,fS153r3,fS153r4,fS153r5,fS153b0,fS153r6,fS153b1,fS153r7,fS153,hE,show keywords.length=7 from rfl]
    refine LessQ.mk (Less.auto (TL:=[]) (HL:=[]) (n:=0) (by simp) (by simp) rfl rfl) ?_
    simp[fS153r0,fS153r1,fS153r2,fS153r3,fS153r4,fS153r5,fS153b0,fS153r6,fS153b1,fS153r7,fS153,hE,hn]
  · intro i _ hil he K hK
    have hw:IntKind.i64.wrap ((i:Int)+1)=((i+1:Nat):Int):=wrap_succ (by omega)
    have hil':(i:Int)<7:=by omega
    have hk:i<keywords.length:=hil
    have hnx:keywords[i]≠s→s ∉ keywords.take (i+1):=by
      intro h hm
      rw[List.take_add_one,List.getElem?_eq_getElem hk] at hm
      rcases List.mem_append.1 hm with hm | hm
      · exact he hm
      · exact h (List.mem_singleton.1 hm).symm
    have hmem:keywords[i]=s→s∈keywords:=fun h=>h ▸ List.getElem_mem hk
    by_cases h:keywords[i]=s
    · have hm:=hmem h
      simp[fS153l0,fS153r0,fS153r1,fS153r2,fS153r3,fS153r4,fS153r5,fS153b0,fS153r6,fS153b1,fS153r7,fS153,hE,hil,hil',hk,h,show keywords.length=7 from rfl]
      refine LessQ.mk (Less.auto (TL:=[(2,.bool true)]) (HL:=[]) (n:=0) (by simp) (by simp) rfl rfl) ?_
      simp[fS153r0,fS153r1,fS153r2,fS153r3,fS153r4,fS153r5,fS153b0,fS153r6,fS153b1,fS153r7,fS153,hE,hm]
    · have hnew:=hK () (hnx h)
      simp[fS153l0,fS153r0,fS153r1,fS153r2,fS153r3,fS153r4,fS153r5,fS153b0,fS153r6,fS153b1,fS153r7,fS153,hE,hil,hil',hk,h,hw,show keywords.length=7 from rfl,-Int.natCast_add]
      exact hnew _ _ (Less.auto (by simp[-Int.natCast_add]) (by simp) rfl rfl)
end
end Go.Proofs.YthfcfmkdeheicaaGreat
