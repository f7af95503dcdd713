import Derived.Test.YtfgmnebfhemnpaaGreatLX1
set_option linter.all false
noncomputable section
namespace Go.Proofs.YtfgmnebfhemnpaaGreat
open Go.J
open Go.J.Enc (enc)
set_option maxRecDepth 100000
set_option maxHeartbeats 4000000
section
variable {ρ:Nat->Value}(hρ:J.Good ρ){E:Env}(hE:E.P=Tryz.prog)(hcon:ConsOk ρ E)
include hρ hE hcon
theorem zjR{l:List Int}{x:Int}(h1:l.length<=1000000){Q:Ex->PT V->HS->Prop}
 (hf:x∈l->∀ T hs,T.get 4=some (.bool true)->Q .ret T hs) (ht:x ∉ l->∀ T hs,Q (.exit 0) T hs) :
 ∀ (n i:Nat),i+n=l.length->x ∉ l.take i->LsN ρ E 0 18 zos Q (n+1) (mkP [(0,.sl (l.map encI) false),(1,.int .i64 x),(5,.int .i64 (i:Int))]) { H:=mkP [],n:=0,log:=[] }:=by
 intro n
 induction n with
 | zero =>
   intro i hi he;have hil:¬ (i:Int)<l.length:=by omega
   have e:x ∉ l:=by rw[List.take_of_length_le (by omega)]at he;exact he
   refine lp hρ hE hcon fun K hK=>?_
   simp [zos,hE,hil];exact ht e _ _
 | succ n ih =>
   intro i hi he;have hil:i<l.length:=by omega
   have hil':(i:Int)<l.length:=by omega
   have hw:IntKind.i64.wrap ((i:Int)+1)=((i+1:Nat):Int):=zK (by omega)
   have hnext:l[i]≠x->x ∉ l.take (i+1):=by
    intro h hm;rw[List.take_add_one,List.getElem?_eq_getElem hil]at hm;rcases List.mem_append.1 hm with hm|hm
    . exact he hm
    . exact h (List.mem_singleton.1 hm).symm
   have hmem:l[i]=x->x∈l:=fun h=>h ▸ List.getElem_mem hil
   refine lp hρ hE hcon fun K hK=>?_
   simp [zos,hE,hil',hil];refine zdJ (fun h=>?_) (fun h=>?_)<;>simp [hE,hw,-Int.natCast_add]
   . exact hf (hmem h) _ _ (by simp)
   . exact hK _ _ (zJ (Less.keep 0 (by simp[-Int.natCast_add]) (by simp) rfl rfl) (ih (i+1) (by omega) (hnext h)))
theorem zld{l:List Int}{x:Int}(h1:l.length<=1000000)(hs:HS):CallOk ρ Tryz.prog 66 [enc l,enc x] hs (enc (decide (x∈l))) hs:=by
 refine fn hρ hE hcon Tryz.func66 zRL rfl (by simp) ?_ hs;simp [hE];refine zaw (zJ (Less.keep (TL:=[(0,.sl (l.map encI) false),(1,.int .i64 x),(5,.int .i64 ((0:Nat):Int))]) (HL:=[]) 0 (by simp) (by simp) rfl rfl) (zjR hρ hE hcon h1 ?_ ?_ l.length 0 (by omega) (by simp)))
 . intro h T hs hT;simp[hT,h,hE]
 . intro h T hs;simp [h,hE]
theorem zgC {d:Nat} (hc:E.con 56=ioS 5 (zvW (zcL d)) zof) {l:List Ty} (hl:Ty.oks l=true) (hll:l.length<=10000) (hd:Ty.sizes l<=d) (hd2:d<=10000) {Q:Ex->PT V->HS->Prop}
 (hQ:Q (.exit 0) (mkP [(3,oV 0 ((zQ 3 l []).map zw))]) { H:=mkP (oH 0 5 ((zQ 3 l []).map zw)),n:=1,log:=[] }) :
 ∀ (n i:Nat) (L:List Ty),i+n=l.length->L=zQ 3 (l.take i) []->LsN ρ E 0 18 zlK (LessQ 0 Q) (n+1) (mkP [(0,.sl (l.map zw) false),(3,oV 0 (L.map zw)),(4,.int .i64 (i:Int))])
   { H:=mkP (oH 0 5 (L.map zw)),n:=1,log:=[] }:=by
 intro n
 induction n with
 | zero =>
   intro i L hi hL;have hil:¬ (i:Int)<l.length:=by omega
   have e:L=zQ 3 l []:=by rw[hL,List.take_of_length_le (by omega)]
   rw[<- e]at hQ;refine lp hρ hE hcon fun K hK=>?_
   rcases L with _|⟨x,L⟩<;>simp [zlK,hE,hil]<;>exact LessQ.mk (Less.keep 1 (by simp) (by simp) rfl rfl) hQ
 | succ n ih =>
   intro i L hi hL;have hil:i<l.length:=by omega
   have hil':(i:Int)<l.length:=by omega
   have hw:IntKind.i64.wrap ((i:Int)+1)=((i+1:Nat):Int):=zK (by omega);have hm:=List.getElem_mem hil;have hok:=Ty.oks_iff.1 hl _ hm;have hLok:Ty.oks L=true:=by rw[hL];exact zjk (znZ hl i) _ rfl
   have hlen:=zcc 3 (l.take i) [];rw[<- hL]at hlen
   have hsz:Ty.sizes (l.take i)+l[i].size<=Ty.sizes l:=by
    have:=zc2 l (i+1);rw[List.take_add_one,List.getElem?_eq_getElem hil,zdU]at this;simpa [Ty.sizes]using this
   have hnew:zau 3 l[i] L=zQ 3 (l.take (i+1)) []:=by
    rw[List.take_add_one,List.getElem?_eq_getElem hil,Option.toList_some,zgw,hL]
   have hb:(zau 3 l[i] L).length<=10000:=by have:=(zcK 3 l[i] L).2;simp at hlen;omega
   have hF:zcL d L l[i] 3=some (zau 3 l[i] L):=by
    unfold zcL;rw[if_pos ⟨by omega,hok,hLok,hb⟩]
   have hml:=zcK 3 l[i] L;refine lp hρ hE hcon fun K hK=>?_
   generalize hR:zau 3 l[i] L=R at hF hnew hml;rcases L with _|⟨x,L⟩
   . rcases R with _|⟨y,R⟩<;>simp [zlK,hE,hil,hil',hc,hw,hF,zof,-Int.natCast_add]
     . exact hK _ _ (zJ (Less.keep 1 (by simp[-Int.natCast_add]) (by simp) rfl rfl) (ih (i+1) _ (by omega) hnew))
     . exact hK _ _ (zJ (Less.lit (fun k=>if k=0 then 12 else k) 1 (by simp[-Int.natCast_add]) (by simp) rfl rfl) (ih (i+1) _ (by omega) hnew))
   . rcases R with _|⟨y,R⟩
     . simp at hml
     . have hml0:L.length<=R.length:=by simp at hml;omega
       simp [zlK,hE,hil,hil',hc,hw,hF,zof,hml0,-Int.natCast_add];exact hK _ _ (zJ (Less.keep 1 (by simp[-Int.natCast_add]) (by simp) rfl rfl) (ih (i+1) _ (by omega) hnew))
theorem zhv{d:Nat}(hc:E.con 56=ioS 5 (zvW (zcL d)) zof){l:List Ty}(hl:Ty.oks l=true)(hll:l.length<=10000)(hd:Ty.sizes l<=d)(hd2:d<=10000)(hs:HS):CallOk ρ Tryz.prog 31 [enc l] hs (enc (zbk l)) hs:=by
 refine fn hρ hE hcon Tryz.func31 zSe rfl (by simp) ?_ hs;simp [hE];refine zae (zaw (zJ (Less.keep (TL:=[(0,.sl (l.map zw) false),(3,oV 0 (([]:List Ty).map zw)),(4,.int .i64 ((0:Nat):Int))]) (HL:=oH 0 5 (([]:List Ty).map zw)) 1 (by simp) (by simp) rfl rfl) (zgC hρ hE hcon hc hl hll hd hd2 ?_ l.length 0 [] (by omega) rfl)));unfold zbk;generalize zQ 3 l []=R;rcases R with _|⟨y,R⟩<;>simp [hE]
end
section
variable {ρ:Nat->Value}(hρ:J.Good ρ){E:Env}(hE:E.P=Tryz.prog)(hcon:ConsOk ρ E)
include hρ hE hcon
theorem zjS{s:Store}{id:Int}{x:Slot}(h:s.small)(hs:HS):CallOk ρ Tryz.prog 78 [enc s,enc id,enc x] hs (enc (s.set id x)) hs:=by
 refine fn hρ hE hcon Tryz.func78 zRG rfl (by simp) ?_ hs
 cases hx:s.slot? id with
 | none =>
   have:=Store.slot?_none hx;by_cases h0:id<0
   . simp [hE,Store.set,hx,h0]
   . have h3:(s.slots.length:Int)<=id:=by omega
     simp [hE,Store.set,hx,h0,h3]
 | some old =>
   have hset:s.set id x=(⟨s.slots.set id.toNat x,s.trail++[⟨id,old,false⟩]⟩,true):=by unfold Store.set;rw[hx]
   rw[hset];obtain⟨i,hl,rfl,hold⟩:=Store.slot?_at hx;clear hset hx;obtain⟨sl,tr⟩:=s;obtain⟨h1,h2⟩:=h;simp only at h1 h2 hl hold;have k1:=zwW h1;have k2:=zwV h1;have k3:=zwW h2;have k4:=zwV h2;have hgi:(sl.map zG)[i]?=some (zG old):=by rw[List.getElem?_map,List.getElem?_eq_getElem hl,hold];rfl
   have hd1:i*8 / 8=i:=by omega
   have hd2:i*8 % 8=0:=by omega
   rcases sl with _|⟨a,sl⟩
   . simp at hl
   have hl2:i<sl.length+1:=by simpa using hl
   have hl3:¬ (sl.length:Int)+1<=(i:Int):=by omega
   have hl4:¬ (i:Int)<0:=by omega
   simp only[List.map_cons,zG]at hgi;have hgi3:∀ h,(zG a::sl.map zG)[i]'h=zG old:=fun h=>by simp only[zG];exact(List.getElem?_eq_some_iff.1 hgi).2
   simp only[zG]at hgi3
   rcases tr with _|⟨b,tr⟩<;>simp at k1 k2 k3 k4 <;>
   simp [hE,k1,k2,k3,k4,Nat.not_succ_le_self,hl2,hl3,hl4,hd1,hd2,hgi3,hold]
   all_goals
    have e1:(zG a::sl.map zG).set i (zG x)=((a::sl).set i x).map zG:=by rw[List.map_set];rfl
    simp only[zG]at e1;rw[e1,List.take_of_length_le (by simp),zlr]
end
end Go.Proofs.YtfgmnebfhemnpaaGreat
