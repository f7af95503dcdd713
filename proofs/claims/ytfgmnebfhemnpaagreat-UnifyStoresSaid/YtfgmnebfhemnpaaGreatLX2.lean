import Derived.Test.YtfgmnebfhemnpaaGreatLX1
import Derived.Test.YtfgmnebfhemnpaaGreatJL
import Derived.Test.YtfgmnebfhemnpaaGreatJK
set_option linter.all false
noncomputable section
namespace Go.Proofs.YtfgmnebfhemnpaaGreat
open Go.J
open Go.J.Enc (enc)
set_option maxRecDepth 100000
set_option maxHeartbeats 4000000
section
variable {ρ:Nat->Value}(hρ:J.Good ρ){E:Env}(hE:E.P=Tryz.prog)(hcon:ConsOk ρ E)
include hρ hE hcon
theorem zkl{l:List Int}{x:Int}(h1:l.length<=1000000){Q:Ex->PT V->HS->Prop}
 (hf:x∈l->∀ T hs,T.get 4=some (.bool true)->Q .ret T hs) (ht:x ∉ l->∀ T hs,Q (.exit 0) T hs) :
 ∀ (n i:Nat),i+n=l.length->x ∉ l.take i->LsN ρ E 0 18 zoK Q (n+1) (mkP [(0,.sl (l.map encI) false),(1,.int .i64 x),(5,.int .i64 (i:Int))]) { H:=mkP [],n:=0,log:=[] }:=by
 intro n
 induction n with
 | zero =>
   intro i hi he;have hil:¬ (i:Int)<l.length:=by omega
   have e:x ∉ l:=by rw[List.take_of_length_le (by omega)]at he;exact he
   refine lp hρ hE hcon fun K hK=>?_
   simp [zoK,hE,hil];exact ht e _ _
 | succ n ih =>
   intro i hi he;have hil:i<l.length:=by omega
   have hil':(i:Int)<l.length:=by omega
   have hw:IntKind.i64.wrap ((i:Int)+1)=((i+1:Nat):Int):=zH (by omega)
   have hnext:l[i]≠x->x ∉ l.take (i+1):=by
    intro h hm;rw[List.take_add_one,List.getElem?_eq_getElem hil]at hm;rcases List.mem_append.1 hm with hm|hm
    . exact he hm
    . exact h (List.mem_singleton.1 hm).symm
   have hmem:l[i]=x->x∈l:=fun h=>h ▸ List.getElem_mem hil
   refine lp hρ hE hcon fun K hK=>?_
   simp [zoK,hE,hil',hil];refine zc2 (fun h=>?_) (fun h=>?_)<;>simp [hE,hw,-Int.natCast_add]
   . exact hf (hmem h) _ _ (by simp)
   . exact hK _ _ (zz (Less.keep 0 (by simp[-Int.natCast_add]) (by simp) rfl rfl) (ih (i+1) (by omega) (hnext h)))
theorem zlz{l:List Int}{x:Int}(h1:l.length<=1000000)(hs:HS):CallOk ρ Tryz.prog 66 [enc l,enc x] hs (enc (decide (x∈l))) hs:=by
 refine fn hρ hE hcon Tryz.func66 zSh rfl (by simp) ?_ hs;simp [hE];refine zZ (zz (Less.keep (TL:=[(0,.sl (l.map encI) false),(1,.int .i64 x),(5,.int .i64 ((0:Nat):Int))]) (HL:=[]) 0 (by simp) (by simp) rfl rfl) (zkl hρ hE hcon h1 ?_ ?_ l.length 0 (by omega) (by simp)))
 . intro h T hs hT;simp[hT,h,hE]
 . intro h T hs;simp [h,hE]
theorem zgD {d:Nat} (hc:E.con 56=ioS 5 (zpT (zb9 d)) zk7) {l:List Ty} (hl:Ty.oks l=true) (hll:l.length<=10000) (hd:Ty.sizes l<=d) (hd2:d<=10000) {Q:Ex->PT V->HS->Prop}
 (hQ:Q (.exit 0) (mkP [(3,oV 0 ((zJ 3 l []).map zu))]) { H:=mkP (oH 0 5 ((zJ 3 l []).map zu)),n:=1,log:=[] }) :
 ∀ (n i:Nat) (L:List Ty),i+n=l.length->L=zJ 3 (l.take i) []->LsN ρ E 0 18 zml (LessQ 0 Q) (n+1) (mkP [(0,.sl (l.map zu) false),(3,oV 0 (L.map zu)),(4,.int .i64 (i:Int))])
   { H:=mkP (oH 0 5 (L.map zu)),n:=1,log:=[] }:=by
 intro n
 induction n with
 | zero =>
   intro i L hi hL;have hil:¬ (i:Int)<l.length:=by omega
   have e:L=zJ 3 l []:=by rw[hL,List.take_of_length_le (by omega)]
   rw[<- e]at hQ;refine lp hρ hE hcon fun K hK=>?_
   rcases L with _|⟨x,L⟩<;>simp [zml,hE,hil]<;>exact LessQ.mk (Less.keep 1 (by simp) (by simp) rfl rfl) hQ
 | succ n ih =>
   intro i L hi hL;have hil:i<l.length:=by omega
   have hil':(i:Int)<l.length:=by omega
   have hw:IntKind.i64.wrap ((i:Int)+1)=((i+1:Nat):Int):=zH (by omega);have hm:=List.getElem_mem hil;have hok:=Ty.oks_iff.1 hl _ hm;have hLok:Ty.oks L=true:=by rw[hL];exact zgl (zkt hl i) _ rfl
   have hlen:=zaE 3 (l.take i) [];rw[<- hL]at hlen
   have hsz:Ty.sizes (l.take i)+l[i].size<=Ty.sizes l:=by
    have:=zbP l (i+1);rw[List.take_add_one,List.getElem?_eq_getElem hil,zdl]at this;simpa [Ty.sizes]using this
   have hnew:zad 3 l[i] L=zJ 3 (l.take (i+1)) []:=by
    rw[List.take_add_one,List.getElem?_eq_getElem hil,Option.toList_some,zeb,hL]
   have hb:(zad 3 l[i] L).length<=10000:=by have:=(zcf 3 l[i] L).2;simp at hlen;omega
   have hF:zb9 d L l[i] 3=some (zad 3 l[i] L):=by
    unfold zb9;rw[if_pos ⟨by omega,hok,hLok,hb⟩]
   have hml:=zcf 3 l[i] L;refine lp hρ hE hcon fun K hK=>?_
   generalize hR:zad 3 l[i] L=R at hF hnew hml;rcases L with _|⟨x,L⟩
   . rcases R with _|⟨y,R⟩<;>simp [zml,hE,hil,hil',hc,hw,hF,zk7,-Int.natCast_add]
     . exact hK _ _ (zz (Less.keep 1 (by simp[-Int.natCast_add]) (by simp) rfl rfl) (ih (i+1) _ (by omega) hnew))
     . exact hK _ _ (zz (Less.lit (fun k=>if k=0 then 12 else k) 1 (by simp[-Int.natCast_add]) (by simp) rfl rfl) (ih (i+1) _ (by omega) hnew))
   . rcases R with _|⟨y,R⟩
     . simp at hml
     . have hml0:L.length<=R.length:=by simp at hml;omega
       simp [zml,hE,hil,hil',hc,hw,hF,zk7,hml0,-Int.natCast_add];exact hK _ _ (zz (Less.keep 1 (by simp[-Int.natCast_add]) (by simp) rfl rfl) (ih (i+1) _ (by omega) hnew))
theorem zh3{d:Nat}(hc:E.con 56=ioS 5 (zpT (zb9 d)) zk7){l:List Ty}(hl:Ty.oks l=true)(hll:l.length<=10000)(hd:Ty.sizes l<=d)(hd2:d<=10000)(hs:HS):CallOk ρ Tryz.prog 31 [enc l] hs (enc (zbj l)) hs:=by
 refine fn hρ hE hcon Tryz.func31 zS1 rfl (by simp) ?_ hs;simp [hE];refine zU (zZ (zz (Less.keep (TL:=[(0,.sl (l.map zu) false),(3,oV 0 (([]:List Ty).map zu)),(4,.int .i64 ((0:Nat):Int))]) (HL:=oH 0 5 (([]:List Ty).map zu)) 1 (by simp) (by simp) rfl rfl) (zgD hρ hE hcon hc hl hll hd hd2 ?_ l.length 0 [] (by omega) rfl)));unfold zbj;generalize zJ 3 l []=R;rcases R with _|⟨y,R⟩<;>simp [hE]
theorem zh1 {d:Nat} (hc:E.con 56=ioS 5 (zpT (zb9 d)) zk7) {l:List Ty} (hl:Ty.oks l=true) (hll:l.length<=10000) (hd:Ty.sizes l<=d) (hd2:(zJ 1 l []).length<=10000) {Q:Ex->PT V->HS->Prop}
 (hQ:Q (.exit 0) (mkP [(3,oV 0 ((zJ 1 l []).map zu))]) { H:=mkP (oH 0 5 ((zJ 1 l []).map zu)),n:=1,log:=[] }) :
 ∀ (n i:Nat) (L:List Ty),i+n=l.length->L=zJ 1 (l.take i) []->LsN ρ E 0 42 zmj (LessQ 0 Q) (n+1) (mkP [(0,.sl (l.map zu) false),(3,oV 0 (L.map zu)),(4,.int .i64 (i:Int))])
   { H:=mkP (oH 0 5 (L.map zu)),n:=1,log:=[] }:=by
 intro n
 induction n with
 | zero =>
   intro i L hi hL;have hil:¬ (i:Int)<l.length:=by omega
   have e:L=zJ 1 l []:=by rw[hL,List.take_of_length_le (by omega)]
   rw[<- e]at hQ;refine lp hρ hE hcon fun K hK=>?_
   rcases L with _|⟨x,L⟩<;>simp [zmj,hE,hil]<;>exact LessQ.mk (Less.keep 1 (by simp) (by simp) rfl rfl) hQ
 | succ n ih =>
   intro i L hi hL;have hil:i<l.length:=by omega
   have hil':(i:Int)<l.length:=by omega
   have hw:IntKind.i64.wrap ((i:Int)+1)=((i+1:Nat):Int):=zH (by omega);have hm:=List.getElem_mem hil;have hok:=Ty.oks_iff.1 hl _ hm;have hLok:Ty.oks L=true:=by rw[hL];exact zgl (zkt hl i) _ rfl
   have hlen:=zaE 1 (l.take i) [];rw[<- hL]at hlen
   have hsz:Ty.sizes (l.take i)+l[i].size<=Ty.sizes l:=by
    have:=zbP l (i+1);rw[List.take_add_one,List.getElem?_eq_getElem hil,zdl]at this;simpa [Ty.sizes]using this
   have hnew:zad 1 l[i] L=zJ 1 (l.take (i+1)) []:=by
    rw[List.take_add_one,List.getElem?_eq_getElem hil,Option.toList_some,zeb,hL]
   have hb:(zad 1 l[i] L).length<=10000:=by rw[hnew];exact Nat.le_trans (zhR 1 l (i+1) []) hd2
   have hF:zb9 d L l[i] 1=some (zad 1 l[i] L):=by
    unfold zb9;rw[if_pos ⟨by omega,hok,hLok,hb⟩]
   have hml:=zcf 1 l[i] L;refine lp hρ hE hcon fun K hK=>?_
   generalize hR:zad 1 l[i] L=R at hF hnew hml;rcases L with _|⟨x,L⟩
   . rcases R with _|⟨y,R⟩<;>simp [zmj,hE,hil,hil',hc,hw,hF,zk7,-Int.natCast_add]
     . exact hK _ _ (zz (Less.keep 1 (by simp[-Int.natCast_add]) (by simp) rfl rfl) (ih (i+1) _ (by omega) hnew))
     . exact hK _ _ (zz (Less.lit (fun k=>if k=0 then 12 else k) 1 (by simp[-Int.natCast_add]) (by simp) rfl rfl) (ih (i+1) _ (by omega) hnew))
   . rcases R with _|⟨y,R⟩
     . simp at hml
     . have hml0:L.length<=R.length:=by simp at hml;omega
       simp [zmj,hE,hil,hil',hc,hw,hF,zk7,hml0,-Int.natCast_add];exact hK _ _ (zz (Less.keep 1 (by simp[-Int.natCast_add]) (by simp) rfl rfl) (ih (i+1) _ (by omega) hnew))
theorem zdW (hc:E.con 66=fnC (zV fun (l:List Int) (x:Int)=>if l.length<=1000000 then some (decide (x∈l))else none)) {F:List Ty} (hl:F.length<=10000) {Q:Ex->PT V->HS->Prop}
 (hQ:Q (.exit 2) (mkP [(5,oV 1 ((zcw F).map encI))]) { H:=mkP (oH 1 1 ((zcw F).map encI)),n:=2,log:=[] }) :
 ∀ (n i:Nat) (O:List Int),i+n=F.length->O=zcw (F.take i)->LsN ρ E 0 42 zid (LessQ 0 Q) (n+1) (mkP [(3,oV 0 (F.map zu)),(5,oV 1 (O.map encI)),(6,.int .i64 (i:Int))])
   { H:=mkP (oH 0 5 (F.map zu)++oH 1 1 (O.map encI)),n:=2,log:=[] }:=by
 intro n
 induction n with
 | zero =>
   intro i O hi hO;have e:O=zcw F:=by rw[hO,List.take_of_length_le (by omega)]
   rw[<- e]at hQ;refine lp hρ hE hcon fun K hK=>?_
   rcases F with _|⟨x,F⟩
   . obtain rfl:i=0:=by simpa using hi
     rcases O with _|⟨y,O⟩<;>simp [zid,hE]<;>exact LessQ.mk (Less.keep 2 (by simp) (by simp) rfl rfl) hQ
   . have hil:¬ (i:Int)<(F.length:Int)+1:=by simp at hi;omega
     rcases O with _|⟨y,O⟩<;>simp [zid,hE,hil]<;>exact LessQ.mk (Less.keep 2 (by simp) (by simp) rfl rfl) hQ
 | succ n ih =>
   intro i O hi hO;have hil:i<F.length:=by omega
   have hw:IntKind.i64.wrap ((i:Int)+1)=((i+1:Nat):Int):=zH (by omega);have hOl:O.length<=10000:=by rw[hO];have:=zhV (F.take i);rw[List.length_take]at this;omega
   have hnew:zde O F[i]=zcw (F.take (i+1)):=by
    rw[List.take_add_one,List.getElem?_eq_getElem hil,Option.toList_some,zj6,hO]
   have hgi:(F.map zu)[i]?=some (zu F[i]):=by rw[List.getElem?_map,List.getElem?_eq_getElem hil];rfl
   refine lp hρ hE hcon fun K hK=>?_
   generalize F[i]=y at hnew hgi;rcases F with _|⟨x,F⟩
   . simp at hil
   have hil2:(i:Int)<(F.length:Int)+1:=by simp at hil;omega
   have hil3:i<F.length+1:=by simpa using hil
   simp only[List.map_cons,zdC]at hgi;have hgi3:∀ h,(zu x::F.map zu)[i]'h=zu y:=fun h=>by simp only[zdC];exact(List.getElem?_eq_some_iff.1 hgi).2
   simp only[zdC]at hgi3;have hd1:(i*5+2) / 5=i:=by omega
   have hd2:(i*5+2) % 5=2:=by omega
   by_cases hmem:y.id∈O
   . have hadd:zde O y=O:=if_pos hmem;rw[hadd]at hnew;rcases O with _|⟨z,O⟩
     . cases hmem
     . have hOl2:O.length+1<=1000000:=by simp at hOl;omega
       simp [zid,hE,hil2,hil3,hc,hd1,hd2,hgi3,hmem,hw,hOl2,-Int.natCast_add,-List.mem_cons];exact hK _ _ (zz (Less.keep 2 (by simp[-Int.natCast_add]) (by simp) rfl rfl) (ih (i+1) _ (by omega) hnew))
   . have hadd:zde O y=O++[y.id]:=if_neg hmem;rw[hadd]at hnew;rcases O with _|⟨z,O⟩
     . simp [zid,hE,hil2,hil3,hc,hd1,hd2,hgi3,hw,-Int.natCast_add];exact hK _ _ (zz (Less.lit (fun k=>if k=1 then 21 else k) 2 (by simp[-Int.natCast_add]) (by simp) rfl rfl) (ih (i+1) _ (by omega) hnew))
     . have hOl2:O.length+1<=1000000:=by simp at hOl;omega
       have h64:(O.length+1+1)*8<=1048576:=by simp at hOl;omega
       simp [zid,hE,hil2,hil3,hc,hd1,hd2,hgi3,hmem,hw,hOl2,h64,Nat.not_succ_le_self,-Int.natCast_add,-List.mem_cons];exact hK _ _ (zz (Less.keep 2 (by simp[-Int.natCast_add]) (by simp) rfl rfl) (ih (i+1) _ (by omega) hnew))
theorem zkk{d:Nat}(hcH:E.con 66=fnC (zV fun (l:List Int) (x:Int)=>if l.length<=1000000 then some (decide (x∈l))else none))(hc:E.con 56=ioS 5 (zpT (zb9 d)) zk7){l:List Ty}(hl:Ty.oks l=true)(hll:l.length<=10000)(hd:Ty.sizes l<=d)(hd2:(zJ 1 l []).length<=10000)(hs:HS):CallOk ρ Tryz.prog 42 [enc l] hs (enc (zbL l)) hs:=by
 refine fn hρ hE hcon Tryz.func42 zSu rfl (by simp) ?_ hs;simp [hE];refine zU (zZ (zz (Less.keep (TL:=[(0,.sl (l.map zu) false),(3,oV 0 (([]:List Ty).map zu)),(4,.int .i64 ((0:Nat):Int))]) (HL:=oH 0 5 (([]:List Ty).map zu)) 1 (by simp) (by simp) rfl rfl) (zh1 hρ hE hcon hc hl hll hd hd2 ?_ l.length 0 [] (by omega) rfl)));have hlen:=zaE 1 l [];unfold zbL;have hF:=hd2;clear hd2;generalize zJ 1 l []=F at hlen hF;rcases F with _|⟨y,F⟩
 . simp [hE];refine zU (zZ (zz (Less.keep (TL:=[(3,oV 0 (([]:List Ty).map zu)),(5,oV 1 (([]:List Int).map encI)),(6,.int .i64 ((0:Nat):Int))]) (HL:=oH 0 5 (([]:List Ty).map zu)++oH 1 1 (([]:List Int).map encI)) 2 (by simp) (by simp) rfl rfl) (zdW hρ hE hcon hcH hF ?_ 0 0 [] (by simp) rfl)));generalize zcw []=O;rcases O with _|⟨z,O⟩<;>simp [hE]
 . simp [hE];refine zU (zZ (zz (Less.keep (TL:=[(3,oV 0 ((y::F).map zu)),(5,oV 1 (([]:List Int).map encI)),(6,.int .i64 ((0:Nat):Int))]) (HL:=oH 0 5 ((y::F).map zu)++oH 1 1 (([]:List Int).map encI)) 2 (by simp) (by simp) rfl rfl) (zdW hρ hE hcon hcH hF ?_ (y::F).length 0 [] (by omega) rfl)));generalize zcw (y::F)=O;rcases O with _|⟨z,O⟩<;>simp [hE]
end
section
variable {ρ:Nat->Value}(hρ:J.Good ρ){E:Env}(hE:E.P=Tryz.prog)(hcon:ConsOk ρ E)
include hρ hE hcon
theorem zkn{s:Store}{id:Int}{x:Slot}(h:s.small)(hs:HS):CallOk ρ Tryz.prog 78 [enc s,enc id,enc x] hs (enc (s.set id x)) hs:=by
 refine fn hρ hE hcon Tryz.func78 zSc rfl (by simp) ?_ hs
 cases hx:s.slot? id with
 | none =>
   have:=Store.slot?_none hx;by_cases h0:id<0
   . simp [hE,Store.set,hx,h0]
   . have h3:(s.slots.length:Int)<=id:=by omega
     simp [hE,Store.set,hx,h0,h3]
 | some old =>
   have hset:s.set id x=(⟨s.slots.set id.toNat x,s.trail++[⟨id,old,false⟩]⟩,true):=by unfold Store.set;rw[hx]
   rw[hset];obtain⟨i,hl,rfl,hold⟩:=Store.slot?_at hx;clear hset hx;obtain⟨sl,tr⟩:=s;obtain⟨h1,h2⟩:=h;simp only at h1 h2 hl hold;have k1:=zx9 h1;have k2:=zx8 h1;have k3:=zx9 h2;have k4:=zx8 h2;have hgi:(sl.map zI)[i]?=some (zI old):=by rw[List.getElem?_map,List.getElem?_eq_getElem hl,hold];rfl
   have hd1:i*8 / 8=i:=by omega
   have hd2:i*8 % 8=0:=by omega
   rcases sl with _|⟨a,sl⟩
   . simp at hl
   have hl2:i<sl.length+1:=by simpa using hl
   have hl3:¬ (sl.length:Int)+1<=(i:Int):=by omega
   have hl4:¬ (i:Int)<0:=by omega
   simp only[List.map_cons,zI]at hgi;have hgi3:∀ h,(zI a::sl.map zI)[i]'h=zI old:=fun h=>by simp only[zI];exact(List.getElem?_eq_some_iff.1 hgi).2
   simp only[zI]at hgi3
   rcases tr with _|⟨b,tr⟩<;>simp at k1 k2 k3 k4 <;>
   simp [hE,k1,k2,k3,k4,Nat.not_succ_le_self,hl2,hl3,hl4,hd1,hd2,hgi3,hold]
   all_goals
    have e1:(zI a::sl.map zI).set i (zI x)=((a::sl).set i x).map zI:=by rw[List.map_set];rfl
    simp only[zI]at e1;rw[e1,List.take_of_length_le (by simp),zlD]
end
section
variable {ρ:Nat->Value}(hρ:J.Good ρ){E:Env}(hE:E.P=Tryz.prog)(hcon:ConsOk ρ E)
include hρ hE hcon
theorem ziL{c:Byte}(hs:HS):CallOk ρ Tryz.prog 81 [enc c] hs (enc (lowerB c.n)) hs:=by
 refine fn hρ hE hcon Tryz.func81 zRZ rfl (by simp) ?_ hs;obtain⟨c⟩:=c;by_cases h1:97<=c<;>by_cases h2:c<=122<;>simp [hE,lowerB,h1,h2,show (97<=(c:Int))↔97<=c by omega,show ((c:Int)<=122)↔c<=122 by omega]
theorem ziK{c:Byte}(hs:HS):CallOk ρ Tryz.prog 83 [enc c] hs (enc (upperB c.n)) hs:=by
 refine fn hρ hE hcon Tryz.func83 zRX rfl (by simp) ?_ hs;obtain⟨c⟩:=c;by_cases h1:65<=c<;>by_cases h2:c<=90<;>simp [hE,upperB,h1,h2,show (65<=(c:Int))↔65<=c by omega,show ((c:Int)<=90)↔c<=90 by omega]
theorem ziN{c:Byte}(hs:HS):CallOk ρ Tryz.prog 129 [enc c] hs (enc (zg3 c.n)) hs:=by
 refine fn hρ hE hcon Tryz.func129 zGI rfl (by simp) ?_ hs;obtain⟨c⟩:=c;by_cases h1:48<=c<;>by_cases h2:c<=57<;>simp [hE,zg3,h1,h2,show (48<=(c:Int))↔48<=c by omega,show ((c:Int)<=57)↔c<=57 by omega]
theorem ziM(h1:E.con 81=fnS (zW fun c:Byte=>some (lowerB c.n)))(h2:E.con 83=fnS (zW fun c:Byte=>some (upperB c.n)))(h3:E.con 129=fnS (zW fun c:Byte=>some (zg3 c.n)))
 {c:Byte} (hs:HS):CallOk ρ Tryz.prog 106 [enc c] hs (enc (zd0 c.n)) hs:=by
 refine fn hρ hE hcon Tryz.func106 zGN rfl (by simp) ?_ hs;obtain⟨c⟩:=c;by_cases e4:c=95
 . subst e4;have hd:(Enc.dec (V.int .u8 95):Option Byte)=some ⟨95⟩:=rfl;simp [hE,h1,h2,h3,zd0,hd,show lowerB 95=false from rfl,show upperB 95=false from rfl,show zg3 95=false from rfl]
 . have h95:¬ (c:Int)=95:=by omega
   cases e1:lowerB c<;>cases e2:upperB c<;>cases e3:zg3 c<;>simp [hE,h1,h2,h3,zd0,e1,e2,e3,e4,h95]
theorem ziJ (hc:E.con 106=fnS (zW fun c:Byte=>some (zd0 c.n))) {s:List Nat} (hl:s.length<2^63) {Q:Ex->PT V->HS->Prop}
 (hf:s.all zd0=false->∀ T hs,T.get 2=some (.bool false)->Q .ret T hs) (ht:s.all zd0=true->Q (.exit 0) (mkP [(0,.str s)]) { H:=mkP [],n:=0,log:=[] }) :
 ∀ (n i:Nat),i+n=s.length->(s.take i).all zd0=true->LsN ρ E 0 17 zmc (LessQ 0 Q) (n+1) (mkP [(0,.str s),(3,.int .i64 (i:Int))]) { H:=mkP [],n:=0,log:=[] }:=by
 intro n
 induction n with
 | zero =>
   intro i hi he;have hil:¬ (i:Int)<s.length:=by omega
   rw[List.take_of_length_le (by omega)]at he;refine lp hρ hE hcon fun K hK=>?_
   simp [zmc,hE,hil];exact LessQ.mk (Less.keep 0 (by simp) (by simp) rfl rfl) (ht he)
 | succ n ih =>
   intro i hi he;have hil:i<s.length:=by omega
   have hil':(i:Int)<s.length:=by omega
   have hw:IntKind.i64.wrap ((i:Int)+1)=((i+1:Nat):Int):=zH (by omega);refine lp hρ hE hcon fun K hK=>?_
   cases hb:zd0 s[i]with
   | true =>
     have hnx:(s.take (i+1)).all zd0=true:=by
      rw[List.take_add_one,List.getElem?_eq_getElem hil,List.all_append,he];simp[hb]
     simp [zmc,hE,hil',hil,hc,hb,hw,-Int.natCast_add];exact hK _ _ (zz (Less.keep 0 (by simp[-Int.natCast_add]) (by simp) rfl rfl) (ih (i+1) (by omega) hnx))
   | false =>
     simp [zmc,hE,hil',hil,hc,hb];exact LessQ.mk (Less.keep (TL:=[(2,.bool false)]) (HL:=[]) 0 (by simp) (by simp) rfl rfl) (hf (List.all_eq_false.2 ⟨_,List.getElem_mem hil,by simp[hb]⟩) _ _ (by simp))
theorem zkm(hc:E.con 106=fnS (zW fun c:Byte=>some (zd0 c.n))){s:List Nat}(hl:s.length<2^63)(hs:HS):CallOk ρ Tryz.prog 80 [enc s] hs (enc (zha s)) hs:=by
 refine fn hρ hE hcon Tryz.func80 zSa rfl (by simp) ?_ hs;simp [hE];refine zU (zZ (zz (Less.keep (TL:=[(0,.str s),(3,.int .i64 ((0:Nat):Int))]) (HL:=[]) 0 (by simp) (by simp) rfl rfl) (ziJ hρ hE hcon hc hl ?_ ?_ s.length 0 (by omega) (by simp))))
 . intro h T hs hT;simp[hT,zha,h,hE]
 . intro h;have e:zha s=!s.isEmpty:=by unfold zha;rw[h];rfl
   rw[e];rcases s with _|⟨c,s⟩<;>simp [hE]
theorem zgF{s:List Nat}(hs:HS):CallOk ρ Tryz.prog 82 [enc s] hs (enc (decide (s∈keywords))) hs:=by
 refine fn hρ hE hcon Tryz.func82 zRY rfl (by simp) ?_ hs;simp [hE]
 refine lpi hρ hE hcon 7 (nn:=0) (fun i (_:Unit)=>[(0,.str s),(3,.sl (keywords.map encS) true),(4,.int .i64 (i:Int))]) (fun i _=>[]) (fun i _=>s ∉ keywords.take i) ()
  (Less.auto (by simp[keywords]) (by simp) rfl rfl) (by simp) ?_ ?_
 . intro _ he K;have hn:s ∉ keywords:=by rwa [List.take_of_length_le (by decide)]at he
   simp [zoJ,hE,show keywords.length=7 from rfl];refine LessQ.mk (Less.auto (TL:=[]) (HL:=[]) (n:=0) (by simp) (by simp) rfl rfl) ?_;simp [hE,hn]
 . intro i _ hil he K hK;have hw:IntKind.i64.wrap ((i:Int)+1)=((i+1:Nat):Int):=zH (by omega);have hil':(i:Int)<7:=by omega
   have hk:i<keywords.length:=hil
   have hnx:keywords[i]≠s->s ∉ keywords.take (i+1):=by
    intro h hm;rw[List.take_add_one,List.getElem?_eq_getElem hk]at hm;rcases List.mem_append.1 hm with hm|hm
    . exact he hm
    . exact h (List.mem_singleton.1 hm).symm
   have hmem:keywords[i]=s->s∈keywords:=fun h=>h ▸ List.getElem_mem hk
   by_cases h:keywords[i]=s
   . have hm:=hmem h;simp [zoJ,hE,hil,hil',hk,h,show keywords.length=7 from rfl];refine LessQ.mk (Less.auto (TL:=[(2,.bool true)]) (HL:=[]) (n:=0) (by simp) (by simp) rfl rfl) ?_;simp [hE,hm]
   . have hnew:=hK () (hnx h);simp [zoJ,hE,hil,hil',hk,h,hw,show keywords.length=7 from rfl,-Int.natCast_add];exact hnew _ _ (Less.auto (by simp[-Int.natCast_add]) (by simp) rfl rfl)
end
section
variable {ρ:Nat->Value}(hρ:J.Good ρ){E:Env}(hE:E.P=Tryz.prog)(hcon:ConsOk ρ E)
include hρ hE hcon
theorem ziP(h1:E.con 80=fnS (zW fun s:List Nat=>if s.length<2^63 then some (zha s)else none))(h2:E.con 81=fnS (zW fun c:Byte=>some (lowerB c.n)))
 (h3:E.con 82=fnS (zW fun s:List Nat=>some (decide (s∈keywords)))) {s:List Nat} (hl:s.length<2^63) (hs:HS):CallOk ρ Tryz.prog 64 [enc s] hs (enc (zhQ s)) hs:=by
 refine fn hρ hE hcon Tryz.func64 zSj rfl (by simp) ?_ hs;simp only[show (2:Nat)^63=9223372036854775808 from rfl]at *
 cases hw:zha s with
 |false=>simp [hE,h1,hl,hw,zhQ]
 | true =>
   rcases s with _|⟨c,s⟩
   . cases hw
   . have hl2:((s.length:Int)+1<=12)↔s.length<=11:=by omega
     simp only[List.length_cons]at hl;cases hc:lowerB c<;>by_cases h12:s.length<=11<;>by_cases hk:(c::s)∈keywords<;>simp [hE,h1,h2,h3,hl,hw,zhQ,hc,h12,hk,hl2]
theorem ziO(h1:E.con 80=fnS (zW fun s:List Nat=>if s.length<2^63 then some (zha s)else none))(h2:E.con 83=fnS (zW fun c:Byte=>some (upperB c.n)))
 {s:List Nat} (hl:s.length<2^63) (hs:HS):CallOk ρ Tryz.prog 65 [enc s] hs (enc (zdS s)) hs:=by
 refine fn hρ hE hcon Tryz.func65 zSi rfl (by simp) ?_ hs;simp only[show (2:Nat)^63=9223372036854775808 from rfl]at *
 cases hw:zha s with
 |false=>simp [hE,h1,hl,hw,zdS]
 | true =>
   rcases s with _|⟨c,s⟩
   . cases hw
   . have hl2:((s.length:Int)+1<=12)↔s.length<=11:=by omega
     simp only[List.length_cons]at hl;cases hc:upperB c<;>by_cases h12:s.length<=11<;>simp [hE,h1,h2,hl,hw,zdS,hc,h12,hl2]
theorem zh2 {d:Nat} (hc:E.con 41=fnS (zW fun t:Ty=>if t.size<=d/\t.short=true then some t.valid else none)) {t:Ty} (ht:t.size<=d+1) (hll:t.args.length<=1000000) (hsh:t.short=true) {Q:Ex->PT V->HS->Prop}
 (hf:Ty.valids t.args=false->Q .ret (mkP [(2,.bool false)]) { H:=mkP [],n:=0,log:=[] }) (hq:Ty.valids t.args=true->Q (.exit 1) (mkP [(1,.ptr 0 0 0)]) { H:=mkP [(0,box (zu t))],n:=1,log:=[] }) :
 ∀ (n i:Nat),i+n=t.args.length->Ty.valids (t.args.take i)=true->LsN ρ E 0 132 zmk (LessQ 0 Q) (n+1) (mkP [(1,.ptr 0 0 0),(3,.int .i64 (i:Int))]) { H:=mkP [(0,box (zu t))],n:=1,log:=[] }:=by
 intro n
 induction n with
 | zero =>
   intro i hi he;have hil:¬ (i:Int)<t.args.length:=by omega
   rw[List.take_of_length_le (by omega)]at he;refine lp hρ hE hcon fun K hK=>?_
   simp [zmk,hE,hil];exact LessQ.mk (Less.keep 1 (by simp) (by simp) rfl rfl) (hq he)
 | succ n ih =>
   intro i hi he;have hil:i<t.args.length:=by omega
   have hil':(i:Int)<t.args.length:=by omega
   have hw:IntKind.i64.wrap ((i:Int)+1)=((i+1:Nat):Int):=zH (by omega);have hsz:t.args[i].size<=d:=by have:=Ty.size_arg (List.getElem_mem hil);omega
   have hs2:t.args[i].short=true:=Ty.shorts_iff.1 (Ty.short_iff.1 hsh).2 _ (List.getElem_mem hil);refine lp hρ hE hcon fun K hK=>?_
   cases hb:t.args[i].valid with
   | true =>
     have hnx:Ty.valids (t.args.take (i+1))=true:=by
      rw[Ty.valids_iff]at he ⊢;intro u hu;rw[List.take_add_one,List.getElem?_eq_getElem hil]at hu;rcases List.mem_append.1 hu with hu|hu
      . exact he u hu
      . rw[List.mem_singleton.1 hu];exact hb
     simp [zmk,hE,hil',hil,hc,hsz,hs2,hb,hw,-Int.natCast_add];exact hK _ _ (zz (Less.keep 1 (by simp[-Int.natCast_add]) (by simp) rfl rfl) (ih (i+1) (by omega) hnx))
   | false =>
     have hnv:Ty.valids t.args=false:=by
      rw[Bool.eq_false_iff,Ne,Ty.valids_iff];intro h;rw[h _ (List.getElem_mem hil)]at hb;cases hb
     simp [zmk,hE,hil',hil,hc,hsz,hs2,hb];exact LessQ.mk (Less.keep 0 (by simp) (by simp) rfl rfl) (hf hnv)
theorem ziF {d:Nat} (hc:E.con 41=fnS (zW fun t:Ty=>if t.size<=d/\t.short=true then some t.valid else none)) (hL:E.con 64=fnS (zW fun s:List Nat=>if s.length<2^63 then some (zhQ s)else none))
 (hU:E.con 65=fnS (zW fun s:List Nat=>if s.length<2^63 then some (zdS s)else none))
 {t:Ty} (ht:t.size<=d+1) (hll:t.args.length<=1000000) (hsh:t.short=true) (hs:HS):CallOk ρ Tryz.prog 41 [enc t] hs (enc t.valid) hs:=by
 refine fn hρ hE hcon Tryz.func41 zNY rfl (by simp) ?_ hs;have lo:=fun Q=>zh2 hρ hE hcon hc ht hll hsh (Q:=Q)
 obtain⟨k,nm,i,h,l⟩:=t;have hnm:=(Ty.short_iff.1 hsh).1;simp only[Ty.name_mk,Ty.args_mk]at hnm hll lo;simp only[show (2:Nat)^63=9223372036854775808 from rfl]at hL hU hnm;by_cases h1:k=1
 . subst h1;simp [hE]
   repeat' (refine zc2 (fun h=>?_) (fun h=>?_)<;>simp [h,hE])
   all_goals clear lo
   all_goals simp_all [Ty.valid]
   all_goals (intros;first|omega|simp_all|(exfalso;omega))
 by_cases h2:k=2
 . subst h2;simp [hE]
   repeat' (refine zc2 (fun h=>?_) (fun h=>?_)<;>simp [h,hE,hL,hnm])
   all_goals clear lo
   all_goals simp_all [Ty.valid]
   all_goals (intros;first|omega|simp_all|(exfalso;omega))
 by_cases h3:k=3
 . subst h3;simp [hE]
   repeat' (refine zc2 (fun h=>?_) (fun h=>?_)<;>simp [h,hE,hL,hnm])
   all_goals clear lo
   all_goals simp_all [Ty.valid]
   all_goals (intros;first|omega|simp_all|(exfalso;omega))
 by_cases h5:k=5
 . subst h5;simp [hE]
   repeat' (refine zc2 (fun h=>?_) (fun h=>?_)<;>simp [h,hE,hL,hnm])
   all_goals clear lo
   all_goals simp_all [Ty.valid]
   all_goals (intros;first|omega|simp_all|(exfalso;omega))
 by_cases h4:k=4
 . subst h4;by_cases hi0:i=0
   . by_cases hh0:h=0
     . subst hi0 hh0;simp [hE];refine zU (zZ (zz (Less.keep (TL:=[(1,.ptr 0 0 0),(3,.int .i64 ((0:Nat):Int))]) (HL:=[(0,box (zu (.mk 4 nm 0 0 l)))]) 1 (by simp) (by simp) rfl rfl) (lo _ ?_ ?_ l.length 0 (by omega) (by simp[Ty.valids]))))
       . intro hv;simp [hE,hv,Ty.valid]
       . intro hv;clear lo;by_cases ha:nm=[45,62]
         . subst ha;have hl2:((l.length:Int)=2)↔l.length=2:=by omega
           simp [hE,hv,Ty.valid,hl2]
         by_cases hb:nm=[73,110,116]
         . subst hb;simp [hE,hv,Ty.valid]
         have hl4:((l.length:Int)<=4)↔l.length<=4:=by omega
         cases hu:zdS nm<;>simp [hE,hv,Ty.valid,ha,hb,hU,hnm,hu,hl4]
     . simp [hE,hi0,hh0,Ty.valid]
   . simp [hE,hi0,Ty.valid]
 simp [hE,h1,h2,h3,h4,h5,Ty.valid]
end
section
variable {ρ:Nat->Value}(hρ:J.Good ρ){E:Env}(hE:E.P=Tryz.prog)(hcon:ConsOk ρ E)
include hρ hE hcon
theorem zga {d:Nat} (hc:E.con 43=mtS 2 1 (zpK (zkO d))) {s:Store} (hs:s.closed) {fr:Int} {L:List Int} (hL:∀ v∈L,0<=v/\v<s.slots.length) (hll:L.length<=10000) {R:List Int×Bool} {Q:Ex->PT V->HS->Prop}
 (hf:R.2=true->Q .ret (mkP [(8,.bool true)]) { H:=mkP [(0,mkO 1 (R.1.map encI))],n:=1,log:=[] })
 (ht:R.2=false->Q (.exit 0) (mkP []) { H:=mkP [(0,mkO 1 (R.1.map encI))],n:=1,log:=[] }) :
 ∀ (n i:Nat) (S:List Int),i+n=L.length->S.length=s.slots.length->S.count 0<=d->ziA (zdf s fr d) fr (L.drop i) S=R ->
   LsN ρ E 1 60 zic (LessQ 1 Q) (n+1) (mkP [(10,.int .i64 (i:Int)),(9,.sl (L.map encI) false),(3,.int .i64 fr),(2,mkV 0 (S.map encI)),(4,.ptr 1 0 0)])
    { H:=mkP [(0,mkO 1 (S.map encI)),(1,box (z8 s))],n:=2,log:=[] }:=by
 intro n
 induction n with
 | zero =>
   intro i S hi hSl hS0 hR;have hil:¬ (i:Int)<L.length:=by omega
   rw[List.drop_of_length_le (by omega)]at hR;subst hR;refine lp hρ hE hcon fun K hK=>?_
   simp [zic,hE,hil];exact LessQ.mk (Less.keep 1 (by simp) (by simp[mkO,ziA]) rfl rfl) (ht rfl)
 | succ n ih =>
   intro i S hi hSl hS0 hR;have hil:i<L.length:=by omega
   have hil':(i:Int)<L.length:=by omega
   have hw:IntKind.i64.wrap ((i:Int)+1)=((i+1:Nat):Int):=zH (by omega);have hv:=hL _ (List.getElem_mem hil);rw[List.drop_eq_getElem_cons hil]at hR;refine lp hρ hE hcon fun K hK=>?_
   obtain⟨k,hk⟩:=Int.eq_ofNat_of_zero_le hv.1;have hkl:k<S.length:=by omega
   have hkl2:(k:Int)<s.slots.length:=by omega
   generalize hx:S[k]=x;have hSk:S[k]?=some x:=by rw[List.getElem?_eq_getElem hkl,hx]
   rw[hk]at hR;unfold ziA at hR;rw[Int.toNat_natCast]at hR;by_cases hfr:(k:Int)=fr
   . rw[if_pos hfr]at hR;subst hR;simp [zic,hE,hil,hil',hk,hfr];exact LessQ.mk (Less.keep 1 (by simp) (by simp[mkO]) rfl rfl) (hf rfl)
   rw[if_neg hfr]at hR;by_cases h0:x=0
   . subst h0;rw[if_pos hSk]at hR;have hc1:=zgq hSk
     have hcF:zkO d (S.set k 1) s (k:Int) fr=some (zdf s fr d k (S.set k 1)):=by
      unfold zkO;rw[if_pos ⟨hs,by rw[List.length_set];exact hSl,by omega,hkl2,by omega⟩]
     have hlen:=zgU s fr d k (S.set k 1);rw[List.length_set]at hlen;generalize hr:zdf s fr d k (S.set k 1)=r at hR hcF hlen;obtain⟨S',b⟩:=r;simp only at hlen;have e1:(S.map encI).set k [.int .i64 1]=(S.set k 1).map encI:=by rw[List.map_set]
     cases b with
     | true =>
       simp at hR;subst hR;simp [zic,hE,hil,hil',hk,hfr,hSk,hkl,hx,mkV,mkO,Nat.mod_one,e1,hc,hcF,-List.map_set];exact⟨hlen.1,LessQ.mk (Less.keep 1 (by simp) (by simp[mkO]) rfl rfl) (hf rfl)⟩
     | false =>
       simp at hR;simp [zic,hE,hil,hil',hk,hfr,hSk,hkl,hx,mkV,mkO,Nat.mod_one,e1,hc,hcF,hw,-List.map_set,-Int.natCast_add];refine⟨hlen.1,?_⟩;exact hK _ _ (zz (Less.keep 2 (by simp[mkV,hlen.1,-Int.natCast_add]) (by simp[mkO]) rfl rfl) (ih (i+1) S' (by omega) (by omega) (by omega) hR))
   . rw[if_neg (by rw[hSk];simp[h0])]at hR;simp [zic,hE,hil,hil',hk,hfr,hSk,hkl,hx,mkV,mkO,h0,hw,Nat.mod_one,-Int.natCast_add];exact hK _ _ (zz (Less.keep 2 (by simp[mkV,-Int.natCast_add]) (by simp[mkO]) rfl rfl) (ih (i+1) S (by omega) hSl hS0 hR))
theorem zgI{d:Nat}(hc:E.con 43=mtS 2 1 (zpK (zkO d)))(hV:E.con 42=fnS (zW fun l:List Ty=>if Ty.oks l=true/\l.length<=10000/\Ty.sizes l<=10000 then some (zbL l)else none))
 {s:Store} {i fr:Int} {S:List Int} {R:List Int×Bool} (hR:zkO (d+1) S s i fr=some R) {hs:HS} {id:Nat} (hid:id<hs.n) (hg:hs.H.get id=some (mkO 1 (S.map encI))) :
 CallOk ρ Tryz.prog 43 [enc s,enc i,mkV id (S.map encI),enc fr] hs (enc R.2) (hs.wr id (mkO 1 (R.1.map encI))):=by
 have hRl:R.1.length=S.length:=by
  unfold zkO at hR;split at hR
  . cases hR;exact(zgU s fr (d+1) i S).1
  . cases hR
 refine mt hρ hE hcon (pre:=[enc s,enc i]) (post:=[enc fr]) Tryz.func43 zK2 rfl (by simp) (by simp) (by simp) (by simpa using hRl) rfl ?_ hid hg;unfold zkO at hR;split at hR
 case isFalse=>cases hR
 rename_i hp;obtain⟨hcl,hSl,hi0,hil,h0⟩:=hp;cases hR;obtain⟨k,rfl⟩:=Int.eq_ofNat_of_zero_le hi0;have hk:k<s.slots.length:=by omega
 have hk0:s.slots[k]?=some s.slots[k]:=List.getElem?_eq_getElem hk;have hm:=hcl.2 _ (List.getElem_mem hk);generalize hx:s.slots[k]=x at hk0 hm
 have hM:zdf s fr (d+1) k S=if x.bound=true then ziA (zdf s fr d) fr (zbL [x.type]) S else (S,false):=by
  rw[zdf,Int.toNat_natCast,hk0]
 have hd1:k*8 / 8=k:=by omega
 have hd2:k*8 % 8=0:=by omega
 cases hb:x.bound with
 | false =>
   rw[hb]at hM;simp at hM;rw[hM];simp [hE,hk,hx,hb,mkV,mkO];exact GivesL.keep rfl rfl rfl rfl (by simp)
 | true =>
   rw[hb]at hM;simp at hM;rw[hM];obtain⟨g1,g2,g3⟩:=hm hb;have hoks:Ty.oks [x.type]=true:=by simp[Ty.oks,g1]
   have hszs:Ty.sizes [x.type]<=10000:=by simp[Ty.sizes];exact g2
   have hlen:(zbL [x.type]).length<=10000:=by
    have e1:=zhV (zJ 1 [x.type] []);have e2:=(zaE 1 [x.type] []).2;simp at e2;unfold zbL;omega
   have hRl2:(ziA (zdf s fr d) fr (zbL [x.type]) S).1.length=S.length:=(zpe (zgU s fr d) _ _).1;generalize hLL:zbL [x.type]=L at *;simp [hE,hk,hx,hb,mkV,mkO,hV,hoks,hszs,hLL]
   refine zU (zZ (zz (Less.keep (TL:=[(10,.int .i64 ((0:Nat):Int)),(9,.sl (L.map encI) false),(3,.int .i64 fr),(2,mkV 0 (S.map encI)),(4,.ptr 1 0 0)]) (HL:=[(0,mkO 1 (S.map encI)),(1,box (z8 s))]) 2 (by simp[mkV]) (by simp[mkO]) rfl rfl)
    (zga hρ hE hcon hc hcl g3 hlen (R:=ziA (zdf s fr d) fr L S) ?_ ?_ L.length 0 S (by omega) hSl (by omega) rfl)))
   . intro hb;simp [hE,hb];exact GivesL.keep rfl rfl rfl rfl (by simp[mkO])
   . intro hb;simp [hE,hb];exact GivesL.keep rfl rfl rfl rfl (by simp[mkO])
end
end Go.Proofs.YtfgmnebfhemnpaaGreat
