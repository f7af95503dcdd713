import Derived.Test.YtocdkgjpdnamlaaGreatLAG
import Derived.Test.YtocdkgjpdnamlaaGreatJL
import Derived.Test.YtocdkgjpdnamlaaGreatJK
import Derived.Test.YtocdkgjpdnamlaaGreatJN
set_option linter.all false
noncomputable section
namespace Go.Proofs.YtocdkgjpdnamlaaGreat
open Go.J
open Go.J.Enc (enc)
set_option maxRecDepth 100000
set_option maxHeartbeats 4000000
section
variable {ρ:Nat->Value}(hρ:J.Good ρ){E:Env}(hE:E.P=Tryz.prog)(hcon:aZ ρ E)
include hρ hE hcon
def zvW(d:Nat)(a b:Ty):Option Bool:=if a.ok=true/\a.size<=d then some (decide (a=b))else none
def Di(d:Nat)(l m:List Ty):Option Bool:=if l.length<=10000/\Ty.oks l=true/\Ty.sizes l<=d then some (decide (l=m))else none
theorem wX{d:Nat}(hc:E.dS 63=bZ (bz (Di d))){a b:Ty}(ha:a.ok=true)(hd:a.size<=d+1)(hs:HS):aA ρ E.P 40 [enc a,enc b] hs (enc (decide (a=b))) hs:=by
 refine R3 hρ hcon (by rw[hE];exact follows) (by rw[hE];exact named) (by rw[hE];exact Tryz.func40) zo0 rfl (by simp) ?_ hs;have h1:=Ty.lH ha;have h2:Ty.oks a.args=true:=Ty.gT.2 (Ty.ky.1 ha).2;have h3:Ty.sizes a.args<=d:=by have:=Ty.size_eq a;omega
 simp [hE]
 repeat' (refine qD (fun h=>?_) (fun h=>?_)<;>simp[h,hE,hc,Di,h1,h2,h3])
 all_goals (rw[Ty.eq_iff];simp_all)
theorem zY{d:Nat}(hc:E.dS 40=bZ (bz (zvW d))){l m:List Ty}(hl:l.length=m.length)(h1:l.length<=10000)(h2:∀ t∈l,t.ok=true/\t.size<=d){Q:Ex->PT V->HS->Prop}
 (hf:l≠m->∀ T hs,T.get 4=some (.bool false)->Q .ret T hs) (ht:l=m->∀ T hs,Q (.exit 0) T hs) :
 ∀ (n i:Nat),i+n=l.length->l.take i=m.take i->Cj ρ E 0 27 Mt Q (n+1) (di [(0,.sl (l.map ax) false),(1,.sl (m.map ax) false),(5,.int .i64 (i:Int))]) { H:=di [],n:=0,log:=[] }:=by
 intro n
 induction n with
 | zero =>
   intro i hi he;have hil:¬ (i:Int)<l.length:=by omega
   have e:l=m:=by
    have:i=l.length:=by omega
    subst this;rw[List.take_length]at he;rw[he,hl,List.take_length]
   refine IU hρ hcon (by rw[hE];exact follows) (by rw[hE];exact named) fun K hK=>?_
   simp [Mt,hE,hil];exact ht e _ _
 | succ n ih =>
   intro i hi he;have hil:i<l.length:=by omega
   have gB:(i:Int)<l.length:=by omega
   have him:i<m.length:=by omega
   obtain⟨hx1,hx2⟩:=h2 l[i] (List.getElem_mem hil);refine IU hρ hcon (by rw[hE];exact follows) (by rw[hE];exact named) fun K hK=>?_
   have hw:IntKind.i64.wrap ((i:Int)+1)=((i+1:Nat):Int):=bu (by omega);simp [Mt,hE,gB,hil,him,hc,zvW,hx1,hx2];refine qD (fun h=>?_) (fun h=>?_)<;>simp [hE,hw,-Int.natCast_add]
   . refine hf (fun e=>h ?_) _ _ (by simp);subst e;rfl
   . refine hK _ _ (aY (Less.keep 0 (by simp[-Int.natCast_add]) (by simp) rfl rfl) (ih (i+1) (by omega) ?_));rw[List.take_add_one,List.take_add_one,he,List.getElem?_eq_getElem hil,List.getElem?_eq_getElem him,Classical.not_not.1 h]
theorem Be{d:Nat}(hc:E.dS 40=bZ (bz (zvW d))){l m:List Ty}(h1:l.length<=10000)(h2:Ty.oks l=true)(hd:Ty.sizes l<=d)(hs:HS):aA ρ E.P 63 [enc l,enc m] hs (enc (decide (l=m))) hs:=by
 refine R3 hρ hcon (by rw[hE];exact follows) (by rw[hE];exact named) (by rw[hE];exact Tryz.func63) zEn rfl (by simp) ?_ hs;have h3:∀ t∈l,t.ok=true/\t.size<=d:=fun t ht=>⟨Ty.gT.1 h2 t ht,by have:=Ty.pF ht;omega⟩
 simp [hE];refine qD (fun h=>?_) (fun h=>?_)<;>simp [hE]
 . intro e;subst e;exact h rfl
 . refine eU (aY (Less.keep (TL:=[(0,.sl (l.map ax) false),(1,.sl (m.map ax) false),(5,.int .i64 ((0:Nat):Int))]) (HL:=[]) 0 (by simp) (by simp) rfl rfl) (zY hρ hE hcon hc ?_ h1 h3 ?_ ?_ l.length 0 (by omega) (by simp)))
   . omega
   . intro hne T hs hT;simp[hT,hne,hE]
   . intro e T hs;simp [e,hE]
end
section
variable {ρ:Nat->Value}(hρ:J.Good ρ){E:Env}(hE:E.P=Tryz.prog)(hcon:aZ ρ E)
include hρ hE hcon
theorem LU{n m:Int}(h1:-4611686018427387904<=m)(h2:m<=4611686018427387904)(hs:HS):aA ρ Tryz.prog 52 [enc n,enc m] hs (enc (LM n m)) hs:=by
 refine fn hρ hE hcon Tryz.func52 zEw rfl (by simp) ?_ hs;simp [hE];refine qD (fun h=>?_) (fun h=>?_)<;>simp [hE,h,LM]
 have hm:1<=m:=by omega
 have hm1:¬ m<1:=h;have hm0:¬ m=0:=by omega
 simp[hm0];refine qD (fun h=>?_) (fun h=>?_)<;>simp [hE,h]
 . have h3:=Int.lt_tmod_of_pos n (show 0<m by omega);rw[wrap_i64 (by omega) (by omega),if_neg hm1,tmod_neg hm h]
 . rw[if_neg hm1,zbE hm (by omega)]
theorem LV{l:List Int}(hs:HS):aA ρ Tryz.prog 9 [enc l] hs (enc (decide (l.length<=60))) hs:=by
 refine fn hρ hE hcon Tryz.func9 zOX rfl (by simp) ?_ hs;simp [hE];omega
theorem Li{n:List Nat}{l:List Ty}(hl:l.length<=10000)(hs:HS):aA ρ Tryz.prog 54 [enc n,enc l] hs (enc (nR n l)) hs:=by
 refine fn hρ hE hcon Tryz.func54 zEu rfl (by simp) ?_ hs;rcases l with _|⟨x,l⟩
 . simp [hE,nR]
 . have h1:(l.length+1)*64<=1048576:=by simp at hl;omega
   simp [hE,nR,h1]
theorem Lg(hc:E.dS 54=bZ (bz fun n l=>if l.length<=10000 then some (nR n l)else none))(hs:HS):aA ρ Tryz.prog 53 [] hs (enc FW) hs:=by
 refine fn hρ hE hcon Tryz.func53 zEv rfl (by simp) ?_ hs;simp [hE,nR,FW,hc]
theorem Gc(hc:E.dS 54=bZ (bz fun n l=>if l.length<=10000 then some (nR n l)else none)){a b:Ty}(hs:HS):aA ρ Tryz.prog 55 [enc a,enc b] hs (enc (lG a b)) hs:=by
 refine fn hρ hE hcon Tryz.func55 zEt rfl (by simp) ?_ hs;simp [hE,nR,lG,hc]
theorem Le{i:Int}(hs:HS):aA ρ Tryz.prog 16 [enc i] hs (enc (aM i)) hs:=by
 refine fn hρ hE hcon Tryz.func16 zEM rfl (by simp) ?_ hs;simp [hE,aM]
theorem Aj(hc:E.dS 52=bZ (bz fun n m=>if -1000000<=m/\m<=1000000 then some (LM n m)else none)){t:Tp}{n:Int}(hi:0<=t.i)(hl:t.l.length<=100000)(hn:-1000000<=n/\n<=1000000)(hs:HS)(id:Nat)(hid:id<hs.n)(hg:hs.H.get id=some (box (fB.cells t))) :
 aA ρ Tryz.prog 26 [.ptr id 0 0,enc n] hs (enc (t.next n).2) (hs.wr id (box (fB.cells (t.next n).1))):=by
 refine st hρ hE hcon Tryz.func26 zEE rfl (by simp) (by simp) (by simp) (by simp) ?_ hid hg;obtain⟨l,i⟩:=t;obtain⟨j,rfl⟩:=Int.eq_ofNat_of_zero_le hi;simp only at hl;simp [hE];refine qD (fun h=>?_) (fun h=>?_)
 . simp [hE,h,Tp.next];exact aj.keep rfl rfl (by simp) (by simp) (by simp)
 . have hw:IntKind.i64.wrap ((j:Int)+1)=((j+1:Nat):Int):=bu (by omega);have hw2:IntKind.i64.wrap (((j+1:Nat):Int)-1)=(j:Int):=by rw[wrap_i64 (by omega) (by omega)];omega
   have hj:j<l.length:=by omega
   simp [hE,h,hw,hw2,hj,hc,hn,Tp.next,-Int.natCast_add];exact aj.keep rfl rfl (by simp) (by simp) (by simp)
end
section
variable {ρ:Nat->Value}(hρ:J.Good ρ){E:Env}(hE:E.P=Tryz.prog)(hcon:aZ ρ E)
include hρ hE hcon
theorem GZ(hc:E.dS 16=bZ (fO fun i=>some (aM i))){n:Nat}(hn:n<=10000){Q:Ex->PT V->HS->Prop}
 (hQ:Q (.exit 0) (di [(3,oV 0 ((dK n).map ax))]) { H:=di (oH 0 5 ((dK n).map ax)),n:=1,log:=[] }) :
 ∀ (m i:Nat) (L:List Ty),i+m=n->L=dK i->Cj ρ E 0 16 Ia (bq 0 Q) (m+1) (di [(0,.int .i64 (n:Int)),(3,oV 0 (L.map ax)),(4,.int .i64 (i:Int))]) { H:=di (oH 0 5 (L.map ax)),n:=1,log:=[] }:=by
 intro m
 induction m with
 | zero =>
   intro i L hi hL;obtain rfl:i=n:=by omega
   refine lp hρ hE hcon fun K hK=>?_
   rw[<- hL]at hQ;simp [Ia,hE];refine bq.mk (Less.keep 1 ?_ ?_ ?_ rfl) hQ<;>rcases L with _|⟨x,L⟩<;>first|rfl|simp
 | succ m ih =>
   intro i L hi hL;have hil:(i:Int)<n:=by omega
   have hw:IntKind.i64.wrap ((i:Int)+1)=((i+1:Nat):Int):=bu (by omega);have zrc:L.length=i:=by rw[hL];simp
   have hnew:L++[aM i]=dK (i+1):=by rw[hL,QC]
   refine lp hρ hE hcon fun K hK=>?_
   rcases L with _|⟨x,L⟩
   . simp [Ia,hE,hil,hc,hw,-Int.natCast_add];exact hK _ _ (aY (Less.lit (fun k=>if k=0 then 8 else k) 1 (by simp[-Int.natCast_add]) (by simp) rfl rfl) (ih (i+1) _ (by omega) hnew))
   . have h64:(L.length+1+1)*64<=1048576:=by simp at zrc;omega
     simp [Ia,hE,hil,hc,hw,h64,Nat.not_succ_le_self,-Int.natCast_add];exact hK _ _ (aY (Less.keep 1 (by simp[-Int.natCast_add]) (by simp) rfl rfl) (ih (i+1) _ (by omega) hnew))
theorem Jz(hc:E.dS 16=bZ (fO fun i=>some (aM i))){n:Nat}(hn:n<=10000){hs:HS}(hv:hs.H.get hs.n=none) :
 aA ρ Tryz.prog 28 [enc (n:Int)] hs (oV hs.n ((dK n).map ax)) (bi (Nat.beq (aN ((dK n).map ax)) 0) hs { H:=hs.H.set hs.n (oO 5 ((dK n).map ax)),n:=hs.n+1,log:=hs.n::hs.log }):=by
 refine row hρ hE hcon Tryz.func28 zED rfl (by simp) (by simp) ?_ hv;simp
 refine dJ (eU (aY (Less.keep (TL:=[(0,.int .i64 (n:Int)),(3,oV 0 (([]:List Ty).map ax)),(4,.int .i64 ((0:Nat):Int))]) (HL:=oH 0 5 (([]:List Ty).map ax)) 1 (by simp) (by simp) rfl rfl)
  (GZ hρ hE hcon hc hn ?_ n 0 [] (by omega) rfl)))
 generalize dK n=L;rcases L with _|⟨x,L⟩
 . simp [hE];exact aj.bO rfl rfl (by simp) (by simp)
 . simp [hE];exact aj.bO rfl rfl (by simp) (by simp)
end
section
variable {ρ:Nat->Value}(hρ:J.Good ρ){E:Env}(hE:E.P=Tryz.prog)(hcon:aZ ρ E)
include hρ hE hcon
theorem G5 (hc:E.dS 51=bZ (sU Fg)) {bits:Int} (hs:HS):aA ρ Tryz.prog 23 [enc bits] hs (enc (jd bits)) hs:=by
 refine fn hρ hE hcon Tryz.func23 zEH rfl (by simp) ?_ hs;have hlen:Fg.length=7:=rfl;unfold jd TM;generalize Fg=A at hc hlen;have h1:A[1]?=some A[1]:=List.getElem?_eq_getElem (by omega);rw[h1]
 have main : ∀ (L0:List Decl),L0.length<=1->∀ T hs,Less 0 T hs (di [(0,.int .i64 bits),(3,.sl (A.map ed) false),(4,oV 0 (L0.map ed)),(5,.int .i64 ((0:Nat):Int))]) { H:=di (oH 0 4 (L0.map ed)),n:=1,log:=[] } ->
  ∀ Q,Q (.exit 0) (di [(4,oV 0 ((L0++uE bits A 0).map ed))]) { H:=di (oH 0 4 ((L0++uE bits A 0).map ed)),n:=1,log:=[] }->Ls ρ E 0 45 (.loop Av) T hs Q:=by
  intro L0 hL0 T hs hl Q hQ;refine DV hρ hE hcon 7 (fun i (L:List Decl)=>[(0,.int .i64 bits),(3,.sl (A.map ed) false),(4,oV 0 (L.map ed)),(5,.int .i64 (i:Int))]) (fun i L=>oH 0 4 (L.map ed)) (fun i L=>L=L0++uE bits (A.take i) 0) L0 hl (by simp[uE]) ?_ ?_
  . intro L hL K;rw[List.take_of_length_le (by omega)]at hL;subst hL;generalize L0++uE bits A 0=L at hQ;simp [Av,hE,hlen];rcases L with _|⟨x,L⟩<;>simp<;>exact bq.mk (Less.auto (by simp) (by simp) rfl rfl) hQ
  . intro i L hi hL K hK;have hil:i<A.length:=by omega
    have zLm:(i:Int)<7:=by omega
    have hw:IntKind.i64.wrap ((i:Int)+1)=((i+1:Nat):Int):=bu (by omega)
    have zRI:L.length<=8:=by
     rw[hL,List.length_append];have:=NZ bits (A.take i) 0;rw[List.length_take]at this;omega
    have hnew:∀ L',L'=(if i≠1/\MR .i64 (bits.fdiv (2 ^ i)) 1=1 then L++[A[i]]else L)->L'=L0++uE bits (A.take (i+1)) 0:=by
     intro L' h;rw[h,List.take_add_one,List.getElem?_eq_getElem hil,Option.toList_some,zb4,hL];have:(A.take i).length=i:=by rw[List.length_take];omega
     rw[this,Nat.zero_add];simp only[uE];split<;>simp
    clear hL;have hgd:∀ h,A[i]'h=A[i]:=fun _=>rfl
    have hw2:IntKind.i64.wrap 2=2:=wrap_i64 (by omega) (by omega)
    have zCK:IntKind.u64.wrap (i:Int)=(i:Int):=by
     have:i<7:=hi
     match i,this with
     | 0,_=>rfl
     | 1,_=>rfl
     | 2,_=>rfl
     | 3,_=>rfl
     | 4,_=>rfl
     | 5,_=>rfl
     | 6,_=>rfl
     |n+7,h=>omega
    have hmin:min i IntKind.i64.bits=i:=Nat.min_eq_left (Nat.le_trans (Nat.le_of_lt hi) (by decide));by_cases zOR:i=1
    . subst zOR;have hnew:=hnew L (by simp);rcases L with _|⟨x,L⟩<;>simp [Av,hE,hlen,hw2,-Int.natCast_add]<;>exact hK _ hnew _ _ (Less.auto (by simp) (by simp) rfl rfl)
    . have zvk:¬ (i:Int)=1:=by omega
      by_cases hb:MR .i64 (bits.fdiv (2 ^ i)) 1=1
      . have hnew:=hnew _ (if_pos ⟨zOR,hb⟩).symm;rcases L with _|⟨x,L⟩
        . simp [Av,hE,hlen,zLm,hw,zCK,hmin,hi,zvk,hb,-Int.natCast_add];exact hK _ hnew _ _ (Less.auto (by simp[-Int.natCast_add]) (by simp) rfl rfl)
        . have h64:(L.length+1+1)*72<=1048576:=by simp at zRI;omega
          simp [Av,hE,hlen,zLm,hw,zCK,hmin,hi,zvk,hb,h64,Nat.not_succ_le_self,-Int.natCast_add];exact hK _ hnew _ _ (Less.auto (by simp[-Int.natCast_add]) (by simp) rfl rfl)
      . have hnew:=hnew _ (if_neg fun h=>hb h.2).symm;rcases L with _|⟨x,L⟩<;>simp [Av,hE,hlen,zLm,hw,zCK,hmin,zvk,hb,-Int.natCast_add]<;>exact hK _ hnew _ _ (Less.auto (by simp[-Int.natCast_add]) (by simp) rfl rfl)
 by_cases h2:MR .i64 bits 2=0
 . by_cases h64:MR .i64 bits 64=0
   . rw[if_neg (by simp[h2,h64])];simp [hE,hc,h2,h64];refine main [] (by simp) _ _ (Less.auto (by simp) (by simp) rfl rfl) _ ?_;rw[List.nil_append];generalize uE bits A 0=R;rcases R with _|⟨y,R⟩<;>simp [hE]
   . rw[if_pos (.inr h64)];simp [hE,hc,hlen,h2,h64];refine main [A[1]] (by simp) _ _ (Less.auto (by simp) (by simp) rfl rfl) _ ?_;simp [hE]
 . rw[if_pos (.inl h2)];simp [hE,hc,hlen,h2];refine main [A[1]] (by simp) _ _ (Less.auto (by simp) (by simp) rfl rfl) _ ?_;simp [hE]
end
open Classical in
def Bq(t:Tp)(n:Int):Option (Tp×Int):=if t.ok/\-1000000<=n/\n<=1000000 then some (t.next n)else none
open Classical in
def AY(d:Nat)(t:Tp)(D:List Decl)(Lv:List Ty)(n:Int):Option (Tp×Ty):=if t.ok/\zJj D/\Lv.length<=100000/\n<=d then some (dh n.toNat t D Lv)else none
section
variable {ρ:Nat->Value}(hρ:J.Good ρ){E:Env}(hE:E.P=Tryz.prog)(hcon:aZ ρ E)
include hρ hE hcon
theorem Ai (hN:E.dS 26=K5 (K7 Bq)) (hC:E.dS 54=bZ (bz fun n l=>if l.length<=10000 then some (nR n l)else none)) (hI:E.dS 53=bZ (sU FW)) (hA:E.dS 55=bZ (bz fun a b=>some (lG a b)))
 {d:Nat} {n:Int} (hT0:0<n->E.dS 27=K5 (K6 (AY d))) {t:Tp} {D:List Decl} {Lv:List Ty} (ht:t.ok) (hD:zJj D) (zRG:Lv.length<=100000) (hn:n<=d+1) (hdd:d<=1000) (hs:HS) (id:Nat) (hid:id<hs.n) (hg:hs.H.get id=some (box (fB.cells t))) :
 aA ρ Tryz.prog 27 [.ptr id 0 0,enc D,enc Lv,enc n] hs (enc (dh n.toNat t D Lv).2) (hs.wr id (box (fB.cells (dh n.toNat t D Lv).1))):=by
 have h7:Bq t 7=some (t.next 7):=if_pos ⟨ht,by omega,by omega⟩;have ht1:=qR ht 7;have hk0:=LJ t 7;generalize hR:dh n.toNat t D Lv=R;rw[dh.eq_def]at hR;rcases hq:t.next 7 with⟨t1,k⟩;simp only[hq]at h7 ht1 hk0 hR;refine st hρ hE hcon Tryz.func27 zo2 rfl (by simp) (by simp) (by simp) (by simp) ?_ hid hg;by_cases c1:k<3/\Lv≠[]
 . rw[if_pos c1]at hR;obtain⟨j,hj,e1,e2⟩:=uN t1 c1.2;have hF:Bq t1 (Lv.length:Int)=some (t1.next (Lv.length:Int)):=if_pos ⟨ht1,by omega,by omega⟩;rw[e2]at hR;rcases hq2:t1.next (Lv.length:Int)with⟨t2,k2⟩;simp only[hq2]at hF e1 hR;subst e1 hR;have hlp:0<Lv.length:=by omega
   simp [hE,hN,h7,c1.1,hlp,hF,hj];exact aj.keep rfl rfl (by simp) (by simp) (by simp)
 . rw [if_neg c1]at hR;have hp1:¬ (k<3/\0<Lv.length):=fun h=>c1 ⟨h.1,List.length_pos_iff.1 h.2⟩
   by_cases c2:k<4
   . rw[if_pos c2]at hR;subst hR;by_cases c3:k<3
     . have hL0:Lv=[]:=Classical.byContradiction fun h=>c1 ⟨c3,h⟩
       subst hL0;simp [hE,hN,h7,c3,c2,hI];exact aj.keep rfl rfl (by simp) (by simp) (by simp)
     . simp [hE,hN,h7,c3,c2,hI];exact aj.keep rfl rfl (by simp) (by simp) (by simp)
   . rw [if_neg c2]at hR;have c3:¬ k<3:=by omega
     by_cases c4:n<1
     . have h0:n.toNat=0:=by omega
       rw[h0]at hR;simp only[]at hR;subst hR;simp [hE,hN,h7,c3,c2,c4,hI];exact aj.keep rfl rfl (by simp) (by simp) (by simp)
     . have hT := hT0 (by omega);obtain⟨m,hm⟩:∃ m,n.toNat=m+1:=⟨n.toNat-1,by omega⟩;have hnm:n=(m:Int)+1:=by omega
       have hmd:m<=d:=by omega
       rw[hm]at hR;simp only[]at hR;have hw:IntKind.i64.wrap (n-1)=(m:Int):=by rw[hnm,wrap_i64 (by omega) (by omega)];omega
       have hTy:∀ t':Tp,t'.ok->AY d t' D Lv (m:Int)=some (dh m t' D Lv):=fun t' h=>by
        unfold AY;rw[if_pos ⟨h,hD,zRG,by omega⟩,Int.toNat_natCast]
       by_cases c5:(k=4\/k=5)/\D≠[]
       . rw [if_pos c5]at hR;obtain⟨j,hj,e1,e2⟩:=uN t1 c5.2;have hF:Bq t1 (D.length:Int)=some (t1.next (D.length:Int)):=if_pos ⟨ht1,by have:=hD.1;omega,by have:=hD.1;omega⟩;have ht2:=qR ht1 (D.length:Int);rw[e2]at hR;rcases hq2:t1.next (D.length:Int)with⟨t2,k2⟩;simp only[hq2,Option.getD_some]at hF e1 hR ht2;subst e1;have hdp:=hD.2 _ (List.getElem_mem hj);have zRM:0<D.length:=by omega
         generalize hdj:D[j]=dd at hR hdp;obtain⟨zv4,zkJ,o7,Sd⟩:=dd;simp only at hR hdp
         have main:∀ T hs,Less 1 T hs (di [(0,.ptr 0 0 0),(1,.sl (D.map ed) false),(2,.sl (Lv.map ax) false),(3,.int .i64 n),(8,.ptr 1 0 0),(10,.ptr 2 0 0),(11,oV 3 (([]:List Ty).map ax)),(12,.int .i64 ((0:Nat):Int))])
          { H:=di ([(0,box (fB.cells t2)),(1,box [.int .i64 0,.str [],.int .i64 0,.int .i64 0,.snil]),(2,box (ed ⟨zv4,zkJ,o7,Sd⟩))]++oH 3 5 (([]:List Ty).map ax)),n:=4,log:=[] } ->
          ∀ Q,Q (.exit 1) (di [(8,.ptr 1 0 0),(10,.ptr 2 0 0),(11,oV 3 ((jN m t2 D Lv o7.length).2.map ax))])
            { H:=di ([(0,box (fB.cells (jN m t2 D Lv o7.length).1)),(1,box [.int .i64 0,.str [],.int .i64 0,.int .i64 0,.snil]),(2,box (ed ⟨zv4,zkJ,o7,Sd⟩))]++oH 3 5 ((jN m t2 D Lv o7.length).2.map ax)),n:=4,log:=[] } ->
          Ls ρ E 1 95 (.loop Ib) T hs Q:=by
          intro T hs hl Q hQ
          refine DV hρ hE hcon o7.length (fun i (p:Tp×List Ty)=>[(0,.ptr 0 0 0),(1,.sl (D.map ed) false),(2,.sl (Lv.map ax) false),(3,.int .i64 n),(8,.ptr 1 0 0),(10,.ptr 2 0 0),(11,oV 3 (p.2.map ax)),(12,.int .i64 (i:Int))])
           (fun i p=>[(0,box (fB.cells p.1)),(1,box [.int .i64 0,.str [],.int .i64 0,.int .i64 0,.snil]),(2,box (ed ⟨zv4,zkJ,o7,Sd⟩))]++oH 3 5 (p.2.map ax)) (fun i p=>p=jN m t2 D Lv i) (t2,[]) hl (by rw[jN]) ?_ ?_
          . intro p hp K;rw[<- hp]at hQ;obtain⟨t3,L⟩:=p;rcases L with _|⟨x,L⟩<;>simp [Ib,hE]<;>exact bq.mk (Less.auto (by simp) (by simp) rfl rfl) hQ
          . intro i p hi hp K hK;have hlen:=yU m t2 D Lv i;have hok:=zlf (D:=D) (Lv:=Lv) m ht2 i;rw[<- hp]at hlen hok;have zIa:=hTy p.1 hok;have hnew:=hK (dh m p.1 D Lv |>.1,p.2++[(dh m p.1 D Lv).2]) (by rw[jN,<- hp]);have hi':(i:Int)<o7.length:=by omega
            have hw2:IntKind.i64.wrap ((i:Int)+1)=((i+1:Nat):Int):=bu (by omega);obtain⟨t3,L⟩:=p;simp only at zIa hnew hlen;rcases hq3:dh m t3 D Lv with⟨t4,x4⟩;simp only[hq3]at zIa hnew;rcases L with _|⟨x,L⟩
            . simp [Ib,hE,hi',hw,hw2,hT,zIa,-Int.natCast_add];exact hnew _ _ (Less.auto (by simp[-Int.natCast_add]) (by simp) rfl rfl)
            . have h64:(L.length+1+1)*64<=1048576:=by simp at hlen;omega
              simp [Ib,hE,hi',hw,hw2,hT,zIa,h64,Nat.not_succ_le_self,-Int.natCast_add];exact hnew _ _ (Less.auto (by simp[-Int.natCast_add]) (by simp) rfl rfl)
         have zC1:=yU m t2 D Lv o7.length;rcases hq4:jN m t2 D Lv o7.length with⟨t5,L⟩;simp only[hq4]at main hR zC1;subst hR;have Hl:L.length<=10000:=by omega
         rcases c5.1 with rfl|rfl<;>simp [hE,hN,h7,c4,hF,hj,hdj,zRM]<;>refine main _ _ (Less.auto (by simp) (by simp) rfl rfl) _ ?_ <;>
         (rcases L with _|⟨x,L⟩
          . simp [hE,hC];exact aj.keep rfl rfl (by simp[nR]) (by simp) (by simp)
          . have zRz:L.length<=9999:=by simpa using Hl
            simp [hE,hC,zRz]
            exact aj.keep rfl rfl (by simp[nR]) (by simp) (by simp))
       . rw [if_neg c5]at hR;have hp5:¬ ((k=4\/k=5)/\0<D.length):=fun h=>c5 ⟨h.1,List.length_pos_iff.1 h.2⟩
         have hF1:=hTy t1 ht1;have ht2:=(uz (D:=D) (Lv:=Lv) m t1 ht1).1;rcases hq2:dh m t1 D Lv with⟨t2,a⟩;simp only[hq2]at hF1 hR ht2;have hF2:=hTy t2 ht2;rcases hq3:dh m t2 D Lv with⟨t3,b⟩;simp only[hq3]at hF2 hR;subst hR;have hD0:(k=4\/k=5)->D=[]:=fun h=>Classical.byContradiction fun hne=>c5 ⟨h,hne⟩
         by_cases c6:k=4
         . have:=hD0 (.inl c6);subst this c6;simp [hE,hN,h7,c4,hw,hT,hF1,hF2,hA];exact aj.keep rfl rfl (by simp) (by simp) (by simp)
         . by_cases c7:k=5
           . have:=hD0 (.inr c7);subst this c7;simp [hE,hN,h7,c4,hw,hT,hF1,hF2,hA];exact aj.keep rfl rfl (by simp) (by simp) (by simp)
           . simp [hE,hN,h7,c3,c2,c4,c6,c7,hw,hT,hF1,hF2,hA];exact aj.keep rfl rfl (by simp) (by simp) (by simp)
end
def Bc(d:Nat)(t:Ty)(s:List Assign):Option Ty:=if t.ok=true/\t.size<=d/\s.length<=100000 then some (t.dZ s)else none
section
variable {ρ:Nat->Value}(hρ:J.Good ρ){E:Env}(hE:E.P=Tryz.prog)(hcon:aZ ρ E)
include hρ hE hcon
theorem uI {d:Nat} (hc:E.dS 31=bZ (bz (Bc d))) {t:Ty} {s:List Assign} (ht:t.ok=true) (hd:t.size<=d+1) (hsl:s.length<=100000) (hs:HS):aA ρ Tryz.prog 31 [enc t,enc s] hs (enc (t.dZ s)) hs:=by
 refine fn hρ hE hcon Tryz.func31 zo1 rfl (by simp) ?_ hs;rw[yB];by_cases hk:t.kind=1
 . rw [if_pos hk];simp [hE,hk]
   refine DV hρ hE hcon s.length (nn:=2) (fun i (_:Unit)=>[(1,.sl (s.map bF) false),(2,.ptr 0 0 0),(4,.ptr 1 0 0),(5,.int .i64 (i:Int))]) (fun i _=>[(0,box (ax t)),(1,box [.int .i64 0,.str [],.int .i64 0,.int .i64 0,.snil])]) (fun i _=>bW (s.take i) t.id=none) ()
    (Less.auto (by simp) (by simp[hk]) rfl rfl) rfl ?_ ?_
   . intro _ hl K;rw[List.take_length]at hl;simp [MB,hE];refine bq.mk (Less.auto (TL:=[(2,.ptr 0 0 0),(4,.ptr 1 0 0)]) (HL:=[(0,box (ax t)),(1,box [.int .i64 0,.str [],.int .i64 0,.int .i64 0,.snil])]) (n:=2) (by simp) (by simp[hk]) rfl rfl) ?_;simp [hE,hl,hk]
   . intro i _ hi hl K hK;have hi':(i:Int)<s.length:=by omega
     have hw2:IntKind.i64.wrap ((i:Int)+1)=((i+1:Nat):Int):=bu (by omega)
     have hlk:∀ j,bW (s.take (i+1)) j=(bW (s.take i) j).or (bW [s[i]] j):=fun j=>by
      rw[List.take_add_one,List.getElem?_eq_getElem hi,Option.toList_some,jC]
     by_cases he:s[i].id=t.id
     . have hres:bW s t.id=some s[i].type:=by
        conv=>lhs;rw[<- List.take_append_drop (i+1) s]
        rw[jC,hlk,hl];simp[bW,he]
       simp [MB,hE,hi,hi',he,hk];refine bq.mk (Less.auto (TL:=[(4,.ptr 1 0 0)]) (HL:=[(1,box (ax s[i].type))]) (n:=2) (by simp) (by simp) rfl rfl) ?_;simp [hres]
     . have hnew:=hK () (by rw[hlk,hl];simp[bW,he]);simp [MB,hE,hi,hi',he,hk,hw2,-Int.natCast_add];exact hnew _ _ (Less.auto (by simp[-Int.natCast_add]) (by simp[hk]) rfl rfl)
 . rw [if_neg hk];simp [hE,hk];have hlen:=Ty.lH ht
   refine DV hρ hE hcon t.args.length (nn:=4) (fun i (L:List Ty)=>[(1,.sl (s.map bF) false),(2,.ptr 0 0 0),(4,.ptr 1 0 0),(6,.ptr 2 0 0),(7,.int .i64 (i:Int))])
    (fun i L=>[(0,box (ax t)),(1,box [.int .i64 0,.str [],.int .i64 0,.int .i64 0,.snil]),(2,box [.int .i64 t.kind,.str t.name,.int .i64 t.id,.int .i64 t.home,oV 3 (L.map ax)])]++oH 3 5 (L.map ax)) (fun i L=>L=(t.args.take i).map (Ty.dZ s)) []
    (Less.auto (by simp) (by simp) (by simp) (by simp)) rfl ?_ ?_
   . intro L hL K;rw[List.take_length]at hL;rw[<- hL];clear hL;rcases L with _|⟨x,L⟩
     . simp [H9,hE];refine bq.mk (Less.auto (TL:=[(4,.ptr 1 0 0),(6,.ptr 2 0 0)]) (HL:=[(1,box [.int .i64 0,.str [],.int .i64 0,.int .i64 0,.snil]),(2,box [.int .i64 t.kind,.str t.name,.int .i64 t.id,.int .i64 t.home,.snil])]) (n:=4) (by simp) (by simp) (by simp) (by simp)) ?_;simp [hE]
     . simp [H9,hE];refine bq.mk (Less.auto (TL:=[(4,.ptr 1 0 0),(6,.ptr 2 0 0)]) (HL:=[(1,box [.int .i64 0,.str [],.int .i64 0,.int .i64 0,.snil]),(2,box [.int .i64 t.kind,.str t.name,.int .i64 t.id,.int .i64 t.home,oV 3 ((x::L).map ax)])]++oH 3 5 ((x::L).map ax)) (n:=4) (by simp) (by simp) (by simp) (by simp)) ?_;simp [hE]
   . intro i L hi hL K hK;have hi':(i:Int)<t.args.length:=by omega
     have hw2:IntKind.i64.wrap ((i:Int)+1)=((i+1:Nat):Int):=bu (by omega);have hm:=List.getElem_mem hi
     have hF:Bc d t.args[i] s=some (t.args[i].dZ s):=by
      unfold Bc;rw[if_pos ⟨Ty.mH ht hm,by have:=Ty.pG hm;omega,hsl⟩]
     have hnew:=hK (L++[t.args[i].dZ s]) (by rw[List.take_add_one,List.getElem?_eq_getElem hi,Option.toList_some,List.map_append,hL];rfl);have zrc:L.length=i:=by rw[hL,List.length_map,List.length_take];omega
     clear hL;generalize t.args[i].dZ s=y at hF hnew;rcases L with _|⟨x,L⟩
     . simp [H9,hE,hi,hi',hc,hF,hw2,-Int.natCast_add];exact hnew _ _ (Less.auto (by simp[-Int.natCast_add]) (by simp) (by simp) (by simp))
     . have h64:(L.length+1+1)*64<=1048576:=by simp at zrc;omega
       simp [H9,hE,hi,hi',hc,hF,hw2,h64,Nat.not_succ_le_self,-Int.natCast_add];exact hnew _ _ (Less.auto (by simp[-Int.natCast_add]) (by simp) (by simp) (by simp))
end
theorem TU{n:Nat}(h:n<=1000):∀ b,b<=200->n*b<=1048576:=fun b hb=>Nat.le_trans (Nat.mul_le_mul h hb) (by decide)
theorem TT{n:Nat}(h:n<=1000):∀ b,b<=200->(n+1)*b<=1048576:=fun b hb=>Nat.le_trans (Nat.mul_le_mul (Nat.succ_le_succ h) hb) (by decide)
section
variable {ρ:Nat->Value}(hρ:J.Good ρ){E:Env}(hE:E.P=Tryz.prog)(hcon:aZ ρ E)
include hρ hE hcon
theorem Jq(hs:HS):aA ρ Tryz.prog 24 [] hs (enc (⟨[],[]⟩:Store)) hs:=by
 refine fn hρ hE hcon Tryz.func24 zEG rfl (by simp) ?_ hs;simp [hE]
theorem EW(hc:E.dS 16=bZ (fO fun i=>some (aM i))){s:Store}{home:Int}{base:Bool}(h:s.small)(hs:HS):aA ρ Tryz.prog 25 [enc s,enc home,enc base] hs (enc (s.fresh home base)) hs:=by
 refine fn hρ hE hcon Tryz.func25 zEF rfl (by simp) ?_ hs;obtain⟨sl,tr⟩:=s;obtain⟨h1,h2⟩:=h;simp only at h1 h2;have k1:=TU h1;have k2:=TT h1;have k3:=TU h2;have k4:=TT h2
 rcases sl with _|⟨a,sl⟩<;>rcases tr with _|⟨b,tr⟩<;>simp at k1 k2 k3 k4 <;>
 simp [hE,hc,Store.fresh,Nv,TF,aM,k1,k2,k3,k4,Nat.not_succ_le_self]
theorem CP{t:Ty}(hs:HS):aA ρ Tryz.prog 17 [enc t] hs (enc (isArrow t)) hs:=by
 refine fn hρ hE hcon Tryz.func17 zEL rfl (by simp) ?_ hs;obtain⟨k,n,i,h,l⟩:=t
 rcases l with _|⟨a,_|⟨b,_|⟨c,l⟩⟩⟩<;>simp [hE] <;>
 repeat' (refine qD (fun h=>?_) (fun h=>?_)<;>simp [h,hE])
 all_goals first|omega|simp_all [isArrow,Nv]
theorem Jg{i:Int}(hs:HS):aA ρ Tryz.prog 104 [enc i] hs (enc (aM i)) hs:=by
 refine fn hρ hE hcon Tryz.func104 zrP rfl (by simp) ?_ hs;simp [hE,aM]
theorem Ji{s:Store}{i:Int}(hs:HS):aA ρ Tryz.prog 107 [enc s,enc i] hs (enc (s.slot? i).isSome) hs:=by
 refine fn hρ hE hcon Tryz.func107 zrO rfl (by simp) ?_ hs
 have e:(s.slot? i).isSome=decide (0<=i/\i<s.slots.length):=by
  cases h:s.slot? i with
  |none=>have:=Store.slot?_none h;simp;omega
  |some x=>obtain⟨j,rfl,hj,_⟩:=Store.slot?_some h;simp;omega
 rw[e];simp [hE]
 repeat' (refine qD (fun h=>?_) (fun h=>?_)<;>simp [h,hE])
end
section
variable {ρ:Nat->Value}(hρ:J.Good ρ){E:Env}(hE:E.P=Tryz.prog)(hcon:aZ ρ E)
include hρ hE hcon
theorem ES{s:Store}{t:Ty}(hs:HS):aA ρ Tryz.prog 77 [enc s,enc t] hs (enc (s.bound t)) hs:=by
 refine fn hρ hE hcon Tryz.func77 zEg rfl (by simp) ?_ hs;by_cases hk:t.kind=1
 . cases h:s.slot? t.id with
   | none =>
     have e:s.bound t=false:=by unfold Store.bound;rw[h];split<;>simp_all
     have:=Store.slot?_none h;simp [hE,hk]
     repeat' (refine qD (fun h=>?_) (fun h=>?_)<;>simp[h,hE,e])
     all_goals omega
   | some x =>
     obtain⟨i,hl,hi,hx⟩:=Store.slot?_at h;rw[Store.j6 hk h];simp [hE,hk,hi,hl,hx]
 . have e:s.bound t=false:=by unfold Store.bound;simp[hk]
   simp [hE,hk,e]
theorem wy(hc:E.dS 107=bZ (bz fun (s:Store) (i:Int)=>some (s.slot? i).isSome)){s:Store}{t:Ty}(hs:HS):aA ρ Tryz.prog 84 [enc s,enc t] hs (enc (s.bound t)) hs:=by
 refine fn hρ hE hcon Tryz.func84 zvH rfl (by simp) ?_ hs;by_cases hk:t.kind=1
 . cases h:s.slot? t.id with
   | none =>
     have e:s.bound t=false:=by unfold Store.bound;rw[h];split<;>simp_all
     simp [hE,hk,e,hc,h]
   | some x =>
     have h0:=h;obtain⟨i,hl,hi,hx⟩:=Store.slot?_at h;rw[hi]at h0;rw[Store.j6 hk h];simp [hE,hk,hi,hl,hx,hc,h0]
 . have e:s.bound t=false:=by unfold Store.bound;simp[hk]
   simp [hE,hk,e]
theorem ET(hc:E.dS 77=bZ (bz fun (s:Store) (t:Ty)=>some (s.bound t))){s:Store}(h:s.slots.length<=1000000){r:Ty}{Q:Ex->PT V->HS->Prop}
 (hQ:Q (.exit 0) (di [(3,.ptr 1 0 0),(4,.ptr 2 0 0)]) { H:=di [(1,box (ax r)),(2,.arr 5 0 [[.int .i64 0,.str [],.int .i64 0,.int .i64 0,.snil]] true false false)],n:=3,log:=[] }) :
 ∀ (m i:Nat) (t:Ty),i+m=s.slots.length+1->s.bX m t=r->Cj ρ E 0 26 HY (bq 0 Q) (m+1) (di [(2,.ptr 0 0 0),(3,.ptr 1 0 0),(4,.ptr 2 0 0),(5,.int .i64 (i:Int))])
   { H:=di [(0,box (bB s)),(1,box (ax t)),(2,.arr 5 0 [[.int .i64 0,.str [],.int .i64 0,.int .i64 0,.snil]] true false false)],n:=3,log:=[] }:=by
 intro m
 induction m with
 | zero =>
   intro i t hi ht;have hil:¬ (i:Int)<=s.slots.length:=by omega
   refine lp hρ hE hcon fun K hK=>?_
   simp [HY,hE,hil];cases ht;refine bq.mk (Less.keep 3 ?_ ?_ rfl rfl) hQ<;>simp[Store.bX]
 | succ m ih =>
   intro i t hi ht;have hil:(i:Int)<=s.slots.length:=by omega
   have hw:IntKind.i64.wrap ((i:Int)+1)=((i+1:Nat):Int):=bu (by omega);refine lp hρ hE hcon fun K hK=>?_
   unfold Store.bX at ht;by_cases hb:s.bound t=true
   . rw[if_pos hb]at ht;obtain⟨hk,x,hx,hxb⟩:=Store.kN hb;obtain⟨j,hjl,hj,hxj⟩:=Store.slot?_at hx;have ht2:s.to t=x.type:=by unfold Store.to;rw[hx]
     obtain⟨k,n,id,hm,l⟩:=t;simp only[Ty.gz]at hj;subst hj;simp [HY,hE,hil,hc,hb,hw,hjl,hxj,-Int.natCast_add];rw[ht2]at ht;exact hK _ _ (aY (Less.keep 3 (by simp[-Int.natCast_add]) (by simp) rfl rfl) (ih (i+1) _ (by omega) ht))
   . rw[if_neg hb]at ht;subst ht;simp [HY,hE,hil,hc,hb];refine bq.mk (Less.keep 3 ?_ ?_ rfl rfl) hQ<;>simp
theorem Gi(hc:E.dS 77=bZ (bz fun (s:Store) (t:Ty)=>some (s.bound t))){s:Store}(h:s.slots.length<=1000000){t:Ty}(hs:HS):aA ρ Tryz.prog 59 [enc s,enc t] hs (enc (s.bX (s.slots.length+1) t)) hs:=by
 refine fn hρ hE hcon Tryz.func59 zEr rfl (by simp) ?_ hs;simp [hE];refine dJ (eU (aY (Less.keep (TL:=[(2,.ptr 0 0 0),(3,.ptr 1 0 0),(4,.ptr 2 0 0),(5,.int .i64 ((0:Nat):Int))]) 3 ?_ ?_ rfl rfl) (ET hρ hE hcon hc h (r:=s.bX (s.slots.length+1) t) ?_ (s.slots.length+1) 0 t (by omega) rfl)))
 . simp
 . simp
 . simp [hE]
theorem EF(hc:E.dS 84=bZ (bz fun (s:Store) (t:Ty)=>some (s.bound t))){s:Store}(h:s.slots.length<=1000000){r:Ty}{Q:Ex->PT V->HS->Prop}
 (hQ:Q (.exit 0) (di [(3,.ptr 1 0 0),(4,.ptr 2 0 0)]) { H:=di [(1,box (ax r)),(2,.arr 5 0 [[.int .i64 0,.str [],.int .i64 0,.int .i64 0,.snil]] true false false)],n:=3,log:=[] }) :
 ∀ (m i:Nat) (t:Ty),i+m=s.slots.length->s.bX m t=r->Cj ρ E 0 23 su (bq 0 Q) (m+1) (di [(2,.ptr 0 0 0),(3,.ptr 1 0 0),(4,.ptr 2 0 0),(7,.int .i64 (s.slots.length:Int)),(8,.int .i64 (i:Int))])
   { H:=di [(0,box (bB s)),(1,box (ax t)),(2,.arr 5 0 [[.int .i64 0,.str [],.int .i64 0,.int .i64 0,.snil]] true false false)],n:=3,log:=[] }:=by
 intro m
 induction m with
 | zero =>
   intro i t hi ht;have hil:¬ (i:Int)<s.slots.length:=by omega
   refine lp hρ hE hcon fun K hK=>?_
   simp [su,hE,hil];cases ht;refine bq.mk (Less.keep 3 ?_ ?_ rfl rfl) hQ<;>simp[Store.bX]
 | succ m ih =>
   intro i t hi ht;have hil:(i:Int)<s.slots.length:=by omega
   have hw:IntKind.i64.wrap ((i:Int)+1)=((i+1:Nat):Int):=bu (by omega);refine lp hρ hE hcon fun K hK=>?_
   unfold Store.bX at ht;by_cases hb:s.bound t=true
   . rw[if_pos hb]at ht;obtain⟨hk,x,hx,hxb⟩:=Store.kN hb;obtain⟨j,hjl,hj,hxj⟩:=Store.slot?_at hx;have ht2:s.to t=x.type:=by unfold Store.to;rw[hx]
     obtain⟨k,n,id,hm,l⟩:=t;simp only[Ty.gz]at hj;subst hj;simp [su,hE,hil,hc,hb,hw,hjl,hxj,-Int.natCast_add];rw[ht2]at ht;exact hK _ _ (aY (Less.keep 3 (by simp[-Int.natCast_add]) (by simp) rfl rfl) (ih (i+1) _ (by omega) ht))
   . rw[if_neg hb]at ht;subst ht;simp [su,hE,hil,hc,hb];refine bq.mk (Less.keep 3 ?_ ?_ rfl rfl) hQ<;>simp
theorem FX(hc:E.dS 84=bZ (bz fun (s:Store) (t:Ty)=>some (s.bound t))){s:Store}(h:s.slots.length<=1000000){t:Ty}(hs:HS):aA ρ Tryz.prog 67 [enc s,enc t] hs (enc (s.bX s.slots.length t)) hs:=by
 refine fn hρ hE hcon Tryz.func67 zoY rfl (by simp) ?_ hs;simp [hE];refine dJ (eU (aY (Less.keep (TL:=[(2,.ptr 0 0 0),(3,.ptr 1 0 0),(4,.ptr 2 0 0),(7,.int .i64 (s.slots.length:Int)),(8,.int .i64 ((0:Nat):Int))]) 3 ?_ ?_ rfl rfl) (EF hρ hE hcon hc h (r:=s.bX s.slots.length t) ?_ s.slots.length 0 t (by omega) rfl)))
 . simp
 . simp
 . simp [hE]
end
def jo(d:Nat)(L:List Ty)(t:Ty)(kind:Int):Option (List Ty):=if t.size<=d/\t.ok=true/\Ty.oks L=true/\(dM kind t L).length<=10000 then some (dM kind t L)else none
theorem DW(kind:Int):∀ (l:List Ty) (i:Nat) (L0:List Ty),(aP kind (l.take i) L0).length<=(aP kind l L0).length:=by
 intro l
 induction l with
 |nil=>intro i L0;simp
 | cons a l ih =>
   intro i L0
   cases i with
   |zero=>exact(iK kind (a::l) L0).1
   | succ i =>
     rw[List.take_succ_cons,aP,aP];exact ih i _
section
variable {ρ:Nat->Value}(hρ:J.Good ρ){E:Env}(hE:E.P=Tryz.prog)(hcon:aZ ρ E)
include hρ hE hcon
theorem sZ {d:Nat} (hc:E.dS 45=Qt 5 (CZ (jo d)) vS) {k:Nat} {t:Ty} {kind:Int} {L0:List Ty} (hk:k=0\/k=1/\L0≠[]) (ht:t.ok=true) (hd:t.size<=d+1) (h0:Ty.oks L0=true) (hl0:(aP kind t.args L0).length<=10000) {Q:Ex->PT V->HS->Prop}
 (hQ:Q (.exit 2) (di [(0,oV 0 ((aP kind t.args L0).map ax))]) { H:=di (oH 0 5 ((aP kind t.args L0).map ax)),n:=1,log:=[] }) :
 ∀ (n i:Nat) (L:List Ty),i+n=t.args.length->L=aP kind (t.args.take i) L0->Cj ρ E k 52 xJ (bq k Q) (n+1) (di [(0,oV 0 (L.map ax)),(2,.int .i64 kind),(4,.ptr 1 0 0),(8,.int .i64 (i:Int))])
   { H:=di ((1,box (ax t))::oH 0 5 (L.map ax)),n:=2,log:=[] }:=by
 intro n
 induction n with
 | zero =>
   intro i L hi hL;have hil:¬ (i:Int)<t.args.length:=by omega
   have e:L=aP kind t.args L0:=by rw[hL,List.take_of_length_le (by omega)]
   rw[<- e]at hQ;have hlen:=iK kind t.args L0;rw[<- e]at hlen;refine lp hρ hE hcon fun K hK=>?_
   rcases L with _|⟨x,L⟩
   . have hk0:k=0:=by
      rcases hk with h|⟨_,h⟩
      . exact h
      . cases L0 with
        |nil=>exact absurd rfl h
        |cons a l=>simp at hlen
     subst hk0;simp [xJ,hE,hil];exact bq.mk (Less.keep 1 (by simp) (by simp) rfl rfl) hQ
   . simp [xJ,hE,hil];rcases hk with rfl|⟨rfl,_⟩<;>exact bq.mk (Less.keep 1 (by simp) (by simp) rfl rfl) hQ
 | succ n ih =>
   intro i L hi hL;have hil:i<t.args.length:=by omega
   have gB:(i:Int)<t.args.length:=by omega
   have hw:IntKind.i64.wrap ((i:Int)+1)=((i+1:Nat):Int):=bu (by have:=Ty.lH ht;omega);have hm:=List.getElem_mem hil;have hs1:=Ty.pG hm;have hok:=Ty.mH ht hm;have zdn:Ty.oks L=true:=by rw[hL];exact Al (GG (Ty.gT.2 (Ty.ky.1 ht).2) i) _ h0
   have hlen:=iK kind (t.args.take i) L0;rw[<- hL]at hlen
   have hsz:Ty.sizes (t.args.take i)+t.args[i].size<=Ty.sizes t.args:=by
    have:=lQ t.args (i+1);rw[List.take_add_one,List.getElem?_eq_getElem hil,rf]at this;simpa [Ty.sizes]using this
   have hts:=Ty.size_eq t
   have hnew:dM kind t.args[i] L=aP kind (t.args.take (i+1)) L0:=by
    rw[List.take_add_one,List.getElem?_eq_getElem hil,Option.toList_some,vR,hL]
   have hb:(dM kind t.args[i] L).length<=10000:=by rw[hnew];exact Nat.le_trans (DW kind t.args (i+1) L0) hl0
   have hF:jo d L t.args[i] kind=some (dM kind t.args[i] L):=by
    unfold jo;rw[if_pos ⟨by omega,hok,zdn,hb⟩]
   have Ao:=mX kind t.args[i] L;refine lp hρ hE hcon fun K hK=>?_
   generalize hR:dM kind t.args[i] L=R at hF hnew Ao;rcases L with _|⟨x,L⟩
   . have hk0:k=0:=by
      rcases hk with h|⟨_,h⟩
      . exact h
      . cases L0 with
        |nil=>exact absurd rfl h
        |cons a l=>simp at hlen
     subst hk0;rcases R with _|⟨y,R⟩<;>simp [xJ,hE,hil,gB,hc,hw,hF,vS,-Int.natCast_add]
     . exact hK _ _ (aY (Less.keep 2 (by simp[-Int.natCast_add]) (by simp) rfl rfl) (ih (i+1) _ (by omega) hnew))
     . exact hK _ _ (aY (Less.lit (fun k=>if k=0 then 16 else k) 2 (by simp[-Int.natCast_add]) (by simp) rfl rfl) (ih (i+1) _ (by omega) hnew))
   . rcases R with _|⟨y,R⟩
     . simp at Ao
     . have zdb:L.length<=R.length:=by simp at Ao;omega
       simp [xJ,hE,hil,gB,hc,hw,hF,vS,zdb,-Int.natCast_add];rcases hk with rfl|⟨rfl,_⟩<;>exact hK _ _ (aY (Less.keep 2 (by simp[-Int.natCast_add]) (by simp) rfl rfl) (ih (i+1) _ (by omega) hnew))
theorem tq (hc:E.dS 40=bZ (bz fun a b:Ty=>if a.ok=true then some (decide (a=b))else none)) {k:Nat} {t:Ty} {L:List Ty} (hk:k=0\/k=1/\L≠[]) (h0:Ty.oks L=true) (hl0:L.length<=10000) {Q:Ex->PT V->HS->Prop}
 (hf:t∈L->Q .ret (di [(6,oV 0 (L.map ax))]) { H:=di (oH 0 5 (L.map ax)),n:=1,log:=[] })
 (hn:t ∉ L->Q (.exit 0) (di [(0,oV 0 (L.map ax)),(4,.ptr 1 0 0)]) { H:=di ((1,box (ax t))::oH 0 5 (L.map ax)),n:=2,log:=[] }) :
 ∀ (n i:Nat),i+n=L.length->t ∉ L.take i->Cj ρ E k 52 H6 (bq k Q) (n+1) (di [(0,oV 0 (L.map ax)),(4,.ptr 1 0 0),(7,.int .i64 (i:Int))])
   { H:=di ((1,box (ax t))::oH 0 5 (L.map ax)),n:=2,log:=[] }:=by
 intro n
 induction n with
 | zero =>
   intro i hi hL;have hil:¬ (i:Int)<L.length:=by omega
   have e:t ∉ L:=by rw[List.take_of_length_le (by omega)]at hL;exact hL
   have hn:=hn e;refine lp hρ hE hcon fun K hK=>?_
   rcases L with _|⟨x,L⟩
   . have hk0:k=0:=by
      rcases hk with h|⟨_,h⟩
      . exact h
      . exact absurd rfl h
     subst hk0;obtain rfl:i=0:=by simpa using hi
     simp [H6,hE];exact bq.mk (Less.keep 2 (by simp) (by simp) rfl rfl) hn
   . have zoK:¬ (i:Int)<(L.length:Int)+1:=by simp at hil;omega
     simp [H6,hE,zoK];rcases hk with rfl|⟨rfl,_⟩<;>exact bq.mk (Less.keep 2 (by simp) (by simp) rfl rfl) hn
 | succ n ih =>
   intro i hi hL;have hil:i<L.length:=by omega
   have hw:IntKind.i64.wrap ((i:Int)+1)=((i+1:Nat):Int):=bu (by omega);have hok:=Ty.gT.1 h0 _ (List.getElem_mem hil)
   have hnext:L[i]≠t->t ∉ L.take (i+1):=by
    intro h hm;rw[List.take_add_one,List.getElem?_eq_getElem hil]at hm;rcases List.mem_append.1 hm with hm|hm
    . exact hL hm
    . exact h (List.mem_singleton.1 hm).symm
   have hmem:L[i]=t->t∈L:=fun h=>h ▸ List.getElem_mem hil
   have hgi:(L.map ax)[i]?=some (ax L[i]):=by rw[List.getElem?_map,List.getElem?_eq_getElem hil];rfl
   refine lp hρ hE hcon fun K hK=>?_
   generalize L[i]=y at hok hnext hmem hgi;rcases L with _|⟨x,L⟩
   . simp at hil
   . have zoK:(i:Int)<(L.length:Int)+1:=by simp at hil;omega
     have zdd:i<L.length+1:=by simpa using hil
     simp only[List.map_cons,qW]at hgi;have JG:∀ h,(ax x::L.map ax)[i]'h=ax y:=fun h=>by simp only[qW];exact(List.getElem?_eq_some_iff.1 hgi).2
     simp only[qW]at JG;have hd1:i*5 / 5=i:=by omega
     have hd2:i*5 % 5=0:=by omega
     simp [H6,hE,zoK,zdd,hc,hok,hd1,hd2,JG];refine qD (fun h=>?_) (fun h=>?_)<;>simp [hE,hw,-Int.natCast_add]
     . rcases hk with rfl|⟨rfl,_⟩<;>exact bq.mk (Less.keep 1 (by simp) (by simp) rfl rfl) (hf (hmem h))
     . rcases hk with rfl|⟨rfl,_⟩<;>exact hK _ _ (aY (Less.keep 2 (by simp[-Int.natCast_add]) (by simp) rfl rfl) (ih (i+1) (by omega) (hnext h)))
theorem EK {d:Nat} (zOG:E.dS 40=bZ (bz fun a b:Ty=>if a.ok=true then some (decide (a=b))else none)) (hc:E.dS 45=Qt 5 (CZ (jo d)) vS) {L:List Ty} {t:Ty} {kind:Int} (ht:t.ok=true) (hd:t.size<=d+1) (h0:Ty.oks L=true) (hl0:(dM kind t L).length<=10000)
 {hs:HS} {v:V} (hv:rowOf 5 hs v=some (L.map ax)) (iQ:hs.H.get hs.n=none):aA ρ Tryz.prog 45 [v,enc t,enc kind] hs (iw 5 v (L.map ax) ((dM kind t L).map ax) hs).1 (iw 5 v (L.map ax) ((dM kind t L).map ax) hs).2:=by
 have hlen:=mX kind t L;refine io hρ hE hcon (K:=vS) (rs:=[]) (.inl rfl) Tryz.func45 zvL rfl (by simp) (by simp) (by simp) rfl (by simpa using hlen.1) ?_ hv iQ;clear hv iQ;rw[kL]
 have hk:(if L.map ax=[]then 0 else 1)=0\/(if L.map ax=[]then 0 else 1)=1/\L≠[]:=by
  cases L with
  |nil=>exact .inl rfl
  |cons a l=>exact .inr ⟨rfl,by simp⟩
 by_cases D5:t.kind=kind/\t.args=[]
 . rw [if_pos D5];obtain⟨hkd,har⟩:=D5;rcases L with _|⟨x,L⟩
   . simp [hE,hkd,har];refine dJ (eU (aY (Less.lit (TL:=[(0,oV 0 (([]:List Ty).map ax)),(4,.ptr 1 0 0),(7,.int .i64 ((0:Nat):Int))]) (HL:=(1,box (ax t))::oH 0 5 (([]:List Ty).map ax)) (fun k=>if k=1 then 0 else k) 2 ?_ ?_ rfl rfl) (tq hρ hE hcon zOG (.inl rfl) h0 (by simp) ?_ ?_ 0 0 rfl (by simp))))
     . simp
     . simp[har,hkd]
     . intro h;cases h
     . intro _;simp [hE,hkd,har];exact aj.JB (fun k=>if k=0 then 5 else k) rfl rfl ⟨rfl,rfl⟩ (by simp)
   . simp [hE,hkd,har];refine dJ (eU (aY (Less.keep (TL:=[(0,oV 0 ((x::L).map ax)),(4,.ptr 1 0 0),(7,.int .i64 ((0:Nat):Int))]) (HL:=(1,box (ax t))::oH 0 5 ((x::L).map ax)) 2 ?_ ?_ rfl rfl) (tq hρ hE hcon zOG (.inr ⟨rfl,by simp⟩) h0 (by omega) ?_ ?_ (x::L).length 0 (by omega) (by simp))))
     . simp
     . simp[har,hkd]
     . intro h;simp [hE,h];exact aj.bO rfl rfl rfl (by simp)
     . intro hn;have h64:(L.length+1+1)*64<=1048576:=by have:=hlen.1;simp only[List.length_cons]at this;omega
       simp [hE,hkd,har,hn,h64,Nat.not_succ_le_self];exact aj.bO rfl rfl rfl (by simp)
 . rw [if_neg D5];have hneq:t.kind=kind->¬ t.args=[]:=fun h1 h2=>D5 ⟨h1,h2⟩
   have hl1:(aP kind t.args L).length<=10000:=by rw[kL,if_neg D5]at hl0;exact hl0
   rcases L with _|⟨x,L⟩
   . have go:∀ T hs',Less 0 T hs' (di [(0,oV 0 (([]:List Ty).map ax)),(2,.int .i64 kind),(4,.ptr 1 0 0),(8,.int .i64 ((0:Nat):Int))]) { H:=di ((1,box (ax t))::oH 0 5 (([]:List Ty).map ax)),n:=2,log:=[] } ->
      ∀ Q,Q (.exit 2) (di [(0,oV 0 ((aP kind t.args []).map ax))]) { H:=di (oH 0 5 ((aP kind t.args []).map ax)),n:=1,log:=[] }->Ls ρ E 0 52 (.loop xJ) T hs' Q:=fun T hs' hl Q hQ =>
      dJ (eU (aY hl (sZ hρ hE hcon hc (.inl rfl) ht hd h0 hl1 hQ t.args.length 0 [] (by omega) rfl)))
     by_cases h1:t.kind=kind
     . have h2:=hneq h1;simp [hE,h1,h2];refine go _ _ (Less.lit (fun k=>if k=1 then 0 else k) 2 (by simp) (by simp[h1]) rfl rfl) _ ?_;generalize aP kind t.args []=R;rcases R with _|⟨y,R⟩<;>simp [hE]<;>exact aj.bO rfl rfl rfl (by simp)
     . simp [hE,h1];refine go _ _ (Less.lit (fun k=>if k=1 then 0 else k) 2 (by simp) (by simp) rfl rfl) _ ?_;generalize aP kind t.args []=R;rcases R with _|⟨y,R⟩<;>simp [hE]<;>exact aj.bO rfl rfl rfl (by simp)
   . have hRl:=(iK kind t.args (x::L)).1
     have go:∀ T hs',Less 1 T hs' (di [(0,oV 0 ((x::L).map ax)),(2,.int .i64 kind),(4,.ptr 1 0 0),(8,.int .i64 ((0:Nat):Int))]) { H:=di ((1,box (ax t))::oH 0 5 ((x::L).map ax)),n:=2,log:=[] } ->
      ∀ Q,Q (.exit 2) (di [(0,oV 0 ((aP kind t.args (x::L)).map ax))]) { H:=di (oH 0 5 ((aP kind t.args (x::L)).map ax)),n:=1,log:=[] }->Ls ρ E 1 52 (.loop xJ) T hs' Q:=fun T hs' hl Q hQ =>
      dJ (eU (aY hl (sZ hρ hE hcon hc (.inr ⟨rfl,by simp⟩) ht hd h0 hl1 hQ t.args.length 0 (x::L) (by omega) rfl)))
     by_cases h1:t.kind=kind
     . have h2:=hneq h1;simp [hE,h1,h2];refine go _ _ (Less.keep 2 (by simp) (by simp[h1]) rfl rfl) _ ?_;generalize aP kind t.args (x::L)=R at hRl;rcases R with _|⟨y,R⟩
       . simp at hRl
       . simp [hE];exact aj.bO rfl rfl rfl (by simp)
     . simp [hE,h1];refine go _ _ (Less.keep 2 (by simp) (by simp) rfl rfl) _ ?_;generalize aP kind t.args (x::L)=R at hRl;rcases R with _|⟨y,R⟩
       . simp at hRl
       . simp [hE];exact aj.bO rfl rfl rfl (by simp)
end
section
variable {ρ:Nat->Value}(hρ:J.Good ρ){E:Env}(hE:E.P=Tryz.prog)(hcon:aZ ρ E)
include hρ hE hcon
theorem Jo{l:List Int}{x:Int}(h1:l.length<=1000000){Q:Ex->PT V->HS->Prop}
 (hf:x∈l->∀ T hs,T.get 4=some (.bool true)->Q .ret T hs) (ht:x ∉ l->∀ T hs,Q (.exit 0) T hs) :
 ∀ (n i:Nat),i+n=l.length->x ∉ l.take i->Cj ρ E 0 18 Ms Q (n+1) (di [(0,.sl (l.map encI) false),(1,.int .i64 x),(5,.int .i64 (i:Int))]) { H:=di [],n:=0,log:=[] }:=by
 intro n
 induction n with
 | zero =>
   intro i hi he;have hil:¬ (i:Int)<l.length:=by omega
   have e:x ∉ l:=by rw[List.take_of_length_le (by omega)]at he;exact he
   refine lp hρ hE hcon fun K hK=>?_
   simp [Ms,hE,hil];exact ht e _ _
 | succ n ih =>
   intro i hi he;have hil:i<l.length:=by omega
   have gB:(i:Int)<l.length:=by omega
   have hw:IntKind.i64.wrap ((i:Int)+1)=((i+1:Nat):Int):=bu (by omega)
   have hnext:l[i]≠x->x ∉ l.take (i+1):=by
    intro h hm;rw[List.take_add_one,List.getElem?_eq_getElem hil]at hm;rcases List.mem_append.1 hm with hm|hm
    . exact he hm
    . exact h (List.mem_singleton.1 hm).symm
   have hmem:l[i]=x->x∈l:=fun h=>h ▸ List.getElem_mem hil
   refine lp hρ hE hcon fun K hK=>?_
   simp [Ms,hE,gB,hil];refine qD (fun h=>?_) (fun h=>?_)<;>simp [hE,hw,-Int.natCast_add]
   . exact hf (hmem h) _ _ (by simp)
   . exact hK _ _ (aY (Less.keep 0 (by simp[-Int.natCast_add]) (by simp) rfl rfl) (ih (i+1) (by omega) (hnext h)))
theorem Lh{l:List Int}{x:Int}(h1:l.length<=1000000)(hs:HS):aA ρ Tryz.prog 66 [enc l,enc x] hs (enc (decide (x∈l))) hs:=by
 refine fn hρ hE hcon Tryz.func66 zEm rfl (by simp) ?_ hs;simp;refine eU (aY (Less.keep (TL:=[(0,.sl (l.map encI) false),(1,.int .i64 x),(5,.int .i64 ((0:Nat):Int))]) (HL:=[]) 0 (by simp) (by simp) rfl rfl) (Jo hρ hE hcon h1 ?_ ?_ l.length 0 (by omega) (by simp)))
 . intro h T hs hT;simp[hT,h,hE]
 . intro h T hs;simp [h,hE]
theorem CL {d:Nat} (hc:E.dS 45=Qt 5 (CZ (jo d)) vS) {l:List Ty} (hl:Ty.oks l=true) (hll:l.length<=10000) (hd:Ty.sizes l<=d) (hd2:d<=10000) {Q:Ex->PT V->HS->Prop}
 (hQ:Q (.exit 0) (di [(3,oV 0 ((aP 3 l []).map ax))]) { H:=di (oH 0 5 ((aP 3 l []).map ax)),n:=1,log:=[] }) :
 ∀ (n i:Nat) (L:List Ty),i+n=l.length->L=aP 3 (l.take i) []->Cj ρ E 0 18 Ic (bq 0 Q) (n+1) (di [(0,.sl (l.map ax) false),(3,oV 0 (L.map ax)),(4,.int .i64 (i:Int))])
   { H:=di (oH 0 5 (L.map ax)),n:=1,log:=[] }:=by
 intro n
 induction n with
 | zero =>
   intro i L hi hL;have hil:¬ (i:Int)<l.length:=by omega
   have e:L=aP 3 l []:=by rw[hL,List.take_of_length_le (by omega)]
   rw[<- e]at hQ;refine lp hρ hE hcon fun K hK=>?_
   rcases L with _|⟨x,L⟩<;>simp [Ic,hE,hil]<;>exact bq.mk (Less.keep 1 (by simp) (by simp) rfl rfl) hQ
 | succ n ih =>
   intro i L hi hL;have hil:i<l.length:=by omega
   have gB:(i:Int)<l.length:=by omega
   have hw:IntKind.i64.wrap ((i:Int)+1)=((i+1:Nat):Int):=bu (by omega);have hm:=List.getElem_mem hil;have hok:=Ty.gT.1 hl _ hm;have zdn:Ty.oks L=true:=by rw[hL];exact Al (GG hl i) _ rfl
   have hlen:=iK 3 (l.take i) [];rw[<- hL]at hlen
   have hsz:Ty.sizes (l.take i)+l[i].size<=Ty.sizes l:=by
    have:=lQ l (i+1);rw[List.take_add_one,List.getElem?_eq_getElem hil,rf]at this;simpa [Ty.sizes]using this
   have hnew:dM 3 l[i] L=aP 3 (l.take (i+1)) []:=by
    rw[List.take_add_one,List.getElem?_eq_getElem hil,Option.toList_some,vR,hL]
   have hb:(dM 3 l[i] L).length<=10000:=by have:=(mX 3 l[i] L).2;simp at hlen;omega
   have hF:jo d L l[i] 3=some (dM 3 l[i] L):=by
    unfold jo;rw[if_pos ⟨by omega,hok,zdn,hb⟩]
   have Ao:=mX 3 l[i] L;refine lp hρ hE hcon fun K hK=>?_
   generalize hR:dM 3 l[i] L=R at hF hnew Ao;rcases L with _|⟨x,L⟩
   . rcases R with _|⟨y,R⟩<;>simp [Ic,hE,hil,gB,hc,hw,hF,vS,-Int.natCast_add]
     . exact hK _ _ (aY (Less.keep 1 (by simp[-Int.natCast_add]) (by simp) rfl rfl) (ih (i+1) _ (by omega) hnew))
     . exact hK _ _ (aY (Less.lit (fun k=>if k=0 then 12 else k) 1 (by simp[-Int.natCast_add]) (by simp) rfl rfl) (ih (i+1) _ (by omega) hnew))
   . rcases R with _|⟨y,R⟩
     . simp at Ao
     . have zdb:L.length<=R.length:=by simp at Ao;omega
       simp [Ic,hE,hil,gB,hc,hw,hF,vS,zdb,-Int.natCast_add];exact hK _ _ (aY (Less.keep 1 (by simp[-Int.natCast_add]) (by simp) rfl rfl) (ih (i+1) _ (by omega) hnew))
theorem EN{d:Nat}(hc:E.dS 45=Qt 5 (CZ (jo d)) vS){l:List Ty}(hl:Ty.oks l=true)(hll:l.length<=10000)(hd:Ty.sizes l<=d)(hd2:d<=10000)(hs:HS):aA ρ Tryz.prog 18 [enc l] hs (enc (iD l)) hs:=by
 refine fn hρ hE hcon Tryz.func18 zEK rfl (by simp) ?_ hs;simp;refine dJ (eU (aY (Less.keep (TL:=[(0,.sl (l.map ax) false),(3,oV 0 (([]:List Ty).map ax)),(4,.int .i64 ((0:Nat):Int))]) (HL:=oH 0 5 (([]:List Ty).map ax)) 1 (by simp) (by simp) rfl rfl) (CL hρ hE hcon hc hl hll hd hd2 ?_ l.length 0 [] (by omega) rfl)));unfold iD;generalize aP 3 l []=R;rcases R with _|⟨y,R⟩<;>simp [hE]
theorem EM {d:Nat} (hc:E.dS 45=Qt 5 (CZ (jo d)) vS) {l:List Ty} (hl:Ty.oks l=true) (hll:l.length<=10000) (hd:Ty.sizes l<=d) (hd2:(aP 1 l []).length<=10000) {Q:Ex->PT V->HS->Prop}
 (hQ:Q (.exit 0) (di [(3,oV 0 ((aP 1 l []).map ax))]) { H:=di (oH 0 5 ((aP 1 l []).map ax)),n:=1,log:=[] }) :
 ∀ (n i:Nat) (L:List Ty),i+n=l.length->L=aP 1 (l.take i) []->Cj ρ E 0 42 H8 (bq 0 Q) (n+1) (di [(0,.sl (l.map ax) false),(3,oV 0 (L.map ax)),(4,.int .i64 (i:Int))])
   { H:=di (oH 0 5 (L.map ax)),n:=1,log:=[] }:=by
 intro n
 induction n with
 | zero =>
   intro i L hi hL;have hil:¬ (i:Int)<l.length:=by omega
   have e:L=aP 1 l []:=by rw[hL,List.take_of_length_le (by omega)]
   rw[<- e]at hQ;refine lp hρ hE hcon fun K hK=>?_
   rcases L with _|⟨x,L⟩<;>simp [H8,hE,hil]<;>exact bq.mk (Less.keep 1 (by simp) (by simp) rfl rfl) hQ
 | succ n ih =>
   intro i L hi hL;have hil:i<l.length:=by omega
   have gB:(i:Int)<l.length:=by omega
   have hw:IntKind.i64.wrap ((i:Int)+1)=((i+1:Nat):Int):=bu (by omega);have hm:=List.getElem_mem hil;have hok:=Ty.gT.1 hl _ hm;have zdn:Ty.oks L=true:=by rw[hL];exact Al (GG hl i) _ rfl
   have hlen:=iK 1 (l.take i) [];rw[<- hL]at hlen
   have hsz:Ty.sizes (l.take i)+l[i].size<=Ty.sizes l:=by
    have:=lQ l (i+1);rw[List.take_add_one,List.getElem?_eq_getElem hil,rf]at this;simpa [Ty.sizes]using this
   have hnew:dM 1 l[i] L=aP 1 (l.take (i+1)) []:=by
    rw[List.take_add_one,List.getElem?_eq_getElem hil,Option.toList_some,vR,hL]
   have hb:(dM 1 l[i] L).length<=10000:=by rw[hnew];exact Nat.le_trans (DW 1 l (i+1) []) hd2
   have hF:jo d L l[i] 1=some (dM 1 l[i] L):=by
    unfold jo;rw[if_pos ⟨by omega,hok,zdn,hb⟩]
   have Ao:=mX 1 l[i] L;refine lp hρ hE hcon fun K hK=>?_
   generalize hR:dM 1 l[i] L=R at hF hnew Ao;rcases L with _|⟨x,L⟩
   . rcases R with _|⟨y,R⟩<;>simp [H8,hE,hil,gB,hc,hw,hF,vS,-Int.natCast_add]
     . exact hK _ _ (aY (Less.keep 1 (by simp[-Int.natCast_add]) (by simp) rfl rfl) (ih (i+1) _ (by omega) hnew))
     . exact hK _ _ (aY (Less.lit (fun k=>if k=0 then 12 else k) 1 (by simp[-Int.natCast_add]) (by simp) rfl rfl) (ih (i+1) _ (by omega) hnew))
   . rcases R with _|⟨y,R⟩
     . simp at Ao
     . have zdb:L.length<=R.length:=by simp at Ao;omega
       simp [H8,hE,hil,gB,hc,hw,hF,vS,zdb,-Int.natCast_add];exact hK _ _ (aY (Less.keep 1 (by simp[-Int.natCast_add]) (by simp) rfl rfl) (ih (i+1) _ (by omega) hnew))
theorem wC (hc:E.dS 66=E9 (bz fun (l:List Int) (x:Int)=>if l.length<=1000000 then some (decide (x∈l))else none)) {F:List Ty} (hl:F.length<=10000) {Q:Ex->PT V->HS->Prop}
 (hQ:Q (.exit 2) (di [(5,oV 1 ((lC F).map encI))]) { H:=di (oH 1 1 ((lC F).map encI)),n:=2,log:=[] }) :
 ∀ (n i:Nat) (O:List Int),i+n=F.length->O=lC (F.take i)->Cj ρ E 0 42 Au (bq 0 Q) (n+1) (di [(3,oV 0 (F.map ax)),(5,oV 1 (O.map encI)),(6,.int .i64 (i:Int))])
   { H:=di (oH 0 5 (F.map ax)++oH 1 1 (O.map encI)),n:=2,log:=[] }:=by
 intro n
 induction n with
 | zero =>
   intro i O hi hO;have e:O=lC F:=by rw[hO,List.take_of_length_le (by omega)]
   rw[<- e]at hQ;refine lp hρ hE hcon fun K hK=>?_
   rcases F with _|⟨x,F⟩
   . obtain rfl:i=0:=by simpa using hi
     rcases O with _|⟨y,O⟩<;>simp [Au,hE]<;>exact bq.mk (Less.keep 2 (by simp) (by simp) rfl rfl) hQ
   . have hil:¬ (i:Int)<(F.length:Int)+1:=by simp at hi;omega
     rcases O with _|⟨y,O⟩<;>simp [Au,hE,hil]<;>exact bq.mk (Less.keep 2 (by simp) (by simp) rfl rfl) hQ
 | succ n ih =>
   intro i O hi hO;have hil:i<F.length:=by omega
   have hw:IntKind.i64.wrap ((i:Int)+1)=((i+1:Nat):Int):=bu (by omega);have zLx:O.length<=10000:=by rw[hO];have:=yK (F.take i);rw[List.length_take]at this;omega
   have hnew:pX O F[i]=lC (F.take (i+1)):=by
    rw[List.take_add_one,List.getElem?_eq_getElem hil,Option.toList_some,Hg,hO]
   have hgi:(F.map ax)[i]?=some (ax F[i]):=by rw[List.getElem?_map,List.getElem?_eq_getElem hil];rfl
   refine lp hρ hE hcon fun K hK=>?_
   generalize F[i]=y at hnew hgi;rcases F with _|⟨x,F⟩
   . simp at hil
   have zoK:(i:Int)<(F.length:Int)+1:=by simp at hil;omega
   have zdd:i<F.length+1:=by simpa using hil
   simp only[List.map_cons,qW]at hgi;have JG:∀ h,(ax x::F.map ax)[i]'h=ax y:=fun h=>by simp only[qW];exact(List.getElem?_eq_some_iff.1 hgi).2
   simp only[qW]at JG;have hd1:(i*5+2) / 5=i:=by omega
   have hd2:(i*5+2) % 5=2:=by omega
   by_cases hmem:y.id∈O
   . have hadd:pX O y=O:=if_pos hmem;rw[hadd]at hnew;rcases O with _|⟨z,O⟩
     . cases hmem
     . have zvh:O.length+1<=1000000:=by simp at zLx;omega
       simp [Au,hE,zdd,hc,hd1,hd2,JG,hmem,hw,zvh,-Int.natCast_add,-List.mem_cons];exact hK _ _ (aY (Less.keep 2 (by simp[-Int.natCast_add]) (by simp) rfl rfl) (ih (i+1) _ (by omega) hnew))
   . have hadd:pX O y=O++[y.id]:=if_neg hmem;rw[hadd]at hnew;rcases O with _|⟨z,O⟩
     . simp [Au,hE,zdd,hc,hd1,hd2,JG,hw,-Int.natCast_add];exact hK _ _ (aY (Less.lit (fun k=>if k=1 then 21 else k) 2 (by simp[-Int.natCast_add]) (by simp) rfl rfl) (ih (i+1) _ (by omega) hnew))
     . have zvh:O.length+1<=1000000:=by simp at zLx;omega
       have h64:(O.length+1+1)*8<=1048576:=by simp at zLx;omega
       simp [Au,hE,zdd,hc,hd1,hd2,JG,hmem,hw,zvh,h64,Nat.not_succ_le_self,-Int.natCast_add,-List.mem_cons];exact hK _ _ (aY (Less.keep 2 (by simp[-Int.natCast_add]) (by simp) rfl rfl) (ih (i+1) _ (by omega) hnew))
theorem Jn{d:Nat}(zH9:E.dS 66=E9 (bz fun (l:List Int) (x:Int)=>if l.length<=1000000 then some (decide (x∈l))else none))(hc:E.dS 45=Qt 5 (CZ (jo d)) vS){l:List Ty}(hl:Ty.oks l=true)(hll:l.length<=10000)(hd:Ty.sizes l<=d)(hd2:(aP 1 l []).length<=10000)(hs:HS):aA ρ Tryz.prog 42 [enc l] hs (enc (ji l)) hs:=by
 refine fn hρ hE hcon Tryz.func42 zEy rfl (by simp) ?_ hs;simp;refine dJ (eU (aY (Less.keep (TL:=[(0,.sl (l.map ax) false),(3,oV 0 (([]:List Ty).map ax)),(4,.int .i64 ((0:Nat):Int))]) (HL:=oH 0 5 (([]:List Ty).map ax)) 1 (by simp) (by simp) rfl rfl) (EM hρ hE hcon hc hl hll hd hd2 ?_ l.length 0 [] (by omega) rfl)));have hlen:=iK 1 l [];unfold ji;have hF:=hd2;clear hd2;generalize aP 1 l []=F at hlen hF;rcases F with _|⟨y,F⟩
 . simp;refine dJ (eU (aY (Less.keep (TL:=[(3,oV 0 (([]:List Ty).map ax)),(5,oV 1 (([]:List Int).map encI)),(6,.int .i64 ((0:Nat):Int))]) (HL:=oH 0 5 (([]:List Ty).map ax)++oH 1 1 (([]:List Int).map encI)) 2 (by simp) (by simp) rfl rfl) (wC hρ hE hcon zH9 hF ?_ 0 0 [] (by simp) rfl)));generalize lC []=O;rcases O with _|⟨z,O⟩<;>simp [hE]
 . simp;refine dJ (eU (aY (Less.keep (TL:=[(3,oV 0 ((y::F).map ax)),(5,oV 1 (([]:List Int).map encI)),(6,.int .i64 ((0:Nat):Int))]) (HL:=oH 0 5 ((y::F).map ax)++oH 1 1 (([]:List Int).map encI)) 2 (by simp) (by simp) rfl rfl) (wC hρ hE hcon zH9 hF ?_ (y::F).length 0 [] (by omega) rfl)));generalize lC (y::F)=O;rcases O with _|⟨z,O⟩<;>simp [hE]
end
section
variable {ρ:Nat->Value}(hρ:J.Good ρ){E:Env}(hE:E.P=Tryz.prog)(hcon:aZ ρ E)
include hρ hE hcon
theorem Jp{s:Store}{id:Int}{x:Slot}(h:s.small)(hs:HS):aA ρ Tryz.prog 78 [enc s,enc id,enc x] hs (enc (s.set id x)) hs:=by
 refine fn hρ hE hcon Tryz.func78 zEf rfl (by simp) ?_ hs
 cases hx:s.slot? id with
 | none =>
   have:=Store.slot?_none hx;by_cases h0:id<0
   . simp [hE,Store.set,hx,h0]
   . have h3:(s.slots.length:Int)<=id:=by omega
     simp [hE,Store.set,hx,h0,h3]
 | some old =>
   have hset:s.set id x=(⟨s.slots.set id.toNat x,s.trail++[⟨id,old,false⟩]⟩,true):=by unfold Store.set;rw[hx]
   rw[hset];obtain⟨i,hl,rfl,hold⟩:=Store.slot?_at hx;clear hset hx;obtain⟨sl,tr⟩:=s;obtain⟨h1,h2⟩:=h;simp only at h1 h2 hl hold;have k1:=TU h1;have k2:=TT h1;have k3:=TU h2;have k4:=TT h2;have hgi:(sl.map aX)[i]?=some (aX old):=by rw[List.getElem?_map,List.getElem?_eq_getElem hl,hold];rfl
   have hd1:i*8 / 8=i:=by omega
   have hd2:i*8 % 8=0:=by omega
   rcases sl with _|⟨a,sl⟩
   . simp at hl
   have hl2:i<sl.length+1:=by simpa using hl
   have hl3:¬ (sl.length:Int)+1<=(i:Int):=by omega
   have hl4:¬ (i:Int)<0:=by omega
   simp only[List.map_cons,aX]at hgi;have JG:∀ h,(aX a::sl.map aX)[i]'h=aX old:=fun h=>by simp only[aX];exact(List.getElem?_eq_some_iff.1 hgi).2
   simp only[aX]at JG
   rcases tr with _|⟨b,tr⟩<;>simp at k1 k2 k3 k4 <;>
   simp [hE,k1,k3,k4,Nat.not_succ_le_self,hl2,hl3,hl4,hd1,hd2,JG]
   all_goals
    have e1:(aX a::sl.map aX).set i (aX x)=((a::sl).set i x).map aX:=by rw[List.map_set];rfl
    simp only[aX]at e1;rw[e1,List.take_of_length_le (by simp),J7]
end
end Go.Proofs.YtocdkgjpdnamlaaGreat
/- Ranges from the end,znP back. -/
namespace Go.Proofs.YtocdkgjpdnamlaaGreat
open Go.J
open Go.J.Enc (enc)
set_option maxRecDepth 100000
set_option maxHeartbeats 1000000
section
variable {ρ:Nat->Value}(hρ:J.Good ρ){E:Env}(hE:E.P=Tryz.prog)(hcon:aZ ρ E)
include hρ hE hcon
theorem yY{l:List Slot}(hs:HS):aA ρ Tryz.prog 38 [enc l] hs (enc l) hs:=by
 refine fn hρ hE hcon Tryz.func38 zEz rfl (by simp) ?_ hs;simp [hE,mE,Fz,bounds,Bo,bU]
end
end Go.Proofs.YtocdkgjpdnamlaaGreat
/- The contracts of small functions,joined. -/
namespace Go.Proofs.YtocdkgjpdnamlaaGreat
open Go.J
open Go.J.Enc (enc)
set_option maxRecDepth 100000
set_option maxHeartbeats 1000000
theorem bI{c:Prop}{_:Decidable c}{α:Type}{x r:α}(h:(if c then some x else none)=some r):c/\x=r:=by
 split at h
 . cases h;exact⟨‹_›,rfl⟩
 . cases h
theorem fo{f:Nat}{fn:Func}{sc:SC}(hf:Tryz.prog.funcs[f]?=some fn)(hb:fn.body.bind aB=some sc):lW Tryz.prog f:=zoT hf (by
 cases h:fn.body with
 |none=>rw[h]at hb;cases hb
 |some c=>rfl)
abbrev EL(L:List (Nat×J.Spec)):Env:=zkI Tryz.prog Rl L
section
variable {ρ:Nat->Value}(hρ:J.Good ρ)
include hρ
def zCd:J.Spec:=bZ (bz fun n m:Int=>if -1000000<=m/\m<=1000000 then some (LM n m)else none)
theorem zJz:Valid ρ Tryz.prog 52 zCd:=v2 (fo Tryz.func52 zEw) fun a b r h hs=>by
 obtain⟨h1,rfl⟩:=bI h;exact LU hρ (E:=EL []) rfl (au az) (by omega) (by omega) hs
def zdy:J.Spec:=bZ (fO fun l:List Int=>some (decide (l.length<=60)))
theorem zJB:Valid ρ Tryz.prog 9 zdy:=v1 (fo Tryz.func9 zOX) fun a r h hs=>by
 cases h;exact LV hρ (E:=EL []) rfl (au az) hs
def zpd:J.Spec:=bZ (bz fun (n:List Nat) (l:List Ty)=>if l.length<=10000 then some (nR n l)else none)
theorem zsY:Valid ρ Tryz.prog 54 zpd:=v2 (fo Tryz.func54 zEu) fun a b r h hs=>by
 obtain⟨h1,rfl⟩:=bI h;exact Li hρ (E:=EL []) rfl (au az) h1 hs
theorem zJA:Valid ρ Tryz.prog 53 (bZ (sU FW)):=v0 (fo Tryz.func53 zEv) fun hs =>
 Lg hρ (E:=EL [(54,zpd)]) rfl (au (ag (zsY hρ) az)) rfl hs
theorem zsZ:Valid ρ Tryz.prog 55 (bZ (bz fun a b:Ty=>some (lG a b))):=v2 (fo Tryz.func55 zEt) fun a b r h hs=>by
 cases h;exact Gc hρ (E:=EL [(54,zpd)]) rfl (au (ag (zsY hρ) az)) rfl hs
theorem zsI:Valid ρ Tryz.prog 16 (bZ (fO fun i:Int=>some (aM i))):=v1 (fo Tryz.func16 zEM) fun a r h hs=>by
 cases h;exact Le hρ (E:=EL []) rfl (au az) hs
theorem zp2:Valid ρ Tryz.prog 26 (K5 (K7 Bq)):=s1 (fo Tryz.func26 zEE) fun s a q h hs id hid hg=>by
 obtain⟨⟨h1,h2⟩,rfl⟩:=bI h;exact Aj hρ (E:=EL [(52,zCd)]) rfl (au (ag (zJz hρ) az)) rfl h1.1 h1.2 h2 hs id hid hg
theorem zP4(d:Nat):Valid ρ Tryz.prog 40 (bZ (bz (zvW d)))/\Valid ρ Tryz.prog 63 (bZ (bz (Di d))):=by
 have all:∀ d,Valid ρ Tryz.prog 40 (bZ (bz (zvW d)))->Valid ρ Tryz.prog 63 (bZ (bz (Di d))):=fun d hv=>v2 (fo Tryz.func63 zEn) fun a b r h hs=>by
  obtain⟨⟨h1,h2,h3⟩,rfl⟩:=bI h;exact Be hρ (E:=EL [(40,bZ (bz (zvW d)))]) rfl (au (ag hv az)) rfl h1 h2 h3 hs
 have one:∀ d,Valid ρ Tryz.prog 40 (bZ (bz (zvW d))):=by
  intro d
  induction d with
  | zero =>
    refine v2 (fo Tryz.func40 zo0) fun a b r h hs=>?_
    obtain⟨⟨h1,h2⟩,rfl⟩:=bI h;have:=Ty.size_eq a;omega
  | succ d ih =>
    refine v2 (fo Tryz.func40 zo0) fun a b r h hs=>?_
    obtain⟨⟨h1,h2⟩,rfl⟩:=bI h;exact wX hρ (E:=EL [(63,bZ (bz (Di d)))]) rfl (au (ag (all d ih) az)) rfl h1 h2 hs
 exact⟨one d,all d (one d)⟩
def equalS:J.Spec:=bZ (bz fun a b:Ty=>if a.ok=true then some (decide (a=b))else none)
theorem QH:Valid ρ Tryz.prog 40 equalS:=v2 (fo Tryz.func40 zo0) fun a b r h hs=>by
 obtain⟨h1,rfl⟩:=bI h;exact wX hρ (E:=EL [(63,bZ (bz (Di a.size)))]) rfl (au (ag (zP4 hρ a.size).2 az)) rfl h1 (by omega) hs
theorem Nn(d:Nat):Valid ρ Tryz.prog 31 (bZ (bz (Bc d))):=by
 induction d with
 | zero =>
   refine v2 (fo Tryz.func31 zo1) fun a b r h hs=>?_
   obtain⟨⟨h1,h2,h3⟩,rfl⟩:=bI h;have:=Ty.size_eq a;omega
 | succ d ih =>
   refine v2 (fo Tryz.func31 zo1) fun a b r h hs=>?_
   obtain⟨⟨h1,h2,h3⟩,rfl⟩:=bI h;exact uI hρ (E:=EL [(31,bZ (bz (Bc d)))]) rfl (au (ag ih az)) rfl h1 h2 h3 hs
theorem Tc(d:Nat):Valid ρ Tryz.prog 45 (Qt 5 (CZ (jo d)) vS):=by
 induction d with
 | zero =>
   refine Valid.io (fo Tryz.func45 zvL) fun es vs r _ _ h0 _ _ _ hs v hv iQ=>?_
   obtain⟨l,a,b,q,rfl,rfl,h,rfl⟩:=OW h0;obtain⟨⟨h1,h2,h3⟩,rfl⟩:=bI h;have:=Ty.size_eq a;omega
 | succ d ih =>
   refine Valid.io (fo Tryz.func45 zvL) fun es vs r _ _ h0 _ _ _ hs v hv iQ=>?_
   obtain⟨l,a,b,q,rfl,rfl,h,rfl⟩:=OW h0;obtain⟨⟨h1,h2,h3,h4⟩,rfl⟩:=bI h;exact EK hρ (E:=EL [(40,equalS),(45,Qt 5 (CZ (jo d)) vS)]) rfl (au (ag (QH hρ) (ag ih az))) rfl rfl h2 h1 h3 h4 hv iQ
def sj:J.Spec:=E9 (bz fun (l:List Int) (x:Int)=>if l.length<=1000000 then some (decide (x∈l))else none)
theorem zm8:Valid ρ Tryz.prog 66 sj:=c2 (fo Tryz.func66 zEm) fun a b r h hs=>by
 obtain⟨h1,rfl⟩:=bI h;exact Lh hρ (E:=EL []) rfl (au az) h1 hs
def SX:J.Spec:=bZ (fO fun l:List Ty=>if Ty.oks l=true/\l.length<=10000/\(aP 1 l []).length<=10000 then some (ji l)else none)
theorem zsH:Valid ρ Tryz.prog 42 SX:=v1 (fo Tryz.func42 zEy) fun a r h hs=>by
 obtain⟨⟨h1,h2,h3⟩,rfl⟩:=bI h;exact Jn hρ (E:=EL [(66,sj),(45,Qt 5 (CZ (jo (Ty.sizes a))) vS)]) rfl (au (ag (zm8 hρ) (ag (Tc hρ (Ty.sizes a)) az))) rfl rfl h1 h2 (Nat.le_refl _) h3 hs
end
end Go.Proofs.YtocdkgjpdnamlaaGreat
/- The contracts of the functions on stores,joined. -/
namespace Go.Proofs.YtocdkgjpdnamlaaGreat
open Go.J
open Go.J.Enc (enc)
set_option maxRecDepth 100000
set_option maxHeartbeats 1000000
theorem Yq(l:List Ty):l.length<=Ty.sizes l:=by
 induction l with
 |nil=>exact Nat.le_refl _
 |cons t l ih=>have:=Ty.size_pos t;simp only[Ty.sizes,List.length_cons];omega
section
variable {ρ:Nat->Value}(hρ:J.Good ρ)
include hρ
theorem YQ:Valid ρ Tryz.prog 38 (bZ (fO fun l:List Slot=>some l)):=v1 (fo Tryz.func38 zEz) fun a r h hs=>by
 cases h;exact yY hρ (E:=EL []) rfl (au az) hs
end
def zl7(d:Nat)(s:Store)(t:Ty)(m:Int):Option Int:=if s.dF/\t.ok=true/\0<=m/\m<d then some ((sz s.w16 t m.toNat:Nat):Int)else none
section
variable {ρ:Nat->Value}(hρ:J.Good ρ){E:Env}(hE:E.P=Tryz.prog)(hcon:aZ ρ E)
include hρ hE hcon
theorem ER {d:Nat} (hc:E.dS 49=bZ (dH (zl7 d))) (hd:d<=1000000) {s:Store} (hs:s.dF) {u:Ty} (hu:u.ok=true) {m:Nat} (hm:m<=d) {R:Nat} {Q:Ex->PT V->HS->Prop}
 (hQ:Q (.exit 0) (di [(7,.int .i64 (R:Int)),(2,.int .i64 (m:Int))]) { H:=di [],n:=0,log:=[] }) :
 ∀ (n i r:Nat),i+n=u.args.length->1<=r->r<=m+1->Fw (sz s.w16) m (u.args.drop i) r=R ->
   Cj ρ E 0 40 HZ (bq 0 Q) (n+1) (di [(8,.int .i64 (i:Int)),(4,.ptr 1 0 0),(7,.int .i64 (r:Int)),(2,.int .i64 (m:Int)),(3,.ptr 0 0 0)]) { H:=di [(0,box (bB s)),(1,box (ax u))],n:=2,log:=[] }:=by
 intro n
 induction n with
 | zero =>
   intro i r hi hr1 hr2 hR;have hil:¬ (i:Int)<u.args.length:=by omega
   rw[List.drop_of_length_le (by omega)]at hR;simp only[Fw]at hR;subst hR;refine lp hρ hE hcon fun K hK=>?_
   simp [HZ,hE,hil];exact bq.mk (Less.keep 0 (by simp) (by simp) rfl rfl) hQ
 | succ n ih =>
   intro i r hi hr1 hr2 hR;have hil:i<u.args.length:=by omega
   have gB:(i:Int)<u.args.length:=by omega
   have hlen:=Ty.lH hu;have hw:IntKind.i64.wrap ((i:Int)+1)=((i+1:Nat):Int):=bu (by omega);have hx:=Ty.mH hu (List.getElem_mem hil);rw[List.drop_eq_getElem_cons hil]at hR;generalize hX:u.args[i]=x at hx hR;refine lp hρ hE hcon fun K hK=>?_
   unfold Fw at hR;by_cases hrm:r<=m
   . rw[if_pos hrm]at hR;have RJ:(r:Int)<=m:=by omega
     have hsub:IntKind.i64.wrap ((m:Int)-(r:Int))=((m-r:Nat):Int):=by rw[wrap_i64 (by omega) (by omega)];omega
     have hF:zl7 d s x ((m-r:Nat):Int)=some ((sz s.w16 x (m-r):Nat):Int):=by
      unfold zl7;rw[if_pos ⟨hs,hx,by omega,by omega⟩,Int.toNat_natCast]
     have hle:=zu (w:=s.w16) x (m-r);generalize sz s.w16 x (m-r)=q at hF hle hR;have hadd:IntKind.i64.wrap ((r:Int)+(q:Int))=((r+q:Nat):Int):=by rw[wrap_i64 (by omega) (by omega)];omega
     simp [HZ,hE,hil,gB,RJ,hX,hsub,hc,hF,hadd,hw,-Int.natCast_add];exact hK _ _ (aY (Less.keep 2 (by simp[-Int.natCast_add]) (by simp) rfl rfl) (ih (i+1) (r+q) (by omega) (by omega) (by omega) hR))
   . rw[if_neg hrm]at hR;subst hR;have RJ:¬ (r:Int)<=m:=by omega
     simp [HZ,hE,gB,RJ];exact bq.mk (Less.keep 0 (by simp) (by simp) rfl rfl) hQ
theorem Gh{d:Nat}(hc:E.dS 49=bZ (dH (zl7 d)))(hd:d<=1000000)(hw:E.dS 59=bZ (bz fun (s:Store) (t:Ty)=>if s.slots.length<=1000000 then some (s.w16 t)else none))
 {s:Store} (hs:s.dF) {t:Ty} (ht:t.ok=true) {m:Nat} (hm:m<=d) (hs0:HS):aA ρ Tryz.prog 49 [enc s,enc t,enc (m:Int)] hs0 (enc ((sz s.w16 t m:Nat):Int)) hs0:=by
 refine fn hρ hE hcon Tryz.func49 zvK rfl (by simp) ?_ hs0;have h1:s.slots.length<=1000000:=by have:=hs.1;omega
 have hu:(s.w16 t).ok=true:=Store.lL hs _ ht;have e:=Tz (w:=s.w16) t m;have hadd:IntKind.i64.wrap ((m:Int)+1)=((m+1:Nat):Int):=bu (by omega);generalize hU:s.w16 t=u at hu e;simp [hE,hw,h1,hU]
 refine dJ (eU (aY (Less.keep (TL:=[(8,.int .i64 ((0:Nat):Int)),(4,.ptr 1 0 0),(7,.int .i64 ((1:Nat):Int)),(2,.int .i64 (m:Int)),(3,.ptr 0 0 0)]) (HL:=[(0,box (bB s)),(1,box (ax u))]) 2 (by simp) (by simp[qW]) rfl rfl)
  (ER hρ hE hcon hc hd hs hu hm (R:=Fw (sz s.w16) m u.args 1) ?_ u.args.length 0 1 (by omega) (by omega) (by omega) rfl)))
 have e2:min ((Fw (sz s.w16) m u.args 1:Nat):Int) ((m+1:Nat):Int)=((sz s.w16 t m:Nat):Int):=by rw[e];omega
 generalize Fw (sz s.w16) m u.args 1=q at e2;rw[<- e2];simp [hE,hadd,-Int.natCast_add];split<;>omega
theorem Gl(hc:E.dS 49=bZ (dH (zl7 1000000))){s:Store}(hs:s.dF){t:Ty}(ht:t.ok=true){m:Int}(hm:m<1000000)(hs0:HS):aA ρ Tryz.prog 21 [enc s,enc t,enc m] hs0 (enc ((sz s.w16 t (max m 0).toNat:Nat):Int)) hs0:=by
 refine fn hρ hE hcon Tryz.func21 zEJ rfl (by simp) ?_ hs0
 have hF:zl7 1000000 s t (if m<0 then 0 else m)=some ((sz s.w16 t (max m 0).toNat:Nat):Int):=by
  have e:(if m<0 then 0 else m)=max m 0:=by split<;>omega
  rw[e];unfold zl7;rw[if_pos ⟨hs,ht,by omega,by omega⟩]
 simp [hE,hc,hF]
end
end Go.Proofs.YtocdkgjpdnamlaaGreat
