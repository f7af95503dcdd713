import Derived.Test.YtpcmebclpindjaaGreatZAG
import Derived.Test.YtpcmebclpindjaaGreatJL
set_option linter.all false
noncomputable section
namespace Go.Proofs.YtpcmebclpindjaaGreat
open Go.J
open Go.J.Enc (enc)
set_option maxRecDepth 100000
set_option maxHeartbeats 4000000
section
variable {ρ:Nat->Value}(hρ:J.Good ρ){E:Env}(hE:E.P=Tryz.prog)(hcon:ConsOk ρ E)
include hρ hE hcon
def eqF(d:Nat)(a b:Ty):Option Bool:=if a.ok=true/\a.size<=d then some (decide (a=b))else none
def ziO(d:Nat)(l m:List Ty):Option Bool:=if l.length<=10000/\Ty.oks l=true/\Ty.sizes l<=d then some (decide (l=m))else none
theorem ze7{d:Nat}(hc:E.con 18=fnS (zH (ziO d))){a b:Ty}(ha:a.ok=true)(hd:a.size<=d+1)(hs:HS):CallOk ρ E.P 54 [enc a,enc b] hs (enc (decide (a=b))) hs:=by
 refine zrj hρ hcon (by rw[hE];exact follows) (by rw[hE];exact named) (by rw[hE];exact Tryz.func54) zFH rfl (by simp) ?_ hs;have h1:=Ty.ok_len ha;have h2:Ty.oks a.args=true:=Ty.oks_iff.2 (Ty.ok_iff.1 ha).2;have h3:Ty.sizes a.args<=d:=by have:=Ty.size_eq a;omega
 simp [hE]
 repeat' (refine zdB (fun h=>?_) (fun h=>?_)<;>simp[h,hE,hc,ziO,h1,h2,h3])
 all_goals (rw[Ty.eq_iff];simp_all)
theorem zff{d:Nat}(hc:E.con 54=fnS (zH (eqF d))){l m:List Ty}(hl:l.length=m.length)(h1:l.length<=10000)(h2:∀ t∈l,t.ok=true/\t.size<=d){Q:Ex->PT V->HS->Prop}
 (hf:l≠m->∀ T hs,T.get 4=some (.bool false)->Q .ret T hs) (ht:l=m->∀ T hs,Q (.exit 0) T hs) :
 ∀ (n i:Nat),i+n=l.length->l.take i=m.take i->LsN ρ E 0 27 zn7 Q (n+1) (mkP [(0,.sl (l.map zg) false),(1,.sl (m.map zg) false),(5,.int .i64 (i:Int))]) { H:=mkP [],n:=0,log:=[] }:=by
 intro n
 induction n with
 | zero =>
   intro i hi he;have hil:¬ (i:Int)<l.length:=by omega
   have e:l=m:=by
    have:i=l.length:=by omega
    subst this;rw[List.take_length]at he;rw[he,hl,List.take_length]
   refine zjS hρ hcon (by rw[hE];exact follows) (by rw[hE];exact named) fun K hK=>?_
   simp [zn7,hE,hil];exact ht e _ _
 | succ n ih =>
   intro i hi he;have hil:i<l.length:=by omega
   have hil':(i:Int)<l.length:=by omega
   have him:i<m.length:=by omega
   obtain⟨hx1,hx2⟩:=h2 l[i] (List.getElem_mem hil);refine zjS hρ hcon (by rw[hE];exact follows) (by rw[hE];exact named) fun K hK=>?_
   have hw:IntKind.i64.wrap ((i:Int)+1)=((i+1:Nat):Int):=zw (by omega);simp [zn7,hE,hil',hil,him,hc,eqF,hx1,hx2];refine zdB (fun h=>?_) (fun h=>?_)<;>simp [hE,hw,-Int.natCast_add]
   . refine hf (fun e=>h ?_) _ _ (by simp);subst e;rfl
   . refine hK _ _ (z8 (Less.keep 0 (by simp[-Int.natCast_add]) (by simp) rfl rfl) (ih (i+1) (by omega) ?_));rw[List.take_add_one,List.take_add_one,he,List.getElem?_eq_getElem hil,List.getElem?_eq_getElem him,Classical.not_not.1 h]
theorem zfB{d:Nat}(hc:E.con 54=fnS (zH (eqF d))){l m:List Ty}(h1:l.length<=10000)(h2:Ty.oks l=true)(hd:Ty.sizes l<=d)(hs:HS):CallOk ρ E.P 18 [enc l,enc m] hs (enc (decide (l=m))) hs:=by
 refine zrj hρ hcon (by rw[hE];exact follows) (by rw[hE];exact named) (by rw[hE];exact Tryz.func18) zMY rfl (by simp) ?_ hs;have h3:∀ t∈l,t.ok=true/\t.size<=d:=fun t ht=>⟨Ty.oks_iff.1 h2 t ht,by have:=Ty.size_mem ht;omega⟩
 simp [hE];refine zdB (fun h=>?_) (fun h=>?_)<;>simp [hE]
 . intro e;subst e;exact h rfl
 . refine zbH (z8 (Less.keep (TL:=[(0,.sl (l.map zg) false),(1,.sl (m.map zg) false),(5,.int .i64 ((0:Nat):Int))]) (HL:=[]) 0 (by simp) (by simp) rfl rfl) (zff hρ hE hcon hc ?_ h1 h3 ?_ ?_ l.length 0 (by omega) (by simp)))
   . omega
   . intro hne T hs hT;simp[hT,hne,hE]
   . intro e T hs;simp [e,hE]
end
section
variable {ρ:Nat->Value}(hρ:J.Good ρ){E:Env}(hE:E.P=Tryz.prog)(hcon:ConsOk ρ E)
include hρ hE hcon
theorem zkD{n m:Int}(h1:-4611686018427387904<=m)(h2:m<=4611686018427387904)(hs:HS):CallOk ρ Tryz.prog 24 [enc n,enc m] hs (enc (zoW n m)) hs:=by
 refine fn hρ hE hcon Tryz.func24 zMX rfl (by simp) ?_ hs;simp [hE];refine zdB (fun h=>?_) (fun h=>?_)<;>simp [hE,h,zoW]
 have hm:1<=m:=by omega
 have hm1:¬ m<1:=h;have hm0:¬ m=0:=by omega
 simp[hm0];refine zdB (fun h=>?_) (fun h=>?_)<;>simp [hE,h]
 . have h3:=Int.lt_tmod_of_pos n (show 0<m by omega);rw[wrap_i64 (by omega) (by omega),if_neg hm1,zwk hm h]
 . rw[if_neg hm1,zwj hm (by omega)]
theorem zkE{l:List Int}(hs:HS):CallOk ρ Tryz.prog 14 [enc l] hs (enc (decide (l.length<=60))) hs:=by
 refine fn hρ hE hcon Tryz.func14 zNb rfl (by simp) ?_ hs;simp [hE];omega
theorem zkx{n:List Nat}{l:List Ty}(hl:l.length<=10000)(hs:HS):CallOk ρ Tryz.prog 56 [enc n,enc l] hs (enc (zeU n l)) hs:=by
 refine fn hρ hE hcon Tryz.func56 zMJ rfl (by simp) ?_ hs;rcases l with _|⟨x,l⟩
 . simp [hE,zeU]
 . have h1:(l.length+1)*64<=1048576:=by simp at hl;omega
   simp [hE,zeU,h1]
theorem zkv(hc:E.con 56=fnS (zH fun n l=>if l.length<=10000 then some (zeU n l)else none))(hs:HS):CallOk ρ Tryz.prog 27 [] hs (enc tInt) hs:=by
 refine fn hρ hE hcon Tryz.func27 zMU rfl (by simp) ?_ hs;simp [hE,zeU,tInt,hc]
theorem zie(hc:E.con 56=fnS (zH fun n l=>if l.length<=10000 then some (zeU n l)else none)){a b:Ty}(hs:HS):CallOk ρ Tryz.prog 42 [enc a,enc b] hs (enc (zbI a b)) hs:=by
 refine fn hρ hE hcon Tryz.func42 zMQ rfl (by simp) ?_ hs;simp [hE,zeU,zbI,hc]
theorem zku{i:Int}(hs:HS):CallOk ρ Tryz.prog 26 [enc i] hs (enc (za0 i)) hs:=by
 refine fn hρ hE hcon Tryz.func26 zMV rfl (by simp) ?_ hs;simp [hE,za0]
theorem zid{i:Int}(hs:HS):CallOk ρ Tryz.prog 53 [enc i] hs (enc (zaU i)) hs:=by
 refine fn hρ hE hcon Tryz.func53 zML rfl (by simp) ?_ hs;simp [hE,zaU]
theorem zib{h i:Int}(hs:HS):CallOk ρ Tryz.prog 28 [enc h,enc i] hs (enc (zaq h i)) hs:=by
 refine fn hρ hE hcon Tryz.func28 zMT rfl (by simp) ?_ hs;simp [hE,zaq]
theorem zfl(hc:E.con 24=fnS (zH fun n m=>if -1000000<=m/\m<=1000000 then some (zoW n m)else none)){t:Tp}{n:Int}(hi:0<=t.i)(hl:t.l.length<=100000)(hn:-1000000<=n/\n<=1000000)(hs:HS)(id:Nat)(hid:id<hs.n)(hg:hs.H.get id=some (box (Cel.cells t))) :
 CallOk ρ Tryz.prog 55 [.ptr id 0 0,enc n] hs (enc (t.next n).2) (hs.wr id (box (Cel.cells (t.next n).1))):=by
 refine st hρ hE hcon Tryz.func55 zMK rfl (by simp) (by simp) (by simp) (by simp) ?_ hid hg;obtain⟨l,i⟩:=t;obtain⟨j,rfl⟩:=Int.eq_ofNat_of_zero_le hi;simp only at hl;simp [hE];refine zdB (fun h=>?_) (fun h=>?_)
 . simp [hE,h,Tp.next];exact GivesL.keep rfl rfl (by simp) (by simp) (by simp)
 . have hw:IntKind.i64.wrap ((j:Int)+1)=((j+1:Nat):Int):=zw (by omega);have hw2:IntKind.i64.wrap (((j+1:Nat):Int)-1)=(j:Int):=by rw[wrap_i64 (by omega) (by omega)];omega
   have hj:j<l.length:=by omega
   simp [hE,h,hw,hw2,hj,hc,hn,Tp.next,-Int.natCast_add];exact GivesL.keep rfl rfl (by simp) (by simp) (by simp)
end
section
variable {ρ:Nat->Value}(hρ:J.Good ρ){E:Env}(hE:E.P=Tryz.prog)(hcon:ConsOk ρ E)
include hρ hE hcon
theorem zis(hc:E.con 26=fnS (zy fun i=>some (za0 i))){n:Nat}(hn:n<=10000){Q:Ex->PT V->HS->Prop}
 (hQ:Q (.exit 0) (mkP [(3,oV 0 ((zcc n).map zg))]) { H:=mkP (oH 0 5 ((zcc n).map zg)),n:=1,log:=[] }) :
 ∀ (m i:Nat) (L:List Ty),i+m=n->L=zcc i->LsN ρ E 0 16 zlb (LessQ 0 Q) (m+1) (mkP [(0,.int .i64 (n:Int)),(3,oV 0 (L.map zg)),(4,.int .i64 (i:Int))]) { H:=mkP (oH 0 5 (L.map zg)),n:=1,log:=[] }:=by
 intro m
 induction m with
 | zero =>
   intro i L hi hL;obtain rfl:i=n:=by omega
   refine lp hρ hE hcon fun K hK=>?_
   rw[<- hL]at hQ;simp [zlb,hE];refine LessQ.mk (Less.keep 1 ?_ ?_ ?_ rfl) hQ<;>rcases L with _|⟨x,L⟩<;>first|rfl|simp
 | succ m ih =>
   intro i L hi hL;have hil:(i:Int)<n:=by omega
   have hw:IntKind.i64.wrap ((i:Int)+1)=((i+1:Nat):Int):=zw (by omega);have hLl:L.length=i:=by rw[hL];simp
   have hnew:L++[za0 i]=zcc (i+1):=by rw[hL,zo3]
   refine lp hρ hE hcon fun K hK=>?_
   rcases L with _|⟨x,L⟩
   . simp [zlb,hE,hil,hc,hw,-Int.natCast_add];exact hK _ _ (z8 (Less.lit (fun k=>if k=0 then 8 else k) 1 (by simp[-Int.natCast_add]) (by simp) rfl rfl) (ih (i+1) _ (by omega) hnew))
   . have h64:(L.length+1+1)*64<=1048576:=by simp at hLl;omega
     simp [zlb,hE,hil,hc,hw,h64,Nat.not_succ_le_self,-Int.natCast_add];exact hK _ _ (z8 (Less.keep 1 (by simp[-Int.natCast_add]) (by simp) rfl rfl) (ih (i+1) _ (by omega) hnew))
theorem zj3(hc:E.con 26=fnS (zy fun i=>some (za0 i))){n:Nat}(hn:n<=10000){hs:HS}(hv:hs.H.get hs.n=none) :
 CallOk ρ Tryz.prog 25 [enc (n:Int)] hs (oV hs.n ((zcc n).map zg)) (bi (Nat.beq (zC ((zcc n).map zg)) 0) hs { H:=hs.H.set hs.n (oO 5 ((zcc n).map zg)),n:=hs.n+1,log:=hs.n::hs.log }):=by
 refine row hρ hE hcon Tryz.func25 zMW rfl (by simp) (by simp) ?_ hv;simp
 refine zbx (zbH (z8 (Less.keep (TL:=[(0,.int .i64 (n:Int)),(3,oV 0 (([]:List Ty).map zg)),(4,.int .i64 ((0:Nat):Int))]) (HL:=oH 0 5 (([]:List Ty).map zg)) 1 (by simp) (by simp) rfl rfl)
  (zis hρ hE hcon hc hn ?_ n 0 [] (by omega) rfl)))
 generalize zcc n=L;rcases L with _|⟨x,L⟩
 . simp [hE];exact GivesL.keepX rfl rfl (by simp) (by simp)
 . simp [hE];exact GivesL.keepX rfl rfl (by simp) (by simp)
end
section
variable {ρ:Nat->Value}(hρ:J.Good ρ){E:Env}(hE:E.P=Tryz.prog)(hcon:ConsOk ρ E)
include hρ hE hcon
theorem zit (hc:E.con 57=fnS (zex allD)) {bits:Int} (hs:HS):CallOk ρ Tryz.prog 16 [enc bits] hs (enc (zD bits)) hs:=by
 refine fn hρ hE hcon Tryz.func16 zNa rfl (by simp) ?_ hs;have hlen:allD.length=7:=rfl;unfold zD zw1;generalize allD=A at hc hlen;have h1:A[1]?=some A[1]:=List.getElem?_eq_getElem (by omega);rw[h1]
 have main : ∀ (L0:List Decl),L0.length<=1->∀ T hs,Less 0 T hs (mkP [(0,.int .i64 bits),(3,.sl (A.map zq) false),(4,oV 0 (L0.map zq)),(5,.int .i64 ((0:Nat):Int))]) { H:=mkP (oH 0 4 (L0.map zq)),n:=1,log:=[] } ->
  ∀ Q,Q (.exit 0) (mkP [(4,oV 0 ((L0++zi7 bits A 0).map zq))]) { H:=mkP (oH 0 4 ((L0++zi7 bits A 0).map zq)),n:=1,log:=[] }->Ls ρ E 0 45 (.loop zhu) T hs Q:=by
  intro L0 hL0 T hs hl Q hQ;refine lpi hρ hE hcon 7 (fun i (L:List Decl)=>[(0,.int .i64 bits),(3,.sl (A.map zq) false),(4,oV 0 (L.map zq)),(5,.int .i64 (i:Int))]) (fun i L=>oH 0 4 (L.map zq)) (fun i L=>L=L0++zi7 bits (A.take i) 0) L0 hl (by simp[zi7]) ?_ ?_
  . intro L hL K;rw[List.take_of_length_le (by omega)]at hL;subst hL;generalize L0++zi7 bits A 0=L at hQ;simp [zhu,hE,hlen];rcases L with _|⟨x,L⟩<;>simp<;>exact LessQ.mk (Less.auto (by simp) (by simp) rfl rfl) hQ
  . intro i L hi hL K hK;have hil:i<A.length:=by omega
    have hi7:(i:Int)<7:=by omega
    have hw:IntKind.i64.wrap ((i:Int)+1)=((i+1:Nat):Int):=zw (by omega)
    have hL8:L.length<=8:=by
     rw[hL,List.length_append];have:=znj bits (A.take i) 0;rw[List.length_take]at this;omega
    have hnew:∀ L',L'=(if i≠1/\zxW .i64 (bits.fdiv (2 ^ i)) 1=1 then L++[A[i]]else L)->L'=L0++zi7 bits (A.take (i+1)) 0:=by
     intro L' h;rw[h,List.take_add_one,List.getElem?_eq_getElem hil,Option.toList_some,zw0,hL];have:(A.take i).length=i:=by rw[List.length_take];omega
     rw[this,Nat.zero_add];simp only[zi7];split<;>simp
    clear hL;have hgd:∀ h,A[i]'h=A[i]:=fun _=>rfl
    have hw2:IntKind.i64.wrap 2=2:=wrap_i64 (by omega) (by omega)
    have hwu:IntKind.u64.wrap (i:Int)=(i:Int):=by
     have:i<7:=hi
     match i,this with
     | 0,_=>rfl
     | 1,_=>rfl
     | 2,_=>rfl
     | 3,_=>rfl
     | 4,_=>rfl
     | 5,_=>rfl
     | 6,_=>rfl
     |n+7,h=>omega
    have hmin:min i IntKind.i64.bits=i:=Nat.min_eq_left (Nat.le_trans (Nat.le_of_lt hi) (by decide));by_cases h1i:i=1
    . subst h1i;have hnew:=hnew L (by simp);rcases L with _|⟨x,L⟩<;>simp [zhu,hE,hlen,hw2,-Int.natCast_add]<;>exact hK _ hnew _ _ (Less.auto (by simp) (by simp) rfl rfl)
    . have h1i':¬ (i:Int)=1:=by omega
      by_cases hb:zxW .i64 (bits.fdiv (2 ^ i)) 1=1
      . have hnew:=hnew _ (if_pos ⟨h1i,hb⟩).symm;rcases L with _|⟨x,L⟩
        . simp [zhu,hE,hlen,hi7,hw,hwu,hmin,hi,h1i',hb,-Int.natCast_add];exact hK _ hnew _ _ (Less.auto (by simp[-Int.natCast_add]) (by simp) rfl rfl)
        . have h64:(L.length+1+1)*72<=1048576:=by simp at hL8;omega
          simp [zhu,hE,hlen,hi7,hw,hwu,hmin,hi,h1i',hb,h64,Nat.not_succ_le_self,-Int.natCast_add];exact hK _ hnew _ _ (Less.auto (by simp[-Int.natCast_add]) (by simp) rfl rfl)
      . have hnew:=hnew _ (if_neg fun h=>hb h.2).symm;rcases L with _|⟨x,L⟩<;>simp [zhu,hE,hlen,hi7,hw,hwu,hmin,h1i',hb,-Int.natCast_add]<;>exact hK _ hnew _ _ (Less.auto (by simp[-Int.natCast_add]) (by simp) rfl rfl)
 by_cases h2:zxW .i64 bits 2=0
 . by_cases h64:zxW .i64 bits 64=0
   . rw[if_neg (by simp[h2,h64])];simp [hE,hc,h2,h64];refine main [] (by simp) _ _ (Less.auto (by simp) (by simp) rfl rfl) _ ?_;rw[List.nil_append];generalize zi7 bits A 0=R;rcases R with _|⟨y,R⟩<;>simp [hE]
   . rw[if_pos (.inr h64)];simp [hE,hc,hlen,h2,h64];refine main [A[1]] (by simp) _ _ (Less.auto (by simp) (by simp) rfl rfl) _ ?_;simp [hE]
 . rw[if_pos (.inl h2)];simp [hE,hc,hlen,h2];refine main [A[1]] (by simp) _ _ (Less.auto (by simp) (by simp) rfl rfl) _ ?_;simp [hE]
end
open Classical in
def zey(t:Tp)(n:Int):Option (Tp×Int):=if t.ok/\-1000000<=n/\n<=1000000 then some (t.next n)else none
open Classical in
def zf8(d:Nat)(t:Tp)(D:List Decl)(Lv:List Ty)(n:Int):Option (Tp×Ty):=if t.ok/\DOk D/\Lv.length<=100000/\n<=d then some (typeM n.toNat t D Lv)else none
section
variable {ρ:Nat->Value}(hρ:J.Good ρ){E:Env}(hE:E.P=Tryz.prog)(hcon:ConsOk ρ E)
include hρ hE hcon
theorem zfk (hN:E.con 55=stS (zkk zey)) (hC:E.con 56=fnS (zH fun n l=>if l.length<=10000 then some (zeU n l)else none)) (hI:E.con 27=fnS (zex tInt)) (hA:E.con 42=fnS (zH fun a b=>some (zbI a b)))
 {d:Nat} {n:Int} (hT0:0<n->E.con 15=stS (zjj (zf8 d))) {t:Tp} {D:List Decl} {Lv:List Ty} (ht:t.ok) (hD:DOk D) (hLv:Lv.length<=100000) (hn:n<=d+1) (hdd:d<=1000) (hs:HS) (id:Nat) (hid:id<hs.n) (hg:hs.H.get id=some (box (Cel.cells t))) :
 CallOk ρ Tryz.prog 15 [.ptr id 0 0,enc D,enc Lv,enc n] hs (enc (typeM n.toNat t D Lv).2) (hs.wr id (box (Cel.cells (typeM n.toNat t D Lv).1))):=by
 have h7:zey t 7=some (t.next 7):=if_pos ⟨ht,by omega,by omega⟩;have ht1:=zO ht 7;have hk0:=zfK t 7;generalize hR:typeM n.toNat t D Lv=R;rw[typeM.eq_def]at hR;rcases hq:t.next 7 with⟨t1,k⟩;simp only[hq]at h7 ht1 hk0 hR;refine st hρ hE hcon Tryz.func15 zFI rfl (by simp) (by simp) (by simp) (by simp) ?_ hid hg;by_cases c1:k<3/\Lv≠[]
 . rw[if_pos c1]at hR;obtain⟨j,hj,e1,e2⟩:=zev t1 c1.2;have hF:zey t1 (Lv.length:Int)=some (t1.next (Lv.length:Int)):=if_pos ⟨ht1,by omega,by omega⟩;rw[e2]at hR;rcases hq2:t1.next (Lv.length:Int)with⟨t2,k2⟩;simp only[hq2]at hF e1 hR;subst e1 hR;have hlp:0<Lv.length:=by omega
   simp [hE,hN,h7,c1.1,hlp,hF,hj];exact GivesL.keep rfl rfl (by simp) (by simp) (by simp)
 . rw [if_neg c1]at hR;have hp1:¬ (k<3/\0<Lv.length):=fun h=>c1 ⟨h.1,List.length_pos_iff.1 h.2⟩
   by_cases c2:k<4
   . rw[if_pos c2]at hR;subst hR;by_cases c3:k<3
     . have hL0:Lv=[]:=Classical.byContradiction fun h=>c1 ⟨c3,h⟩
       subst hL0;simp [hE,hN,h7,c3,c2,hI];exact GivesL.keep rfl rfl (by simp) (by simp) (by simp)
     . simp [hE,hN,h7,c3,c2,hI];exact GivesL.keep rfl rfl (by simp) (by simp) (by simp)
   . rw [if_neg c2]at hR;have c3:¬ k<3:=by omega
     by_cases c4:n<1
     . have h0:n.toNat=0:=by omega
       rw[h0]at hR;simp only[]at hR;subst hR;simp [hE,hN,h7,c3,c2,c4,hI];exact GivesL.keep rfl rfl (by simp) (by simp) (by simp)
     . have hT := hT0 (by omega);obtain⟨m,hm⟩:∃ m,n.toNat=m+1:=⟨n.toNat-1,by omega⟩;have hnm:n=(m:Int)+1:=by omega
       have hmd:m<=d:=by omega
       rw[hm]at hR;simp only[]at hR;have hw:IntKind.i64.wrap (n-1)=(m:Int):=by rw[hnm,wrap_i64 (by omega) (by omega)];omega
       have hTy:∀ t':Tp,t'.ok->zf8 d t' D Lv (m:Int)=some (typeM m t' D Lv):=fun t' h=>by
        unfold zf8;rw[if_pos ⟨h,hD,hLv,by omega⟩,Int.toNat_natCast]
       by_cases c5:(k=4\/k=5)/\D≠[]
       . rw [if_pos c5]at hR;obtain⟨j,hj,e1,e2⟩:=zev t1 c5.2;have hF:zey t1 (D.length:Int)=some (t1.next (D.length:Int)):=if_pos ⟨ht1,by have:=hD.1;omega,by have:=hD.1;omega⟩;have ht2:=zO ht1 (D.length:Int);rw[e2]at hR;rcases hq2:t1.next (D.length:Int)with⟨t2,k2⟩;simp only[hq2,Option.getD_some]at hF e1 hR ht2;subst e1;have hdp:=hD.2 _ (List.getElem_mem hj);have hDp:0<D.length:=by omega
         generalize hdj:D[j]=dd at hR hdp;obtain⟨dpos,dname,dparams,dctors⟩:=dd;simp only at hR hdp
         have main:∀ T hs,Less 1 T hs (mkP [(0,.ptr 0 0 0),(1,.sl (D.map zq) false),(2,.sl (Lv.map zg) false),(3,.int .i64 n),(8,.ptr 1 0 0),(10,.ptr 2 0 0),(11,oV 3 (([]:List Ty).map zg)),(12,.int .i64 ((0:Nat):Int))])
          { H:=mkP ([(0,box (Cel.cells t2)),(1,box [.int .i64 0,.str [],.int .i64 0,.int .i64 0,.snil]),(2,box (zq ⟨dpos,dname,dparams,dctors⟩))]++oH 3 5 (([]:List Ty).map zg)),n:=4,log:=[] } ->
          ∀ Q,Q (.exit 1) (mkP [(8,.ptr 1 0 0),(10,.ptr 2 0 0),(11,oV 3 ((zch m t2 D Lv dparams.length).2.map zg))])
            { H:=mkP ([(0,box (Cel.cells (zch m t2 D Lv dparams.length).1)),(1,box [.int .i64 0,.str [],.int .i64 0,.int .i64 0,.snil]),(2,box (zq ⟨dpos,dname,dparams,dctors⟩))]++oH 3 5 ((zch m t2 D Lv dparams.length).2.map zg)),n:=4,log:=[] } ->
          Ls ρ E 1 95 (.loop zlc) T hs Q:=by
          intro T hs hl Q hQ
          refine lpi hρ hE hcon dparams.length (fun i (p:Tp×List Ty)=>[(0,.ptr 0 0 0),(1,.sl (D.map zq) false),(2,.sl (Lv.map zg) false),(3,.int .i64 n),(8,.ptr 1 0 0),(10,.ptr 2 0 0),(11,oV 3 (p.2.map zg)),(12,.int .i64 (i:Int))])
           (fun i p=>[(0,box (Cel.cells p.1)),(1,box [.int .i64 0,.str [],.int .i64 0,.int .i64 0,.snil]),(2,box (zq ⟨dpos,dname,dparams,dctors⟩))]++oH 3 5 (p.2.map zg)) (fun i p=>p=zch m t2 D Lv i) (t2,[]) hl (by rw[zch]) ?_ ?_
          . intro p hp K;rw[<- hp]at hQ;obtain⟨t3,L⟩:=p;rcases L with _|⟨x,L⟩<;>simp [zlc,hE]<;>exact LessQ.mk (Less.auto (by simp) (by simp) rfl rfl) hQ
          . intro i p hi hp K hK;have hlen:=zf1 m t2 D Lv i;have hok:=zxV (D:=D) (Lv:=Lv) m ht2 i;rw[<- hp]at hlen hok;have hTp:=hTy p.1 hok;have hnew:=hK (typeM m p.1 D Lv |>.1,p.2++[(typeM m p.1 D Lv).2]) (by rw[zch,<- hp]);have hi':(i:Int)<dparams.length:=by omega
            have hw2:IntKind.i64.wrap ((i:Int)+1)=((i+1:Nat):Int):=zw (by omega);obtain⟨t3,L⟩:=p;simp only at hTp hnew hlen;rcases hq3:typeM m t3 D Lv with⟨t4,x4⟩;simp only[hq3]at hTp hnew;rcases L with _|⟨x,L⟩
            . simp [zlc,hE,hi',hw,hw2,hT,hTp,-Int.natCast_add];exact hnew _ _ (Less.auto (by simp[-Int.natCast_add]) (by simp) rfl rfl)
            . have h64:(L.length+1+1)*64<=1048576:=by simp at hlen;omega
              simp [zlc,hE,hi',hw,hw2,hT,hTp,h64,Nat.not_succ_le_self,-Int.natCast_add];exact hnew _ _ (Less.auto (by simp[-Int.natCast_add]) (by simp) rfl rfl)
         have hlenR:=zf1 m t2 D Lv dparams.length;rcases hq4:zch m t2 D Lv dparams.length with⟨t5,L⟩;simp only[hq4]at main hR hlenR;subst hR;have hlen2:L.length<=10000:=by omega
         rcases c5.1 with rfl|rfl<;>simp [hE,hN,h7,c4,hF,hj,hdj,hDp]<;>refine main _ _ (Less.auto (by simp) (by simp) rfl rfl) _ ?_ <;>
         (rcases L with _|⟨x,L⟩
          . simp [hE,hC];exact GivesL.keep rfl rfl (by simp[zeU]) (by simp) (by simp)
          . have hl9:L.length<=9999:=by simpa using hlen2
            simp [hE,hC,hl9]
            exact GivesL.keep rfl rfl (by simp[zeU]) (by simp) (by simp))
       . rw [if_neg c5]at hR;have hp5:¬ ((k=4\/k=5)/\0<D.length):=fun h=>c5 ⟨h.1,List.length_pos_iff.1 h.2⟩
         have hF1:=hTy t1 ht1;have ht2:=(zgv (D:=D) (Lv:=Lv) m t1 ht1).1;rcases hq2:typeM m t1 D Lv with⟨t2,a⟩;simp only[hq2]at hF1 hR ht2;have hF2:=hTy t2 ht2;rcases hq3:typeM m t2 D Lv with⟨t3,b⟩;simp only[hq3]at hF2 hR;subst hR;have hD0:(k=4\/k=5)->D=[]:=fun h=>Classical.byContradiction fun hne=>c5 ⟨h,hne⟩
         by_cases c6:k=4
         . have:=hD0 (.inl c6);subst this c6;simp [hE,hN,h7,c4,hw,hT,hF1,hF2,hA];exact GivesL.keep rfl rfl (by simp) (by simp) (by simp)
         . by_cases c7:k=5
           . have:=hD0 (.inr c7);subst this c7;simp [hE,hN,h7,c4,hw,hT,hF1,hF2,hA];exact GivesL.keep rfl rfl (by simp) (by simp) (by simp)
           . simp [hE,hN,h7,c3,c2,c4,c6,c7,hw,hT,hF1,hF2,hA];exact GivesL.keep rfl rfl (by simp) (by simp) (by simp)
end
def zjl(d:Nat)(t:Ty)(s:List Assign):Option Ty:=if t.ok=true/\t.size<=d/\s.length<=100000 then some (t.repl s)else none
section
variable {ρ:Nat->Value}(hρ:J.Good ρ){E:Env}(hE:E.P=Tryz.prog)(hcon:ConsOk ρ E)
include hρ hE hcon
theorem zgm {d:Nat} (hc:E.con 62=fnS (zH (zjl d))) {t:Ty} {s:List Assign} (ht:t.ok=true) (hd:t.size<=d+1) (hsl:s.length<=100000) (hs:HS):CallOk ρ Tryz.prog 62 [enc t,enc s] hs (enc (t.repl s)) hs:=by
 refine fn hρ hE hcon Tryz.func62 zJh rfl (by simp) ?_ hs;rw[zeI];by_cases hk:t.kind=1
 . rw [if_pos hk];simp [hE,hk]
   refine lpi hρ hE hcon s.length (nn:=2) (fun i (_:Unit)=>[(1,.sl (s.map zX) false),(2,.ptr 0 0 0),(4,.ptr 1 0 0),(5,.int .i64 (i:Int))]) (fun i _=>[(0,box (zg t)),(1,box [.int .i64 0,.str [],.int .i64 0,.int .i64 0,.snil])]) (fun i _=>zP (s.take i) t.id=none) ()
    (Less.auto (by simp) (by simp[hk]) rfl rfl) rfl ?_ ?_
   . intro _ hl K;rw[List.take_length]at hl;simp [zn5,hE];refine LessQ.mk (Less.auto (TL:=[(2,.ptr 0 0 0),(4,.ptr 1 0 0)]) (HL:=[(0,box (zg t)),(1,box [.int .i64 0,.str [],.int .i64 0,.int .i64 0,.snil])]) (n:=2) (by simp) (by simp[hk]) rfl rfl) ?_;simp [hE,hl,hk]
   . intro i _ hi hl K hK;have hi':(i:Int)<s.length:=by omega
     have hw2:IntKind.i64.wrap ((i:Int)+1)=((i+1:Nat):Int):=zw (by omega)
     have hlk:∀ j,zP (s.take (i+1)) j=(zP (s.take i) j).or (zP [s[i]] j):=fun j=>by
      rw[List.take_add_one,List.getElem?_eq_getElem hi,Option.toList_some,zbu]
     by_cases he:s[i].id=t.id
     . have hres:zP s t.id=some s[i].type:=by
        conv=>lhs;rw[<- List.take_append_drop (i+1) s]
        rw[zbu,hlk,hl];simp[zP,he]
       simp [zn5,hE,hi,hi',he,hk];refine LessQ.mk (Less.auto (TL:=[(4,.ptr 1 0 0)]) (HL:=[(1,box (zg s[i].type))]) (n:=2) (by simp) (by simp) rfl rfl) ?_;simp [hres]
     . have hnew:=hK () (by rw[hlk,hl];simp[zP,he]);simp [zn5,hE,hi,hi',he,hk,hw2,-Int.natCast_add];exact hnew _ _ (Less.auto (by simp[-Int.natCast_add]) (by simp[hk]) rfl rfl)
 . rw [if_neg hk];simp [hE,hk];have hlen:=Ty.ok_len ht
   refine lpi hρ hE hcon t.args.length (nn:=4) (fun i (L:List Ty)=>[(1,.sl (s.map zX) false),(2,.ptr 0 0 0),(4,.ptr 1 0 0),(6,.ptr 2 0 0),(7,.int .i64 (i:Int))])
    (fun i L=>[(0,box (zg t)),(1,box [.int .i64 0,.str [],.int .i64 0,.int .i64 0,.snil]),(2,box [.int .i64 t.kind,.str t.name,.int .i64 t.id,.int .i64 t.home,oV 3 (L.map zg)])]++oH 3 5 (L.map zg)) (fun i L=>L=(t.args.take i).map (Ty.repl s)) []
    (Less.auto (by simp) (by simp) (by simp) (by simp)) rfl ?_ ?_
   . intro L hL K;rw[List.take_length]at hL;rw[<- hL];clear hL;rcases L with _|⟨x,L⟩
     . simp [zkX,hE];refine LessQ.mk (Less.auto (TL:=[(4,.ptr 1 0 0),(6,.ptr 2 0 0)]) (HL:=[(1,box [.int .i64 0,.str [],.int .i64 0,.int .i64 0,.snil]),(2,box [.int .i64 t.kind,.str t.name,.int .i64 t.id,.int .i64 t.home,.snil])]) (n:=4) (by simp) (by simp) (by simp) (by simp)) ?_;simp [hE]
     . simp [zkX,hE];refine LessQ.mk (Less.auto (TL:=[(4,.ptr 1 0 0),(6,.ptr 2 0 0)]) (HL:=[(1,box [.int .i64 0,.str [],.int .i64 0,.int .i64 0,.snil]),(2,box [.int .i64 t.kind,.str t.name,.int .i64 t.id,.int .i64 t.home,oV 3 ((x::L).map zg)])]++oH 3 5 ((x::L).map zg)) (n:=4) (by simp) (by simp) (by simp) (by simp)) ?_;simp [hE]
   . intro i L hi hL K hK;have hi':(i:Int)<t.args.length:=by omega
     have hw2:IntKind.i64.wrap ((i:Int)+1)=((i+1:Nat):Int):=zw (by omega);have hm:=List.getElem_mem hi
     have hF:zjl d t.args[i] s=some (t.args[i].repl s):=by
      unfold zjl;rw[if_pos ⟨Ty.ok_arg ht hm,by have:=Ty.size_arg hm;omega,hsl⟩]
     have hnew:=hK (L++[t.args[i].repl s]) (by rw[List.take_add_one,List.getElem?_eq_getElem hi,Option.toList_some,List.map_append,hL];rfl);have hLl:L.length=i:=by rw[hL,List.length_map,List.length_take];omega
     clear hL;generalize t.args[i].repl s=y at hF hnew;rcases L with _|⟨x,L⟩
     . simp [zkX,hE,hi,hi',hc,hF,hw2,-Int.natCast_add];exact hnew _ _ (Less.auto (by simp[-Int.natCast_add]) (by simp) (by simp) (by simp))
     . have h64:(L.length+1+1)*64<=1048576:=by simp at hLl;omega
       simp [zkX,hE,hi,hi',hc,hF,hw2,h64,Nat.not_succ_le_self,-Int.natCast_add];exact hnew _ _ (Less.auto (by simp[-Int.natCast_add]) (by simp) (by simp) (by simp))
end
def zc9(d:Nat)(L:List Ty)(t:Ty)(kind:Int):Option (List Ty):=if t.size<=d/\t.ok=true/\Ty.oks L=true/\(zaj kind t L).length<=10000 then some (zaj kind t L)else none
theorem zhg(kind:Int):∀ (l:List Ty) (i:Nat) (L0:List Ty),(zx kind (l.take i) L0).length<=(zx kind l L0).length:=by
 intro l
 induction l with
 |nil=>intro i L0;simp
 | cons a l ih =>
   intro i L0
   cases i with
   |zero=>exact(zbc kind (a::l) L0).1
   | succ i =>
     rw[List.take_succ_cons,zx,zx];exact ih i _
section
variable {ρ:Nat->Value}(hρ:J.Good ρ){E:Env}(hE:E.P=Tryz.prog)(hcon:ConsOk ρ E)
include hρ hE hcon
theorem zcX {d:Nat} (hc:E.con 125=ioS 5 (zvI (zc9 d)) zgs) {k:Nat} {t:Ty} {kind:Int} {L0:List Ty} (hk:k=0\/k=1/\L0≠[]) (ht:t.ok=true) (hd:t.size<=d+1) (h0:Ty.oks L0=true) (hl0:(zx kind t.args L0).length<=10000) {Q:Ex->PT V->HS->Prop}
 (hQ:Q (.exit 2) (mkP [(0,oV 0 ((zx kind t.args L0).map zg))]) { H:=mkP (oH 0 5 ((zx kind t.args L0).map zg)),n:=1,log:=[] }) :
 ∀ (n i:Nat) (L:List Ty),i+n=t.args.length->L=zx kind (t.args.take i) L0->LsN ρ E k 52 zdV (LessQ k Q) (n+1) (mkP [(0,oV 0 (L.map zg)),(2,.int .i64 kind),(4,.ptr 1 0 0),(8,.int .i64 (i:Int))])
   { H:=mkP ((1,box (zg t))::oH 0 5 (L.map zg)),n:=2,log:=[] }:=by
 intro n
 induction n with
 | zero =>
   intro i L hi hL;have hil:¬ (i:Int)<t.args.length:=by omega
   have e:L=zx kind t.args L0:=by rw[hL,List.take_of_length_le (by omega)]
   rw[<- e]at hQ;have hlen:=zbc kind t.args L0;rw[<- e]at hlen;refine lp hρ hE hcon fun K hK=>?_
   rcases L with _|⟨x,L⟩
   . have hk0:k=0:=by
      rcases hk with h|⟨_,h⟩
      . exact h
      . cases L0 with
        |nil=>exact absurd rfl h
        |cons a l=>simp at hlen
     subst hk0;simp [zdV,hE,hil];exact LessQ.mk (Less.keep 1 (by simp) (by simp) rfl rfl) hQ
   . simp [zdV,hE,hil];rcases hk with rfl|⟨rfl,_⟩<;>exact LessQ.mk (Less.keep 1 (by simp) (by simp) rfl rfl) hQ
 | succ n ih =>
   intro i L hi hL;have hil:i<t.args.length:=by omega
   have hil':(i:Int)<t.args.length:=by omega
   have hw:IntKind.i64.wrap ((i:Int)+1)=((i+1:Nat):Int):=zw (by have:=Ty.ok_len ht;omega);have hm:=List.getElem_mem hil;have hs1:=Ty.size_arg hm;have hok:=Ty.ok_arg ht hm;have hLok:Ty.oks L=true:=by rw[hL];exact ziJ (znr (Ty.oks_iff.2 (Ty.ok_iff.1 ht).2) i) _ h0
   have hlen:=zbc kind (t.args.take i) L0;rw[<- hL]at hlen
   have hsz:Ty.sizes (t.args.take i)+t.args[i].size<=Ty.sizes t.args:=by
    have:=zds t.args (i+1);rw[List.take_add_one,List.getElem?_eq_getElem hil,zfd]at this;simpa [Ty.sizes]using this
   have hts:=Ty.size_eq t
   have hnew:zaj kind t.args[i] L=zx kind (t.args.take (i+1)) L0:=by
    rw[List.take_add_one,List.getElem?_eq_getElem hil,Option.toList_some,zgd,hL]
   have hb:(zaj kind t.args[i] L).length<=10000:=by rw[hnew];exact Nat.le_trans (zhg kind t.args (i+1) L0) hl0
   have hF:zc9 d L t.args[i] kind=some (zaj kind t.args[i] L):=by
    unfold zc9;rw[if_pos ⟨by omega,hok,hLok,hb⟩]
   have hml:=zdy kind t.args[i] L;refine lp hρ hE hcon fun K hK=>?_
   generalize hR:zaj kind t.args[i] L=R at hF hnew hml;rcases L with _|⟨x,L⟩
   . have hk0:k=0:=by
      rcases hk with h|⟨_,h⟩
      . exact h
      . cases L0 with
        |nil=>exact absurd rfl h
        |cons a l=>simp at hlen
     subst hk0;rcases R with _|⟨y,R⟩<;>simp [zdV,hE,hil,hil',hc,hw,hF,zgs,-Int.natCast_add]
     . exact hK _ _ (z8 (Less.keep 2 (by simp[-Int.natCast_add]) (by simp) rfl rfl) (ih (i+1) _ (by omega) hnew))
     . exact hK _ _ (z8 (Less.lit (fun k=>if k=0 then 16 else k) 2 (by simp[-Int.natCast_add]) (by simp) rfl rfl) (ih (i+1) _ (by omega) hnew))
   . rcases R with _|⟨y,R⟩
     . simp at hml
     . have hml0:L.length<=R.length:=by simp at hml;omega
       simp [zdV,hE,hil,hil',hc,hw,hF,zgs,hml0,-Int.natCast_add];rcases hk with rfl|⟨rfl,_⟩<;>exact hK _ _ (z8 (Less.keep 2 (by simp[-Int.natCast_add]) (by simp) rfl rfl) (ih (i+1) _ (by omega) hnew))
theorem zcY (hc:E.con 54=fnS (zH fun a b:Ty=>if a.ok=true then some (decide (a=b))else none)) {k:Nat} {t:Ty} {L:List Ty} (hk:k=0\/k=1/\L≠[]) (h0:Ty.oks L=true) (hl0:L.length<=10000) {Q:Ex->PT V->HS->Prop}
 (hf:t∈L->Q .ret (mkP [(6,oV 0 (L.map zg))]) { H:=mkP (oH 0 5 (L.map zg)),n:=1,log:=[] })
 (hn:t ∉ L->Q (.exit 0) (mkP [(0,oV 0 (L.map zg)),(4,.ptr 1 0 0)]) { H:=mkP ((1,box (zg t))::oH 0 5 (L.map zg)),n:=2,log:=[] }) :
 ∀ (n i:Nat),i+n=L.length->t ∉ L.take i->LsN ρ E k 52 zhx (LessQ k Q) (n+1) (mkP [(0,oV 0 (L.map zg)),(4,.ptr 1 0 0),(7,.int .i64 (i:Int))])
   { H:=mkP ((1,box (zg t))::oH 0 5 (L.map zg)),n:=2,log:=[] }:=by
 intro n
 induction n with
 | zero =>
   intro i hi hL;have hil:¬ (i:Int)<L.length:=by omega
   have e:t ∉ L:=by rw[List.take_of_length_le (by omega)]at hL;exact hL
   have hn:=hn e;refine lp hρ hE hcon fun K hK=>?_
   rcases L with _|⟨x,L⟩
   . have hk0:k=0:=by
      rcases hk with h|⟨_,h⟩
      . exact h
      . exact absurd rfl h
     subst hk0;obtain rfl:i=0:=by simpa using hi
     simp [zhx,hE];exact LessQ.mk (Less.keep 2 (by simp) (by simp) rfl rfl) hn
   . have hil2:¬ (i:Int)<(L.length:Int)+1:=by simp at hil;omega
     simp [zhx,hE,hil2];rcases hk with rfl|⟨rfl,_⟩<;>exact LessQ.mk (Less.keep 2 (by simp) (by simp) rfl rfl) hn
 | succ n ih =>
   intro i hi hL;have hil:i<L.length:=by omega
   have hw:IntKind.i64.wrap ((i:Int)+1)=((i+1:Nat):Int):=zw (by omega);have hok:=Ty.oks_iff.1 h0 _ (List.getElem_mem hil)
   have hnext:L[i]≠t->t ∉ L.take (i+1):=by
    intro h hm;rw[List.take_add_one,List.getElem?_eq_getElem hil]at hm;rcases List.mem_append.1 hm with hm|hm
    . exact hL hm
    . exact h (List.mem_singleton.1 hm).symm
   have hmem:L[i]=t->t∈L:=fun h=>h ▸ List.getElem_mem hil
   have hgi:(L.map zg)[i]?=some (zg L[i]):=by rw[List.getElem?_map,List.getElem?_eq_getElem hil];rfl
   refine lp hρ hE hcon fun K hK=>?_
   generalize L[i]=y at hok hnext hmem hgi;rcases L with _|⟨x,L⟩
   . simp at hil
   . have hil2:(i:Int)<(L.length:Int)+1:=by simp at hil;omega
     have hil3:i<L.length+1:=by simpa using hil
     simp only[List.map_cons,zdW]at hgi;have hgi3:∀ h,(zg x::L.map zg)[i]'h=zg y:=fun h=>by simp only[zdW];exact(List.getElem?_eq_some_iff.1 hgi).2
     simp only[zdW]at hgi3;have hd1:i*5 / 5=i:=by omega
     have hd2:i*5 % 5=0:=by omega
     simp [zhx,hE,hil2,hil3,hc,hok,hd1,hd2,hgi3];refine zdB (fun h=>?_) (fun h=>?_)<;>simp [hE,hw,-Int.natCast_add]
     . rcases hk with rfl|⟨rfl,_⟩<;>exact LessQ.mk (Less.keep 1 (by simp) (by simp) rfl rfl) (hf (hmem h))
     . rcases hk with rfl|⟨rfl,_⟩<;>exact hK _ _ (z8 (Less.keep 2 (by simp[-Int.natCast_add]) (by simp) rfl rfl) (ih (i+1) (by omega) (hnext h)))
theorem zgL {d:Nat} (hcE:E.con 54=fnS (zH fun a b:Ty=>if a.ok=true then some (decide (a=b))else none)) (hc:E.con 125=ioS 5 (zvI (zc9 d)) zgs) {L:List Ty} {t:Ty} {kind:Int} (ht:t.ok=true) (hd:t.size<=d+1) (h0:Ty.oks L=true) (hl0:(zaj kind t L).length<=10000)
 {hs:HS} {v:V} (hv:rowOf 5 hs v=some (L.map zg)) (hvac:hs.H.get hs.n=none):CallOk ρ Tryz.prog 125 [v,enc t,enc kind] hs (zbA 5 v (L.map zg) ((zaj kind t L).map zg) hs).1 (zbA 5 v (L.map zg) ((zaj kind t L).map zg) hs).2:=by
 have hlen:=zdy kind t L;refine io hρ hE hcon (K:=zgs) (rs:=[]) (.inl rfl) Tryz.func125 z5U rfl (by simp) (by simp) (by simp) rfl (by simpa using hlen.1) ?_ hv hvac;clear hv hvac;rw[zc0]
 have hk:(if L.map zg=[]then 0 else 1)=0\/(if L.map zg=[]then 0 else 1)=1/\L≠[]:=by
  cases L with
  |nil=>exact .inl rfl
  |cons a l=>exact .inr ⟨rfl,by simp⟩
 by_cases hleaf:t.kind=kind/\t.args=[]
 . rw [if_pos hleaf];obtain⟨hkd,har⟩:=hleaf;rcases L with _|⟨x,L⟩
   . simp [hE,hkd,har];refine zbx (zbH (z8 (Less.lit (TL:=[(0,oV 0 (([]:List Ty).map zg)),(4,.ptr 1 0 0),(7,.int .i64 ((0:Nat):Int))]) (HL:=(1,box (zg t))::oH 0 5 (([]:List Ty).map zg)) (fun k=>if k=1 then 0 else k) 2 ?_ ?_ rfl rfl) (zcY hρ hE hcon hcE (.inl rfl) h0 (by simp) ?_ ?_ 0 0 rfl (by simp))))
     . simp
     . simp[har,hkd]
     . intro h;cases h
     . intro _;simp [hE,hkd,har];exact GivesL.litX (fun k=>if k=0 then 5 else k) rfl rfl ⟨rfl,rfl⟩ (by simp)
   . simp [hE,hkd,har];refine zbx (zbH (z8 (Less.keep (TL:=[(0,oV 0 ((x::L).map zg)),(4,.ptr 1 0 0),(7,.int .i64 ((0:Nat):Int))]) (HL:=(1,box (zg t))::oH 0 5 ((x::L).map zg)) 2 ?_ ?_ rfl rfl) (zcY hρ hE hcon hcE (.inr ⟨rfl,by simp⟩) h0 (by omega) ?_ ?_ (x::L).length 0 (by omega) (by simp))))
     . simp
     . simp[har,hkd]
     . intro h;simp [hE,h];exact GivesL.keepX rfl rfl rfl (by simp)
     . intro hn;have h64:(L.length+1+1)*64<=1048576:=by have:=hlen.1;simp only[List.length_cons]at this;omega
       simp [hE,hkd,har,hn,h64,Nat.not_succ_le_self];exact GivesL.keepX rfl rfl rfl (by simp)
 . rw [if_neg hleaf];have hneq:t.kind=kind->¬ t.args=[]:=fun h1 h2=>hleaf ⟨h1,h2⟩
   have hl1:(zx kind t.args L).length<=10000:=by rw[zc0,if_neg hleaf]at hl0;exact hl0
   rcases L with _|⟨x,L⟩
   . have go:∀ T hs',Less 0 T hs' (mkP [(0,oV 0 (([]:List Ty).map zg)),(2,.int .i64 kind),(4,.ptr 1 0 0),(8,.int .i64 ((0:Nat):Int))]) { H:=mkP ((1,box (zg t))::oH 0 5 (([]:List Ty).map zg)),n:=2,log:=[] } ->
      ∀ Q,Q (.exit 2) (mkP [(0,oV 0 ((zx kind t.args []).map zg))]) { H:=mkP (oH 0 5 ((zx kind t.args []).map zg)),n:=1,log:=[] }->Ls ρ E 0 52 (.loop zdV) T hs' Q:=fun T hs' hl Q hQ =>
      zbx (zbH (z8 hl (zcX hρ hE hcon hc (.inl rfl) ht hd h0 hl1 hQ t.args.length 0 [] (by omega) rfl)))
     by_cases h1:t.kind=kind
     . have h2:=hneq h1;simp [hE,h1,h2];refine go _ _ (Less.lit (fun k=>if k=1 then 0 else k) 2 (by simp) (by simp[h1]) rfl rfl) _ ?_;generalize zx kind t.args []=R;rcases R with _|⟨y,R⟩<;>simp [hE]<;>exact GivesL.keepX rfl rfl rfl (by simp)
     . simp [hE,h1];refine go _ _ (Less.lit (fun k=>if k=1 then 0 else k) 2 (by simp) (by simp) rfl rfl) _ ?_;generalize zx kind t.args []=R;rcases R with _|⟨y,R⟩<;>simp [hE]<;>exact GivesL.keepX rfl rfl rfl (by simp)
   . have hRl:=(zbc kind t.args (x::L)).1
     have go:∀ T hs',Less 1 T hs' (mkP [(0,oV 0 ((x::L).map zg)),(2,.int .i64 kind),(4,.ptr 1 0 0),(8,.int .i64 ((0:Nat):Int))]) { H:=mkP ((1,box (zg t))::oH 0 5 ((x::L).map zg)),n:=2,log:=[] } ->
      ∀ Q,Q (.exit 2) (mkP [(0,oV 0 ((zx kind t.args (x::L)).map zg))]) { H:=mkP (oH 0 5 ((zx kind t.args (x::L)).map zg)),n:=1,log:=[] }->Ls ρ E 1 52 (.loop zdV) T hs' Q:=fun T hs' hl Q hQ =>
      zbx (zbH (z8 hl (zcX hρ hE hcon hc (.inr ⟨rfl,by simp⟩) ht hd h0 hl1 hQ t.args.length 0 (x::L) (by omega) rfl)))
     by_cases h1:t.kind=kind
     . have h2:=hneq h1;simp [hE,h1,h2];refine go _ _ (Less.keep 2 (by simp) (by simp[h1]) rfl rfl) _ ?_;generalize zx kind t.args (x::L)=R at hRl;rcases R with _|⟨y,R⟩
       . simp at hRl
       . simp [hE];exact GivesL.keepX rfl rfl rfl (by simp)
     . simp [hE,h1];refine go _ _ (Less.keep 2 (by simp) (by simp) rfl rfl) _ ?_;generalize zx kind t.args (x::L)=R at hRl;rcases R with _|⟨y,R⟩
       . simp at hRl
       . simp [hE];exact GivesL.keepX rfl rfl rfl (by simp)
end
section
variable {ρ:Nat->Value}(hρ:J.Good ρ){E:Env}(hE:E.P=Tryz.prog)(hcon:ConsOk ρ E)
include hρ hE hcon
theorem zjo{l:List Int}{x:Int}(h1:l.length<=1000000){Q:Ex->PT V->HS->Prop}
 (hf:x∈l->∀ T hs,T.get 4=some (.bool true)->Q .ret T hs) (ht:x ∉ l->∀ T hs,Q (.exit 0) T hs) :
 ∀ (n i:Nat),i+n=l.length->x ∉ l.take i->LsN ρ E 0 18 zjD Q (n+1) (mkP [(0,.sl (l.map encI) false),(1,.int .i64 x),(5,.int .i64 (i:Int))]) { H:=mkP [],n:=0,log:=[] }:=by
 intro n
 induction n with
 | zero =>
   intro i hi he;have hil:¬ (i:Int)<l.length:=by omega
   have e:x ∉ l:=by rw[List.take_of_length_le (by omega)]at he;exact he
   refine lp hρ hE hcon fun K hK=>?_
   simp [zjD,hE,hil];exact ht e _ _
 | succ n ih =>
   intro i hi he;have hil:i<l.length:=by omega
   have hil':(i:Int)<l.length:=by omega
   have hw:IntKind.i64.wrap ((i:Int)+1)=((i+1:Nat):Int):=zw (by omega)
   have hnext:l[i]≠x->x ∉ l.take (i+1):=by
    intro h hm;rw[List.take_add_one,List.getElem?_eq_getElem hil]at hm;rcases List.mem_append.1 hm with hm|hm
    . exact he hm
    . exact h (List.mem_singleton.1 hm).symm
   have hmem:l[i]=x->x∈l:=fun h=>h ▸ List.getElem_mem hil
   refine lp hρ hE hcon fun K hK=>?_
   simp [zjD,hE,hil',hil];refine zdB (fun h=>?_) (fun h=>?_)<;>simp [hE,hw,-Int.natCast_add]
   . exact hf (hmem h) _ _ (by simp)
   . exact hK _ _ (z8 (Less.keep 0 (by simp[-Int.natCast_add]) (by simp) rfl rfl) (ih (i+1) (by omega) (hnext h)))
theorem zkw{l:List Int}{x:Int}(h1:l.length<=1000000)(hs:HS):CallOk ρ Tryz.prog 126 [enc l,enc x] hs (enc (decide (x∈l))) hs:=by
 refine fn hρ hE hcon Tryz.func126 zCs rfl (by simp) ?_ hs;simp;refine zbH (z8 (Less.keep (TL:=[(0,.sl (l.map encI) false),(1,.int .i64 x),(5,.int .i64 ((0:Nat):Int))]) (HL:=[]) 0 (by simp) (by simp) rfl rfl) (zjo hρ hE hcon h1 ?_ ?_ l.length 0 (by omega) (by simp)))
 . intro h T hs hT;simp[hT,h,hE]
 . intro h T hs;simp [h,hE]
theorem zgM {d:Nat} (hc:E.con 125=ioS 5 (zvI (zc9 d)) zgs) {l:List Ty} (hl:Ty.oks l=true) (hll:l.length<=10000) (hd:Ty.sizes l<=d) (hd2:(zx 1 l []).length<=10000) {Q:Ex->PT V->HS->Prop}
 (hQ:Q (.exit 0) (mkP [(3,oV 0 ((zx 1 l []).map zg))]) { H:=mkP (oH 0 5 ((zx 1 l []).map zg)),n:=1,log:=[] }) :
 ∀ (n i:Nat) (L:List Ty),i+n=l.length->L=zx 1 (l.take i) []->LsN ρ E 0 42 zkY (LessQ 0 Q) (n+1) (mkP [(0,.sl (l.map zg) false),(3,oV 0 (L.map zg)),(4,.int .i64 (i:Int))])
   { H:=mkP (oH 0 5 (L.map zg)),n:=1,log:=[] }:=by
 intro n
 induction n with
 | zero =>
   intro i L hi hL;have hil:¬ (i:Int)<l.length:=by omega
   have e:L=zx 1 l []:=by rw[hL,List.take_of_length_le (by omega)]
   rw[<- e]at hQ;refine lp hρ hE hcon fun K hK=>?_
   rcases L with _|⟨x,L⟩<;>simp [zkY,hE,hil]<;>exact LessQ.mk (Less.keep 1 (by simp) (by simp) rfl rfl) hQ
 | succ n ih =>
   intro i L hi hL;have hil:i<l.length:=by omega
   have hil':(i:Int)<l.length:=by omega
   have hw:IntKind.i64.wrap ((i:Int)+1)=((i+1:Nat):Int):=zw (by omega);have hm:=List.getElem_mem hil;have hok:=Ty.oks_iff.1 hl _ hm;have hLok:Ty.oks L=true:=by rw[hL];exact ziJ (znr hl i) _ rfl
   have hlen:=zbc 1 (l.take i) [];rw[<- hL]at hlen
   have hsz:Ty.sizes (l.take i)+l[i].size<=Ty.sizes l:=by
    have:=zds l (i+1);rw[List.take_add_one,List.getElem?_eq_getElem hil,zfd]at this;simpa [Ty.sizes]using this
   have hnew:zaj 1 l[i] L=zx 1 (l.take (i+1)) []:=by
    rw[List.take_add_one,List.getElem?_eq_getElem hil,Option.toList_some,zgd,hL]
   have hb:(zaj 1 l[i] L).length<=10000:=by rw[hnew];exact Nat.le_trans (zhg 1 l (i+1) []) hd2
   have hF:zc9 d L l[i] 1=some (zaj 1 l[i] L):=by
    unfold zc9;rw[if_pos ⟨by omega,hok,hLok,hb⟩]
   have hml:=zdy 1 l[i] L;refine lp hρ hE hcon fun K hK=>?_
   generalize hR:zaj 1 l[i] L=R at hF hnew hml;rcases L with _|⟨x,L⟩
   . rcases R with _|⟨y,R⟩<;>simp [zkY,hE,hil,hil',hc,hw,hF,zgs,-Int.natCast_add]
     . exact hK _ _ (z8 (Less.keep 1 (by simp[-Int.natCast_add]) (by simp) rfl rfl) (ih (i+1) _ (by omega) hnew))
     . exact hK _ _ (z8 (Less.lit (fun k=>if k=0 then 12 else k) 1 (by simp[-Int.natCast_add]) (by simp) rfl rfl) (ih (i+1) _ (by omega) hnew))
   . rcases R with _|⟨y,R⟩
     . simp at hml
     . have hml0:L.length<=R.length:=by simp at hml;omega
       simp [zkY,hE,hil,hil',hc,hw,hF,zgs,hml0,-Int.natCast_add];exact hK _ _ (z8 (Less.keep 1 (by simp[-Int.natCast_add]) (by simp) rfl rfl) (ih (i+1) _ (by omega) hnew))
theorem zdL (hc:E.con 126=fnC (zH fun (l:List Int) (x:Int)=>if l.length<=1000000 then some (decide (x∈l))else none)) {F:List Ty} (hl:F.length<=10000) {Q:Ex->PT V->HS->Prop}
 (hQ:Q (.exit 2) (mkP [(5,oV 1 ((zcG F).map encI))]) { H:=mkP (oH 1 1 ((zcG F).map encI)),n:=2,log:=[] }) :
 ∀ (n i:Nat) (O:List Int),i+n=F.length->O=zcG (F.take i)->LsN ρ E 0 42 zhs (LessQ 0 Q) (n+1) (mkP [(3,oV 0 (F.map zg)),(5,oV 1 (O.map encI)),(6,.int .i64 (i:Int))])
   { H:=mkP (oH 0 5 (F.map zg)++oH 1 1 (O.map encI)),n:=2,log:=[] }:=by
 intro n
 induction n with
 | zero =>
   intro i O hi hO;have e:O=zcG F:=by rw[hO,List.take_of_length_le (by omega)]
   rw[<- e]at hQ;refine lp hρ hE hcon fun K hK=>?_
   rcases F with _|⟨x,F⟩
   . obtain rfl:i=0:=by simpa using hi
     rcases O with _|⟨y,O⟩<;>simp [zhs,hE]<;>exact LessQ.mk (Less.keep 2 (by simp) (by simp) rfl rfl) hQ
   . have hil:¬ (i:Int)<(F.length:Int)+1:=by simp at hi;omega
     rcases O with _|⟨y,O⟩<;>simp [zhs,hE,hil]<;>exact LessQ.mk (Less.keep 2 (by simp) (by simp) rfl rfl) hQ
 | succ n ih =>
   intro i O hi hO;have hil:i<F.length:=by omega
   have hw:IntKind.i64.wrap ((i:Int)+1)=((i+1:Nat):Int):=zw (by omega);have hOl:O.length<=10000:=by rw[hO];have:=zkM (F.take i);rw[List.length_take]at this;omega
   have hnew:zen O F[i]=zcG (F.take (i+1)):=by
    rw[List.take_add_one,List.getElem?_eq_getElem hil,Option.toList_some,ziK,hO]
   have hgi:(F.map zg)[i]?=some (zg F[i]):=by rw[List.getElem?_map,List.getElem?_eq_getElem hil];rfl
   refine lp hρ hE hcon fun K hK=>?_
   generalize F[i]=y at hnew hgi;rcases F with _|⟨x,F⟩
   . simp at hil
   have hil2:(i:Int)<(F.length:Int)+1:=by simp at hil;omega
   have hil3:i<F.length+1:=by simpa using hil
   simp only[List.map_cons,zdW]at hgi;have hgi3:∀ h,(zg x::F.map zg)[i]'h=zg y:=fun h=>by simp only[zdW];exact(List.getElem?_eq_some_iff.1 hgi).2
   simp only[zdW]at hgi3;have hd1:(i*5+2) / 5=i:=by omega
   have hd2:(i*5+2) % 5=2:=by omega
   by_cases hmem:y.id∈O
   . have hadd:zen O y=O:=if_pos hmem;rw[hadd]at hnew;rcases O with _|⟨z,O⟩
     . cases hmem
     . have hOl2:O.length+1<=1000000:=by simp at hOl;omega
       simp [zhs,hE,hil3,hc,hd1,hd2,hgi3,hmem,hw,hOl2,-Int.natCast_add,-List.mem_cons];exact hK _ _ (z8 (Less.keep 2 (by simp[-Int.natCast_add]) (by simp) rfl rfl) (ih (i+1) _ (by omega) hnew))
   . have hadd:zen O y=O++[y.id]:=if_neg hmem;rw[hadd]at hnew;rcases O with _|⟨z,O⟩
     . simp [zhs,hE,hil3,hc,hd1,hd2,hgi3,hw,-Int.natCast_add];exact hK _ _ (z8 (Less.lit (fun k=>if k=1 then 21 else k) 2 (by simp[-Int.natCast_add]) (by simp) rfl rfl) (ih (i+1) _ (by omega) hnew))
     . have hOl2:O.length+1<=1000000:=by simp at hOl;omega
       have h64:(O.length+1+1)*8<=1048576:=by simp at hOl;omega
       simp [zhs,hE,hil3,hc,hd1,hd2,hgi3,hmem,hw,hOl2,h64,Nat.not_succ_le_self,-Int.natCast_add,-List.mem_cons];exact hK _ _ (z8 (Less.keep 2 (by simp[-Int.natCast_add]) (by simp) rfl rfl) (ih (i+1) _ (by omega) hnew))
theorem zjn{d:Nat}(hcH:E.con 126=fnC (zH fun (l:List Int) (x:Int)=>if l.length<=1000000 then some (decide (x∈l))else none))(hc:E.con 125=ioS 5 (zvI (zc9 d)) zgs){l:List Ty}(hl:Ty.oks l=true)(hll:l.length<=10000)(hd:Ty.sizes l<=d)(hd2:(zx 1 l []).length<=10000)(hs:HS):CallOk ρ Tryz.prog 61 [enc l] hs (enc (zcb l)) hs:=by
 refine fn hρ hE hcon Tryz.func61 zMI rfl (by simp) ?_ hs;simp;refine zbx (zbH (z8 (Less.keep (TL:=[(0,.sl (l.map zg) false),(3,oV 0 (([]:List Ty).map zg)),(4,.int .i64 ((0:Nat):Int))]) (HL:=oH 0 5 (([]:List Ty).map zg)) 1 (by simp) (by simp) rfl rfl) (zgM hρ hE hcon hc hl hll hd hd2 ?_ l.length 0 [] (by omega) rfl)));have hlen:=zbc 1 l [];unfold zcb;have hF:=hd2;clear hd2;generalize zx 1 l []=F at hlen hF;rcases F with _|⟨y,F⟩
 . simp;refine zbx (zbH (z8 (Less.keep (TL:=[(3,oV 0 (([]:List Ty).map zg)),(5,oV 1 (([]:List Int).map encI)),(6,.int .i64 ((0:Nat):Int))]) (HL:=oH 0 5 (([]:List Ty).map zg)++oH 1 1 (([]:List Int).map encI)) 2 (by simp) (by simp) rfl rfl) (zdL hρ hE hcon hcH hF ?_ 0 0 [] (by simp) rfl)));generalize zcG []=O;rcases O with _|⟨z,O⟩<;>simp [hE]
 . simp;refine zbx (zbH (z8 (Less.keep (TL:=[(3,oV 0 ((y::F).map zg)),(5,oV 1 (([]:List Int).map encI)),(6,.int .i64 ((0:Nat):Int))]) (HL:=oH 0 5 ((y::F).map zg)++oH 1 1 (([]:List Int).map encI)) 2 (by simp) (by simp) rfl rfl) (zdL hρ hE hcon hcH hF ?_ (y::F).length 0 [] (by omega) rfl)));generalize zcG (y::F)=O;rcases O with _|⟨z,O⟩<;>simp [hE]
end
end Go.Proofs.YtpcmebclpindjaaGreat
/- The contracts of small functions,joined. -/
namespace Go.Proofs.YtpcmebclpindjaaGreat
open Go.J
open Go.J.Enc (enc)
set_option maxRecDepth 100000
set_option maxHeartbeats 1000000
theorem zo{c:Prop}{_:Decidable c}{α:Type}{x r:α}(h:(if c then some x else none)=some r):c/\x=r:=by
 split at h
 . cases h;exact⟨‹_›,rfl⟩
 . cases h
theorem fo{f:Nat}{fn:Func}{sc:SC}(hf:Tryz.prog.funcs[f]?=some fn)(hb:fn.body.bind zh=some sc):zeT Tryz.prog f:=zB3 hf (by
 cases h:fn.body with
 |none=>rw[h]at hb;cases hb
 |some c=>rfl)
abbrev EL(L:List (Nat×J.Spec)):Env:=z3i Tryz.prog pol L
section
variable {ρ:Nat->Value}(hρ:J.Good ρ)
include hρ
def zyI:J.Spec:=fnS (zH fun n m:Int=>if -1000000<=m/\m<=1000000 then some (zoW n m)else none)
theorem zKj:Valid ρ Tryz.prog 24 zyI:=v2 (fo Tryz.func24 zMX) fun a b r h hs=>by
 obtain⟨h1,rfl⟩:=zo h;exact zkD hρ (E:=EL []) rfl (zf valid_nil) (by omega) (by omega) hs
def z5O:J.Spec:=fnS (zy fun l:List Int=>some (decide (l.length<=60)))
theorem zNJ:Valid ρ Tryz.prog 14 z5O:=v1 (fo Tryz.func14 zNb) fun a r h hs=>by
 cases h;exact zkE hρ (E:=EL []) rfl (zf valid_nil) hs
def zGk:J.Spec:=fnS (zH fun (n:List Nat) (l:List Ty)=>if l.length<=10000 then some (zeU n l)else none)
theorem zHc:Valid ρ Tryz.prog 56 zGk:=v2 (fo Tryz.func56 zMJ) fun a b r h hs=>by
 obtain⟨h1,rfl⟩:=zo h;exact zkx hρ (E:=EL []) rfl (zf valid_nil) h1 hs
theorem zKk:Valid ρ Tryz.prog 27 (fnS (zex tInt)):=v0 (fo Tryz.func27 zMU) fun hs =>
 zkv hρ (E:=EL [(56,zGk)]) rfl (zf (za (zHc hρ) valid_nil)) rfl hs
theorem zyt:Valid ρ Tryz.prog 42 (fnS (zH fun a b:Ty=>some (zbI a b))):=v2 (fo Tryz.func42 zMQ) fun a b r h hs=>by
 cases h;exact zie hρ (E:=EL [(56,zGk)]) rfl (zf (za (zHc hρ) valid_nil)) rfl hs
theorem zNH:Valid ρ Tryz.prog 26 (fnS (zy fun i:Int=>some (za0 i))):=v1 (fo Tryz.func26 zMV) fun a r h hs=>by
 cases h;exact zku hρ (E:=EL []) rfl (zf valid_nil) hs
theorem zys:Valid ρ Tryz.prog 53 (fnS (zy fun i:Int=>some (zaU i))):=v1 (fo Tryz.func53 zML) fun a r h hs=>by
 cases h;exact zid hρ (E:=EL []) rfl (zf valid_nil) hs
theorem zyp:Valid ρ Tryz.prog 28 (fnS (zH fun h i:Int=>some (zaq h i))):=v2 (fo Tryz.func28 zMT) fun a b r h hs=>by
 cases h;exact zib hρ (E:=EL []) rfl (zf valid_nil) hs
theorem zpV:Valid ρ Tryz.prog 55 (stS (zkk zey)):=s1 (fo Tryz.func55 zMK) fun s a q h hs id hid hg=>by
 obtain⟨⟨h1,h2⟩,rfl⟩:=zo h;exact zfl hρ (E:=EL [(24,zyI)]) rfl (zf (za (zKj hρ) valid_nil)) rfl h1.1 h1.2 h2 hs id hid hg
theorem vEq(d:Nat):Valid ρ Tryz.prog 54 (fnS (zH (eqF d)))/\Valid ρ Tryz.prog 18 (fnS (zH (ziO d))):=by
 have all:∀ d,Valid ρ Tryz.prog 54 (fnS (zH (eqF d)))->Valid ρ Tryz.prog 18 (fnS (zH (ziO d))):=fun d hv=>v2 (fo Tryz.func18 zMY) fun a b r h hs=>by
  obtain⟨⟨h1,h2,h3⟩,rfl⟩:=zo h;exact zfB hρ (E:=EL [(54,fnS (zH (eqF d)))]) rfl (zf (za hv valid_nil)) rfl h1 h2 h3 hs
 have one:∀ d,Valid ρ Tryz.prog 54 (fnS (zH (eqF d))):=by
  intro d
  induction d with
  | zero =>
    refine v2 (fo Tryz.func54 zFH) fun a b r h hs=>?_
    obtain⟨⟨h1,h2⟩,rfl⟩:=zo h;have:=Ty.size_eq a;omega
  | succ d ih =>
    refine v2 (fo Tryz.func54 zFH) fun a b r h hs=>?_
    obtain⟨⟨h1,h2⟩,rfl⟩:=zo h;exact ze7 hρ (E:=EL [(18,fnS (zH (ziO d)))]) rfl (zf (za (all d ih) valid_nil)) rfl h1 h2 hs
 exact⟨one d,all d (one d)⟩
def z3h:J.Spec:=fnS (zH fun a b:Ty=>if a.ok=true then some (decide (a=b))else none)
theorem z9N:Valid ρ Tryz.prog 54 z3h:=v2 (fo Tryz.func54 zFH) fun a b r h hs=>by
 obtain⟨h1,rfl⟩:=zo h;exact ze7 hρ (E:=EL [(18,fnS (zH (ziO a.size)))]) rfl (zf (za (vEq hρ a.size).2 valid_nil)) rfl h1 (by omega) hs
theorem zvY(d:Nat):Valid ρ Tryz.prog 62 (fnS (zH (zjl d))):=by
 induction d with
 | zero =>
   refine v2 (fo Tryz.func62 zJh) fun a b r h hs=>?_
   obtain⟨⟨h1,h2,h3⟩,rfl⟩:=zo h;have:=Ty.size_eq a;omega
 | succ d ih =>
   refine v2 (fo Tryz.func62 zJh) fun a b r h hs=>?_
   obtain⟨⟨h1,h2,h3⟩,rfl⟩:=zo h;exact zgm hρ (E:=EL [(62,fnS (zH (zjl d)))]) rfl (zf (za ih valid_nil)) rfl h1 h2 h3 hs
theorem z3R(d:Nat):Valid ρ Tryz.prog 125 (ioS 5 (zvI (zc9 d)) zgs):=by
 induction d with
 | zero =>
   refine Valid.io (fo Tryz.func125 z5U) fun es vs r _ _ h0 _ _ _ hs v hv hvac=>?_
   obtain⟨l,a,b,q,rfl,rfl,h,rfl⟩:=zny h0;obtain⟨⟨h1,h2,h3⟩,rfl⟩:=zo h;have:=Ty.size_eq a;omega
 | succ d ih =>
   refine Valid.io (fo Tryz.func125 z5U) fun es vs r _ _ h0 _ _ _ hs v hv hvac=>?_
   obtain⟨l,a,b,q,rfl,rfl,h,rfl⟩:=zny h0;obtain⟨⟨h1,h2,h3,h4⟩,rfl⟩:=zo h;exact zgL hρ (E:=EL [(54,z3h),(125,ioS 5 (zvI (zc9 d)) zgs)]) rfl (zf (za (z9N hρ) (za ih valid_nil))) rfl rfl h2 h1 h3 h4 hv hvac
def zmy:J.Spec:=fnC (zH fun (l:List Int) (x:Int)=>if l.length<=1000000 then some (decide (x∈l))else none)
theorem zHb:Valid ρ Tryz.prog 126 zmy:=c2 (fo Tryz.func126 zCs) fun a b r h hs=>by
 obtain⟨h1,rfl⟩:=zo h;exact zkw hρ (E:=EL []) rfl (zf valid_nil) h1 hs
def zyo(d:Nat):J.Spec:=fnS (zy fun l:List Ty=>if Ty.oks l=true/\l.length<=10000/\Ty.sizes l<=d then some (zcb l)else none)
theorem zGW(d:Nat)(hd:d<=10000):Valid ρ Tryz.prog 61 (zyo d):=v1 (fo Tryz.func61 zMI) fun a r h hs=>by
 obtain⟨⟨h1,h2,h3⟩,rfl⟩:=zo h;exact zjn hρ (E:=EL [(126,zmy),(125,ioS 5 (zvI (zc9 d)) zgs)]) rfl (zf (za (zHb hρ) (za (z3R hρ d) valid_nil))) rfl rfl h1 h2 h3 (by have:=(zbc 1 a []).2;simp at this;omega) hs
end
end Go.Proofs.YtpcmebclpindjaaGreat
