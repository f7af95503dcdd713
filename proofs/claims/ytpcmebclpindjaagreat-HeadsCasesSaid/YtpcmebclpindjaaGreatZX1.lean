import Derived.Test.YtpcmebclpindjaaGreatZAG
import Derived.Test.YtpcmebclpindjaaGreatJL
set_option linter.all false
noncomputable section
namespace Go.Proofs.YtpcmebclpindjaaGreat
open Go.J
open Go.J.Enc (enc)
set_option maxRecDepth 100000
set_option maxHeartbeats 4000000
section
variable {ρ:Nat->Value}(hρ:J.Good ρ){E:Env}(hE:E.P=Tryz.prog)(hcon:ConsOk ρ E)
include hρ hE hcon
def eqF(d:Nat)(a b:Ty):Option Bool:=if a.ok=true/\a.size<=d then some (decide (a=b))else none
def zhe(d:Nat)(l m:List Ty):Option Bool:=if l.length<=10000/\Ty.oks l=true/\Ty.sizes l<=d then some (decide (l=m))else none
theorem zdB{d:Nat}(hc:E.con 18=fnS (zal (zhe d))){a b:Ty}(ha:a.ok=true)(hd:a.size<=d+1)(hs:HS):CallOk ρ E.P 54 [enc a,enc b] hs (enc (decide (a=b))) hs:=by
 refine znd hρ hcon (by rw[hE];exact follows) (by rw[hE];exact named) (by rw[hE];exact Tryz.func54) z6c rfl (by simp) ?_ hs;have h1:=Ty.ok_len ha;have h2:Ty.oks a.args=true:=Ty.oks_iff.2 (Ty.ok_iff.1 ha).2;have h3:Ty.sizes a.args<=d:=by have:=Ty.size_eq a;omega
 simp [hE]
 repeat' (refine zex (fun h=>?_) (fun h=>?_)<;>simp [h,hE,hc,zhe,h1,h2,h3])
 all_goals (rw[Ty.eq_iff];simp_all)
theorem zea{d:Nat}(hc:E.con 54=fnS (zal (eqF d))){l m:List Ty}(hl:l.length=m.length)(h1:l.length<=10000)(h2:∀ t∈l,t.ok=true/\t.size<=d){Q:Ex->PT V->HS->Prop}
 (hf:l≠m->∀ T hs,T.get 4=some (.bool false)->Q .ret T hs) (ht:l=m->∀ T hs,Q (.exit 0) T hs) :
 ∀ (n i:Nat),i+n=l.length->l.take i=m.take i->LsN ρ E 0 27 zkS Q (n+1) (mkP [(0,.sl (l.map zh) false),(1,.sl (m.map zh) false),(5,.int .i64 (i:Int))]) { H:=mkP [],n:=0,log:=[] }:=by
 intro n
 induction n with
 | zero =>
   intro i hi he;have hil:¬ (i:Int)<l.length:=by omega
   have e:l=m:=by
    have:i=l.length:=by omega
    subst this;rw[List.take_length]at he;rw[he,hl,List.take_length]
   refine zhU hρ hcon (by rw[hE];exact follows) (by rw[hE];exact named) fun K hK=>?_
   simp [zkS,hE,hil];exact ht e _ _
 | succ n ih =>
   intro i hi he;have hil:i<l.length:=by omega
   have hil':(i:Int)<l.length:=by omega
   have him:i<m.length:=by omega
   obtain⟨hx1,hx2⟩:=h2 l[i] (List.getElem_mem hil);refine zhU hρ hcon (by rw[hE];exact follows) (by rw[hE];exact named) fun K hK=>?_
   have hw:IntKind.i64.wrap ((i:Int)+1)=((i+1:Nat):Int):=zA (by omega);simp [zkS,hE,hil',hil,him,hc,eqF,hx1,hx2];refine zex (fun h=>?_) (fun h=>?_)<;>simp [hE,hw,-Int.natCast_add]
   . refine hf (fun e=>h ?_) _ _ (by simp);subst e;rfl
   . refine hK _ _ (zJ (Less.keep 0 (by simp[-Int.natCast_add]) (by simp) rfl rfl) (ih (i+1) (by omega) ?_));rw[List.take_add_one,List.take_add_one,he,List.getElem?_eq_getElem hil,List.getElem?_eq_getElem him,Classical.not_not.1 h]
theorem ze5{d:Nat}(hc:E.con 54=fnS (zal (eqF d))){l m:List Ty}(h1:l.length<=10000)(h2:Ty.oks l=true)(hd:Ty.sizes l<=d)(hs:HS):CallOk ρ E.P 18 [enc l,enc m] hs (enc (decide (l=m))) hs:=by
 refine znd hρ hcon (by rw[hE];exact follows) (by rw[hE];exact named) (by rw[hE];exact Tryz.func18) zCU rfl (by simp) ?_ hs;have h3:∀ t∈l,t.ok=true/\t.size<=d:=fun t ht=>⟨Ty.oks_iff.1 h2 t ht,by have:=Ty.size_mem ht;omega⟩
 simp [hE];refine zex (fun h=>?_) (fun h=>?_)<;>simp [hE]
 . intro e;subst e;exact h rfl
 . refine zcm (zJ (Less.keep (TL:=[(0,.sl (l.map zh) false),(1,.sl (m.map zh) false),(5,.int .i64 ((0:Nat):Int))]) (HL:=[]) 0 (by simp) (by simp) rfl rfl) (zea hρ hE hcon hc ?_ h1 h3 ?_ ?_ l.length 0 (by omega) (by simp)))
   . omega
   . intro hne T hs hT;simp[hT,hne,hE]
   . intro e T hs;simp [e,hE]
end
section
variable {ρ:Nat->Value}(hρ:J.Good ρ){E:Env}(hE:E.P=Tryz.prog)(hcon:ConsOk ρ E)
include hρ hE hcon
theorem ziA{n m:Int}(h1:-4611686018427387904<=m)(h2:m<=4611686018427387904)(hs:HS):CallOk ρ Tryz.prog 24 [enc n,enc m] hs (enc (zqi n m)) hs:=by
 refine fn hρ hE hcon Tryz.func24 zCQ rfl (by simp) ?_ hs;simp [hE];refine zex (fun h=>?_) (fun h=>?_)<;>simp [hE,h,zqi]
 have hm:1<=m:=by omega
 have hm1:¬ m<1:=h;have hm0:¬ m=0:=by omega
 simp[hm0];refine zex (fun h=>?_) (fun h=>?_)<;>simp [hE,h]
 . have h3:=Int.lt_tmod_of_pos n (show 0<m by omega);rw[wrap_i64 (by omega) (by omega),if_neg hm1,zpv hm h]
 . rw[if_neg hm1,zpu hm (by omega)]
theorem ziB{l:List Int}(hs:HS):CallOk ρ Tryz.prog 14 [enc l] hs (enc (decide (l.length<=60))) hs:=by
 refine fn hρ hE hcon Tryz.func14 zCW rfl (by simp) ?_ hs;simp [hE];omega
theorem ziu{n:List Nat}{l:List Ty}(hl:l.length<=10000)(hs:HS):CallOk ρ Tryz.prog 56 [enc n,enc l] hs (enc (zh0 n l)) hs:=by
 refine fn hρ hE hcon Tryz.func56 zCH rfl (by simp) ?_ hs;rcases l with _|⟨x,l⟩
 . simp [hE,zh0]
 . have h1:(l.length+1)*64<=1048576:=by simp at hl;omega
   simp [hE,zh0,h1]
theorem zis(hc:E.con 56=fnS (zal fun n l=>if l.length<=10000 then some (zh0 n l)else none))(hs:HS):CallOk ρ Tryz.prog 27 [] hs (enc tInt) hs:=by
 refine fn hρ hE hcon Tryz.func27 zCN rfl (by simp) ?_ hs;simp [hE,zh0,tInt,hc]
theorem zg2(hc:E.con 56=fnS (zal fun n l=>if l.length<=10000 then some (zh0 n l)else none)){a b:Ty}(hs:HS):CallOk ρ Tryz.prog 42 [enc a,enc b] hs (enc (zd9 a b)) hs:=by
 refine fn hρ hE hcon Tryz.func42 zCK rfl (by simp) ?_ hs;simp [hE,zh0,zd9,hc]
theorem zir{i:Int}(hs:HS):CallOk ρ Tryz.prog 26 [enc i] hs (enc (zfs i)) hs:=by
 refine fn hρ hE hcon Tryz.func26 zCO rfl (by simp) ?_ hs;simp [hE,zfs]
theorem zg1{i:Int}(hs:HS):CallOk ρ Tryz.prog 53 [enc i] hs (enc (zeK i)) hs:=by
 refine fn hρ hE hcon Tryz.func53 zCJ rfl (by simp) ?_ hs;simp [hE,zeK]
theorem zg0{h i:Int}(hs:HS):CallOk ρ Tryz.prog 28 [enc h,enc i] hs (enc (zbL h i)) hs:=by
 refine fn hρ hE hcon Tryz.func28 zCM rfl (by simp) ?_ hs;simp [hE,zbL]
theorem zei(hc:E.con 24=fnS (zal fun n m=>if -1000000<=m/\m<=1000000 then some (zqi n m)else none)){t:Tp}{n:Int}(hi:0<=t.i)(hl:t.l.length<=100000)(hn:-1000000<=n/\n<=1000000)(hs:HS)(id:Nat)(hid:id<hs.n)(hg:hs.H.get id=some (box (Cel.cells t))) :
 CallOk ρ Tryz.prog 55 [.ptr id 0 0,enc n] hs (enc (t.next n).2) (hs.wr id (box (Cel.cells (t.next n).1))):=by
 refine st hρ hE hcon Tryz.func55 zCI rfl (by simp) (by simp) (by simp) (by simp) ?_ hid hg;obtain⟨l,i⟩:=t;obtain⟨j,rfl⟩:=Int.eq_ofNat_of_zero_le hi;simp only at hl;simp [hE];refine zex (fun h=>?_) (fun h=>?_)
 . simp [hE,h,Tp.next];exact GivesL.keep rfl rfl (by simp) (by simp) (by simp)
 . have hw:IntKind.i64.wrap ((j:Int)+1)=((j+1:Nat):Int):=zA (by omega);have hw2:IntKind.i64.wrap (((j+1:Nat):Int)-1)=(j:Int):=by rw[wrap_i64 (by omega) (by omega)];omega
   have hj:j<l.length:=by omega
   simp [hE,h,hw,hw2,hj,hc,hn,Tp.next,-Int.natCast_add];exact GivesL.keep rfl rfl (by simp) (by simp) (by simp)
end
section
variable {ρ:Nat->Value}(hρ:J.Good ρ){E:Env}(hE:E.P=Tryz.prog)(hcon:ConsOk ρ E)
include hρ hE hcon
theorem zg7(hc:E.con 26=fnS (zbI fun i=>some (zfs i))){n:Nat}(hn:n<=10000){Q:Ex->PT V->HS->Prop}
 (hQ:Q (.exit 0) (mkP [(3,oV 0 ((zcn n).map zh))]) { H:=mkP (oH 0 5 ((zcn n).map zh)),n:=1,log:=[] }) :
 ∀ (m i:Nat) (L:List Ty),i+m=n->L=zcn i->LsN ρ E 0 16 ziW (LessQ 0 Q) (m+1) (mkP [(0,.int .i64 (n:Int)),(3,oV 0 (L.map zh)),(4,.int .i64 (i:Int))]) { H:=mkP (oH 0 5 (L.map zh)),n:=1,log:=[] }:=by
 intro m
 induction m with
 | zero =>
   intro i L hi hL;obtain rfl:i=n:=by omega
   refine lp hρ hE hcon fun K hK=>?_
   rw[<- hL]at hQ;simp [ziW,hE];refine LessQ.mk (Less.keep 1 ?_ ?_ ?_ rfl) hQ<;>rcases L with _|⟨x,L⟩<;>first|rfl|simp
 | succ m ih =>
   intro i L hi hL;have hil:(i:Int)<n:=by omega
   have hw:IntKind.i64.wrap ((i:Int)+1)=((i+1:Nat):Int):=zA (by omega);have hLl:L.length=i:=by rw[hL];simp
   have hnew:L++[zfs i]=zcn (i+1):=by rw[hL,zlk]
   refine lp hρ hE hcon fun K hK=>?_
   rcases L with _|⟨x,L⟩
   . simp [ziW,hE,hil,hc,hw,-Int.natCast_add];exact hK _ _ (zJ (Less.lit (fun k=>if k=0 then 8 else k) 1 (by simp[-Int.natCast_add]) (by simp) rfl rfl) (ih (i+1) _ (by omega) hnew))
   . have h64:(L.length+1+1)*64<=1048576:=by simp at hLl;omega
     simp [ziW,hE,hil,hc,hw,h64,Nat.not_succ_le_self,-Int.natCast_add];exact hK _ _ (zJ (Less.keep 1 (by simp[-Int.natCast_add]) (by simp) rfl rfl) (ih (i+1) _ (by omega) hnew))
theorem zhI(hc:E.con 26=fnS (zbI fun i=>some (zfs i))){n:Nat}(hn:n<=10000){hs:HS}(hv:hs.H.get hs.n=none) :
 CallOk ρ Tryz.prog 25 [enc (n:Int)] hs (oV hs.n ((zcn n).map zh)) (bi (Nat.beq (zC ((zcn n).map zh)) 0) hs { H:=hs.H.set hs.n (oO 5 ((zcn n).map zh)),n:=hs.n+1,log:=hs.n::hs.log }):=by
 refine row hρ hE hcon Tryz.func25 zCP rfl (by simp) (by simp) ?_ hv;simp [hE]
 refine zbX (zcm (zJ (Less.keep (TL:=[(0,.int .i64 (n:Int)),(3,oV 0 (([]:List Ty).map zh)),(4,.int .i64 ((0:Nat):Int))]) (HL:=oH 0 5 (([]:List Ty).map zh)) 1 (by simp) (by simp) rfl rfl)
  (zg7 hρ hE hcon hc hn ?_ n 0 [] (by omega) rfl)))
 generalize zcn n=L;rcases L with _|⟨x,L⟩
 . simp [hE];exact GivesL.keepX rfl rfl (by simp) (by simp)
 . simp [hE];exact GivesL.keepX rfl rfl (by simp) (by simp)
end
section
variable {ρ:Nat->Value}(hρ:J.Good ρ){E:Env}(hE:E.P=Tryz.prog)(hcon:ConsOk ρ E)
include hρ hE hcon
theorem zg8 (hc:E.con 57=fnS (zf0 allD)) {bits:Int} (hs:HS):CallOk ρ Tryz.prog 16 [enc bits] hs (enc (zaE bits)) hs:=by
 refine fn hρ hE hcon Tryz.func16 zCV rfl (by simp) ?_ hs;have hlen:allD.length=7:=rfl;unfold zaE zmz;generalize allD=A at hc hlen;have h1:A[1]?=some A[1]:=List.getElem?_eq_getElem (by omega);rw[h1]
 have main : ∀ (L0:List Decl),L0.length<=1->∀ T hs,Less 0 T hs (mkP [(0,.int .i64 bits),(3,.sl (A.map zn) false),(4,oV 0 (L0.map zn)),(5,.int .i64 ((0:Nat):Int))]) { H:=mkP (oH 0 4 (L0.map zn)),n:=1,log:=[] } ->
  ∀ Q,Q (.exit 0) (mkP [(4,oV 0 ((L0++zgH bits A 0).map zn))]) { H:=mkP (oH 0 4 ((L0++zgH bits A 0).map zn)),n:=1,log:=[] }->Ls ρ E 0 45 (.loop zeV) T hs Q:=by
  intro L0 hL0 T hs hl Q hQ;refine lpi hρ hE hcon 7 (fun i (L:List Decl)=>[(0,.int .i64 bits),(3,.sl (A.map zn) false),(4,oV 0 (L.map zn)),(5,.int .i64 (i:Int))]) (fun i L=>oH 0 4 (L.map zn)) (fun i L=>L=L0++zgH bits (A.take i) 0) L0 hl (by simp[zgH]) ?_ ?_
  . intro L hL K;rw[List.take_of_length_le (by omega)]at hL;subst hL;generalize L0++zgH bits A 0=L at hQ;simp [zeV,hE,hlen];rcases L with _|⟨x,L⟩<;>simp [zeV,hE,hlen]<;>exact LessQ.mk (Less.auto (by simp) (by simp) rfl rfl) hQ
  . intro i L hi hL K hK;have hil:i<A.length:=by omega
    have hi7:(i:Int)<7:=by omega
    have hw:IntKind.i64.wrap ((i:Int)+1)=((i+1:Nat):Int):=zA (by omega)
    have hL8:L.length<=8:=by
     rw[hL,List.length_append];have:=zkA bits (A.take i) 0;rw[List.length_take]at this;omega
    have hnew:∀ L',L'=(if i≠1/\zqX .i64 (bits.fdiv (2 ^ i)) 1=1 then L++[A[i]]else L)->L'=L0++zgH bits (A.take (i+1)) 0:=by
     intro L' h;rw[h,List.take_add_one,List.getElem?_eq_getElem hil,Option.toList_some,zpB,hL];have:(A.take i).length=i:=by rw[List.length_take];omega
     rw[this,Nat.zero_add];simp only[zgH];split<;>simp
    clear hL;have hgd:∀ h,A[i]'h=A[i]:=fun _=>rfl
    have hw2:IntKind.i64.wrap 2=2:=wrap_i64 (by omega) (by omega)
    have hwu:IntKind.u64.wrap (i:Int)=(i:Int):=by
     have:i<7:=hi
     match i,this with
     | 0,_=>rfl
     | 1,_=>rfl
     | 2,_=>rfl
     | 3,_=>rfl
     | 4,_=>rfl
     | 5,_=>rfl
     | 6,_=>rfl
     |n+7,h=>omega
    have hmin:min i IntKind.i64.bits=i:=Nat.min_eq_left (Nat.le_trans (Nat.le_of_lt hi) (by decide));by_cases h1i:i=1
    . subst h1i;have hnew:=hnew L (by simp);rcases L with _|⟨x,L⟩<;>simp [zeV,hE,hlen,hw2,-Int.natCast_add]<;>exact hK _ hnew _ _ (Less.auto (by simp) (by simp) rfl rfl)
    . have h1i':¬ (i:Int)=1:=by omega
      by_cases hb:zqX .i64 (bits.fdiv (2 ^ i)) 1=1
      . have hnew:=hnew _ (if_pos ⟨h1i,hb⟩).symm;rcases L with _|⟨x,L⟩
        . simp [zeV,hE,hlen,hi7,hil,hw,hwu,hmin,hi,h1i',hb,-Int.natCast_add];exact hK _ hnew _ _ (Less.auto (by simp[-Int.natCast_add]) (by simp) rfl rfl)
        . have h64:(L.length+1+1)*72<=1048576:=by simp at hL8;omega
          simp [zeV,hE,hlen,hi7,hil,hw,hwu,hmin,hi,h1i',hb,h64,Nat.not_succ_le_self,-Int.natCast_add];exact hK _ hnew _ _ (Less.auto (by simp[-Int.natCast_add]) (by simp) rfl rfl)
      . have hnew:=hnew _ (if_neg fun h=>hb h.2).symm;rcases L with _|⟨x,L⟩<;>simp [zeV,hE,hlen,hi7,hil,hw,hwu,hmin,hi,h1i',hb,-Int.natCast_add]<;>exact hK _ hnew _ _ (Less.auto (by simp[-Int.natCast_add]) (by simp) rfl rfl)
 by_cases h2:zqX .i64 bits 2=0
 . by_cases h64:zqX .i64 bits 64=0
   . rw[if_neg (by simp[h2,h64])];simp [hE,hc,hlen,h2,h64];refine main [] (by simp) _ _ (Less.auto (by simp) (by simp) rfl rfl) _ ?_;rw[List.nil_append];generalize zgH bits A 0=R;rcases R with _|⟨y,R⟩<;>simp [hE]
   . rw[if_pos (.inr h64)];simp [hE,hc,hlen,h2,h64];refine main [A[1]] (by simp) _ _ (Less.auto (by simp) (by simp) rfl rfl) _ ?_;simp [hE]
 . rw[if_pos (.inl h2)];simp [hE,hc,hlen,h2];refine main [A[1]] (by simp) _ _ (Less.auto (by simp) (by simp) rfl rfl) _ ?_;simp [hE]
end
open Classical in
def zfa(t:Tp)(n:Int):Option (Tp×Int):=if t.ok/\-1000000<=n/\n<=1000000 then some (t.next n)else none
open Classical in
def zhz(d:Nat)(t:Tp)(D:List Decl)(Lv:List Ty)(n:Int):Option (Tp×Ty):=if t.ok/\DOk D/\Lv.length<=100000/\n<=d then some (typeM n.toNat t D Lv)else none
section
variable {ρ:Nat->Value}(hρ:J.Good ρ){E:Env}(hE:E.P=Tryz.prog)(hcon:ConsOk ρ E)
include hρ hE hcon
theorem zeh (hN:E.con 55=stS (zk5 zfa)) (hC:E.con 56=fnS (zal fun n l=>if l.length<=10000 then some (zh0 n l)else none)) (hI:E.con 27=fnS (zf0 tInt)) (hA:E.con 42=fnS (zal fun a b=>some (zd9 a b)))
 {d:Nat} {n:Int} (hT0:0<n->E.con 15=stS (zp2 (zhz d))) {t:Tp} {D:List Decl} {Lv:List Ty} (ht:t.ok) (hD:DOk D) (hLv:Lv.length<=100000) (hn:n<=d+1) (hdd:d<=1000) (hs:HS) (id:Nat) (hid:id<hs.n) (hg:hs.H.get id=some (box (Cel.cells t))) :
 CallOk ρ Tryz.prog 15 [.ptr id 0 0,enc D,enc Lv,enc n] hs (enc (typeM n.toNat t D Lv).2) (hs.wr id (box (Cel.cells (typeM n.toNat t D Lv).1))):=by
 have h7:zfa t 7=some (t.next 7):=if_pos ⟨ht,by omega,by omega⟩;have ht1:=zbc ht 7;have hk0:=zfE t 7;generalize hR:typeM n.toNat t D Lv=R;rw[typeM.eq_def]at hR;rcases hq:t.next 7 with⟨t1,k⟩;simp only[hq]at h7 ht1 hk0 hR;refine st hρ hE hcon Tryz.func15 z6d rfl (by simp) (by simp) (by simp) (by simp) ?_ hid hg;by_cases c1:k<3/\Lv≠[]
 . rw[if_pos c1]at hR;obtain⟨j,hj,e1,e2⟩:=zcr t1 c1.2;have hF:zfa t1 (Lv.length:Int)=some (t1.next (Lv.length:Int)):=if_pos ⟨ht1,by omega,by omega⟩;rw[e2]at hR;rcases hq2:t1.next (Lv.length:Int)with⟨t2,k2⟩;simp only[hq2]at hF e1 hR;subst e1 hR;have hlp:0<Lv.length:=by omega
   simp [hE,hN,h7,c1.1,hlp,hF,hj];exact GivesL.keep rfl rfl (by simp) (by simp) (by simp)
 . rw [if_neg c1]at hR;have hp1:¬ (k<3/\0<Lv.length):=fun h=>c1 ⟨h.1,List.length_pos_iff.1 h.2⟩
   by_cases c2:k<4
   . rw[if_pos c2]at hR;subst hR;by_cases c3:k<3
     . have hL0:Lv=[]:=Classical.byContradiction fun h=>c1 ⟨c3,h⟩
       subst hL0;simp [hE,hN,h7,c3,c2,hI];exact GivesL.keep rfl rfl (by simp) (by simp) (by simp)
     . simp [hE,hN,h7,c3,c2,hI];exact GivesL.keep rfl rfl (by simp) (by simp) (by simp)
   . rw [if_neg c2]at hR;have c3:¬ k<3:=by omega
     by_cases c4:n<1
     . have h0:n.toNat=0:=by omega
       rw[h0]at hR;simp only[]at hR;subst hR;simp [hE,hN,h7,c3,c2,c4,hI];exact GivesL.keep rfl rfl (by simp) (by simp) (by simp)
     . have hT := hT0 (by omega);obtain⟨m,hm⟩:∃ m,n.toNat=m+1:=⟨n.toNat-1,by omega⟩;have hnm:n=(m:Int)+1:=by omega
       have hmd:m<=d:=by omega
       rw[hm]at hR;simp only[]at hR;have hw:IntKind.i64.wrap (n-1)=(m:Int):=by rw[hnm,wrap_i64 (by omega) (by omega)];omega
       have hTy:∀ t':Tp,t'.ok->zhz d t' D Lv (m:Int)=some (typeM m t' D Lv):=fun t' h=>by
        unfold zhz;rw[if_pos ⟨h,hD,hLv,by omega⟩,Int.toNat_natCast]
       by_cases c5:(k=4\/k=5)/\D≠[]
       . rw [if_pos c5]at hR;obtain⟨j,hj,e1,e2⟩:=zcr t1 c5.2;have hF:zfa t1 (D.length:Int)=some (t1.next (D.length:Int)):=if_pos ⟨ht1,by have:=hD.1;omega,by have:=hD.1;omega⟩;have ht2:=zbc ht1 (D.length:Int);rw[e2]at hR;rcases hq2:t1.next (D.length:Int)with⟨t2,k2⟩;simp only[hq2,Option.getD_some]at hF e1 hR ht2;subst e1;have hdp:=hD.2 _ (List.getElem_mem hj);have hDp:0<D.length:=by omega
         generalize hdj:D[j]=dd at hR hdp;obtain⟨dpos,dname,dparams,dctors⟩:=dd;simp only at hR hdp
         have main:∀ T hs,Less 1 T hs (mkP [(0,.ptr 0 0 0),(1,.sl (D.map zn) false),(2,.sl (Lv.map zh) false),(3,.int .i64 n),(8,.ptr 1 0 0),(10,.ptr 2 0 0),(11,oV 3 (([]:List Ty).map zh)),(12,.int .i64 ((0:Nat):Int))])
          { H:=mkP ([(0,box (Cel.cells t2)),(1,box [.int .i64 0,.str [],.int .i64 0,.int .i64 0,.snil]),(2,box (zn ⟨dpos,dname,dparams,dctors⟩))]++oH 3 5 (([]:List Ty).map zh)),n:=4,log:=[] } ->
          ∀ Q,Q (.exit 1) (mkP [(8,.ptr 1 0 0),(10,.ptr 2 0 0),(11,oV 3 ((zbH m t2 D Lv dparams.length).2.map zh))])
            { H:=mkP ([(0,box (Cel.cells (zbH m t2 D Lv dparams.length).1)),(1,box [.int .i64 0,.str [],.int .i64 0,.int .i64 0,.snil]),(2,box (zn ⟨dpos,dname,dparams,dctors⟩))]++oH 3 5 ((zbH m t2 D Lv dparams.length).2.map zh)),n:=4,log:=[] } ->
          Ls ρ E 1 95 (.loop ziX) T hs Q:=by
          intro T hs hl Q hQ
          refine lpi hρ hE hcon dparams.length (fun i (p:Tp×List Ty)=>[(0,.ptr 0 0 0),(1,.sl (D.map zn) false),(2,.sl (Lv.map zh) false),(3,.int .i64 n),(8,.ptr 1 0 0),(10,.ptr 2 0 0),(11,oV 3 (p.2.map zh)),(12,.int .i64 (i:Int))])
           (fun i p=>[(0,box (Cel.cells p.1)),(1,box [.int .i64 0,.str [],.int .i64 0,.int .i64 0,.snil]),(2,box (zn ⟨dpos,dname,dparams,dctors⟩))]++oH 3 5 (p.2.map zh)) (fun i p=>p=zbH m t2 D Lv i) (t2,[]) hl (by rw[zbH]) ?_ ?_
          . intro p hp K;rw[<- hp]at hQ;obtain⟨t3,L⟩:=p;rcases L with _|⟨x,L⟩<;>simp [ziX,hE]<;>exact LessQ.mk (Less.auto (by simp) (by simp) rfl rfl) hQ
          . intro i p hi hp K hK;have hlen:=zez m t2 D Lv i;have hok:=zqW (D:=D) (Lv:=Lv) m ht2 i;rw[<- hp]at hlen hok;have hTp:=hTy p.1 hok;have hnew:=hK (typeM m p.1 D Lv |>.1,p.2++[(typeM m p.1 D Lv).2]) (by rw[zbH,<- hp]);have hi':(i:Int)<dparams.length:=by omega
            have hw2:IntKind.i64.wrap ((i:Int)+1)=((i+1:Nat):Int):=zA (by omega);obtain⟨t3,L⟩:=p;simp only at hTp hnew hlen;rcases hq3:typeM m t3 D Lv with⟨t4,x4⟩;simp only[hq3]at hTp hnew;rcases L with _|⟨x,L⟩
            . simp [ziX,hE,hi,hi',hw,hw2,hT,hTp,-Int.natCast_add];exact hnew _ _ (Less.auto (by simp[-Int.natCast_add]) (by simp) rfl rfl)
            . have h64:(L.length+1+1)*64<=1048576:=by simp at hlen;omega
              simp [ziX,hE,hi,hi',hw,hw2,hT,hTp,h64,Nat.not_succ_le_self,-Int.natCast_add];exact hnew _ _ (Less.auto (by simp[-Int.natCast_add]) (by simp) rfl rfl)
         have hlenR:=zez m t2 D Lv dparams.length;rcases hq4:zbH m t2 D Lv dparams.length with⟨t5,L⟩;simp only[hq4]at main hR hlenR;subst hR;have hlen2:L.length<=10000:=by omega
         rcases c5.1 with rfl|rfl<;>simp [hE,hN,h7,c4,hF,hj,hdj,hDp]<;>refine main _ _ (Less.auto (by simp) (by simp) rfl rfl) _ ?_ <;>
         (rcases L with _|⟨x,L⟩
          . simp [hE,hC];exact GivesL.keep rfl rfl (by simp[zh0]) (by simp) (by simp)
          . have hl9:L.length<=9999:=by simpa using hlen2
            simp [hE,hC,hl9]
            exact GivesL.keep rfl rfl (by simp[zh0]) (by simp) (by simp))
       . rw [if_neg c5]at hR;have hp5:¬ ((k=4\/k=5)/\0<D.length):=fun h=>c5 ⟨h.1,List.length_pos_iff.1 h.2⟩
         have hF1:=hTy t1 ht1;have ht2:=(zfh (D:=D) (Lv:=Lv) m t1 ht1).1;rcases hq2:typeM m t1 D Lv with⟨t2,a⟩;simp only[hq2]at hF1 hR ht2;have hF2:=hTy t2 ht2;rcases hq3:typeM m t2 D Lv with⟨t3,b⟩;simp only[hq3]at hF2 hR;subst hR;have hD0:(k=4\/k=5)->D=[]:=fun h=>Classical.byContradiction fun hne=>c5 ⟨h,hne⟩
         by_cases c6:k=4
         . have:=hD0 (.inl c6);subst this c6;simp [hE,hN,h7,c4,hw,hT,hF1,hF2,hA];exact GivesL.keep rfl rfl (by simp) (by simp) (by simp)
         . by_cases c7:k=5
           . have:=hD0 (.inr c7);subst this c7;simp [hE,hN,h7,c4,hw,hT,hF1,hF2,hA];exact GivesL.keep rfl rfl (by simp) (by simp) (by simp)
           . simp [hE,hN,h7,c3,c2,c4,c6,c7,hw,hT,hF1,hF2,hA];exact GivesL.keep rfl rfl (by simp) (by simp) (by simp)
end
def zh1(d:Nat)(t:Ty)(s:List Assign):Option Ty:=if t.ok=true/\t.size<=d/\s.length<=100000 then some (t.repl s)else none
section
variable {ρ:Nat->Value}(hρ:J.Good ρ){E:Env}(hE:E.P=Tryz.prog)(hcon:ConsOk ρ E)
include hρ hE hcon
theorem zeY {d:Nat} (hc:E.con 62=fnS (zal (zh1 d))) {t:Ty} {s:List Assign} (ht:t.ok=true) (hd:t.size<=d+1) (hsl:s.length<=100000) (hs:HS):CallOk ρ Tryz.prog 62 [enc t,enc s] hs (enc (t.repl s)) hs:=by
 refine fn hρ hE hcon Tryz.func62 z98 rfl (by simp) ?_ hs;rw[zjE];by_cases hk:t.kind=1
 . rw [if_pos hk];simp [hE,hk]
   refine lpi hρ hE hcon s.length (nn:=2) (fun i (_:Unit)=>[(1,.sl (s.map zQ) false),(2,.ptr 0 0 0),(4,.ptr 1 0 0),(5,.int .i64 (i:Int))]) (fun i _=>[(0,box (zh t)),(1,box [.int .i64 0,.str [],.int .i64 0,.int .i64 0,.snil])]) (fun i _=>zd6 (s.take i) t.id=none) ()
    (Less.auto (by simp) (by simp[hk]) rfl rfl) rfl ?_ ?_
   . intro _ hl K;rw[List.take_length]at hl;simp [zkR,hE];refine LessQ.mk (Less.auto (TL:=[(2,.ptr 0 0 0),(4,.ptr 1 0 0)]) (HL:=[(0,box (zh t)),(1,box [.int .i64 0,.str [],.int .i64 0,.int .i64 0,.snil])]) (n:=2) (by simp) (by simp[hk]) rfl rfl) ?_;simp [hE,hl,hk]
   . intro i _ hi hl K hK;have hi':(i:Int)<s.length:=by omega
     have hw2:IntKind.i64.wrap ((i:Int)+1)=((i+1:Nat):Int):=zA (by omega)
     have hlk:∀ j,zd6 (s.take (i+1)) j=(zd6 (s.take i) j).or (zd6 [s[i]] j):=fun j=>by
      rw[List.take_add_one,List.getElem?_eq_getElem hi,Option.toList_some,ziE]
     by_cases he:s[i].id=t.id
     . have hres:zd6 s t.id=some s[i].type:=by
        conv=>lhs;rw[<- List.take_append_drop (i+1) s]
        rw[ziE,hlk,hl];simp[zd6,he]
       simp [zkR,hE,hi,hi',he,hk];refine LessQ.mk (Less.auto (TL:=[(4,.ptr 1 0 0)]) (HL:=[(1,box (zh s[i].type))]) (n:=2) (by simp) (by simp) rfl rfl) ?_;simp [hE,hres]
     . have hnew:=hK () (by rw[hlk,hl];simp[zd6,he]);simp [zkR,hE,hi,hi',he,hk,hw2,-Int.natCast_add];exact hnew _ _ (Less.auto (by simp[-Int.natCast_add]) (by simp[hk]) rfl rfl)
 . rw [if_neg hk];simp [hE,hk];have hlen:=Ty.ok_len ht
   refine lpi hρ hE hcon t.args.length (nn:=4) (fun i (L:List Ty)=>[(1,.sl (s.map zQ) false),(2,.ptr 0 0 0),(4,.ptr 1 0 0),(6,.ptr 2 0 0),(7,.int .i64 (i:Int))])
    (fun i L=>[(0,box (zh t)),(1,box [.int .i64 0,.str [],.int .i64 0,.int .i64 0,.snil]),(2,box [.int .i64 t.kind,.str t.name,.int .i64 t.id,.int .i64 t.home,oV 3 (L.map zh)])]++oH 3 5 (L.map zh)) (fun i L=>L=(t.args.take i).map (Ty.repl s)) []
    (Less.auto (by simp) (by simp) (by simp) (by simp)) rfl ?_ ?_
   . intro L hL K;rw[List.take_length]at hL;rw[<- hL];clear hL;rcases L with _|⟨x,L⟩
     . simp [ziT,hE];refine LessQ.mk (Less.auto (TL:=[(4,.ptr 1 0 0),(6,.ptr 2 0 0)]) (HL:=[(1,box [.int .i64 0,.str [],.int .i64 0,.int .i64 0,.snil]),(2,box [.int .i64 t.kind,.str t.name,.int .i64 t.id,.int .i64 t.home,.snil])]) (n:=4) (by simp) (by simp) (by simp) (by simp)) ?_;simp [hE]
     . simp [ziT,hE];refine LessQ.mk (Less.auto (TL:=[(4,.ptr 1 0 0),(6,.ptr 2 0 0)]) (HL:=[(1,box [.int .i64 0,.str [],.int .i64 0,.int .i64 0,.snil]),(2,box [.int .i64 t.kind,.str t.name,.int .i64 t.id,.int .i64 t.home,oV 3 ((x::L).map zh)])]++oH 3 5 ((x::L).map zh)) (n:=4) (by simp) (by simp) (by simp) (by simp)) ?_;simp [hE]
   . intro i L hi hL K hK;have hi':(i:Int)<t.args.length:=by omega
     have hw2:IntKind.i64.wrap ((i:Int)+1)=((i+1:Nat):Int):=zA (by omega);have hm:=List.getElem_mem hi
     have hF:zh1 d t.args[i] s=some (t.args[i].repl s):=by
      unfold zh1;rw[if_pos ⟨Ty.ok_arg ht hm,by have:=Ty.size_arg hm;omega,hsl⟩]
     have hnew:=hK (L++[t.args[i].repl s]) (by rw[List.take_add_one,List.getElem?_eq_getElem hi,Option.toList_some,List.map_append,hL];rfl);have hLl:L.length=i:=by rw[hL,List.length_map,List.length_take];omega
     clear hL;generalize t.args[i].repl s=y at hF hnew;rcases L with _|⟨x,L⟩
     . simp [ziT,hE,hi,hi',hc,hF,hw2,-Int.natCast_add];exact hnew _ _ (Less.auto (by simp[-Int.natCast_add]) (by simp) (by simp) (by simp))
     . have h64:(L.length+1+1)*64<=1048576:=by simp at hLl;omega
       simp [ziT,hE,hi,hi',hc,hF,hw2,h64,Nat.not_succ_le_self,-Int.natCast_add];exact hnew _ _ (Less.auto (by simp[-Int.natCast_add]) (by simp) (by simp) (by simp))
end
def zcg(d:Nat)(L:List Ty)(t:Ty)(kind:Int):Option (List Ty):=if t.size<=d/\t.ok=true/\Ty.oks L=true/\(zZ kind t L).length<=10000 then some (zZ kind t L)else none
theorem zfG(kind:Int):∀ (l:List Ty) (i:Nat) (L0:List Ty),(zw kind (l.take i) L0).length<=(zw kind l L0).length:=by
 intro l
 induction l with
 |nil=>intro i L0;simp
 | cons a l ih =>
   intro i L0
   cases i with
   |zero=>exact(zaP kind (a::l) L0).1
   | succ i =>
     rw[List.take_succ_cons,zw,zw];exact ih i _
section
variable {ρ:Nat->Value}(hρ:J.Good ρ){E:Env}(hE:E.P=Tryz.prog)(hcon:ConsOk ρ E)
include hρ hE hcon
theorem zc2 {d:Nat} (hc:E.con 125=ioS 5 (zpe (zcg d)) zkM) {k:Nat} {t:Ty} {kind:Int} {L0:List Ty} (hk:k=0\/k=1/\L0≠[]) (ht:t.ok=true) (hd:t.size<=d+1) (h0:Ty.oks L0=true) (hl0:(zw kind t.args L0).length<=10000) {Q:Ex->PT V->HS->Prop}
 (hQ:Q (.exit 2) (mkP [(0,oV 0 ((zw kind t.args L0).map zh))]) { H:=mkP (oH 0 5 ((zw kind t.args L0).map zh)),n:=1,log:=[] }) :
 ∀ (n i:Nat) (L:List Ty),i+n=t.args.length->L=zw kind (t.args.take i) L0->LsN ρ E k 52 zdl (LessQ k Q) (n+1) (mkP [(0,oV 0 (L.map zh)),(2,.int .i64 kind),(4,.ptr 1 0 0),(8,.int .i64 (i:Int))])
   { H:=mkP ((1,box (zh t))::oH 0 5 (L.map zh)),n:=2,log:=[] }:=by
 intro n
 induction n with
 | zero =>
   intro i L hi hL;have hil:¬ (i:Int)<t.args.length:=by omega
   have e:L=zw kind t.args L0:=by rw[hL,List.take_of_length_le (by omega)]
   rw[<- e]at hQ;have hlen:=zaP kind t.args L0;rw[<- e]at hlen;refine lp hρ hE hcon fun K hK=>?_
   rcases L with _|⟨x,L⟩
   . have hk0:k=0:=by
      rcases hk with h|⟨_,h⟩
      . exact h
      . cases L0 with
        |nil=>exact absurd rfl h
        |cons a l=>simp at hlen
     subst hk0;simp [zdl,hE,hil];exact LessQ.mk (Less.keep 1 (by simp) (by simp) rfl rfl) hQ
   . simp [zdl,hE,hil];rcases hk with rfl|⟨rfl,_⟩<;>exact LessQ.mk (Less.keep 1 (by simp) (by simp) rfl rfl) hQ
 | succ n ih =>
   intro i L hi hL;have hil:i<t.args.length:=by omega
   have hil':(i:Int)<t.args.length:=by omega
   have hw:IntKind.i64.wrap ((i:Int)+1)=((i+1:Nat):Int):=zA (by have:=Ty.ok_len ht;omega);have hm:=List.getElem_mem hil;have hs1:=Ty.size_arg hm;have hok:=Ty.ok_arg ht hm;have hLok:Ty.oks L=true:=by rw[hL];exact zgX (zkG (Ty.oks_iff.2 (Ty.ok_iff.1 ht).2) i) _ h0
   have hlen:=zaP kind (t.args.take i) L0;rw[<- hL]at hlen
   have hsz:Ty.sizes (t.args.take i)+t.args[i].size<=Ty.sizes t.args:=by
    have:=zdX t.args (i+1);rw[List.take_add_one,List.getElem?_eq_getElem hil,zf1]at this;simpa [Ty.sizes]using this
   have hts:=Ty.size_eq t
   have hnew:zZ kind t.args[i] L=zw kind (t.args.take (i+1)) L0:=by
    rw[List.take_add_one,List.getElem?_eq_getElem hil,Option.toList_some,zeR,hL]
   have hb:(zZ kind t.args[i] L).length<=10000:=by rw[hnew];exact Nat.le_trans (zfG kind t.args (i+1) L0) hl0
   have hF:zcg d L t.args[i] kind=some (zZ kind t.args[i] L):=by
    unfold zcg;rw[if_pos ⟨by omega,hok,hLok,hb⟩]
   have hml:=zcI kind t.args[i] L;refine lp hρ hE hcon fun K hK=>?_
   generalize hR:zZ kind t.args[i] L=R at hF hnew hml;rcases L with _|⟨x,L⟩
   . have hk0:k=0:=by
      rcases hk with h|⟨_,h⟩
      . exact h
      . cases L0 with
        |nil=>exact absurd rfl h
        |cons a l=>simp at hlen
     subst hk0;rcases R with _|⟨y,R⟩<;>simp [zdl,hE,hil,hil',hc,hw,hF,zkM,-Int.natCast_add]
     . exact hK _ _ (zJ (Less.keep 2 (by simp[-Int.natCast_add]) (by simp) rfl rfl) (ih (i+1) _ (by omega) hnew))
     . exact hK _ _ (zJ (Less.lit (fun k=>if k=0 then 16 else k) 2 (by simp[-Int.natCast_add]) (by simp) rfl rfl) (ih (i+1) _ (by omega) hnew))
   . rcases R with _|⟨y,R⟩
     . simp at hml
     . have hml0:L.length<=R.length:=by simp at hml;omega
       simp [zdl,hE,hil,hil',hc,hw,hF,zkM,hml0,-Int.natCast_add];rcases hk with rfl|⟨rfl,_⟩<;>exact hK _ _ (zJ (Less.keep 2 (by simp[-Int.natCast_add]) (by simp) rfl rfl) (ih (i+1) _ (by omega) hnew))
theorem zc3 (hc:E.con 54=fnS (zal fun a b:Ty=>if a.ok=true then some (decide (a=b))else none)) {k:Nat} {t:Ty} {L:List Ty} (hk:k=0\/k=1/\L≠[]) (h0:Ty.oks L=true) (hl0:L.length<=10000) {Q:Ex->PT V->HS->Prop}
 (hf:t∈L->Q .ret (mkP [(6,oV 0 (L.map zh))]) { H:=mkP (oH 0 5 (L.map zh)),n:=1,log:=[] })
 (hn:t ∉ L->Q (.exit 0) (mkP [(0,oV 0 (L.map zh)),(4,.ptr 1 0 0)]) { H:=mkP ((1,box (zh t))::oH 0 5 (L.map zh)),n:=2,log:=[] }) :
 ∀ (n i:Nat),i+n=L.length->t ∉ L.take i->LsN ρ E k 52 zfU (LessQ k Q) (n+1) (mkP [(0,oV 0 (L.map zh)),(4,.ptr 1 0 0),(7,.int .i64 (i:Int))])
   { H:=mkP ((1,box (zh t))::oH 0 5 (L.map zh)),n:=2,log:=[] }:=by
 intro n
 induction n with
 | zero =>
   intro i hi hL;have hil:¬ (i:Int)<L.length:=by omega
   have e:t ∉ L:=by rw[List.take_of_length_le (by omega)]at hL;exact hL
   have hn:=hn e;refine lp hρ hE hcon fun K hK=>?_
   rcases L with _|⟨x,L⟩
   . have hk0:k=0:=by
      rcases hk with h|⟨_,h⟩
      . exact h
      . exact absurd rfl h
     subst hk0;obtain rfl:i=0:=by simpa using hi
     simp [zfU,hE];exact LessQ.mk (Less.keep 2 (by simp) (by simp) rfl rfl) hn
   . have hil2:¬ (i:Int)<(L.length:Int)+1:=by simp at hil;omega
     simp [zfU,hE,hil2];rcases hk with rfl|⟨rfl,_⟩<;>exact LessQ.mk (Less.keep 2 (by simp) (by simp) rfl rfl) hn
 | succ n ih =>
   intro i hi hL;have hil:i<L.length:=by omega
   have hw:IntKind.i64.wrap ((i:Int)+1)=((i+1:Nat):Int):=zA (by omega);have hok:=Ty.oks_iff.1 h0 _ (List.getElem_mem hil)
   have hnext:L[i]≠t->t ∉ L.take (i+1):=by
    intro h hm;rw[List.take_add_one,List.getElem?_eq_getElem hil]at hm;rcases List.mem_append.1 hm with hm|hm
    . exact hL hm
    . exact h (List.mem_singleton.1 hm).symm
   have hmem:L[i]=t->t∈L:=fun h=>h ▸ List.getElem_mem hil
   have hgi:(L.map zh)[i]?=some (zh L[i]):=by rw[List.getElem?_map,List.getElem?_eq_getElem hil];rfl
   refine lp hρ hE hcon fun K hK=>?_
   generalize L[i]=y at hok hnext hmem hgi;rcases L with _|⟨x,L⟩
   . simp at hil
   . have hil2:(i:Int)<(L.length:Int)+1:=by simp at hil;omega
     have hil3:i<L.length+1:=by simpa using hil
     simp only[List.map_cons,zdm]at hgi;have hgi3:∀ h,(zh x::L.map zh)[i]'h=zh y:=fun h=>by simp only[zdm];exact(List.getElem?_eq_some_iff.1 hgi).2
     simp only[zdm]at hgi3;have hd1:i*5 / 5=i:=by omega
     have hd2:i*5 % 5=0:=by omega
     simp [zfU,hE,hil2,hil3,hc,hok,hd1,hd2,hgi3];refine zex (fun h=>?_) (fun h=>?_)<;>simp [hE,hw,-Int.natCast_add]
     . rcases hk with rfl|⟨rfl,_⟩<;>exact LessQ.mk (Less.keep 1 (by simp) (by simp) rfl rfl) (hf (hmem h))
     . rcases hk with rfl|⟨rfl,_⟩<;>exact hK _ _ (zJ (Less.keep 2 (by simp[-Int.natCast_add]) (by simp) rfl rfl) (ih (i+1) (by omega) (hnext h)))
theorem zf4 {d:Nat} (hcE:E.con 54=fnS (zal fun a b:Ty=>if a.ok=true then some (decide (a=b))else none)) (hc:E.con 125=ioS 5 (zpe (zcg d)) zkM) {L:List Ty} {t:Ty} {kind:Int} (ht:t.ok=true) (hd:t.size<=d+1) (h0:Ty.oks L=true) (hl0:(zZ kind t L).length<=10000)
 {hs:HS} {v:V} (hv:rowOf 5 hs v=some (L.map zh)) (hvac:hs.H.get hs.n=none):CallOk ρ Tryz.prog 125 [v,enc t,enc kind] hs (zby 5 v (L.map zh) ((zZ kind t L).map zh) hs).1 (zby 5 v (L.map zh) ((zZ kind t L).map zh) hs).2:=by
 have hlen:=zcI kind t L;refine io hρ hE hcon (K:=zkM) (rs:=[]) (.inl rfl) Tryz.func125 zxm rfl (by simp) (by simp) (by simp) rfl (by simpa using hlen.1) ?_ hv hvac;clear hv hvac;rw[zbZ]
 have hk:(if L.map zh=[]then 0 else 1)=0\/(if L.map zh=[]then 0 else 1)=1/\L≠[]:=by
  cases L with
  |nil=>exact .inl rfl
  |cons a l=>exact .inr ⟨rfl,by simp⟩
 by_cases hleaf:t.kind=kind/\t.args=[]
 . rw [if_pos hleaf];obtain⟨hkd,har⟩:=hleaf;rcases L with _|⟨x,L⟩
   . simp [hE,hkd,har];refine zbX (zcm (zJ (Less.lit (TL:=[(0,oV 0 (([]:List Ty).map zh)),(4,.ptr 1 0 0),(7,.int .i64 ((0:Nat):Int))]) (HL:=(1,box (zh t))::oH 0 5 (([]:List Ty).map zh)) (fun k=>if k=1 then 0 else k) 2 ?_ ?_ rfl rfl) (zc3 hρ hE hcon hcE (.inl rfl) h0 (by simp) ?_ ?_ 0 0 rfl (by simp))))
     . simp
     . simp[har,hkd]
     . intro h;cases h
     . intro _;simp [hE,hkd,har];exact GivesL.litX (fun k=>if k=0 then 5 else k) rfl rfl ⟨rfl,rfl⟩ (by simp)
   . simp [hE,hkd,har];refine zbX (zcm (zJ (Less.keep (TL:=[(0,oV 0 ((x::L).map zh)),(4,.ptr 1 0 0),(7,.int .i64 ((0:Nat):Int))]) (HL:=(1,box (zh t))::oH 0 5 ((x::L).map zh)) 2 ?_ ?_ rfl rfl) (zc3 hρ hE hcon hcE (.inr ⟨rfl,by simp⟩) h0 (by omega) ?_ ?_ (x::L).length 0 (by omega) (by simp))))
     . simp
     . simp[har,hkd]
     . intro h;simp [hE,hkd,har,h];exact GivesL.keepX rfl rfl rfl (by simp)
     . intro hn;have h64:(L.length+1+1)*64<=1048576:=by have:=hlen.1;simp only[List.length_cons]at this;omega
       simp [hE,hkd,har,hn,h64,Nat.not_succ_le_self];exact GivesL.keepX rfl rfl rfl (by simp)
 . rw [if_neg hleaf];have hneq:t.kind=kind->¬ t.args=[]:=fun h1 h2=>hleaf ⟨h1,h2⟩
   have hl1:(zw kind t.args L).length<=10000:=by rw[zbZ,if_neg hleaf]at hl0;exact hl0
   rcases L with _|⟨x,L⟩
   . have go:∀ T hs',Less 0 T hs' (mkP [(0,oV 0 (([]:List Ty).map zh)),(2,.int .i64 kind),(4,.ptr 1 0 0),(8,.int .i64 ((0:Nat):Int))]) { H:=mkP ((1,box (zh t))::oH 0 5 (([]:List Ty).map zh)),n:=2,log:=[] } ->
      ∀ Q,Q (.exit 2) (mkP [(0,oV 0 ((zw kind t.args []).map zh))]) { H:=mkP (oH 0 5 ((zw kind t.args []).map zh)),n:=1,log:=[] }->Ls ρ E 0 52 (.loop zdl) T hs' Q:=fun T hs' hl Q hQ =>
      zbX (zcm (zJ hl (zc2 hρ hE hcon hc (.inl rfl) ht hd h0 hl1 hQ t.args.length 0 [] (by omega) rfl)))
     by_cases h1:t.kind=kind
     . have h2:=hneq h1;simp [hE,h1,h2];refine go _ _ (Less.lit (fun k=>if k=1 then 0 else k) 2 (by simp) (by simp[h1]) rfl rfl) _ ?_;generalize zw kind t.args []=R;rcases R with _|⟨y,R⟩<;>simp [hE]<;>exact GivesL.keepX rfl rfl rfl (by simp)
     . simp [hE,h1];refine go _ _ (Less.lit (fun k=>if k=1 then 0 else k) 2 (by simp) (by simp) rfl rfl) _ ?_;generalize zw kind t.args []=R;rcases R with _|⟨y,R⟩<;>simp [hE]<;>exact GivesL.keepX rfl rfl rfl (by simp)
   . have hRl:=(zaP kind t.args (x::L)).1
     have go:∀ T hs',Less 1 T hs' (mkP [(0,oV 0 ((x::L).map zh)),(2,.int .i64 kind),(4,.ptr 1 0 0),(8,.int .i64 ((0:Nat):Int))]) { H:=mkP ((1,box (zh t))::oH 0 5 ((x::L).map zh)),n:=2,log:=[] } ->
      ∀ Q,Q (.exit 2) (mkP [(0,oV 0 ((zw kind t.args (x::L)).map zh))]) { H:=mkP (oH 0 5 ((zw kind t.args (x::L)).map zh)),n:=1,log:=[] }->Ls ρ E 1 52 (.loop zdl) T hs' Q:=fun T hs' hl Q hQ =>
      zbX (zcm (zJ hl (zc2 hρ hE hcon hc (.inr ⟨rfl,by simp⟩) ht hd h0 hl1 hQ t.args.length 0 (x::L) (by omega) rfl)))
     by_cases h1:t.kind=kind
     . have h2:=hneq h1;simp [hE,h1,h2];refine go _ _ (Less.keep 2 (by simp) (by simp[h1]) rfl rfl) _ ?_;generalize zw kind t.args (x::L)=R at hRl;rcases R with _|⟨y,R⟩
       . simp at hRl
       . simp [hE];exact GivesL.keepX rfl rfl rfl (by simp)
     . simp [hE,h1];refine go _ _ (Less.keep 2 (by simp) (by simp) rfl rfl) _ ?_;generalize zw kind t.args (x::L)=R at hRl;rcases R with _|⟨y,R⟩
       . simp at hRl
       . simp [hE];exact GivesL.keepX rfl rfl rfl (by simp)
end
section
variable {ρ:Nat->Value}(hρ:J.Good ρ){E:Env}(hE:E.P=Tryz.prog)(hcon:ConsOk ρ E)
include hρ hE hcon
theorem zh4{l:List Int}{x:Int}(h1:l.length<=1000000){Q:Ex->PT V->HS->Prop}
 (hf:x∈l->∀ T hs,T.get 4=some (.bool true)->Q .ret T hs) (ht:x ∉ l->∀ T hs,Q (.exit 0) T hs) :
 ∀ (n i:Nat),i+n=l.length->x ∉ l.take i->LsN ρ E 0 18 zhL Q (n+1) (mkP [(0,.sl (l.map encI) false),(1,.int .i64 x),(5,.int .i64 (i:Int))]) { H:=mkP [],n:=0,log:=[] }:=by
 intro n
 induction n with
 | zero =>
   intro i hi he;have hil:¬ (i:Int)<l.length:=by omega
   have e:x ∉ l:=by rw[List.take_of_length_le (by omega)]at he;exact he
   refine lp hρ hE hcon fun K hK=>?_
   simp [zhL,hE,hil];exact ht e _ _
 | succ n ih =>
   intro i hi he;have hil:i<l.length:=by omega
   have hil':(i:Int)<l.length:=by omega
   have hw:IntKind.i64.wrap ((i:Int)+1)=((i+1:Nat):Int):=zA (by omega)
   have hnext:l[i]≠x->x ∉ l.take (i+1):=by
    intro h hm;rw[List.take_add_one,List.getElem?_eq_getElem hil]at hm;rcases List.mem_append.1 hm with hm|hm
    . exact he hm
    . exact h (List.mem_singleton.1 hm).symm
   have hmem:l[i]=x->x∈l:=fun h=>h ▸ List.getElem_mem hil
   refine lp hρ hE hcon fun K hK=>?_
   simp [zhL,hE,hil',hil];refine zex (fun h=>?_) (fun h=>?_)<;>simp [hE,hw,-Int.natCast_add]
   . exact hf (hmem h) _ _ (by simp)
   . exact hK _ _ (zJ (Less.keep 0 (by simp[-Int.natCast_add]) (by simp) rfl rfl) (ih (i+1) (by omega) (hnext h)))
theorem zit{l:List Int}{x:Int}(h1:l.length<=1000000)(hs:HS):CallOk ρ Tryz.prog 126 [enc l,enc x] hs (enc (decide (x∈l))) hs:=by
 refine fn hρ hE hcon Tryz.func126 z2k rfl (by simp) ?_ hs;simp [hE];refine zcm (zJ (Less.keep (TL:=[(0,.sl (l.map encI) false),(1,.int .i64 x),(5,.int .i64 ((0:Nat):Int))]) (HL:=[]) 0 (by simp) (by simp) rfl rfl) (zh4 hρ hE hcon h1 ?_ ?_ l.length 0 (by omega) (by simp)))
 . intro h T hs hT;simp[hT,h,hE]
 . intro h T hs;simp [h,hE]
theorem zf5 {d:Nat} (hc:E.con 125=ioS 5 (zpe (zcg d)) zkM) {l:List Ty} (hl:Ty.oks l=true) (hll:l.length<=10000) (hd:Ty.sizes l<=d) (hd2:(zw 1 l []).length<=10000) {Q:Ex->PT V->HS->Prop}
 (hQ:Q (.exit 0) (mkP [(3,oV 0 ((zw 1 l []).map zh))]) { H:=mkP (oH 0 5 ((zw 1 l []).map zh)),n:=1,log:=[] }) :
 ∀ (n i:Nat) (L:List Ty),i+n=l.length->L=zw 1 (l.take i) []->LsN ρ E 0 42 ziU (LessQ 0 Q) (n+1) (mkP [(0,.sl (l.map zh) false),(3,oV 0 (L.map zh)),(4,.int .i64 (i:Int))])
   { H:=mkP (oH 0 5 (L.map zh)),n:=1,log:=[] }:=by
 intro n
 induction n with
 | zero =>
   intro i L hi hL;have hil:¬ (i:Int)<l.length:=by omega
   have e:L=zw 1 l []:=by rw[hL,List.take_of_length_le (by omega)]
   rw[<- e]at hQ;refine lp hρ hE hcon fun K hK=>?_
   rcases L with _|⟨x,L⟩<;>simp [ziU,hE,hil]<;>exact LessQ.mk (Less.keep 1 (by simp) (by simp) rfl rfl) hQ
 | succ n ih =>
   intro i L hi hL;have hil:i<l.length:=by omega
   have hil':(i:Int)<l.length:=by omega
   have hw:IntKind.i64.wrap ((i:Int)+1)=((i+1:Nat):Int):=zA (by omega);have hm:=List.getElem_mem hil;have hok:=Ty.oks_iff.1 hl _ hm;have hLok:Ty.oks L=true:=by rw[hL];exact zgX (zkG hl i) _ rfl
   have hlen:=zaP 1 (l.take i) [];rw[<- hL]at hlen
   have hsz:Ty.sizes (l.take i)+l[i].size<=Ty.sizes l:=by
    have:=zdX l (i+1);rw[List.take_add_one,List.getElem?_eq_getElem hil,zf1]at this;simpa [Ty.sizes]using this
   have hnew:zZ 1 l[i] L=zw 1 (l.take (i+1)) []:=by
    rw[List.take_add_one,List.getElem?_eq_getElem hil,Option.toList_some,zeR,hL]
   have hb:(zZ 1 l[i] L).length<=10000:=by rw[hnew];exact Nat.le_trans (zfG 1 l (i+1) []) hd2
   have hF:zcg d L l[i] 1=some (zZ 1 l[i] L):=by
    unfold zcg;rw[if_pos ⟨by omega,hok,hLok,hb⟩]
   have hml:=zcI 1 l[i] L;refine lp hρ hE hcon fun K hK=>?_
   generalize hR:zZ 1 l[i] L=R at hF hnew hml;rcases L with _|⟨x,L⟩
   . rcases R with _|⟨y,R⟩<;>simp [ziU,hE,hil,hil',hc,hw,hF,zkM,-Int.natCast_add]
     . exact hK _ _ (zJ (Less.keep 1 (by simp[-Int.natCast_add]) (by simp) rfl rfl) (ih (i+1) _ (by omega) hnew))
     . exact hK _ _ (zJ (Less.lit (fun k=>if k=0 then 12 else k) 1 (by simp[-Int.natCast_add]) (by simp) rfl rfl) (ih (i+1) _ (by omega) hnew))
   . rcases R with _|⟨y,R⟩
     . simp at hml
     . have hml0:L.length<=R.length:=by simp at hml;omega
       simp [ziU,hE,hil,hil',hc,hw,hF,zkM,hml0,-Int.natCast_add];exact hK _ _ (zJ (Less.keep 1 (by simp[-Int.natCast_add]) (by simp) rfl rfl) (ih (i+1) _ (by omega) hnew))
theorem zde (hc:E.con 126=fnC (zal fun (l:List Int) (x:Int)=>if l.length<=1000000 then some (decide (x∈l))else none)) {F:List Ty} (hl:F.length<=10000) {Q:Ex->PT V->HS->Prop}
 (hQ:Q (.exit 2) (mkP [(5,oV 1 ((zch F).map encI))]) { H:=mkP (oH 1 1 ((zch F).map encI)),n:=2,log:=[] }) :
 ∀ (n i:Nat) (O:List Int),i+n=F.length->O=zch (F.take i)->LsN ρ E 0 42 zfR (LessQ 0 Q) (n+1) (mkP [(3,oV 0 (F.map zh)),(5,oV 1 (O.map encI)),(6,.int .i64 (i:Int))])
   { H:=mkP (oH 0 5 (F.map zh)++oH 1 1 (O.map encI)),n:=2,log:=[] }:=by
 intro n
 induction n with
 | zero =>
   intro i O hi hO;have e:O=zch F:=by rw[hO,List.take_of_length_le (by omega)]
   rw[<- e]at hQ;refine lp hρ hE hcon fun K hK=>?_
   rcases F with _|⟨x,F⟩
   . obtain rfl:i=0:=by simpa using hi
     rcases O with _|⟨y,O⟩<;>simp [zfR,hE]<;>exact LessQ.mk (Less.keep 2 (by simp) (by simp) rfl rfl) hQ
   . have hil:¬ (i:Int)<(F.length:Int)+1:=by simp at hi;omega
     rcases O with _|⟨y,O⟩<;>simp [zfR,hE,hil]<;>exact LessQ.mk (Less.keep 2 (by simp) (by simp) rfl rfl) hQ
 | succ n ih =>
   intro i O hi hO;have hil:i<F.length:=by omega
   have hw:IntKind.i64.wrap ((i:Int)+1)=((i+1:Nat):Int):=zA (by omega);have hOl:O.length<=10000:=by rw[hO];have:=ziJ (F.take i);rw[List.length_take]at this;omega
   have hnew:zcX O F[i]=zch (F.take (i+1)):=by
    rw[List.take_add_one,List.getElem?_eq_getElem hil,Option.toList_some,zha,hO]
   have hgi:(F.map zh)[i]?=some (zh F[i]):=by rw[List.getElem?_map,List.getElem?_eq_getElem hil];rfl
   refine lp hρ hE hcon fun K hK=>?_
   generalize F[i]=y at hnew hgi;rcases F with _|⟨x,F⟩
   . simp at hil
   have hil2:(i:Int)<(F.length:Int)+1:=by simp at hil;omega
   have hil3:i<F.length+1:=by simpa using hil
   simp only[List.map_cons,zdm]at hgi;have hgi3:∀ h,(zh x::F.map zh)[i]'h=zh y:=fun h=>by simp only[zdm];exact(List.getElem?_eq_some_iff.1 hgi).2
   simp only[zdm]at hgi3;have hd1:(i*5+2) / 5=i:=by omega
   have hd2:(i*5+2) % 5=2:=by omega
   by_cases hmem:y.id∈O
   . have hadd:zcX O y=O:=if_pos hmem;rw[hadd]at hnew;rcases O with _|⟨z,O⟩
     . cases hmem
     . have hOl2:O.length+1<=1000000:=by simp at hOl;omega
       simp [zfR,hE,hil2,hil3,hc,hd1,hd2,hgi3,hmem,hw,hOl2,-Int.natCast_add,-List.mem_cons];exact hK _ _ (zJ (Less.keep 2 (by simp[-Int.natCast_add]) (by simp) rfl rfl) (ih (i+1) _ (by omega) hnew))
   . have hadd:zcX O y=O++[y.id]:=if_neg hmem;rw[hadd]at hnew;rcases O with _|⟨z,O⟩
     . simp [zfR,hE,hil2,hil3,hc,hd1,hd2,hgi3,hw,-Int.natCast_add];exact hK _ _ (zJ (Less.lit (fun k=>if k=1 then 21 else k) 2 (by simp[-Int.natCast_add]) (by simp) rfl rfl) (ih (i+1) _ (by omega) hnew))
     . have hOl2:O.length+1<=1000000:=by simp at hOl;omega
       have h64:(O.length+1+1)*8<=1048576:=by simp at hOl;omega
       simp [zfR,hE,hil2,hil3,hc,hd1,hd2,hgi3,hmem,hw,hOl2,h64,Nat.not_succ_le_self,-Int.natCast_add,-List.mem_cons];exact hK _ _ (zJ (Less.keep 2 (by simp[-Int.natCast_add]) (by simp) rfl rfl) (ih (i+1) _ (by omega) hnew))
theorem zh3{d:Nat}(hcH:E.con 126=fnC (zal fun (l:List Int) (x:Int)=>if l.length<=1000000 then some (decide (x∈l))else none))(hc:E.con 125=ioS 5 (zpe (zcg d)) zkM){l:List Ty}(hl:Ty.oks l=true)(hll:l.length<=10000)(hd:Ty.sizes l<=d)(hd2:(zw 1 l []).length<=10000)(hs:HS):CallOk ρ Tryz.prog 61 [enc l] hs (enc (zib l)) hs:=by
 refine fn hρ hE hcon Tryz.func61 zCG rfl (by simp) ?_ hs;simp [hE];refine zbX (zcm (zJ (Less.keep (TL:=[(0,.sl (l.map zh) false),(3,oV 0 (([]:List Ty).map zh)),(4,.int .i64 ((0:Nat):Int))]) (HL:=oH 0 5 (([]:List Ty).map zh)) 1 (by simp) (by simp) rfl rfl) (zf5 hρ hE hcon hc hl hll hd hd2 ?_ l.length 0 [] (by omega) rfl)));have hlen:=zaP 1 l [];unfold zib;have hF:=hd2;clear hd2;generalize zw 1 l []=F at hlen hF;rcases F with _|⟨y,F⟩
 . simp [hE];refine zbX (zcm (zJ (Less.keep (TL:=[(3,oV 0 (([]:List Ty).map zh)),(5,oV 1 (([]:List Int).map encI)),(6,.int .i64 ((0:Nat):Int))]) (HL:=oH 0 5 (([]:List Ty).map zh)++oH 1 1 (([]:List Int).map encI)) 2 (by simp) (by simp) rfl rfl) (zde hρ hE hcon hcH hF ?_ 0 0 [] (by simp) rfl)));generalize zch []=O;rcases O with _|⟨z,O⟩<;>simp [hE]
 . simp [hE];refine zbX (zcm (zJ (Less.keep (TL:=[(3,oV 0 ((y::F).map zh)),(5,oV 1 (([]:List Int).map encI)),(6,.int .i64 ((0:Nat):Int))]) (HL:=oH 0 5 ((y::F).map zh)++oH 1 1 (([]:List Int).map encI)) 2 (by simp) (by simp) rfl rfl) (zde hρ hE hcon hcH hF ?_ (y::F).length 0 [] (by omega) rfl)));generalize zch (y::F)=O;rcases O with _|⟨z,O⟩<;>simp [hE]
end
end Go.Proofs.YtpcmebclpindjaaGreat
/- The contracts of small functions,joined. -/
namespace Go.Proofs.YtpcmebclpindjaaGreat
open Go.J
open Go.J.Enc (enc)
set_option maxRecDepth 100000
set_option maxHeartbeats 1000000
theorem zT{c:Prop}{_:Decidable c}{α:Type}{x r:α}(h:(if c then some x else none)=some r):c/\x=r:=by
 split at h
 . cases h;exact⟨‹_›,rfl⟩
 . cases h
theorem fo{f:Nat}{fn:Func}{sc:SC}(hf:Tryz.prog.funcs[f]?=some fn)(hb:fn.body.bind zo=some sc):zdR Tryz.prog f:=z1N hf (by
 cases h:fn.body with
 |none=>rw[h]at hb;cases hb
 |some c=>rfl)
abbrev EL(L:List (Nat×J.Spec)):Env:=zvs Tryz.prog pol L
section
variable {ρ:Nat->Value}(hρ:J.Good ρ)
include hρ
def zBi:J.Spec:=fnS (zal fun n m:Int=>if -1000000<=m/\m<=1000000 then some (zqi n m)else none)
theorem zD6:Valid ρ Tryz.prog 24 zBi:=v2 (fo Tryz.func24 zCQ) fun a b r h hs=>by
 obtain⟨h1,rfl⟩:=zT h;exact ziA hρ (E:=EL []) rfl (zg valid_nil) (by omega) (by omega) hs
def z6b:J.Spec:=fnS (zbI fun l:List Int=>some (decide (l.length<=60)))
theorem zD8:Valid ρ Tryz.prog 14 z6b:=v1 (fo Tryz.func14 zCW) fun a r h hs=>by
 cases h;exact ziB hρ (E:=EL []) rfl (zg valid_nil) hs
def z6E:J.Spec:=fnS (zal fun (n:List Nat) (l:List Ty)=>if l.length<=10000 then some (zh0 n l)else none)
theorem z7D:Valid ρ Tryz.prog 56 z6E:=v2 (fo Tryz.func56 zCH) fun a b r h hs=>by
 obtain⟨h1,rfl⟩:=zT h;exact ziu hρ (E:=EL []) rfl (zg valid_nil) h1 hs
theorem zD7:Valid ρ Tryz.prog 27 (fnS (zf0 tInt)):=v0 (fo Tryz.func27 zCN) fun hs =>
 zis hρ (E:=EL [(56,z6E)]) rfl (zg (zf (z7D hρ) valid_nil)) rfl hs
theorem z0u:Valid ρ Tryz.prog 42 (fnS (zal fun a b:Ty=>some (zd9 a b))):=v2 (fo Tryz.func42 zCK) fun a b r h hs=>by
 cases h;exact zg2 hρ (E:=EL [(56,z6E)]) rfl (zg (zf (z7D hρ) valid_nil)) rfl hs
theorem zD5:Valid ρ Tryz.prog 26 (fnS (zbI fun i:Int=>some (zfs i))):=v1 (fo Tryz.func26 zCO) fun a r h hs=>by
 cases h;exact zir hρ (E:=EL []) rfl (zg valid_nil) hs
theorem z0t:Valid ρ Tryz.prog 53 (fnS (zbI fun i:Int=>some (zeK i))):=v1 (fo Tryz.func53 zCJ) fun a r h hs=>by
 cases h;exact zg1 hρ (E:=EL []) rfl (zg valid_nil) hs
theorem z0m:Valid ρ Tryz.prog 28 (fnS (zal fun h i:Int=>some (zbL h i))):=v2 (fo Tryz.func28 zCM) fun a b r h hs=>by
 cases h;exact zg0 hρ (E:=EL []) rfl (zg valid_nil) hs
theorem zvL:Valid ρ Tryz.prog 55 (stS (zk5 zfa)):=s1 (fo Tryz.func55 zCI) fun s a q h hs id hid hg=>by
 obtain⟨⟨h1,h2⟩,rfl⟩:=zT h;exact zei hρ (E:=EL [(24,zBi)]) rfl (zg (zf (zD6 hρ) valid_nil)) rfl h1.1 h1.2 h2 hs id hid hg
theorem vEq(d:Nat):Valid ρ Tryz.prog 54 (fnS (zal (eqF d)))/\Valid ρ Tryz.prog 18 (fnS (zal (zhe d))):=by
 have all:∀ d,Valid ρ Tryz.prog 54 (fnS (zal (eqF d)))->Valid ρ Tryz.prog 18 (fnS (zal (zhe d))):=fun d hv=>v2 (fo Tryz.func18 zCU) fun a b r h hs=>by
  obtain⟨⟨h1,h2,h3⟩,rfl⟩:=zT h;exact ze5 hρ (E:=EL [(54,fnS (zal (eqF d)))]) rfl (zg (zf hv valid_nil)) rfl h1 h2 h3 hs
 have one:∀ d,Valid ρ Tryz.prog 54 (fnS (zal (eqF d))):=by
  intro d
  induction d with
  | zero =>
    refine v2 (fo Tryz.func54 z6c) fun a b r h hs=>?_
    obtain⟨⟨h1,h2⟩,rfl⟩:=zT h;have:=Ty.size_eq a;omega
  | succ d ih =>
    refine v2 (fo Tryz.func54 z6c) fun a b r h hs=>?_
    obtain⟨⟨h1,h2⟩,rfl⟩:=zT h;exact zdB hρ (E:=EL [(18,fnS (zal (zhe d)))]) rfl (zg (zf (all d ih) valid_nil)) rfl h1 h2 hs
 exact⟨one d,all d (one d)⟩
def zvr:J.Spec:=fnS (zal fun a b:Ty=>if a.ok=true then some (decide (a=b))else none)
theorem z0o:Valid ρ Tryz.prog 54 zvr:=v2 (fo Tryz.func54 z6c) fun a b r h hs=>by
 obtain⟨h1,rfl⟩:=zT h;exact zdB hρ (E:=EL [(18,fnS (zal (zhe a.size)))]) rfl (zg (zf (vEq hρ a.size).2 valid_nil)) rfl h1 (by omega) hs
theorem zps(d:Nat):Valid ρ Tryz.prog 62 (fnS (zal (zh1 d))):=by
 induction d with
 | zero =>
   refine v2 (fo Tryz.func62 z98) fun a b r h hs=>?_
   obtain⟨⟨h1,h2,h3⟩,rfl⟩:=zT h;have:=Ty.size_eq a;omega
 | succ d ih =>
   refine v2 (fo Tryz.func62 z98) fun a b r h hs=>?_
   obtain⟨⟨h1,h2,h3⟩,rfl⟩:=zT h;exact zeY hρ (E:=EL [(62,fnS (zal (zh1 d)))]) rfl (zg (zf ih valid_nil)) rfl h1 h2 h3 hs
theorem zvN(d:Nat):Valid ρ Tryz.prog 125 (ioS 5 (zpe (zcg d)) zkM):=by
 induction d with
 | zero =>
   refine Valid.io (fo Tryz.func125 zxm) fun es vs r _ _ h0 _ _ _ hs v hv hvac=>?_
   obtain⟨l,a,b,q,rfl,rfl,h,rfl⟩:=zkN h0;obtain⟨⟨h1,h2,h3⟩,rfl⟩:=zT h;have:=Ty.size_eq a;omega
 | succ d ih =>
   refine Valid.io (fo Tryz.func125 zxm) fun es vs r _ _ h0 _ _ _ hs v hv hvac=>?_
   obtain⟨l,a,b,q,rfl,rfl,h,rfl⟩:=zkN h0;obtain⟨⟨h1,h2,h3,h4⟩,rfl⟩:=zT h;exact zf4 hρ (E:=EL [(54,zvr),(125,ioS 5 (zpe (zcg d)) zkM)]) rfl (zg (zf (z0o hρ) (zf ih valid_nil))) rfl rfl h2 h1 h3 h4 hv hvac
def z9o:J.Spec:=fnC (zal fun (l:List Int) (x:Int)=>if l.length<=1000000 then some (decide (x∈l))else none)
theorem zAB:Valid ρ Tryz.prog 126 z9o:=c2 (fo Tryz.func126 z2k) fun a b r h hs=>by
 obtain⟨h1,rfl⟩:=zT h;exact zit hρ (E:=EL []) rfl (zg valid_nil) h1 hs
def zrp(d:Nat):J.Spec:=fnS (zbI fun l:List Ty=>if Ty.oks l=true/\l.length<=10000/\Ty.sizes l<=d then some (zib l)else none)
theorem z7y(d:Nat)(hd:d<=10000):Valid ρ Tryz.prog 61 (zrp d):=v1 (fo Tryz.func61 zCG) fun a r h hs=>by
 obtain⟨⟨h1,h2,h3⟩,rfl⟩:=zT h;exact zh3 hρ (E:=EL [(126,z9o),(125,ioS 5 (zpe (zcg d)) zkM)]) rfl (zg (zf (zAB hρ) (zf (zvN hρ d) valid_nil))) rfl rfl h1 h2 h3 (by have:=(zaP 1 a []).2;simp at this;omega) hs
end
end Go.Proofs.YtpcmebclpindjaaGreat
