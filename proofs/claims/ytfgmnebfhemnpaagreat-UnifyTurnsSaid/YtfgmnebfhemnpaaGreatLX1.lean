import Derived.Test.YtfgmnebfhemnpaaGreatLAG
import Derived.Test.YtfgmnebfhemnpaaGreatJL
import Derived.Test.YtfgmnebfhemnpaaGreatJK
import Derived.Test.YtfgmnebfhemnpaaGreatJN
set_option linter.all false
noncomputable section
namespace Go.Proofs.YtfgmnebfhemnpaaGreat
open Go.J
open Go.J.Enc (enc)
set_option maxRecDepth 100000
set_option maxHeartbeats 4000000
section
variable {ρ:Nat->Value}(hρ:J.Good ρ){E:Env}(hE:E.P=Tryz.prog)(hcon:ConsOk ρ E)
include hρ hE hcon
def eqF(d:Nat)(a b:Ty):Option Bool:=if a.ok=true/\a.size<=d then some (decide (a=b))else none
def zjm(d:Nat)(l m:List Ty):Option Bool:=if l.length<=10000/\Ty.oks l=true/\Ty.sizes l<=d then some (decide (l=m))else none
theorem zeC{d:Nat}(hc:E.con 63=fnS (zW (zjm d))){a b:Ty}(ha:a.ok=true)(hd:a.size<=d+1)(hs:HS):CallOk ρ E.P 40 [enc a,enc b] hs (enc (decide (a=b))) hs:=by
 refine zrW hρ hcon (by rw[hE];exact follows) (by rw[hE];exact named) (by rw[hE];exact Tryz.func40) zJw rfl (by simp) ?_ hs;have h1:=Ty.ok_len ha;have h2:Ty.oks a.args=true:=Ty.oks_iff.2 (Ty.ok_iff.1 ha).2;have h3:Ty.sizes a.args<=d:=by have:=Ty.size_eq a;omega
 simp [hE]
 repeat' (refine zdK (fun h=>?_) (fun h=>?_)<;>simp [h,hE,hc,zjm,h1,h2,h3])
 all_goals (rw[Ty.eq_iff];simp_all)
theorem zfr{d:Nat}(hc:E.con 40=fnS (zW (eqF d))){l m:List Ty}(hl:l.length=m.length)(h1:l.length<=10000)(h2:∀ t∈l,t.ok=true/\t.size<=d){Q:Ex->PT V->HS->Prop}
 (hf:l≠m->∀ T hs,T.get 4=some (.bool false)->Q .ret T hs) (ht:l=m->∀ T hs,Q (.exit 0) T hs) :
 ∀ (n i:Nat),i+n=l.length->l.take i=m.take i->LsN ρ E 0 27 zow Q (n+1) (mkP [(0,.sl (l.map zw) false),(1,.sl (m.map zw) false),(5,.int .i64 (i:Int))]) { H:=mkP [],n:=0,log:=[] }:=by
 intro n
 induction n with
 | zero =>
   intro i hi he;have hil:¬ (i:Int)<l.length:=by omega
   have e:l=m:=by
    have:i=l.length:=by omega
    subst this;rw[List.take_length]at he;rw[he,hl,List.take_length]
   refine zkt hρ hcon (by rw[hE];exact follows) (by rw[hE];exact named) fun K hK=>?_
   simp [zow,hE,hil];exact ht e _ _
 | succ n ih =>
   intro i hi he;have hil:i<l.length:=by omega
   have hil':(i:Int)<l.length:=by omega
   have him:i<m.length:=by omega
   obtain⟨hx1,hx2⟩:=h2 l[i] (List.getElem_mem hil);refine zkt hρ hcon (by rw[hE];exact follows) (by rw[hE];exact named) fun K hK=>?_
   have hw:IntKind.i64.wrap ((i:Int)+1)=((i+1:Nat):Int):=zJ (by omega);simp [zow,hE,hil',hil,him,hc,eqF,hx1,hx2];refine zdK (fun h=>?_) (fun h=>?_)<;>simp [hE,hw,-Int.natCast_add]
   . refine hf (fun e=>h ?_) _ _ (by simp);subst e;rfl
   . refine hK _ _ (zL (Less.keep 0 (by simp[-Int.natCast_add]) (by simp) rfl rfl) (ih (i+1) (by omega) ?_));rw[List.take_add_one,List.take_add_one,he,List.getElem?_eq_getElem hil,List.getElem?_eq_getElem him,Classical.not_not.1 h]
theorem zfW{d:Nat}(hc:E.con 40=fnS (zW (eqF d))){l m:List Ty}(h1:l.length<=10000)(h2:Ty.oks l=true)(hd:Ty.sizes l<=d)(hs:HS):CallOk ρ E.P 63 [enc l,enc m] hs (enc (decide (l=m))) hs:=by
 refine zrW hρ hcon (by rw[hE];exact follows) (by rw[hE];exact named) (by rw[hE];exact Tryz.func63) zQV rfl (by simp) ?_ hs;have h3:∀ t∈l,t.ok=true/\t.size<=d:=fun t ht=>⟨Ty.oks_iff.1 h2 t ht,by have:=Ty.size_mem ht;omega⟩
 simp [hE];refine zdK (fun h=>?_) (fun h=>?_)<;>simp [hE]
 . intro e;subst e;exact h rfl
 . refine za6 (zL (Less.keep (TL:=[(0,.sl (l.map zw) false),(1,.sl (m.map zw) false),(5,.int .i64 ((0:Nat):Int))]) (HL:=[]) 0 (by simp) (by simp) rfl rfl) (zfr hρ hE hcon hc ?_ h1 h3 ?_ ?_ l.length 0 (by omega) (by simp)))
   . omega
   . intro hne T hs hT;simp[hT,hne,hE]
   . intro e T hs;simp [e,hE]
end
section
variable {ρ:Nat->Value}(hρ:J.Good ρ){E:Env}(hE:E.P=Tryz.prog)(hcon:ConsOk ρ E)
include hρ hE hcon
theorem zlv{n m:Int}(h1:-4611686018427387904<=m)(h2:m<=4611686018427387904)(hs:HS):CallOk ρ Tryz.prog 51 [enc n,enc m] hs (enc (zx2 n m)) hs:=by
 refine fn hρ hE hcon Tryz.func51 zRe rfl (by simp) ?_ hs;simp [hE];refine zdK (fun h=>?_) (fun h=>?_)<;>simp [hE,h,zx2]
 have hm:1<=m:=by omega
 have hm1:¬ m<1:=h;have hm0:¬ m=0:=by omega
 simp[hm0];refine zdK (fun h=>?_) (fun h=>?_)<;>simp [hE,h]
 . have h3:=Int.lt_tmod_of_pos n (show 0<m by omega);rw[wrap_i64 (by omega) (by omega),if_neg hm1,zw2 hm h]
 . rw[if_neg hm1,zw1 hm (by omega)]
theorem zlw{l:List Int}(hs:HS):CallOk ρ Tryz.prog 9 [enc l] hs (enc (decide (l.length<=60))) hs:=by
 refine fn hρ hE hcon Tryz.func9 fB9 rfl (by simp) ?_ hs;simp [hE];omega
theorem zlb{n:List Nat}{l:List Ty}(hl:l.length<=10000)(hs:HS):CallOk ρ Tryz.prog 53 [enc n,enc l] hs (enc (zfN n l)) hs:=by
 refine fn hρ hE hcon Tryz.func53 zRc rfl (by simp) ?_ hs;rcases l with _|⟨x,l⟩
 . simp [hE,zfN]
 . have h1:(l.length+1)*64<=1048576:=by simp at hl;omega
   simp [hE,zfN,h1]
theorem zkZ(hc:E.con 53=fnS (zW fun n l=>if l.length<=10000 then some (zfN n l)else none))(hs:HS):CallOk ρ Tryz.prog 52 [] hs (enc tInt) hs:=by
 refine fn hρ hE hcon Tryz.func52 zRd rfl (by simp) ?_ hs;simp [hE,zfN,tInt,hc]
theorem ziy(hc:E.con 53=fnS (zW fun n l=>if l.length<=10000 then some (zfN n l)else none)){a b:Ty}(hs:HS):CallOk ρ Tryz.prog 54 [enc a,enc b] hs (enc (zcx a b)) hs:=by
 refine fn hρ hE hcon Tryz.func54 zRb rfl (by simp) ?_ hs;simp [hE,zfN,zcx,hc]
theorem zkY{i:Int}(hs:HS):CallOk ρ Tryz.prog 29 [enc i] hs (enc (zad i)) hs:=by
 refine fn hρ hE hcon Tryz.func29 zRo rfl (by simp) ?_ hs;simp [hE,zad]
theorem zix{i:Int}(hs:HS):CallOk ρ Tryz.prog 34 [enc i] hs (enc (zcn i)) hs:=by
 refine fn hρ hE hcon Tryz.func34 zRj rfl (by simp) ?_ hs;simp [hE,zcn]
theorem ziw{h i:Int}(hs:HS):CallOk ρ Tryz.prog 32 [enc h,enc i] hs (enc (zax h i)) hs:=by
 refine fn hρ hE hcon Tryz.func32 zRl rfl (by simp) ?_ hs;simp [hE,zax]
theorem zf1(hc:E.con 51=fnS (zW fun n m=>if -1000000<=m/\m<=1000000 then some (zx2 n m)else none)){t:Tp}{n:Int}(hi:0<=t.i)(hl:t.l.length<=100000)(hn:-1000000<=n/\n<=1000000)(hs:HS)(id:Nat)(hid:id<hs.n)(hg:hs.H.get id=some (box (Cel.cells t))) :
 CallOk ρ Tryz.prog 23 [.ptr id 0 0,enc n] hs (enc (t.next n).2) (hs.wr id (box (Cel.cells (t.next n).1))):=by
 refine st hρ hE hcon Tryz.func23 zRq rfl (by simp) (by simp) (by simp) (by simp) ?_ hid hg;obtain⟨l,i⟩:=t;obtain⟨j,rfl⟩:=Int.eq_ofNat_of_zero_le hi;simp only at hl;simp [hE];refine zdK (fun h=>?_) (fun h=>?_)
 . simp [hE,h,Tp.next];exact GivesL.keep rfl rfl (by simp) (by simp) (by simp)
 . have hw:IntKind.i64.wrap ((j:Int)+1)=((j+1:Nat):Int):=zJ (by omega);have hw2:IntKind.i64.wrap (((j+1:Nat):Int)-1)=(j:Int):=by rw[wrap_i64 (by omega) (by omega)];omega
   have hj:j<l.length:=by omega
   simp [hE,h,hw,hw2,hj,hc,hn,Tp.next,-Int.natCast_add];exact GivesL.keep rfl rfl (by simp) (by simp) (by simp)
end
section
variable {ρ:Nat->Value}(hρ:J.Good ρ){E:Env}(hE:E.P=Tryz.prog)(hcon:ConsOk ρ E)
include hρ hE hcon
theorem zi8(hc:E.con 29=fnS (zbq fun i=>some (zad i))){n:Nat}(hn:n<=10000){Q:Ex->PT V->HS->Prop}
 (hQ:Q (.exit 0) (mkP [(3,oV 0 ((zaO n).map zw))]) { H:=mkP (oH 0 5 ((zaO n).map zw)),n:=1,log:=[] }) :
 ∀ (m i:Nat) (L:List Ty),i+m=n->L=zaO i->LsN ρ E 0 16 zlL (LessQ 0 Q) (m+1) (mkP [(0,.int .i64 (n:Int)),(3,oV 0 (L.map zw)),(4,.int .i64 (i:Int))]) { H:=mkP (oH 0 5 (L.map zw)),n:=1,log:=[] }:=by
 intro m
 induction m with
 | zero =>
   intro i L hi hL;obtain rfl:i=n:=by omega
   refine lp hρ hE hcon fun K hK=>?_
   rw[<- hL]at hQ;simp [zlL,hE];refine LessQ.mk (Less.keep 1 ?_ ?_ ?_ rfl) hQ<;>rcases L with _|⟨x,L⟩<;>first|rfl|simp
 | succ m ih =>
   intro i L hi hL;have hil:(i:Int)<n:=by omega
   have hw:IntKind.i64.wrap ((i:Int)+1)=((i+1:Nat):Int):=zJ (by omega);have hLl:L.length=i:=by rw[hL];simp
   have hnew:L++[zad i]=zaO (i+1):=by rw[hL,zoR]
   refine lp hρ hE hcon fun K hK=>?_
   rcases L with _|⟨x,L⟩
   . simp [zlL,hE,hil,hc,hw,-Int.natCast_add];exact hK _ _ (zL (Less.lit (fun k=>if k=0 then 8 else k) 1 (by simp[-Int.natCast_add]) (by simp) rfl rfl) (ih (i+1) _ (by omega) hnew))
   . have h64:(L.length+1+1)*64<=1048576:=by simp at hLl;omega
     simp [zlL,hE,hil,hc,hw,h64,Nat.not_succ_le_self,-Int.natCast_add];exact hK _ _ (zL (Less.keep 1 (by simp[-Int.natCast_add]) (by simp) rfl rfl) (ih (i+1) _ (by omega) hnew))
theorem zkg(hc:E.con 29=fnS (zbq fun i=>some (zad i))){n:Nat}(hn:n<=10000){hs:HS}(hv:hs.H.get hs.n=none) :
 CallOk ρ Tryz.prog 25 [enc (n:Int)] hs (oV hs.n ((zaO n).map zw)) (bi (Nat.beq (zS ((zaO n).map zw)) 0) hs { H:=hs.H.set hs.n (oO 5 ((zaO n).map zw)),n:=hs.n+1,log:=hs.n::hs.log }):=by
 refine row hρ hE hcon Tryz.func25 zRp rfl (by simp) (by simp) ?_ hv;simp [hE]
 refine zai (za6 (zL (Less.keep (TL:=[(0,.int .i64 (n:Int)),(3,oV 0 (([]:List Ty).map zw)),(4,.int .i64 ((0:Nat):Int))]) (HL:=oH 0 5 (([]:List Ty).map zw)) 1 (by simp) (by simp) rfl rfl)
  (zi8 hρ hE hcon hc hn ?_ n 0 [] (by omega) rfl)))
 generalize zaO n=L;rcases L with _|⟨x,L⟩
 . simp [hE];exact GivesL.keepX rfl rfl (by simp) (by simp)
 . simp [hE];exact GivesL.keepX rfl rfl (by simp) (by simp)
end
section
variable {ρ:Nat->Value}(hρ:J.Good ρ){E:Env}(hE:E.P=Tryz.prog)(hcon:ConsOk ρ E)
include hρ hE hcon
theorem zi9 (hc:E.con 50=fnS (zfm allD)) {bits:Int} (hs:HS):CallOk ρ Tryz.prog 20 [enc bits] hs (enc (zaI bits)) hs:=by
 refine fn hρ hE hcon Tryz.func20 zRt rfl (by simp) ?_ hs;have hlen:allD.length=7:=rfl;unfold zaI zqV;generalize allD=A at hc hlen;have h1:A[1]?=some A[1]:=List.getElem?_eq_getElem (by omega);rw[h1]
 have main : ∀ (L0:List Decl),L0.length<=1->∀ T hs,Less 0 T hs (mkP [(0,.int .i64 bits),(3,.sl (A.map zao) false),(4,oV 0 (L0.map zao)),(5,.int .i64 ((0:Nat):Int))]) { H:=mkP (oH 0 4 (L0.map zao)),n:=1,log:=[] } ->
  ∀ Q,Q (.exit 0) (mkP [(4,oV 0 ((L0++ziP bits A 0).map zao))]) { H:=mkP (oH 0 4 ((L0++ziP bits A 0).map zao)),n:=1,log:=[] }->Ls ρ E 0 45 (.loop zgv) T hs Q:=by
  intro L0 hL0 T hs hl Q hQ;refine lpi hρ hE hcon 7 (fun i (L:List Decl)=>[(0,.int .i64 bits),(3,.sl (A.map zao) false),(4,oV 0 (L.map zao)),(5,.int .i64 (i:Int))]) (fun i L=>oH 0 4 (L.map zao)) (fun i L=>L=L0++ziP bits (A.take i) 0) L0 hl (by simp[ziP]) ?_ ?_
  . intro L hL K;rw[List.take_of_length_le (by omega)]at hL;subst hL;generalize L0++ziP bits A 0=L at hQ;simp [zgv,hE,hlen];rcases L with _|⟨x,L⟩<;>simp [zgv,hE,hlen]<;>exact LessQ.mk (Less.auto (by simp) (by simp) rfl rfl) hQ
  . intro i L hi hL K hK;have hil:i<A.length:=by omega
    have hi7:(i:Int)<7:=by omega
    have hw:IntKind.i64.wrap ((i:Int)+1)=((i+1:Nat):Int):=zJ (by omega)
    have hL8:L.length<=8:=by
     rw[hL,List.length_append];have:=znV bits (A.take i) 0;rw[List.length_take]at this;omega
    have hnew:∀ L',L'=(if i≠1/\zy4 .i64 (bits.fdiv (2 ^ i)) 1=1 then L++[A[i]]else L)->L'=L0++ziP bits (A.take (i+1)) 0:=by
     intro L' h;rw[h,List.take_add_one,List.getElem?_eq_getElem hil,Option.toList_some,zwO,hL];have:(A.take i).length=i:=by rw[List.length_take];omega
     rw[this,Nat.zero_add];simp only[ziP];split<;>simp
    clear hL;have hgd:∀ h,A[i]'h=A[i]:=fun _=>rfl
    have hw2:IntKind.i64.wrap 2=2:=wrap_i64 (by omega) (by omega)
    have hwu:IntKind.u64.wrap (i:Int)=(i:Int):=by
     have:i<7:=hi
     match i,this with
     | 0,_=>rfl
     | 1,_=>rfl
     | 2,_=>rfl
     | 3,_=>rfl
     | 4,_=>rfl
     | 5,_=>rfl
     | 6,_=>rfl
     |n+7,h=>omega
    have hmin:min i IntKind.i64.bits=i:=Nat.min_eq_left (Nat.le_trans (Nat.le_of_lt hi) (by decide));by_cases h1i:i=1
    . subst h1i;have hnew:=hnew L (by simp);rcases L with _|⟨x,L⟩<;>simp [zgv,hE,hlen,hw2,-Int.natCast_add]<;>exact hK _ hnew _ _ (Less.auto (by simp) (by simp) rfl rfl)
    . have h1i':¬ (i:Int)=1:=by omega
      by_cases hb:zy4 .i64 (bits.fdiv (2 ^ i)) 1=1
      . have hnew:=hnew _ (if_pos ⟨h1i,hb⟩).symm;rcases L with _|⟨x,L⟩
        . simp [zgv,hE,hlen,hi7,hil,hw,hwu,hmin,hi,h1i',hb,-Int.natCast_add];exact hK _ hnew _ _ (Less.auto (by simp[-Int.natCast_add]) (by simp) rfl rfl)
        . have h64:(L.length+1+1)*72<=1048576:=by simp at hL8;omega
          simp [zgv,hE,hlen,hi7,hil,hw,hwu,hmin,hi,h1i',hb,h64,Nat.not_succ_le_self,-Int.natCast_add];exact hK _ hnew _ _ (Less.auto (by simp[-Int.natCast_add]) (by simp) rfl rfl)
      . have hnew:=hnew _ (if_neg fun h=>hb h.2).symm;rcases L with _|⟨x,L⟩<;>simp [zgv,hE,hlen,hi7,hil,hw,hwu,hmin,hi,h1i',hb,-Int.natCast_add]<;>exact hK _ hnew _ _ (Less.auto (by simp[-Int.natCast_add]) (by simp) rfl rfl)
 by_cases h2:zy4 .i64 bits 2=0
 . by_cases h64:zy4 .i64 bits 64=0
   . rw[if_neg (by simp[h2,h64])];simp [hE,hc,hlen,h2,h64];refine main [] (by simp) _ _ (Less.auto (by simp) (by simp) rfl rfl) _ ?_;rw[List.nil_append];generalize ziP bits A 0=R;rcases R with _|⟨y,R⟩<;>simp [hE]
   . rw[if_pos (.inr h64)];simp [hE,hc,hlen,h2,h64];refine main [A[1]] (by simp) _ _ (Less.auto (by simp) (by simp) rfl rfl) _ ?_;simp [hE]
 . rw[if_pos (.inl h2)];simp [hE,hc,hlen,h2];refine main [A[1]] (by simp) _ _ (Less.auto (by simp) (by simp) rfl rfl) _ ?_;simp [hE]
end
open Classical in
def zkc(t:Tp)(n:Int):Option (Tp×Int):=if t.ok/\-1000000<=n/\n<=1000000 then some (t.next n)else none
open Classical in
def zg1(d:Nat)(t:Tp)(D:List Decl)(Lv:List Ty)(n:Int):Option (Tp×Ty):=if t.ok/\DOk D/\Lv.length<=100000/\n<=d then some (typeM n.toNat t D Lv)else none
section
variable {ρ:Nat->Value}(hρ:J.Good ρ){E:Env}(hE:E.P=Tryz.prog)(hcon:ConsOk ρ E)
include hρ hE hcon
theorem zf0 (hN:E.con 23=stS (zqf zkc)) (hC:E.con 53=fnS (zW fun n l=>if l.length<=10000 then some (zfN n l)else none)) (hI:E.con 52=fnS (zfm tInt)) (hA:E.con 54=fnS (zW fun a b=>some (zcx a b)))
 {d:Nat} {n:Int} (hT0:0<n->E.con 24=stS (zqF (zg1 d))) {t:Tp} {D:List Decl} {Lv:List Ty} (ht:t.ok) (hD:DOk D) (hLv:Lv.length<=100000) (hn:n<=d+1) (hdd:d<=1000) (hs:HS) (id:Nat) (hid:id<hs.n) (hg:hs.H.get id=some (box (Cel.cells t))) :
 CallOk ρ Tryz.prog 24 [.ptr id 0 0,enc D,enc Lv,enc n] hs (enc (typeM n.toNat t D Lv).2) (hs.wr id (box (Cel.cells (typeM n.toNat t D Lv).1))):=by
 have h7:zkc t 7=some (t.next 7):=if_pos ⟨ht,by omega,by omega⟩;have ht1:=zbb ht 7;have hk0:=zh7 t 7;generalize hR:typeM n.toNat t D Lv=R;rw[typeM.eq_def]at hR;rcases hq:t.next 7 with⟨t1,k⟩;simp only[hq]at h7 ht1 hk0 hR;refine st hρ hE hcon Tryz.func24 zJx rfl (by simp) (by simp) (by simp) (by simp) ?_ hid hg;by_cases c1:k<3/\Lv≠[]
 . rw[if_pos c1]at hR;obtain⟨j,hj,e1,e2⟩:=zcY t1 c1.2;have hF:zkc t1 (Lv.length:Int)=some (t1.next (Lv.length:Int)):=if_pos ⟨ht1,by omega,by omega⟩;rw[e2]at hR;rcases hq2:t1.next (Lv.length:Int)with⟨t2,k2⟩;simp only[hq2]at hF e1 hR;subst e1 hR;have hlp:0<Lv.length:=by omega
   simp [hE,hN,h7,c1.1,hlp,hF,hj];exact GivesL.keep rfl rfl (by simp) (by simp) (by simp)
 . rw [if_neg c1]at hR;have hp1:¬ (k<3/\0<Lv.length):=fun h=>c1 ⟨h.1,List.length_pos_iff.1 h.2⟩
   by_cases c2:k<4
   . rw[if_pos c2]at hR;subst hR;by_cases c3:k<3
     . have hL0:Lv=[]:=Classical.byContradiction fun h=>c1 ⟨c3,h⟩
       subst hL0;simp [hE,hN,h7,c3,c2,hI];exact GivesL.keep rfl rfl (by simp) (by simp) (by simp)
     . simp [hE,hN,h7,c3,c2,hI];exact GivesL.keep rfl rfl (by simp) (by simp) (by simp)
   . rw [if_neg c2]at hR;have c3:¬ k<3:=by omega
     by_cases c4:n<1
     . have h0:n.toNat=0:=by omega
       rw[h0]at hR;simp only[]at hR;subst hR;simp [hE,hN,h7,c3,c2,c4,hI];exact GivesL.keep rfl rfl (by simp) (by simp) (by simp)
     . have hT := hT0 (by omega);obtain⟨m,hm⟩:∃ m,n.toNat=m+1:=⟨n.toNat-1,by omega⟩;have hnm:n=(m:Int)+1:=by omega
       have hmd:m<=d:=by omega
       rw[hm]at hR;simp only[]at hR;have hw:IntKind.i64.wrap (n-1)=(m:Int):=by rw[hnm,wrap_i64 (by omega) (by omega)];omega
       have hTy:∀ t':Tp,t'.ok->zg1 d t' D Lv (m:Int)=some (typeM m t' D Lv):=fun t' h=>by
        unfold zg1;rw[if_pos ⟨h,hD,hLv,by omega⟩,Int.toNat_natCast]
       by_cases c5:(k=4\/k=5)/\D≠[]
       . rw [if_pos c5]at hR;obtain⟨j,hj,e1,e2⟩:=zcY t1 c5.2;have hF:zkc t1 (D.length:Int)=some (t1.next (D.length:Int)):=if_pos ⟨ht1,by have:=hD.1;omega,by have:=hD.1;omega⟩;have ht2:=zbb ht1 (D.length:Int);rw[e2]at hR;rcases hq2:t1.next (D.length:Int)with⟨t2,k2⟩;simp only[hq2,Option.getD_some]at hF e1 hR ht2;subst e1;have hdp:=hD.2 _ (List.getElem_mem hj);have hDp:0<D.length:=by omega
         generalize hdj:D[j]=dd at hR hdp;obtain⟨dpos,dname,dparams,dctors⟩:=dd;simp only at hR hdp
         have main:∀ T hs,Less 1 T hs (mkP [(0,.ptr 0 0 0),(1,.sl (D.map zao) false),(2,.sl (Lv.map zw) false),(3,.int .i64 n),(8,.ptr 1 0 0),(10,.ptr 2 0 0),(11,oV 3 (([]:List Ty).map zw)),(12,.int .i64 ((0:Nat):Int))])
          { H:=mkP ([(0,box (Cel.cells t2)),(1,box [.int .i64 0,.str [],.int .i64 0,.int .i64 0,.snil]),(2,box (zao ⟨dpos,dname,dparams,dctors⟩))]++oH 3 5 (([]:List Ty).map zw)),n:=4,log:=[] } ->
          ∀ Q,Q (.exit 1) (mkP [(8,.ptr 1 0 0),(10,.ptr 2 0 0),(11,oV 3 ((zcs m t2 D Lv dparams.length).2.map zw))])
            { H:=mkP ([(0,box (Cel.cells (zcs m t2 D Lv dparams.length).1)),(1,box [.int .i64 0,.str [],.int .i64 0,.int .i64 0,.snil]),(2,box (zao ⟨dpos,dname,dparams,dctors⟩))]++oH 3 5 ((zcs m t2 D Lv dparams.length).2.map zw)),n:=4,log:=[] } ->
          Ls ρ E 1 95 (.loop zlM) T hs Q:=by
          intro T hs hl Q hQ
          refine lpi hρ hE hcon dparams.length (fun i (p:Tp×List Ty)=>[(0,.ptr 0 0 0),(1,.sl (D.map zao) false),(2,.sl (Lv.map zw) false),(3,.int .i64 n),(8,.ptr 1 0 0),(10,.ptr 2 0 0),(11,oV 3 (p.2.map zw)),(12,.int .i64 (i:Int))])
           (fun i p=>[(0,box (Cel.cells p.1)),(1,box [.int .i64 0,.str [],.int .i64 0,.int .i64 0,.snil]),(2,box (zao ⟨dpos,dname,dparams,dctors⟩))]++oH 3 5 (p.2.map zw)) (fun i p=>p=zcs m t2 D Lv i) (t2,[]) hl (by rw[zcs]) ?_ ?_
          . intro p hp K;rw[<- hp]at hQ;obtain⟨t3,L⟩:=p;rcases L with _|⟨x,L⟩<;>simp [zlM,hE]<;>exact LessQ.mk (Less.auto (by simp) (by simp) rfl rfl) hQ
          . intro i p hi hp K hK;have hlen:=zfI m t2 D Lv i;have hok:=zy1 (D:=D) (Lv:=Lv) m ht2 i;rw[<- hp]at hlen hok;have hTp:=hTy p.1 hok;have hnew:=hK (typeM m p.1 D Lv |>.1,p.2++[(typeM m p.1 D Lv).2]) (by rw[zcs,<- hp]);have hi':(i:Int)<dparams.length:=by omega
            have hw2:IntKind.i64.wrap ((i:Int)+1)=((i+1:Nat):Int):=zJ (by omega);obtain⟨t3,L⟩:=p;simp only at hTp hnew hlen;rcases hq3:typeM m t3 D Lv with⟨t4,x4⟩;simp only[hq3]at hTp hnew;rcases L with _|⟨x,L⟩
            . simp [zlM,hE,hi,hi',hw,hw2,hT,hTp,-Int.natCast_add];exact hnew _ _ (Less.auto (by simp[-Int.natCast_add]) (by simp) rfl rfl)
            . have h64:(L.length+1+1)*64<=1048576:=by simp at hlen;omega
              simp [zlM,hE,hi,hi',hw,hw2,hT,hTp,h64,Nat.not_succ_le_self,-Int.natCast_add];exact hnew _ _ (Less.auto (by simp[-Int.natCast_add]) (by simp) rfl rfl)
         have hlenR:=zfI m t2 D Lv dparams.length;rcases hq4:zcs m t2 D Lv dparams.length with⟨t5,L⟩;simp only[hq4]at main hR hlenR;subst hR;have hlen2:L.length<=10000:=by omega
         rcases c5.1 with rfl|rfl<;>simp [hE,hN,h7,c4,hF,hj,hdj,hDp]<;>refine main _ _ (Less.auto (by simp) (by simp) rfl rfl) _ ?_ <;>
         (rcases L with _|⟨x,L⟩
          . simp [hE,hC];exact GivesL.keep rfl rfl (by simp[zfN]) (by simp) (by simp)
          . have hl9:L.length<=9999:=by simpa using hlen2
            simp [hE,hC,hl9]
            exact GivesL.keep rfl rfl (by simp[zfN]) (by simp) (by simp))
       . rw [if_neg c5]at hR;have hp5:¬ ((k=4\/k=5)/\0<D.length):=fun h=>c5 ⟨h.1,List.length_pos_iff.1 h.2⟩
         have hF1:=hTy t1 ht1;have ht2:=(zeu (D:=D) (Lv:=Lv) m t1 ht1).1;rcases hq2:typeM m t1 D Lv with⟨t2,a⟩;simp only[hq2]at hF1 hR ht2;have hF2:=hTy t2 ht2;rcases hq3:typeM m t2 D Lv with⟨t3,b⟩;simp only[hq3]at hF2 hR;subst hR;have hD0:(k=4\/k=5)->D=[]:=fun h=>Classical.byContradiction fun hne=>c5 ⟨h,hne⟩
         by_cases c6:k=4
         . have:=hD0 (.inl c6);subst this c6;simp [hE,hN,h7,c4,hw,hT,hF1,hF2,hA];exact GivesL.keep rfl rfl (by simp) (by simp) (by simp)
         . by_cases c7:k=5
           . have:=hD0 (.inr c7);subst this c7;simp [hE,hN,h7,c4,hw,hT,hF1,hF2,hA];exact GivesL.keep rfl rfl (by simp) (by simp) (by simp)
           . simp [hE,hN,h7,c3,c2,c4,c6,c7,hw,hT,hF1,hF2,hA];exact GivesL.keep rfl rfl (by simp) (by simp) (by simp)
end
def zkW(d:Nat)(t:Ty)(s:List Assign):Option Ty:=if t.ok=true/\t.size<=d/\s.length<=100000 then some (t.repl s)else none
section
variable {ρ:Nat->Value}(hρ:J.Good ρ){E:Env}(hE:E.P=Tryz.prog)(hcon:ConsOk ρ E)
include hρ hE hcon
theorem zg7 {d:Nat} (hc:E.con 28=fnS (zW (zkW d))) {t:Ty} {s:List Assign} (ht:t.ok=true) (hd:t.size<=d+1) (hsl:s.length<=100000) (hs:HS):CallOk ρ Tryz.prog 28 [enc t,enc s] hs (enc (t.repl s)) hs:=by
 refine fn hρ hE hcon Tryz.func28 zMU rfl (by simp) ?_ hs;rw[zhl];by_cases hk:t.kind=1
 . rw [if_pos hk];simp [hE,hk]
   refine lpi hρ hE hcon s.length (nn:=2) (fun i (_:Unit)=>[(1,.sl (s.map zau) false),(2,.ptr 0 0 0),(4,.ptr 1 0 0),(5,.int .i64 (i:Int))]) (fun i _=>[(0,box (zw t)),(1,box [.int .i64 0,.str [],.int .i64 0,.int .i64 0,.snil])]) (fun i _=>zaW (s.take i) t.id=none) ()
    (Less.auto (by simp) (by simp[hk]) rfl rfl) rfl ?_ ?_
   . intro _ hl K;rw[List.take_length]at hl;simp [zoz,hE];refine LessQ.mk (Less.auto (TL:=[(2,.ptr 0 0 0),(4,.ptr 1 0 0)]) (HL:=[(0,box (zw t)),(1,box [.int .i64 0,.str [],.int .i64 0,.int .i64 0,.snil])]) (n:=2) (by simp) (by simp[hk]) rfl rfl) ?_;simp [hE,hl,hk]
   . intro i _ hi hl K hK;have hi':(i:Int)<s.length:=by omega
     have hw2:IntKind.i64.wrap ((i:Int)+1)=((i+1:Nat):Int):=zJ (by omega)
     have hlk:∀ j,zaW (s.take (i+1)) j=(zaW (s.take i) j).or (zaW [s[i]] j):=fun j=>by
      rw[List.take_add_one,List.getElem?_eq_getElem hi,Option.toList_some,zdX]
     by_cases he:s[i].id=t.id
     . have hres:zaW s t.id=some s[i].type:=by
        conv=>lhs;rw[<- List.take_append_drop (i+1) s]
        rw[zdX,hlk,hl];simp[zaW,he]
       simp [zoz,hE,hi,hi',he,hk];refine LessQ.mk (Less.auto (TL:=[(4,.ptr 1 0 0)]) (HL:=[(1,box (zw s[i].type))]) (n:=2) (by simp) (by simp) rfl rfl) ?_;simp [hE,hres]
     . have hnew:=hK () (by rw[hlk,hl];simp[zaW,he]);simp [zoz,hE,hi,hi',he,hk,hw2,-Int.natCast_add];exact hnew _ _ (Less.auto (by simp[-Int.natCast_add]) (by simp[hk]) rfl rfl)
 . rw [if_neg hk];simp [hE,hk];have hlen:=Ty.ok_len ht
   refine lpi hρ hE hcon t.args.length (nn:=4) (fun i (L:List Ty)=>[(1,.sl (s.map zau) false),(2,.ptr 0 0 0),(4,.ptr 1 0 0),(6,.ptr 2 0 0),(7,.int .i64 (i:Int))])
    (fun i L=>[(0,box (zw t)),(1,box [.int .i64 0,.str [],.int .i64 0,.int .i64 0,.snil]),(2,box [.int .i64 t.kind,.str t.name,.int .i64 t.id,.int .i64 t.home,oV 3 (L.map zw)])]++oH 3 5 (L.map zw)) (fun i L=>L=(t.args.take i).map (Ty.repl s)) []
    (Less.auto (by simp) (by simp) (by simp) (by simp)) rfl ?_ ?_
   . intro L hL K;rw[List.take_length]at hL;rw[<- hL];clear hL;rcases L with _|⟨x,L⟩
     . simp [zlK,hE];refine LessQ.mk (Less.auto (TL:=[(4,.ptr 1 0 0),(6,.ptr 2 0 0)]) (HL:=[(1,box [.int .i64 0,.str [],.int .i64 0,.int .i64 0,.snil]),(2,box [.int .i64 t.kind,.str t.name,.int .i64 t.id,.int .i64 t.home,.snil])]) (n:=4) (by simp) (by simp) (by simp) (by simp)) ?_;simp [hE]
     . simp [zlK,hE];refine LessQ.mk (Less.auto (TL:=[(4,.ptr 1 0 0),(6,.ptr 2 0 0)]) (HL:=[(1,box [.int .i64 0,.str [],.int .i64 0,.int .i64 0,.snil]),(2,box [.int .i64 t.kind,.str t.name,.int .i64 t.id,.int .i64 t.home,oV 3 ((x::L).map zw)])]++oH 3 5 ((x::L).map zw)) (n:=4) (by simp) (by simp) (by simp) (by simp)) ?_;simp [hE]
   . intro i L hi hL K hK;have hi':(i:Int)<t.args.length:=by omega
     have hw2:IntKind.i64.wrap ((i:Int)+1)=((i+1:Nat):Int):=zJ (by omega);have hm:=List.getElem_mem hi
     have hF:zkW d t.args[i] s=some (t.args[i].repl s):=by
      unfold zkW;rw[if_pos ⟨Ty.ok_arg ht hm,by have:=Ty.size_arg hm;omega,hsl⟩]
     have hnew:=hK (L++[t.args[i].repl s]) (by rw[List.take_add_one,List.getElem?_eq_getElem hi,Option.toList_some,List.map_append,hL];rfl);have hLl:L.length=i:=by rw[hL,List.length_map,List.length_take];omega
     clear hL;generalize t.args[i].repl s=y at hF hnew;rcases L with _|⟨x,L⟩
     . simp [zlK,hE,hi,hi',hc,hF,hw2,-Int.natCast_add];exact hnew _ _ (Less.auto (by simp[-Int.natCast_add]) (by simp) (by simp) (by simp))
     . have h64:(L.length+1+1)*64<=1048576:=by simp at hLl;omega
       simp [zlK,hE,hi,hi',hc,hF,hw2,h64,Nat.not_succ_le_self,-Int.natCast_add];exact hnew _ _ (Less.auto (by simp[-Int.natCast_add]) (by simp) (by simp) (by simp))
end
theorem zwZ{n:Nat}(h:n<=1000):∀ b,b<=200->n*b<=1048576:=fun b hb=>Nat.le_trans (Nat.mul_le_mul h hb) (by decide)
theorem zwY{n:Nat}(h:n<=1000):∀ b,b<=200->(n+1)*b<=1048576:=fun b hb=>Nat.le_trans (Nat.mul_le_mul (Nat.succ_le_succ h) hb) (by decide)
section
variable {ρ:Nat->Value}(hρ:J.Good ρ){E:Env}(hE:E.P=Tryz.prog)(hcon:ConsOk ρ E)
include hρ hE hcon
theorem zjN(hs:HS):CallOk ρ Tryz.prog 21 [] hs (enc (⟨[],[]⟩:Store)) hs:=by
 refine fn hρ hE hcon Tryz.func21 zRs rfl (by simp) ?_ hs;simp [hE]
theorem zhu(hc:E.con 29=fnS (zbq fun i=>some (zad i))){s:Store}{home:Int}{base:Bool}(h:s.small)(hs:HS):CallOk ρ Tryz.prog 22 [enc s,enc home,enc base] hs (enc (s.fresh home base)) hs:=by
 refine fn hρ hE hcon Tryz.func22 zRr rfl (by simp) ?_ hs;obtain⟨sl,tr⟩:=s;obtain⟨h1,h2⟩:=h;simp only at h1 h2;have k1:=zwZ h1;have k2:=zwY h1;have k3:=zwZ h2;have k4:=zwY h2
 rcases sl with _|⟨a,sl⟩<;>rcases tr with _|⟨b,tr⟩<;>simp at k1 k2 k3 k4 <;>
 simp [hE,hc,Store.fresh,ty0,zwF,zad,k1,k2,k3,k4,Nat.not_succ_le_self]
theorem zg8{t:Ty}(hs:HS):CallOk ρ Tryz.prog 30 [enc t] hs (enc (zaH t)) hs:=by
 refine fn hρ hE hcon Tryz.func30 zRn rfl (by simp) ?_ hs;obtain⟨k,n,i,h,l⟩:=t
 rcases l with _|⟨a,_|⟨b,_|⟨c,l⟩⟩⟩<;>simp [hE] <;>
 repeat' (refine zdK (fun h=>?_) (fun h=>?_)<;>simp [h,hE])
 all_goals first|omega|simp_all [zaH,ty0]
theorem zjA{i:Int}(hs:HS):CallOk ρ Tryz.prog 104 [enc i] hs (enc (zad i)) hs:=by
 refine fn hρ hE hcon Tryz.func104 zFE rfl (by simp) ?_ hs;simp [hE,zad]
theorem zjD{s:Store}{i:Int}(hs:HS):CallOk ρ Tryz.prog 107 [enc s,enc i] hs (enc (s.slot? i).isSome) hs:=by
 refine fn hρ hE hcon Tryz.func107 zFD rfl (by simp) ?_ hs
 have e:(s.slot? i).isSome=decide (0<=i/\i<s.slots.length):=by
  cases h:s.slot? i with
  |none=>have:=Store.slot?_none h;simp;omega
  |some x=>obtain⟨j,rfl,hj,_⟩:=Store.slot?_some h;simp;omega
 rw[e];simp [hE]
 repeat' (refine zdK (fun h=>?_) (fun h=>?_)<;>simp [h,hE])
end
section
variable {ρ:Nat->Value}(hρ:J.Good ρ){E:Env}(hE:E.P=Tryz.prog)(hcon:ConsOk ρ E)
include hρ hE hcon
theorem zhr{s:Store}{t:Ty}(hs:HS):CallOk ρ Tryz.prog 77 [enc s,enc t] hs (enc (s.bound t)) hs:=by
 refine fn hρ hE hcon Tryz.func77 zQP rfl (by simp) ?_ hs;by_cases hk:t.kind=1
 . cases h:s.slot? t.id with
   | none =>
     have e:s.bound t=false:=by unfold Store.bound;rw[h];split<;>simp_all
     have:=Store.slot?_none h;simp [hE,hk,e]
     repeat' (refine zdK (fun h=>?_) (fun h=>?_)<;>simp[h,hE,e])
     all_goals omega
   | some x =>
     obtain⟨i,hl,hi,hx⟩:=Store.slot?_at h;rw[Store.bound_eq hk h];simp [hE,hk,hi,hl,hx]
 . have e:s.bound t=false:=by unfold Store.bound;simp[hk]
   simp [hE,hk,e]
theorem zdS(hc:E.con 107=fnS (zW fun (s:Store) (i:Int)=>some (s.slot? i).isSome)){s:Store}{t:Ty}(hs:HS):CallOk ρ Tryz.prog 84 [enc s,enc t] hs (enc (s.bound t)) hs:=by
 refine fn hρ hE hcon Tryz.func84 zMN rfl (by simp) ?_ hs;by_cases hk:t.kind=1
 . cases h:s.slot? t.id with
   | none =>
     have e:s.bound t=false:=by unfold Store.bound;rw[h];split<;>simp_all
     simp [hE,hk,e,hc,h]
   | some x =>
     have h0:=h;obtain⟨i,hl,hi,hx⟩:=Store.slot?_at h;rw[hi]at h0;rw[Store.bound_eq hk h];simp [hE,hk,hi,hl,hx,hc,h0]
 . have e:s.bound t=false:=by unfold Store.bound;simp[hk]
   simp [hE,hk,e]
theorem zhs(hc:E.con 77=fnS (zW fun (s:Store) (t:Ty)=>some (s.bound t))){s:Store}(h:s.slots.length<=1000000){r:Ty}{Q:Ex->PT V->HS->Prop}
 (hQ:Q (.exit 0) (mkP [(3,.ptr 1 0 0),(4,.ptr 2 0 0)]) { H:=mkP [(1,box (zw r)),(2,.arr 5 0 [[.int .i64 0,.str [],.int .i64 0,.int .i64 0,.snil]] true false false)],n:=3,log:=[] }) :
 ∀ (m i:Nat) (t:Ty),i+m=s.slots.length+1->s.walkN m t=r->LsN ρ E 0 26 zlE (LessQ 0 Q) (m+1) (mkP [(2,.ptr 0 0 0),(3,.ptr 1 0 0),(4,.ptr 2 0 0),(5,.int .i64 (i:Int))])
   { H:=mkP [(0,box (zI s)),(1,box (zw t)),(2,.arr 5 0 [[.int .i64 0,.str [],.int .i64 0,.int .i64 0,.snil]] true false false)],n:=3,log:=[] }:=by
 intro m
 induction m with
 | zero =>
   intro i t hi ht;have hil:¬ (i:Int)<=s.slots.length:=by omega
   refine lp hρ hE hcon fun K hK=>?_
   simp [zlE,hE,hil];cases ht;refine LessQ.mk (Less.keep 3 ?_ ?_ rfl rfl) hQ<;>simp[Store.walkN]
 | succ m ih =>
   intro i t hi ht;have hil:(i:Int)<=s.slots.length:=by omega
   have hw:IntKind.i64.wrap ((i:Int)+1)=((i+1:Nat):Int):=zJ (by omega);refine lp hρ hE hcon fun K hK=>?_
   unfold Store.walkN at ht;by_cases hb:s.bound t=true
   . rw[if_pos hb]at ht;obtain⟨hk,x,hx,hxb⟩:=Store.bound_true hb;obtain⟨j,hjl,hj,hxj⟩:=Store.slot?_at hx;have ht2:s.to t=x.type:=by unfold Store.to;rw[hx]
     obtain⟨k,n,id,hm,l⟩:=t;simp only[Ty.id_mk]at hj;subst hj;simp [zlE,hE,hil,hc,hb,hw,hjl,hxj,-Int.natCast_add];rw[ht2]at ht;exact hK _ _ (zL (Less.keep 3 (by simp[-Int.natCast_add]) (by simp) rfl rfl) (ih (i+1) _ (by omega) ht))
   . rw[if_neg hb]at ht;subst ht;simp [zlE,hE,hil,hc,hb];refine LessQ.mk (Less.keep 3 ?_ ?_ rfl rfl) hQ<;>simp
theorem zi3(hc:E.con 77=fnS (zW fun (s:Store) (t:Ty)=>some (s.bound t))){s:Store}(h:s.slots.length<=1000000){t:Ty}(hs:HS):CallOk ρ Tryz.prog 59 [enc s,enc t] hs (enc (s.walkN (s.slots.length+1) t)) hs:=by
 refine fn hρ hE hcon Tryz.func59 zQZ rfl (by simp) ?_ hs;simp [hE];refine zai (za6 (zL (Less.keep (TL:=[(2,.ptr 0 0 0),(3,.ptr 1 0 0),(4,.ptr 2 0 0),(5,.int .i64 ((0:Nat):Int))]) 3 ?_ ?_ rfl rfl) (zhs hρ hE hcon hc h (r:=s.walkN (s.slots.length+1) t) ?_ (s.slots.length+1) 0 t (by omega) rfl)))
 . simp
 . simp
 . simp [hE]
theorem zhb(hc:E.con 84=fnS (zW fun (s:Store) (t:Ty)=>some (s.bound t))){s:Store}(h:s.slots.length<=1000000){r:Ty}{Q:Ex->PT V->HS->Prop}
 (hQ:Q (.exit 0) (mkP [(3,.ptr 1 0 0),(4,.ptr 2 0 0)]) { H:=mkP [(1,box (zw r)),(2,.arr 5 0 [[.int .i64 0,.str [],.int .i64 0,.int .i64 0,.snil]] true false false)],n:=3,log:=[] }) :
 ∀ (m i:Nat) (t:Ty),i+m=s.slots.length->s.walkN m t=r->LsN ρ E 0 23 zeb (LessQ 0 Q) (m+1) (mkP [(2,.ptr 0 0 0),(3,.ptr 1 0 0),(4,.ptr 2 0 0),(7,.int .i64 (s.slots.length:Int)),(8,.int .i64 (i:Int))])
   { H:=mkP [(0,box (zI s)),(1,box (zw t)),(2,.arr 5 0 [[.int .i64 0,.str [],.int .i64 0,.int .i64 0,.snil]] true false false)],n:=3,log:=[] }:=by
 intro m
 induction m with
 | zero =>
   intro i t hi ht;have hil:¬ (i:Int)<s.slots.length:=by omega
   refine lp hρ hE hcon fun K hK=>?_
   simp [zeb,hE,hil];cases ht;refine LessQ.mk (Less.keep 3 ?_ ?_ rfl rfl) hQ<;>simp[Store.walkN]
 | succ m ih =>
   intro i t hi ht;have hil:(i:Int)<s.slots.length:=by omega
   have hw:IntKind.i64.wrap ((i:Int)+1)=((i+1:Nat):Int):=zJ (by omega);refine lp hρ hE hcon fun K hK=>?_
   unfold Store.walkN at ht;by_cases hb:s.bound t=true
   . rw[if_pos hb]at ht;obtain⟨hk,x,hx,hxb⟩:=Store.bound_true hb;obtain⟨j,hjl,hj,hxj⟩:=Store.slot?_at hx;have ht2:s.to t=x.type:=by unfold Store.to;rw[hx]
     obtain⟨k,n,id,hm,l⟩:=t;simp only[Ty.id_mk]at hj;subst hj;simp [zeb,hE,hil,hc,hb,hw,hjl,hxj,-Int.natCast_add];rw[ht2]at ht;exact hK _ _ (zL (Less.keep 3 (by simp[-Int.natCast_add]) (by simp) rfl rfl) (ih (i+1) _ (by omega) ht))
   . rw[if_neg hb]at ht;subst ht;simp [zeb,hE,hil,hc,hb];refine LessQ.mk (Less.keep 3 ?_ ?_ rfl rfl) hQ<;>simp
theorem ziu(hc:E.con 84=fnS (zW fun (s:Store) (t:Ty)=>some (s.bound t))){s:Store}(h:s.slots.length<=1000000){t:Ty}(hs:HS):CallOk ρ Tryz.prog 67 [enc s,enc t] hs (enc (s.walkN s.slots.length t)) hs:=by
 refine fn hρ hE hcon Tryz.func67 zJu rfl (by simp) ?_ hs;simp [hE];refine zai (za6 (zL (Less.keep (TL:=[(2,.ptr 0 0 0),(3,.ptr 1 0 0),(4,.ptr 2 0 0),(7,.int .i64 (s.slots.length:Int)),(8,.int .i64 ((0:Nat):Int))]) 3 ?_ ?_ rfl rfl) (zhb hρ hE hcon hc h (r:=s.walkN s.slots.length t) ?_ s.slots.length 0 t (by omega) rfl)))
 . simp
 . simp
 . simp [hE]
end
def zcN(d:Nat)(L:List Ty)(t:Ty)(kind:Int):Option (List Ty):=if t.size<=d/\t.ok=true/\Ty.oks L=true/\(zaw kind t L).length<=10000 then some (zaw kind t L)else none
theorem zne(kind:Int):∀ (l:List Ty) (i:Nat) (L0:List Ty),(zQ kind (l.take i) L0).length<=(zQ kind l L0).length:=by
 intro l
 induction l with
 |nil=>intro i L0;simp
 | cons a l ih =>
   intro i L0
   cases i with
   |zero=>exact(zce kind (a::l) L0).1
   | succ i =>
     rw[List.take_succ_cons,zQ,zQ];exact ih i _
section
variable {ρ:Nat->Value}(hρ:J.Good ρ){E:Env}(hE:E.P=Tryz.prog)(hcon:ConsOk ρ E)
include hρ hE hcon
theorem zdp {d:Nat} (hc:E.con 56=ioS 5 (zvW (zcN d)) zok) {k:Nat} {t:Ty} {kind:Int} {L0:List Ty} (hk:k=0\/k=1/\L0≠[]) (ht:t.ok=true) (hd:t.size<=d+1) (h0:Ty.oks L0=true) (hl0:(zQ kind t.args L0).length<=10000) {Q:Ex->PT V->HS->Prop}
 (hQ:Q (.exit 2) (mkP [(0,oV 0 ((zQ kind t.args L0).map zw))]) { H:=mkP (oH 0 5 ((zQ kind t.args L0).map zw)),n:=1,log:=[] }) :
 ∀ (n i:Nat) (L:List Ty),i+n=t.args.length->L=zQ kind (t.args.take i) L0->LsN ρ E k 52 zgu (LessQ k Q) (n+1) (mkP [(0,oV 0 (L.map zw)),(2,.int .i64 kind),(4,.ptr 1 0 0),(8,.int .i64 (i:Int))])
   { H:=mkP ((1,box (zw t))::oH 0 5 (L.map zw)),n:=2,log:=[] }:=by
 intro n
 induction n with
 | zero =>
   intro i L hi hL;have hil:¬ (i:Int)<t.args.length:=by omega
   have e:L=zQ kind t.args L0:=by rw[hL,List.take_of_length_le (by omega)]
   rw[<- e]at hQ;have hlen:=zce kind t.args L0;rw[<- e]at hlen;refine lp hρ hE hcon fun K hK=>?_
   rcases L with _|⟨x,L⟩
   . have hk0:k=0:=by
      rcases hk with h|⟨_,h⟩
      . exact h
      . cases L0 with
        |nil=>exact absurd rfl h
        |cons a l=>simp at hlen
     subst hk0;simp [zgu,hE,hil];exact LessQ.mk (Less.keep 1 (by simp) (by simp) rfl rfl) hQ
   . simp [zgu,hE,hil];rcases hk with rfl|⟨rfl,_⟩<;>exact LessQ.mk (Less.keep 1 (by simp) (by simp) rfl rfl) hQ
 | succ n ih =>
   intro i L hi hL;have hil:i<t.args.length:=by omega
   have hil':(i:Int)<t.args.length:=by omega
   have hw:IntKind.i64.wrap ((i:Int)+1)=((i+1:Nat):Int):=zJ (by have:=Ty.ok_len ht;omega);have hm:=List.getElem_mem hil;have hs1:=Ty.size_arg hm;have hok:=Ty.ok_arg ht hm;have hLok:Ty.oks L=true:=by rw[hL];exact zjg (zod (Ty.oks_iff.2 (Ty.ok_iff.1 ht).2) i) _ h0
   have hlen:=zce kind (t.args.take i) L0;rw[<- hL]at hlen
   have hsz:Ty.sizes (t.args.take i)+t.args[i].size<=Ty.sizes t.args:=by
    have:=zc3 t.args (i+1);rw[List.take_add_one,List.getElem?_eq_getElem hil,zdT]at this;simpa [Ty.sizes]using this
   have hts:=Ty.size_eq t
   have hnew:zaw kind t.args[i] L=zQ kind (t.args.take (i+1)) L0:=by
    rw[List.take_add_one,List.getElem?_eq_getElem hil,Option.toList_some,zgr,hL]
   have hb:(zaw kind t.args[i] L).length<=10000:=by rw[hnew];exact Nat.le_trans (zne kind t.args (i+1) L0) hl0
   have hF:zcN d L t.args[i] kind=some (zaw kind t.args[i] L):=by
    unfold zcN;rw[if_pos ⟨by omega,hok,hLok,hb⟩]
   have hml:=zcM kind t.args[i] L;refine lp hρ hE hcon fun K hK=>?_
   generalize hR:zaw kind t.args[i] L=R at hF hnew hml;rcases L with _|⟨x,L⟩
   . have hk0:k=0:=by
      rcases hk with h|⟨_,h⟩
      . exact h
      . cases L0 with
        |nil=>exact absurd rfl h
        |cons a l=>simp at hlen
     subst hk0;rcases R with _|⟨y,R⟩<;>simp [zgu,hE,hil,hil',hc,hw,hF,zok,-Int.natCast_add]
     . exact hK _ _ (zL (Less.keep 2 (by simp[-Int.natCast_add]) (by simp) rfl rfl) (ih (i+1) _ (by omega) hnew))
     . exact hK _ _ (zL (Less.lit (fun k=>if k=0 then 16 else k) 2 (by simp[-Int.natCast_add]) (by simp) rfl rfl) (ih (i+1) _ (by omega) hnew))
   . rcases R with _|⟨y,R⟩
     . simp at hml
     . have hml0:L.length<=R.length:=by simp at hml;omega
       simp [zgu,hE,hil,hil',hc,hw,hF,zok,hml0,-Int.natCast_add];rcases hk with rfl|⟨rfl,_⟩<;>exact hK _ _ (zL (Less.keep 2 (by simp[-Int.natCast_add]) (by simp) rfl rfl) (ih (i+1) _ (by omega) hnew))
theorem zdq (hc:E.con 40=fnS (zW fun a b:Ty=>if a.ok=true then some (decide (a=b))else none)) {k:Nat} {t:Ty} {L:List Ty} (hk:k=0\/k=1/\L≠[]) (h0:Ty.oks L=true) (hl0:L.length<=10000) {Q:Ex->PT V->HS->Prop}
 (hf:t∈L->Q .ret (mkP [(6,oV 0 (L.map zw))]) { H:=mkP (oH 0 5 (L.map zw)),n:=1,log:=[] })
 (hn:t ∉ L->Q (.exit 0) (mkP [(0,oV 0 (L.map zw)),(4,.ptr 1 0 0)]) { H:=mkP ((1,box (zw t))::oH 0 5 (L.map zw)),n:=2,log:=[] }) :
 ∀ (n i:Nat),i+n=L.length->t ∉ L.take i->LsN ρ E k 52 zlF (LessQ k Q) (n+1) (mkP [(0,oV 0 (L.map zw)),(4,.ptr 1 0 0),(7,.int .i64 (i:Int))])
   { H:=mkP ((1,box (zw t))::oH 0 5 (L.map zw)),n:=2,log:=[] }:=by
 intro n
 induction n with
 | zero =>
   intro i hi hL;have hil:¬ (i:Int)<L.length:=by omega
   have e:t ∉ L:=by rw[List.take_of_length_le (by omega)]at hL;exact hL
   have hn:=hn e;refine lp hρ hE hcon fun K hK=>?_
   rcases L with _|⟨x,L⟩
   . have hk0:k=0:=by
      rcases hk with h|⟨_,h⟩
      . exact h
      . exact absurd rfl h
     subst hk0;obtain rfl:i=0:=by simpa using hi
     simp [zlF,hE];exact LessQ.mk (Less.keep 2 (by simp) (by simp) rfl rfl) hn
   . have hil2:¬ (i:Int)<(L.length:Int)+1:=by simp at hil;omega
     simp [zlF,hE,hil2];rcases hk with rfl|⟨rfl,_⟩<;>exact LessQ.mk (Less.keep 2 (by simp) (by simp) rfl rfl) hn
 | succ n ih =>
   intro i hi hL;have hil:i<L.length:=by omega
   have hw:IntKind.i64.wrap ((i:Int)+1)=((i+1:Nat):Int):=zJ (by omega);have hok:=Ty.oks_iff.1 h0 _ (List.getElem_mem hil)
   have hnext:L[i]≠t->t ∉ L.take (i+1):=by
    intro h hm;rw[List.take_add_one,List.getElem?_eq_getElem hil]at hm;rcases List.mem_append.1 hm with hm|hm
    . exact hL hm
    . exact h (List.mem_singleton.1 hm).symm
   have hmem:L[i]=t->t∈L:=fun h=>h ▸ List.getElem_mem hil
   have hgi:(L.map zw)[i]?=some (zw L[i]):=by rw[List.getElem?_map,List.getElem?_eq_getElem hil];rfl
   refine lp hρ hE hcon fun K hK=>?_
   generalize L[i]=y at hok hnext hmem hgi;rcases L with _|⟨x,L⟩
   . simp at hil
   . have hil2:(i:Int)<(L.length:Int)+1:=by simp at hil;omega
     have hil3:i<L.length+1:=by simpa using hil
     simp only[List.map_cons,zgh]at hgi;have hgi3:∀ h,(zw x::L.map zw)[i]'h=zw y:=fun h=>by simp only[zgh];exact(List.getElem?_eq_some_iff.1 hgi).2
     simp only[zgh]at hgi3;have hd1:i*5 / 5=i:=by omega
     have hd2:i*5 % 5=0:=by omega
     simp [zlF,hE,hil2,hil3,hc,hok,hd1,hd2,hgi3];refine zdK (fun h=>?_) (fun h=>?_)<;>simp [hE,hw,-Int.natCast_add]
     . rcases hk with rfl|⟨rfl,_⟩<;>exact LessQ.mk (Less.keep 1 (by simp) (by simp) rfl rfl) (hf (hmem h))
     . rcases hk with rfl|⟨rfl,_⟩<;>exact hK _ _ (zL (Less.keep 2 (by simp[-Int.natCast_add]) (by simp) rfl rfl) (ih (i+1) (by omega) (hnext h)))
theorem zhm {d:Nat} (hcE:E.con 40=fnS (zW fun a b:Ty=>if a.ok=true then some (decide (a=b))else none)) (hc:E.con 56=ioS 5 (zvW (zcN d)) zok) {L:List Ty} {t:Ty} {kind:Int} (ht:t.ok=true) (hd:t.size<=d+1) (h0:Ty.oks L=true) (hl0:(zaw kind t L).length<=10000)
 {hs:HS} {v:V} (hv:rowOf 5 hs v=some (L.map zw)) (hvac:hs.H.get hs.n=none):CallOk ρ Tryz.prog 56 [v,enc t,enc kind] hs (zb9 5 v (L.map zw) ((zaw kind t L).map zw) hs).1 (zb9 5 v (L.map zw) ((zaw kind t L).map zw) hs).2:=by
 have hlen:=zcM kind t L;refine io hρ hE hcon (K:=zok) (rs:=[]) (.inl rfl) Tryz.func56 zMP rfl (by simp) (by simp) (by simp) rfl (by simpa using hlen.1) ?_ hv hvac;clear hv hvac;rw[zcd]
 have hk:(if L.map zw=[]then 0 else 1)=0\/(if L.map zw=[]then 0 else 1)=1/\L≠[]:=by
  cases L with
  |nil=>exact .inl rfl
  |cons a l=>exact .inr ⟨rfl,by simp⟩
 by_cases hleaf:t.kind=kind/\t.args=[]
 . rw [if_pos hleaf];obtain⟨hkd,har⟩:=hleaf;rcases L with _|⟨x,L⟩
   . simp [hE,hkd,har];refine zai (za6 (zL (Less.lit (TL:=[(0,oV 0 (([]:List Ty).map zw)),(4,.ptr 1 0 0),(7,.int .i64 ((0:Nat):Int))]) (HL:=(1,box (zw t))::oH 0 5 (([]:List Ty).map zw)) (fun k=>if k=1 then 0 else k) 2 ?_ ?_ rfl rfl) (zdq hρ hE hcon hcE (.inl rfl) h0 (by simp) ?_ ?_ 0 0 rfl (by simp))))
     . simp
     . simp[har,hkd]
     . intro h;cases h
     . intro _;simp [hE,hkd,har];exact GivesL.litX (fun k=>if k=0 then 5 else k) rfl rfl ⟨rfl,rfl⟩ (by simp)
   . simp [hE,hkd,har];refine zai (za6 (zL (Less.keep (TL:=[(0,oV 0 ((x::L).map zw)),(4,.ptr 1 0 0),(7,.int .i64 ((0:Nat):Int))]) (HL:=(1,box (zw t))::oH 0 5 ((x::L).map zw)) 2 ?_ ?_ rfl rfl) (zdq hρ hE hcon hcE (.inr ⟨rfl,by simp⟩) h0 (by omega) ?_ ?_ (x::L).length 0 (by omega) (by simp))))
     . simp
     . simp[har,hkd]
     . intro h;simp [hE,hkd,har,h];exact GivesL.keepX rfl rfl rfl (by simp)
     . intro hn;have h64:(L.length+1+1)*64<=1048576:=by have:=hlen.1;simp only[List.length_cons]at this;omega
       simp [hE,hkd,har,hn,h64,Nat.not_succ_le_self];exact GivesL.keepX rfl rfl rfl (by simp)
 . rw [if_neg hleaf];have hneq:t.kind=kind->¬ t.args=[]:=fun h1 h2=>hleaf ⟨h1,h2⟩
   have hl1:(zQ kind t.args L).length<=10000:=by rw[zcd,if_neg hleaf]at hl0;exact hl0
   rcases L with _|⟨x,L⟩
   . have go:∀ T hs',Less 0 T hs' (mkP [(0,oV 0 (([]:List Ty).map zw)),(2,.int .i64 kind),(4,.ptr 1 0 0),(8,.int .i64 ((0:Nat):Int))]) { H:=mkP ((1,box (zw t))::oH 0 5 (([]:List Ty).map zw)),n:=2,log:=[] } ->
      ∀ Q,Q (.exit 2) (mkP [(0,oV 0 ((zQ kind t.args []).map zw))]) { H:=mkP (oH 0 5 ((zQ kind t.args []).map zw)),n:=1,log:=[] }->Ls ρ E 0 52 (.loop zgu) T hs' Q:=fun T hs' hl Q hQ =>
      zai (za6 (zL hl (zdp hρ hE hcon hc (.inl rfl) ht hd h0 hl1 hQ t.args.length 0 [] (by omega) rfl)))
     by_cases h1:t.kind=kind
     . have h2:=hneq h1;simp [hE,h1,h2];refine go _ _ (Less.lit (fun k=>if k=1 then 0 else k) 2 (by simp) (by simp[h1]) rfl rfl) _ ?_;generalize zQ kind t.args []=R;rcases R with _|⟨y,R⟩<;>simp [hE]<;>exact GivesL.keepX rfl rfl rfl (by simp)
     . simp [hE,h1];refine go _ _ (Less.lit (fun k=>if k=1 then 0 else k) 2 (by simp) (by simp) rfl rfl) _ ?_;generalize zQ kind t.args []=R;rcases R with _|⟨y,R⟩<;>simp [hE]<;>exact GivesL.keepX rfl rfl rfl (by simp)
   . have hRl:=(zce kind t.args (x::L)).1
     have go:∀ T hs',Less 1 T hs' (mkP [(0,oV 0 ((x::L).map zw)),(2,.int .i64 kind),(4,.ptr 1 0 0),(8,.int .i64 ((0:Nat):Int))]) { H:=mkP ((1,box (zw t))::oH 0 5 ((x::L).map zw)),n:=2,log:=[] } ->
      ∀ Q,Q (.exit 2) (mkP [(0,oV 0 ((zQ kind t.args (x::L)).map zw))]) { H:=mkP (oH 0 5 ((zQ kind t.args (x::L)).map zw)),n:=1,log:=[] }->Ls ρ E 1 52 (.loop zgu) T hs' Q:=fun T hs' hl Q hQ =>
      zai (za6 (zL hl (zdp hρ hE hcon hc (.inr ⟨rfl,by simp⟩) ht hd h0 hl1 hQ t.args.length 0 (x::L) (by omega) rfl)))
     by_cases h1:t.kind=kind
     . have h2:=hneq h1;simp [hE,h1,h2];refine go _ _ (Less.keep 2 (by simp) (by simp[h1]) rfl rfl) _ ?_;generalize zQ kind t.args (x::L)=R at hRl;rcases R with _|⟨y,R⟩
       . simp at hRl
       . simp [hE];exact GivesL.keepX rfl rfl rfl (by simp)
     . simp [hE,h1];refine go _ _ (Less.keep 2 (by simp) (by simp) rfl rfl) _ ?_;generalize zQ kind t.args (x::L)=R at hRl;rcases R with _|⟨y,R⟩
       . simp at hRl
       . simp [hE];exact GivesL.keepX rfl rfl rfl (by simp)
end
section
variable {ρ:Nat->Value}(hρ:J.Good ρ){E:Env}(hE:E.P=Tryz.prog)(hcon:ConsOk ρ E)
include hρ hE hcon
theorem zjL{l:List Int}{x:Int}(h1:l.length<=1000000){Q:Ex->PT V->HS->Prop}
 (hf:x∈l->∀ T hs,T.get 4=some (.bool true)->Q .ret T hs) (ht:x ∉ l->∀ T hs,Q (.exit 0) T hs) :
 ∀ (n i:Nat),i+n=l.length->x ∉ l.take i->LsN ρ E 0 18 zov Q (n+1) (mkP [(0,.sl (l.map encI) false),(1,.int .i64 x),(5,.int .i64 (i:Int))]) { H:=mkP [],n:=0,log:=[] }:=by
 intro n
 induction n with
 | zero =>
   intro i hi he;have hil:¬ (i:Int)<l.length:=by omega
   have e:x ∉ l:=by rw[List.take_of_length_le (by omega)]at he;exact he
   refine lp hρ hE hcon fun K hK=>?_
   simp [zov,hE,hil];exact ht e _ _
 | succ n ih =>
   intro i hi he;have hil:i<l.length:=by omega
   have hil':(i:Int)<l.length:=by omega
   have hw:IntKind.i64.wrap ((i:Int)+1)=((i+1:Nat):Int):=zJ (by omega)
   have hnext:l[i]≠x->x ∉ l.take (i+1):=by
    intro h hm;rw[List.take_add_one,List.getElem?_eq_getElem hil]at hm;rcases List.mem_append.1 hm with hm|hm
    . exact he hm
    . exact h (List.mem_singleton.1 hm).symm
   have hmem:l[i]=x->x∈l:=fun h=>h ▸ List.getElem_mem hil
   refine lp hρ hE hcon fun K hK=>?_
   simp [zov,hE,hil',hil];refine zdK (fun h=>?_) (fun h=>?_)<;>simp [hE,hw,-Int.natCast_add]
   . exact hf (hmem h) _ _ (by simp)
   . exact hK _ _ (zL (Less.keep 0 (by simp[-Int.natCast_add]) (by simp) rfl rfl) (ih (i+1) (by omega) (hnext h)))
theorem zla{l:List Int}{x:Int}(h1:l.length<=1000000)(hs:HS):CallOk ρ Tryz.prog 66 [enc l,enc x] hs (enc (decide (x∈l))) hs:=by
 refine fn hρ hE hcon Tryz.func66 zQU rfl (by simp) ?_ hs;simp [hE];refine za6 (zL (Less.keep (TL:=[(0,.sl (l.map encI) false),(1,.int .i64 x),(5,.int .i64 ((0:Nat):Int))]) (HL:=[]) 0 (by simp) (by simp) rfl rfl) (zjL hρ hE hcon h1 ?_ ?_ l.length 0 (by omega) (by simp)))
 . intro h T hs hT;simp[hT,h,hE]
 . intro h T hs;simp [h,hE]
theorem zg6 {d:Nat} (hc:E.con 56=ioS 5 (zvW (zcN d)) zok) {l:List Ty} (hl:Ty.oks l=true) (hll:l.length<=10000) (hd:Ty.sizes l<=d) (hd2:d<=10000) {Q:Ex->PT V->HS->Prop}
 (hQ:Q (.exit 0) (mkP [(3,oV 0 ((zQ 3 l []).map zw))]) { H:=mkP (oH 0 5 ((zQ 3 l []).map zw)),n:=1,log:=[] }) :
 ∀ (n i:Nat) (L:List Ty),i+n=l.length->L=zQ 3 (l.take i) []->LsN ρ E 0 18 zlJ (LessQ 0 Q) (n+1) (mkP [(0,.sl (l.map zw) false),(3,oV 0 (L.map zw)),(4,.int .i64 (i:Int))])
   { H:=mkP (oH 0 5 (L.map zw)),n:=1,log:=[] }:=by
 intro n
 induction n with
 | zero =>
   intro i L hi hL;have hil:¬ (i:Int)<l.length:=by omega
   have e:L=zQ 3 l []:=by rw[hL,List.take_of_length_le (by omega)]
   rw[<- e]at hQ;refine lp hρ hE hcon fun K hK=>?_
   rcases L with _|⟨x,L⟩<;>simp [zlJ,hE,hil]<;>exact LessQ.mk (Less.keep 1 (by simp) (by simp) rfl rfl) hQ
 | succ n ih =>
   intro i L hi hL;have hil:i<l.length:=by omega
   have hil':(i:Int)<l.length:=by omega
   have hw:IntKind.i64.wrap ((i:Int)+1)=((i+1:Nat):Int):=zJ (by omega);have hm:=List.getElem_mem hil;have hok:=Ty.oks_iff.1 hl _ hm;have hLok:Ty.oks L=true:=by rw[hL];exact zjg (zod hl i) _ rfl
   have hlen:=zce 3 (l.take i) [];rw[<- hL]at hlen
   have hsz:Ty.sizes (l.take i)+l[i].size<=Ty.sizes l:=by
    have:=zc3 l (i+1);rw[List.take_add_one,List.getElem?_eq_getElem hil,zdT]at this;simpa [Ty.sizes]using this
   have hnew:zaw 3 l[i] L=zQ 3 (l.take (i+1)) []:=by
    rw[List.take_add_one,List.getElem?_eq_getElem hil,Option.toList_some,zgr,hL]
   have hb:(zaw 3 l[i] L).length<=10000:=by have:=(zcM 3 l[i] L).2;simp at hlen;omega
   have hF:zcN d L l[i] 3=some (zaw 3 l[i] L):=by
    unfold zcN;rw[if_pos ⟨by omega,hok,hLok,hb⟩]
   have hml:=zcM 3 l[i] L;refine lp hρ hE hcon fun K hK=>?_
   generalize hR:zaw 3 l[i] L=R at hF hnew hml;rcases L with _|⟨x,L⟩
   . rcases R with _|⟨y,R⟩<;>simp [zlJ,hE,hil,hil',hc,hw,hF,zok,-Int.natCast_add]
     . exact hK _ _ (zL (Less.keep 1 (by simp[-Int.natCast_add]) (by simp) rfl rfl) (ih (i+1) _ (by omega) hnew))
     . exact hK _ _ (zL (Less.lit (fun k=>if k=0 then 12 else k) 1 (by simp[-Int.natCast_add]) (by simp) rfl rfl) (ih (i+1) _ (by omega) hnew))
   . rcases R with _|⟨y,R⟩
     . simp at hml
     . have hml0:L.length<=R.length:=by simp at hml;omega
       simp [zlJ,hE,hil,hil',hc,hw,hF,zok,hml0,-Int.natCast_add];exact hK _ _ (zL (Less.keep 1 (by simp[-Int.natCast_add]) (by simp) rfl rfl) (ih (i+1) _ (by omega) hnew))
theorem zhn{d:Nat}(hc:E.con 56=ioS 5 (zvW (zcN d)) zok){l:List Ty}(hl:Ty.oks l=true)(hll:l.length<=10000)(hd:Ty.sizes l<=d)(hd2:d<=10000)(hs:HS):CallOk ρ Tryz.prog 31 [enc l] hs (enc (zbl l)) hs:=by
 refine fn hρ hE hcon Tryz.func31 zRm rfl (by simp) ?_ hs;simp [hE];refine zai (za6 (zL (Less.keep (TL:=[(0,.sl (l.map zw) false),(3,oV 0 (([]:List Ty).map zw)),(4,.int .i64 ((0:Nat):Int))]) (HL:=oH 0 5 (([]:List Ty).map zw)) 1 (by simp) (by simp) rfl rfl) (zg6 hρ hE hcon hc hl hll hd hd2 ?_ l.length 0 [] (by omega) rfl)));unfold zbl;generalize zQ 3 l []=R;rcases R with _|⟨y,R⟩<;>simp [hE]
end
section
variable {ρ:Nat->Value}(hρ:J.Good ρ){E:Env}(hE:E.P=Tryz.prog)(hcon:ConsOk ρ E)
include hρ hE hcon
theorem zjM{s:Store}{id:Int}{x:Slot}(h:s.small)(hs:HS):CallOk ρ Tryz.prog 78 [enc s,enc id,enc x] hs (enc (s.set id x)) hs:=by
 refine fn hρ hE hcon Tryz.func78 zQO rfl (by simp) ?_ hs
 cases hx:s.slot? id with
 | none =>
   have:=Store.slot?_none hx;by_cases h0:id<0
   . simp [hE,Store.set,hx,h0]
   . have h3:(s.slots.length:Int)<=id:=by omega
     simp [hE,Store.set,hx,h0,h3]
 | some old =>
   have hset:s.set id x=(⟨s.slots.set id.toNat x,s.trail++[⟨id,old,false⟩]⟩,true):=by unfold Store.set;rw[hx]
   rw[hset];obtain⟨i,hl,rfl,hold⟩:=Store.slot?_at hx;clear hset hx;obtain⟨sl,tr⟩:=s;obtain⟨h1,h2⟩:=h;simp only at h1 h2 hl hold;have k1:=zwZ h1;have k2:=zwY h1;have k3:=zwZ h2;have k4:=zwY h2;have hgi:(sl.map zG)[i]?=some (zG old):=by rw[List.getElem?_map,List.getElem?_eq_getElem hl,hold];rfl
   have hd1:i*8 / 8=i:=by omega
   have hd2:i*8 % 8=0:=by omega
   rcases sl with _|⟨a,sl⟩
   . simp at hl
   have hl2:i<sl.length+1:=by simpa using hl
   have hl3:¬ (sl.length:Int)+1<=(i:Int):=by omega
   have hl4:¬ (i:Int)<0:=by omega
   simp only[List.map_cons,zG]at hgi;have hgi3:∀ h,(zG a::sl.map zG)[i]'h=zG old:=fun h=>by simp only[zG];exact(List.getElem?_eq_some_iff.1 hgi).2
   simp only[zG]at hgi3
   rcases tr with _|⟨b,tr⟩<;>simp at k1 k2 k3 k4 <;>
   simp [hE,k1,k2,k3,k4,Nat.not_succ_le_self,hl2,hl3,hl4,hd1,hd2,hgi3,hold]
   all_goals
    have e1:(zG a::sl.map zG).set i (zG x)=((a::sl).set i x).map zG:=by rw[List.map_set];rfl
    simp only[zG]at e1;rw[e1,List.take_of_length_le (by simp),zlp]
end
end Go.Proofs.YtfgmnebfhemnpaaGreat
/- Ranges from the end,rolling back. -/
namespace Go.Proofs.YtfgmnebfhemnpaaGreat
open Go.J
open Go.J.Enc (enc)
set_option maxRecDepth 100000
set_option maxHeartbeats 1000000
section
variable {ρ:Nat->Value}(hρ:J.Good ρ){E:Env}(hE:E.P=Tryz.prog)(hcon:ConsOk ρ E)
include hρ hE hcon
theorem zeN{l:List Slot}(hs:HS):CallOk ρ Tryz.prog 38 [enc l] hs (enc l) hs:=by
 refine fn hρ hE hcon Tryz.func38 zRg rfl (by simp) ?_ hs;simp [hE,zbN,zjF,bounds,zky,zR,zaP]
end
end Go.Proofs.YtfgmnebfhemnpaaGreat
/- The contracts of small functions,joined. -/
namespace Go.Proofs.YtfgmnebfhemnpaaGreat
open Go.J
open Go.J.Enc (enc)
set_option maxRecDepth 100000
set_option maxHeartbeats 1000000
theorem zV{c:Prop}{_:Decidable c}{α:Type}{x r:α}(h:(if c then some x else none)=some r):c/\x=r:=by
 split at h
 . cases h;exact⟨‹_›,rfl⟩
 . cases h
theorem fo{f:Nat}{fn:Func}{sc:SC}(hf:Tryz.prog.funcs[f]?=some fn)(hb:fn.body.bind zz=some sc):zeH Tryz.prog f:=zJq hf (by
 cases h:fn.body with
 |none=>rw[h]at hb;cases hb
 |some c=>rfl)
abbrev EL(L:List (Nat×J.Spec)):Env:=zFR Tryz.prog pol L
section
variable {ρ:Nat->Value}(hρ:J.Good ρ)
include hρ
def zO8:J.Spec:=fnS (zW fun n m:Int=>if -1000000<=m/\m<=1000000 then some (zx2 n m)else none)
theorem zSd:Valid ρ Tryz.prog 51 zO8:=v2 (fo Tryz.func51 zRe) fun a b r h hs=>by
 obtain⟨h1,rfl⟩:=zV h;exact zlv hρ (E:=EL []) rfl (zu valid_nil) (by omega) (by omega) hs
def zFd:J.Spec:=fnS (zbq fun l:List Int=>some (decide (l.length<=60)))
theorem zSf:Valid ρ Tryz.prog 9 zFd:=v1 (fo Tryz.func9 fB9) fun a r h hs=>by
 cases h;exact zlw hρ (E:=EL []) rfl (zu valid_nil) hs
def zJO:J.Spec:=fnS (zW fun (n:List Nat) (l:List Ty)=>if l.length<=10000 then some (zfN n l)else none)
theorem zKE:Valid ρ Tryz.prog 53 zJO:=v2 (fo Tryz.func53 zRc) fun a b r h hs=>by
 obtain⟨h1,rfl⟩:=zV h;exact zlb hρ (E:=EL []) rfl (zu valid_nil) h1 hs
theorem zSe:Valid ρ Tryz.prog 52 (fnS (zfm tInt)):=v0 (fo Tryz.func52 zRd) fun hs =>
 zkZ hρ (E:=EL [(53,zJO)]) rfl (zu (zq (zKE hρ) valid_nil)) rfl hs
theorem zCZ:Valid ρ Tryz.prog 54 (fnS (zW fun a b:Ty=>some (zcx a b))):=v2 (fo Tryz.func54 zRb) fun a b r h hs=>by
 cases h;exact ziy hρ (E:=EL [(53,zJO)]) rfl (zu (zq (zKE hρ) valid_nil)) rfl hs
theorem zKA:Valid ρ Tryz.prog 29 (fnS (zbq fun i:Int=>some (zad i))):=v1 (fo Tryz.func29 zRo) fun a r h hs=>by
 cases h;exact zkY hρ (E:=EL []) rfl (zu valid_nil) hs
theorem zCY:Valid ρ Tryz.prog 34 (fnS (zbq fun i:Int=>some (zcn i))):=v1 (fo Tryz.func34 zRj) fun a r h hs=>by
 cases h;exact zix hρ (E:=EL []) rfl (zu valid_nil) hs
theorem zyV:Valid ρ Tryz.prog 32 (fnS (zW fun h i:Int=>some (zax h i))):=v2 (fo Tryz.func32 zRl) fun a b r h hs=>by
 cases h;exact ziw hρ (E:=EL []) rfl (zu valid_nil) hs
theorem zCR:Valid ρ Tryz.prog 23 (stS (zqf zkc)):=s1 (fo Tryz.func23 zRq) fun s a q h hs id hid hg=>by
 obtain⟨⟨h1,h2⟩,rfl⟩:=zV h;exact zf1 hρ (E:=EL [(51,zO8)]) rfl (zu (zq (zSd hρ) valid_nil)) rfl h1.1 h1.2 h2 hs id hid hg
theorem vEq(d:Nat):Valid ρ Tryz.prog 40 (fnS (zW (eqF d)))/\Valid ρ Tryz.prog 63 (fnS (zW (zjm d))):=by
 have all:∀ d,Valid ρ Tryz.prog 40 (fnS (zW (eqF d)))->Valid ρ Tryz.prog 63 (fnS (zW (zjm d))):=fun d hv=>v2 (fo Tryz.func63 zQV) fun a b r h hs=>by
  obtain⟨⟨h1,h2,h3⟩,rfl⟩:=zV h;exact zfW hρ (E:=EL [(40,fnS (zW (eqF d)))]) rfl (zu (zq hv valid_nil)) rfl h1 h2 h3 hs
 have one:∀ d,Valid ρ Tryz.prog 40 (fnS (zW (eqF d))):=by
  intro d
  induction d with
  | zero =>
    refine v2 (fo Tryz.func40 zJw) fun a b r h hs=>?_
    obtain⟨⟨h1,h2⟩,rfl⟩:=zV h;have:=Ty.size_eq a;omega
  | succ d ih =>
    refine v2 (fo Tryz.func40 zJw) fun a b r h hs=>?_
    obtain⟨⟨h1,h2⟩,rfl⟩:=zV h;exact zeC hρ (E:=EL [(63,fnS (zW (zjm d)))]) rfl (zu (zq (all d ih) valid_nil)) rfl h1 h2 hs
 exact⟨one d,all d (one d)⟩
def zjk:J.Spec:=fnS (zW fun a b:Ty=>if a.ok=true then some (decide (a=b))else none)
theorem zyW:Valid ρ Tryz.prog 40 zjk:=v2 (fo Tryz.func40 zJw) fun a b r h hs=>by
 obtain⟨h1,rfl⟩:=zV h;exact zeC hρ (E:=EL [(63,fnS (zW (zjm a.size)))]) rfl (zu (zq (vEq hρ a.size).2 valid_nil)) rfl h1 (by omega) hs
theorem zwp(d:Nat):Valid ρ Tryz.prog 28 (fnS (zW (zkW d))):=by
 induction d with
 | zero =>
   refine v2 (fo Tryz.func28 zMU) fun a b r h hs=>?_
   obtain⟨⟨h1,h2,h3⟩,rfl⟩:=zV h;have:=Ty.size_eq a;omega
 | succ d ih =>
   refine v2 (fo Tryz.func28 zMU) fun a b r h hs=>?_
   obtain⟨⟨h1,h2,h3⟩,rfl⟩:=zV h;exact zg7 hρ (E:=EL [(28,fnS (zW (zkW d)))]) rfl (zu (zq ih valid_nil)) rfl h1 h2 h3 hs
theorem z7k(d:Nat):Valid ρ Tryz.prog 56 (ioS 5 (zvW (zcN d)) zok):=by
 induction d with
 | zero =>
   refine Valid.io (fo Tryz.func56 zMP) fun es vs r _ _ h0 _ _ _ hs v hv hvac=>?_
   obtain⟨l,a,b,q,rfl,rfl,h,rfl⟩:=zom h0;obtain⟨⟨h1,h2,h3⟩,rfl⟩:=zV h;have:=Ty.size_eq a;omega
 | succ d ih =>
   refine Valid.io (fo Tryz.func56 zMP) fun es vs r _ _ h0 _ _ _ hs v hv hvac=>?_
   obtain⟨l,a,b,q,rfl,rfl,h,rfl⟩:=zom h0;obtain⟨⟨h1,h2,h3,h4⟩,rfl⟩:=zV h;exact zhm hρ (E:=EL [(40,zjk),(56,ioS 5 (zvW (zcN d)) zok)]) rfl (zu (zq (zyW hρ) (zq ih valid_nil))) rfl rfl h2 h1 h3 h4 hv hvac
def zkj:J.Spec:=fnC (zW fun (l:List Int) (x:Int)=>if l.length<=1000000 then some (decide (x∈l))else none)
theorem zNR:Valid ρ Tryz.prog 66 zkj:=c2 (fo Tryz.func66 zQU) fun a b r h hs=>by
 obtain⟨h1,rfl⟩:=zV h;exact zla hρ (E:=EL []) rfl (zu valid_nil) h1 hs
end
end Go.Proofs.YtfgmnebfhemnpaaGreat
/- The contracts of the functions on stores,joined. -/
namespace Go.Proofs.YtfgmnebfhemnpaaGreat
open Go.J
open Go.J.Enc (enc)
set_option maxRecDepth 100000
set_option maxHeartbeats 1000000
theorem zv5(l:List Ty):l.length<=Ty.sizes l:=by
 induction l with
 |nil=>exact Nat.le_refl _
 |cons t l ih=>have:=Ty.size_pos t;simp only[Ty.sizes,List.length_cons];omega
section
variable {ρ:Nat->Value}(hρ:J.Good ρ)
include hρ
theorem zqx:Valid ρ Tryz.prog 38 (fnS (zbq fun l:List Slot=>some l)):=v1 (fo Tryz.func38 zRg) fun a r h hs=>by
 cases h;exact zeN hρ (E:=EL []) rfl (zu valid_nil) hs
end
def szF(d:Nat)(s:Store)(t:Ty)(m:Int):Option Int:=if s.tysOk/\t.ok=true/\0<=m/\m<d then some ((sz s.w16 t m.toNat:Nat):Int)else none
section
variable {ρ:Nat->Value}(hρ:J.Good ρ){E:Env}(hE:E.P=Tryz.prog)(hcon:ConsOk ρ E)
include hρ hE hcon
theorem zhq {d:Nat} (hc:E.con 47=fnS (zaA (szF d))) (hd:d<=1000000) {s:Store} (hs:s.tysOk) {u:Ty} (hu:u.ok=true) {m:Nat} (hm:m<=d) {R:Nat} {Q:Ex->PT V->HS->Prop}
 (hQ:Q (.exit 0) (mkP [(7,.int .i64 (R:Int)),(2,.int .i64 (m:Int))]) { H:=mkP [],n:=0,log:=[] }) :
 ∀ (n i r:Nat),i+n=u.args.length->1<=r->r<=m+1->szL (sz s.w16) m (u.args.drop i) r=R ->
   LsN ρ E 0 40 zlH (LessQ 0 Q) (n+1) (mkP [(8,.int .i64 (i:Int)),(4,.ptr 1 0 0),(7,.int .i64 (r:Int)),(2,.int .i64 (m:Int)),(3,.ptr 0 0 0)]) { H:=mkP [(0,box (zI s)),(1,box (zw u))],n:=2,log:=[] }:=by
 intro n
 induction n with
 | zero =>
   intro i r hi hr1 hr2 hR;have hil:¬ (i:Int)<u.args.length:=by omega
   rw[List.drop_of_length_le (by omega)]at hR;simp only[szL]at hR;subst hR;refine lp hρ hE hcon fun K hK=>?_
   simp [zlH,hE,hil];exact LessQ.mk (Less.keep 0 (by simp) (by simp) rfl rfl) hQ
 | succ n ih =>
   intro i r hi hr1 hr2 hR;have hil:i<u.args.length:=by omega
   have hil':(i:Int)<u.args.length:=by omega
   have hlen:=Ty.ok_len hu;have hw:IntKind.i64.wrap ((i:Int)+1)=((i+1:Nat):Int):=zJ (by omega);have hx:=Ty.ok_arg hu (List.getElem_mem hil);rw[List.drop_eq_getElem_cons hil]at hR;generalize hX:u.args[i]=x at hx hR;refine lp hρ hE hcon fun K hK=>?_
   unfold szL at hR;by_cases hrm:r<=m
   . rw[if_pos hrm]at hR;have hrm':(r:Int)<=m:=by omega
     have hsub:IntKind.i64.wrap ((m:Int)-(r:Int))=((m-r:Nat):Int):=by rw[wrap_i64 (by omega) (by omega)];omega
     have hF:szF d s x ((m-r:Nat):Int)=some ((sz s.w16 x (m-r):Nat):Int):=by
      unfold szF;rw[if_pos ⟨hs,hx,by omega,by omega⟩,Int.toNat_natCast]
     have hle:=zjC (w:=s.w16) x (m-r);generalize sz s.w16 x (m-r)=q at hF hle hR;have hadd:IntKind.i64.wrap ((r:Int)+(q:Int))=((r+q:Nat):Int):=by rw[wrap_i64 (by omega) (by omega)];omega
     simp [zlH,hE,hil,hil',hrm',hX,hsub,hc,hF,hadd,hw,-Int.natCast_add];exact hK _ _ (zL (Less.keep 2 (by simp[-Int.natCast_add]) (by simp) rfl rfl) (ih (i+1) (r+q) (by omega) (by omega) (by omega) hR))
   . rw[if_neg hrm]at hR;subst hR;have hrm':¬ (r:Int)<=m:=by omega
     simp [zlH,hE,hil,hil',hrm'];exact LessQ.mk (Less.keep 0 (by simp) (by simp) rfl rfl) hQ
theorem zi2{d:Nat}(hc:E.con 47=fnS (zaA (szF d)))(hd:d<=1000000)(hw:E.con 59=fnS (zW fun (s:Store) (t:Ty)=>if s.slots.length<=1000000 then some (s.w16 t)else none))
 {s:Store} (hs:s.tysOk) {t:Ty} (ht:t.ok=true) {m:Nat} (hm:m<=d) (hs0:HS):CallOk ρ Tryz.prog 47 [enc s,enc t,enc (m:Int)] hs0 (enc ((sz s.w16 t m:Nat):Int)) hs0:=by
 refine fn hρ hE hcon Tryz.func47 zMR rfl (by simp) ?_ hs0;have h1:s.slots.length<=1000000:=by have:=hs.1;omega
 have hu:(s.w16 t).ok=true:=Store.walkN_ok hs _ ht;have e:=zw4 (w:=s.w16) t m;have hadd:IntKind.i64.wrap ((m:Int)+1)=((m+1:Nat):Int):=zJ (by omega);generalize hU:s.w16 t=u at hu e;simp [hE,hw,h1,hU]
 refine zai (za6 (zL (Less.keep (TL:=[(8,.int .i64 ((0:Nat):Int)),(4,.ptr 1 0 0),(7,.int .i64 ((1:Nat):Int)),(2,.int .i64 (m:Int)),(3,.ptr 0 0 0)]) (HL:=[(0,box (zI s)),(1,box (zw u))]) 2 (by simp) (by simp[zgh]) rfl rfl)
  (zhq hρ hE hcon hc hd hs hu hm (R:=szL (sz s.w16) m u.args 1) ?_ u.args.length 0 1 (by omega) (by omega) (by omega) rfl)))
 have e2:min ((szL (sz s.w16) m u.args 1:Nat):Int) ((m+1:Nat):Int)=((sz s.w16 t m:Nat):Int):=by rw[e];omega
 generalize szL (sz s.w16) m u.args 1=q at e2;rw[<- e2];simp [hE,hadd,-Int.natCast_add];split<;>omega
theorem zi5(hc:E.con 47=fnS (zaA (szF 1000000))){s:Store}(hs:s.tysOk){t:Ty}(ht:t.ok=true){m:Int}(hm:m<1000000)(hs0:HS):CallOk ρ Tryz.prog 17 [enc s,enc t,enc m] hs0 (enc ((sz s.w16 t (max m 0).toNat:Nat):Int)) hs0:=by
 refine fn hρ hE hcon Tryz.func17 zRw rfl (by simp) ?_ hs0
 have hF:szF 1000000 s t (if m<0 then 0 else m)=some ((sz s.w16 t (max m 0).toNat:Nat):Int):=by
  have e:(if m<0 then 0 else m)=max m 0:=by split<;>omega
  rw[e];unfold szF;rw[if_pos ⟨hs,ht,by omega,by omega⟩]
 simp [hE,hc,hF]
end
end Go.Proofs.YtfgmnebfhemnpaaGreat
