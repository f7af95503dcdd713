import Derived.Test.YthfcfmkdeheicaaGreatGAG
import Derived.Test.YthfcfmkdeheicaaGreatJL
set_option linter.all false
noncomputable section
namespace Go.Proofs.YthfcfmkdeheicaaGreat
open Go.J
open Go.J.Enc (enc)
set_option maxRecDepth 100000
set_option maxHeartbeats 4000000
section
variable {ρ:Nat→Value}(hρ:J.Good ρ){E:Env}(hE:E.P=Tryz.prog)(hcon:ConsOk ρ E)
include hρ hE hcon
def eqF(d:Nat)(a b:Ty):Option Bool:=if a.ok=true∧a.size≤d then some (decide (a=b))else none
def eqAllF(d:Nat)(l m:List Ty):Option Bool:=if l.length≤10000∧Ty.oks l=true∧Ty.sizes l≤d then some (decide (l=m))else none
theorem zjF{d:Nat}(hc:E.con 77=fnS (zD (eqAllF d))){a b:Ty}(ha:a.ok=true)(hd:a.size≤d+1)(hs:HS):CallOk ρ E.P 23 [enc a,enc b] hs (enc (decide (a=b))) hs:=by
 refine fn_run hρ hcon (by rw[hE];exact follows) (by rw[hE];exact named) (by rw[hE];exact Tryz.func23) fB23 rfl (by simp) ?_ hs
 have h1:=Ty.ok_len ha
 have h2:Ty.oks a.args=true:=Ty.oks_iff.2 (Ty.ok_iff.1 ha).2
 have h3:Ty.sizes a.args≤d:=by have:=Ty.size_eq a;omega
 simp[fS23,fS23r0,fS23r1,fS23r2,fS23r3,hE]
 repeat' (refine zn2 (fun h=>?_) (fun h=>?_)<;>simp[h,hE,hc,eqAllF,fS23r2,fS23r3,h1,h2,h3])
 all_goals (rw[Ty.eq_iff];simp_all)
theorem zlt{d:Nat}(hc:E.con 23=fnS (zD (eqF d))){l m:List Ty}(hl:l.length=m.length)(h1:l.length≤10000)(h2:∀ t∈l,t.ok=true∧t.size≤d){Q:Ex→PT V→HS→Prop}
 (hf:l≠m→∀ T hs,T.get 4=some (.bool false)→Q .ret T hs) (ht:l=m→∀ T hs,Q (.exit 0) T hs) :
 ∀ (n i:Nat),i+n=l.length→l.take i=m.take i→LsN ρ E 0 27 fS77l0 Q (n+1) (mkP [(0,.sl (l.map zh) false),(1,.sl (m.map zh) false),(5,.int .i64 (i:Int))]) { H:=mkP [],n:=0,log:=[] }:=by
 intro n
 induction n with
 | zero =>
   intro i hi he
   have hil:¬ (i:Int)<l.length:=by omega
   have e:l=m:=by
    have:i=l.length:=by omega
    subst this
    rw[List.take_length]at he
    rw[he,hl,List.take_length]
   refine LsN_step hρ hcon (by rw[hE];exact follows) (by rw[hE];exact named) fun K hK=>?_
   simp[fS77l0,fS77r4,hE,hil]
   exact ht e _ _
 | succ n ih =>
   intro i hi he
   have hil:i<l.length:=by omega
   have hil':(i:Int)<l.length:=by omega
   have him:i<m.length:=by omega
   obtain⟨hx1,hx2⟩:=h2 l[i] (List.getElem_mem hil)
   refine LsN_step hρ hcon (by rw[hE];exact follows) (by rw[hE];exact named) fun K hK=>?_
   have hw:IntKind.i64.wrap ((i:Int)+1)=((i+1:Nat):Int):=zq (by omega)
   simp[fS77l0,fS77r4,fS77b0,fS77r5,hE,hil',hil,him,hc,eqF,hx1,hx2]
   refine zn2 (fun h=>?_) (fun h=>?_)<;>simp[fS77r6,fS77r7,hE,hw,-Int.natCast_add]
   · refine hf (fun e=>h ?_) _ _ (by simp)
     subst e;rfl
   · refine hK _ _ (zQ (Less.keep 0 (by simp[-Int.natCast_add]) (by simp) rfl rfl) (ih (i+1) (by omega) ?_))
     rw[List.take_add_one,List.take_add_one,he,List.getElem?_eq_getElem hil,List.getElem?_eq_getElem him,Classical.not_not.1 h]
theorem zmo{d:Nat}(hc:E.con 23=fnS (zD (eqF d))){l m:List Ty}(h1:l.length≤10000)(h2:Ty.oks l=true)(hd:Ty.sizes l≤d)(hs:HS):CallOk ρ E.P 77 [enc l,enc m] hs (enc (decide (l=m))) hs:=by
 refine fn_run hρ hcon (by rw[hE];exact follows) (by rw[hE];exact named) (by rw[hE];exact Tryz.func77) fB77 rfl (by simp) ?_ hs
 have h3:∀ t∈l,t.ok=true∧t.size≤d:=fun t ht=>⟨Ty.oks_iff.1 h2 t ht,by have:=Ty.size_mem ht;omega⟩
 simp[fS77,fS77r0,fS77r1,fS77r3,fS77b1,hE]
 refine zn2 (fun h=>?_) (fun h=>?_)<;>simp[fS77r2,fS77r3,hE]
 · intro e;subst e;exact h rfl
 · refine zfW (zQ (Less.keep (TL:=[(0,.sl (l.map zh) false),(1,.sl (m.map zh) false),(5,.int .i64 ((0:Nat):Int))]) (HL:=[]) 0 (by simp) (by simp) rfl rfl) (zlt hρ hE hcon hc ?_ h1 h3 ?_ ?_ l.length 0 (by omega) (by simp)))
   · omega
   · intro hne T hs hT
     simp[hT,hne,hE]
   · intro e T hs
     simp[fS77r8,e,hE]
end
end Go.Proofs.YthfcfmkdeheicaaGreat
namespace Go.Proofs.YthfcfmkdeheicaaGreat
open Go.J
open Go.J.Enc (enc)
set_option maxRecDepth 100000
set_option maxHeartbeats 4000000
section
variable {ρ:Nat→Value}(hρ:J.Good ρ){E:Env}(hE:E.P=Tryz.prog)(hcon:ConsOk ρ E)
include hρ hE hcon
theorem make_Mod_run{n m:Int}(h1:-4611686018427387904≤m)(h2:m≤4611686018427387904)(hs:HS):CallOk ρ Tryz.prog 14 [enc n,enc m] hs (enc (modI n m)) hs:=by
 refine fn hρ hE hcon Tryz.func14 fB14 rfl (by simp) ?_ hs
 simp[fS14r0,fS14r1,fS14r2,fS14r3,fS14r4,fS14r5,fS14r6,fS14,hE]
 refine zn2 (fun h=>?_) (fun h=>?_)<;>simp[fS14r0,fS14r1,fS14r2,fS14r3,fS14r4,fS14r5,fS14r6,fS14,hE,h,modI]
 have hm:1≤m:=by omega
 have hm1:¬ m<1:=h
 have hm0:¬ m=0:=by omega
 simp[hm0]
 refine zn2 (fun h=>?_) (fun h=>?_)<;>simp[fS14r0,fS14r1,fS14r2,fS14r3,fS14r4,fS14r5,fS14r6,fS14,hE,h]
 · have h3:=Int.lt_tmod_of_pos n (show 0<m by omega)
   rw[wrap_i64 (by omega) (by omega),if_neg hm1,tmod_neg hm h]
 · rw[if_neg hm1,tmod_pos hm (by omega)]
theorem make_Few_run{l:List Int}(hs:HS):CallOk ρ Tryz.prog 10 [enc l] hs (enc (decide (l.length≤60))) hs:=by
 refine fn hρ hE hcon Tryz.func10 fB10 rfl (by simp) ?_ hs
 simp[fS10r0,fS10r1,fS10,hE]
 omega
theorem ref3_Con_run{n:List Nat}{l:List Ty}(hl:l.length≤10000)(hs:HS):CallOk ρ Tryz.prog 61 [enc n,enc l] hs (enc (zok n l)) hs:=by
 refine fn hρ hE hcon Tryz.func61 fB61 rfl (by simp) ?_ hs
 rcases l with _|⟨x,l⟩
 · simp[fS61r0,fS61r1,fS61,hE,zok]
 · have h1:(l.length+1)*64≤1048576:=by simp at hl;omega
   simp[fS61r0,fS61r1,fS61,hE,zok,h1]
theorem ref3_Int_run(hc:E.con 61=fnS (zD fun n l=>if l.length≤10000 then some (zok n l)else none))(hs:HS):CallOk ρ Tryz.prog 49 [] hs (enc tInt) hs:=by
 refine fn hρ hE hcon Tryz.func49 fB49 rfl (by simp) ?_ hs
 simp[fS49r0,fS49r1,fS49,hE,zok,tInt,hc]
theorem ref3_Arrow_run(hc:E.con 61=fnS (zD fun n l=>if l.length≤10000 then some (zok n l)else none)){a b:Ty}(hs:HS):CallOk ρ Tryz.prog 62 [enc a,enc b] hs (enc (zhy a b)) hs:=by
 refine fn hρ hE hcon Tryz.func62 fB62 rfl (by simp) ?_ hs
 simp[fS62r0,fS62r1,fS62,hE,zok,zhy,hc]
theorem ref3_Var_run{i:Int}(hs:HS):CallOk ρ Tryz.prog 52 [enc i] hs (enc (zA i)) hs:=by
 refine fn hρ hE hcon Tryz.func52 fB52 rfl (by simp) ?_ hs
 simp[fS52r0,fS52r1,fS52,hE,zA]
theorem ref3_Rigid_run{h i:Int}(hs:HS):CallOk ρ Tryz.prog 58 [enc h,enc i] hs (enc (zc3 h i)) hs:=by
 refine fn hρ hE hcon Tryz.func58 fB58 rfl (by simp) ?_ hs
 simp[fS58r0,fS58r1,fS58,hE,zc3]
theorem zl1(hc:E.con 14=fnS (zD fun n m=>if -1000000≤m∧m≤1000000 then some (modI n m)else none)){t:Tp}{n:Int}(hi:0≤t.i)(hl:t.l.length≤100000)(hn:-1000000≤n∧n≤1000000)(hs:HS)(id:Nat)(hid:id<hs.n)(hg:hs.H.get id=some (box (Cel.cells t))) :
 CallOk ρ Tryz.prog 56 [.ptr id 0 0,enc n] hs (enc (t.next n).2) (hs.wr id (box (Cel.cells (t.next n).1))):=by
 refine st hρ hE hcon Tryz.func56 fB56 rfl (by simp) (by simp) (by simp) (by simp) ?_ hid hg
 obtain⟨l,i⟩:=t
 obtain⟨j,rfl⟩:=Int.eq_ofNat_of_zero_le hi
 simp only at hl
 simp[fS56r0,fS56r1,fS56r2,fS56r3,fS56r4,fS56,hE]
 refine zn2 (fun h=>?_) (fun h=>?_)
 · simp[fS56r0,fS56r1,fS56r2,fS56r3,fS56r4,fS56,hE,h,Tp.next]
   exact GivesL.keep rfl rfl (by simp) (by simp) (by simp)
 · have hw:IntKind.i64.wrap ((j:Int)+1)=((j+1:Nat):Int):=zq (by omega)
   have hw2:IntKind.i64.wrap (((j+1:Nat):Int)-1)=(j:Int):=by rw[wrap_i64 (by omega) (by omega)];omega
   have hj:j<l.length:=by omega
   simp[fS56r0,fS56r1,fS56r2,fS56r3,fS56r4,fS56,hE,h,hw,hw2,hj,hc,hn,Tp.next,-Int.natCast_add]
   exact GivesL.keep rfl rfl (by simp) (by simp) (by simp)
end
end Go.Proofs.YthfcfmkdeheicaaGreat
namespace Go.Proofs.YthfcfmkdeheicaaGreat
open Go.J
open Go.J.Enc (enc)
set_option maxRecDepth 100000
set_option maxHeartbeats 4000000
section
variable {ρ:Nat→Value}(hρ:J.Good ρ){E:Env}(hE:E.P=Tryz.prog)(hcon:ConsOk ρ E)
include hρ hE hcon
theorem make_Vars_loop(hc:E.con 52=fnS (zan fun i=>some (zA i))){n:Nat}(hn:n≤10000){Q:Ex→PT V→HS→Prop}
 (hQ:Q (.exit 0) (mkP [(3,oV 0 ((za0 n).map zh))]) { H:=mkP (oH 0 5 ((za0 n).map zh)),n:=1,log:=[] }) :
 ∀ (m i:Nat) (L:List Ty),i+m=n→L=za0 i→LsN ρ E 0 16 fS16l0 (LessQ 0 Q) (m+1) (mkP [(0,.int .i64 (n:Int)),(3,oV 0 (L.map zh)),(4,.int .i64 (i:Int))]) { H:=mkP (oH 0 5 (L.map zh)),n:=1,log:=[] }:=by
 intro m
 induction m with
 | zero =>
   intro i L hi hL
   obtain rfl:i=n:=by omega
   refine lp hρ hE hcon fun K hK=>?_
   rw[← hL]at hQ
   simp[fS16l0,zpt,zps,zpr,zpq,zpp,zpv,zpo,zpu,zpn,fS16,hE]
   refine LessQ.mk (Less.keep 1 ?_ ?_ ?_ rfl) hQ<;>rcases L with _|⟨x,L⟩<;>first|rfl|simp
 | succ m ih =>
   intro i L hi hL
   have hil:(i:Int)<n:=by omega
   have hw:IntKind.i64.wrap ((i:Int)+1)=((i+1:Nat):Int):=zq (by omega)
   have hLl:L.length=i:=by rw[hL];simp
   have hnew:L++[zA i]=za0 (i+1):=by rw[hL,varTs_succ]
   refine lp hρ hE hcon fun K hK=>?_
   rcases L with _|⟨x,L⟩
   · simp[fS16l0,zpt,zps,zpr,zpq,zpp,zpv,zpo,zpu,zpn,fS16,hE,hil,hc,hw,-Int.natCast_add]
     exact hK _ _ (zQ (Less.lit (fun k=>if k=0 then 8 else k) 1 (by simp[-Int.natCast_add]) (by simp) rfl rfl) (ih (i+1) _ (by omega) hnew))
   · have h64:(L.length+1+1)*64≤1048576:=by simp at hLl;omega
     simp[fS16l0,zpt,zps,zpr,zpq,zpp,zpv,zpo,zpu,zpn,fS16,hE,hil,hc,hw,h64,Nat.not_succ_le_self,-Int.natCast_add]
     exact hK _ _ (zQ (Less.keep 1 (by simp[-Int.natCast_add]) (by simp) rfl rfl) (ih (i+1) _ (by omega) hnew))
theorem make_Vars_run(hc:E.con 52=fnS (zan fun i=>some (zA i))){n:Nat}(hn:n≤10000){hs:HS}(hv:hs.H.get hs.n=none) :
 CallOk ρ Tryz.prog 16 [enc (n:Int)] hs (oV hs.n ((za0 n).map zh)) (bi (Nat.beq (zC ((za0 n).map zh)) 0) hs { H:=hs.H.set hs.n (oO 5 ((za0 n).map zh)),n:=hs.n+1,log:=hs.n::hs.log }):=by
 refine row hρ hE hcon Tryz.func16 fB16 rfl (by simp) (by simp) ?_ hv
 simp[zpt,zps,zpr,zpq,zpp,zpv,zpo,zpu,zpn,fS16,hE]
 refine zfp (zfW (zQ (Less.keep (TL:=[(0,.int .i64 (n:Int)),(3,oV 0 (([]:List Ty).map zh)),(4,.int .i64 ((0:Nat):Int))]) (HL:=oH 0 5 (([]:List Ty).map zh)) 1 (by simp) (by simp) rfl rfl)
  (make_Vars_loop hρ hE hcon hc hn ?_ n 0 [] (by omega) rfl)))
 generalize za0 n=L
 rcases L with _|⟨x,L⟩
 · simp[zpt,zps,zpr,zpq,zpp,zpv,zpo,zpu,zpn,fS16,hE]
   exact GivesL.keepX rfl rfl (by simp) (by simp)
 · simp[zpt,zps,zpr,zpq,zpp,zpv,zpo,zpu,zpn,fS16,hE]
   exact GivesL.keepX rfl rfl (by simp) (by simp)
end
end Go.Proofs.YthfcfmkdeheicaaGreat
namespace Go.Proofs.YthfcfmkdeheicaaGreat
open Go.J
open Go.J.Enc (enc)
set_option maxRecDepth 100000
set_option maxHeartbeats 4000000
section
variable {ρ:Nat→Value}(hρ:J.Good ρ){E:Env}(hE:E.P=Tryz.prog)(hcon:ConsOk ρ E)
include hρ hE hcon
theorem make_Datas_run (hc:E.con 60=fnS (zlp allD)) {bits:Int} (hs:HS):CallOk ρ Tryz.prog 12 [enc bits] hs (enc (zaI bits)) hs:=by
 refine fn hρ hE hcon Tryz.func12 fB12 rfl (by simp) ?_ hs
 have hlen:allD.length=7:=rfl
 unfold zaI selD1
 generalize allD=A at hc hlen
 have h1:A[1]?=some A[1]:=List.getElem?_eq_getElem (by omega)
 rw[h1]
 have main : ∀ (L0:List Decl),L0.length≤1→∀ T hs,Less 0 T hs (mkP [(0,.int .i64 bits),(3,.sl (A.map zJ) false),(4,oV 0 (L0.map zJ)),(5,.int .i64 ((0:Nat):Int))]) { H:=mkP (oH 0 4 (L0.map zJ)),n:=1,log:=[] } →
  ∀ Q,Q (.exit 0) (mkP [(4,oV 0 ((L0++selD bits A 0).map zJ))]) { H:=mkP (oH 0 4 ((L0++selD bits A 0).map zJ)),n:=1,log:=[] }→Ls ρ E 0 45 (.loop zn0) T hs Q:=by
  intro L0 hL0 T hs hl Q hQ
  refine lpi hρ hE hcon 7 (fun i (L:List Decl)=>[(0,.int .i64 bits),(3,.sl (A.map zJ) false),(4,oV 0 (L.map zJ)),(5,.int .i64 (i:Int))]) (fun i L=>oH 0 4 (L.map zJ)) (fun i L=>L=L0++selD bits (A.take i) 0) L0 hl (by simp[selD]) ?_ ?_
  · intro L hL K
    rw[List.take_of_length_le (by omega)]at hL
    subst hL
    generalize L0++selD bits A 0=L at hQ
    simp[zn0,zhV,zhU,zhT,zhS,zhR,zhQ,zhP,zhO,zhN,zhX,zhM,zhW,zes,fS12,hE,hlen]
    rcases L with _|⟨x,L⟩<;>simp[zn0,zhV,zhU,zhT,zhS,zhR,zhQ,zhP,zhO,zhN,zhX,zhM,zhW,zes,fS12,hE,hlen]<;>exact LessQ.mk (Less.auto (by simp) (by simp) rfl rfl) hQ
  · intro i L hi hL K hK
    have hil:i<A.length:=by omega
    have hi7:(i:Int)<7:=by omega
    have hw:IntKind.i64.wrap ((i:Int)+1)=((i+1:Nat):Int):=zq (by omega)
    have hL8:L.length≤8:=by
     rw[hL,List.length_append]
     have:=selD_len bits (A.take i) 0
     rw[List.length_take]at this
     omega
    have hnew:∀ L',L'=(if i≠1∧andI .i64 (bits.fdiv (2 ^ i)) 1=1 then L++[A[i]]else L)→L'=L0++selD bits (A.take (i+1)) 0:=by
     intro L' h
     rw[h,List.take_add_one,List.getElem?_eq_getElem hil,Option.toList_some,selD_app,hL]
     have:(A.take i).length=i:=by rw[List.length_take];omega
     rw[this,Nat.zero_add]
     simp only[selD]
     split<;>simp
    clear hL
    have hgd:∀ h,A[i]'h=A[i]:=fun _=>rfl
    have hw2:IntKind.i64.wrap 2=2:=wrap_i64 (by omega) (by omega)
    have hwu:IntKind.u64.wrap (i:Int)=(i:Int):=by
     have:i<7:=hi
     match i,this with
     | 0,_=>rfl
     | 1,_=>rfl
     | 2,_=>rfl
     | 3,_=>rfl
     | 4,_=>rfl
     | 5,_=>rfl
     | 6,_=>rfl
     |n+7,h=>omega
    have hmin:min i IntKind.i64.bits=i:=Nat.min_eq_left (Nat.le_trans (Nat.le_of_lt hi) (by decide))
    by_cases h1i:i=1
    · subst h1i
      have hnew:=hnew L (by simp)
      rcases L with _|⟨x,L⟩<;>simp[zn0,zhV,zhU,zhT,zhS,zhR,zhQ,zhP,zhO,zhN,zhX,zhM,zhW,zes,fS12,hE,hlen,hw2,-Int.natCast_add]<;>exact hK _ hnew _ _ (Less.auto (by simp) (by simp) rfl rfl)
    · have h1i':¬ (i:Int)=1:=by omega
      by_cases hb:andI .i64 (bits.fdiv (2 ^ i)) 1=1
      · have hnew:=hnew _ (if_pos ⟨h1i,hb⟩).symm
        rcases L with _|⟨x,L⟩
        · simp[zn0,zhV,zhU,zhT,zhS,zhR,zhQ,zhP,zhO,zhN,zhX,zhM,zhW,zes,fS12,hE,hlen,hi7,hil,hw,hwu,hmin,hi,h1i',hb,-Int.natCast_add]
          exact hK _ hnew _ _ (Less.auto (by simp[-Int.natCast_add]) (by simp) rfl rfl)
        · have h64:(L.length+1+1)*72≤1048576:=by simp at hL8;omega
          simp[zn0,zhV,zhU,zhT,zhS,zhR,zhQ,zhP,zhO,zhN,zhX,zhM,zhW,zes,fS12,hE,hlen,hi7,hil,hw,hwu,hmin,hi,h1i',hb,h64,Nat.not_succ_le_self,-Int.natCast_add]
          exact hK _ hnew _ _ (Less.auto (by simp[-Int.natCast_add]) (by simp) rfl rfl)
      · have hnew:=hnew _ (if_neg fun h=>hb h.2).symm
        rcases L with _|⟨x,L⟩<;>simp[zn0,zhV,zhU,zhT,zhS,zhR,zhQ,zhP,zhO,zhN,zhX,zhM,zhW,zes,fS12,hE,hlen,hi7,hil,hw,hwu,hmin,hi,h1i',hb,-Int.natCast_add]<;>exact hK _ hnew _ _ (Less.auto (by simp[-Int.natCast_add]) (by simp) rfl rfl)
 by_cases h2:andI .i64 bits 2=0
 · by_cases h64:andI .i64 bits 64=0
   · rw[if_neg (by simp[h2,h64])]
     simp[zhV,zhU,zhT,zhS,zhR,zhQ,zhP,zhO,zhN,zhX,zhM,zhW,zes,fS12,hE,hc,hlen,h2,h64]
     refine main [] (by simp) _ _ (Less.auto (by simp) (by simp) rfl rfl) _ ?_
     rw[List.nil_append]
     generalize selD bits A 0=R
     rcases R with _|⟨y,R⟩<;>simp[zhV,zhU,zhT,zhS,zhR,zhQ,zhP,zhO,zhN,zhX,zhM,zhW,zes,fS12,hE]
   · rw[if_pos (.inr h64)]
     simp[zhV,zhU,zhT,zhS,zhR,zhQ,zhP,zhO,zhN,zhX,zhM,zhW,zes,fS12,hE,hc,hlen,h2,h64]
     refine main [A[1]] (by simp) _ _ (Less.auto (by simp) (by simp) rfl rfl) _ ?_
     simp[zhV,zhU,zhT,zhS,zhR,zhQ,zhP,zhO,zhN,zhX,zhM,zhW,zes,fS12,hE]
 · rw[if_pos (.inl h2)]
   simp[zhV,zhU,zhT,zhS,zhR,zhQ,zhP,zhO,zhN,zhX,zhM,zhW,zes,fS12,hE,hc,hlen,h2]
   refine main [A[1]] (by simp) _ _ (Less.auto (by simp) (by simp) rfl rfl) _ ?_
   simp[zhV,zhU,zhT,zhS,zhR,zhQ,zhP,zhO,zhN,zhX,zhM,zhW,zes,fS12,hE]
end
end Go.Proofs.YthfcfmkdeheicaaGreat
