import Derived.Test.YtfgmnebfhemnpaaKAG
import Derived.Test.YtfgmnebfhemnpaaJL
import Derived.Test.YtfgmnebfhemnpaaJK
set_option linter.all false
noncomputable section
namespace Go.Proofs.Ytfgmnebfhemnpaa
open Go.J
open Go.J.Enc (enc)
set_option maxRecDepth 100000
set_option maxHeartbeats 4000000
section
variable {ρ:Nat→Value}(hρ:J.Good ρ){E:Env}(hE:E.P=Try.prog)(hcon:ConsOk ρ E)
include hρ hE hcon
theorem make_Mod_run{n m:Int}(h1:-4611686018427387904≤m)(h2:m≤4611686018427387904)(hs:HS):CallOk ρ Try.prog 15 [enc n,enc m] hs (enc (modI n m)) hs:=by
 refine fn hρ hE hcon Try.func15 fB15 rfl (by simp) ?_ hs
 simp[fS15r0,fS15r1,fS15r2,fS15r3,fS15r4,fS15r5,fS15r6,fS15,hE]
 refine brT_mk (fun h=>?_) (fun h=>?_)<;>simp[fS15r0,fS15r1,fS15r2,fS15r3,fS15r4,fS15r5,fS15r6,fS15,hE,h,modI]
 have hm:1≤m:=by omega
 have hm1:¬ m<1:=h
 have hm0:¬ m=0:=by omega
 simp[hm0]
 refine brT_mk (fun h=>?_) (fun h=>?_)<;>simp[fS15r0,fS15r1,fS15r2,fS15r3,fS15r4,fS15r5,fS15r6,fS15,hE,h]
 · have h3:=Int.lt_tmod_of_pos n (show 0<m by omega)
   rw[wrap_i64 (by omega) (by omega),if_neg hm1,tmod_neg hm h]
 · rw[if_neg hm1,tmod_pos hm (by omega)]
theorem make_Few_run{l:List Int}(hs:HS):CallOk ρ Try.prog 5 [enc l] hs (enc (decide (l.length≤60))) hs:=by
 refine fn hρ hE hcon Try.func5 fB5 rfl (by simp) ?_ hs
 simp[fS5r0,fS5r1,fS5,hE]
 omega
theorem ref3_Con_run{n:List Nat}{l:List Ty}(hl:l.length≤10000)(hs:HS):CallOk ρ Try.prog 10 [enc n,enc l] hs (enc (tCon n l)) hs:=by
 refine fn hρ hE hcon Try.func10 fB10 rfl (by simp) ?_ hs
 rcases l with _|⟨x,l⟩
 · simp[fS10r0,fS10r1,fS10,hE,tCon]
 · have h1:(l.length+1)*64≤1048576:=by simp at hl;omega
   simp[fS10r0,fS10r1,fS10,hE,tCon,h1]
theorem ref3_Int_run(hc:E.con 10=fnS (spec2 fun n l=>if l.length≤10000 then some (tCon n l)else none))(hs:HS):CallOk ρ Try.prog 46 [] hs (enc tInt) hs:=by
 refine fn hρ hE hcon Try.func46 fB46 rfl (by simp) ?_ hs
 simp[fS46r0,fS46r1,fS46,hE,tCon,tInt,hc]
theorem ref3_Arrow_run(hc:E.con 10=fnS (spec2 fun n l=>if l.length≤10000 then some (tCon n l)else none)){a b:Ty}(hs:HS):CallOk ρ Try.prog 47 [enc a,enc b] hs (enc (tArrow a b)) hs:=by
 refine fn hρ hE hcon Try.func47 fB47 rfl (by simp) ?_ hs
 simp[fS47r0,fS47r1,fS47,hE,tCon,tArrow,hc]
theorem ref3_Var_run{i:Int}(hs:HS):CallOk ρ Try.prog 9 [enc i] hs (enc (tVar i)) hs:=by
 refine fn hρ hE hcon Try.func9 fB9 rfl (by simp) ?_ hs
 simp[fS9r0,fS9r1,fS9,hE,tVar]
theorem ref3_Rigid_run{h i:Int}(hs:HS):CallOk ρ Try.prog 32 [enc h,enc i] hs (enc (tRigid h i)) hs:=by
 refine fn hρ hE hcon Try.func32 fB32 rfl (by simp) ?_ hs
 simp[fS32r0,fS32r1,fS32,hE,tRigid]
theorem make_Tape_Next_run(hc:E.con 15=fnS (spec2 fun n m=>if -1000000≤m∧m≤1000000 then some (modI n m)else none)){t:Tp}{n:Int}(hi:0≤t.i)(hl:t.l.length≤100000)(hn:-1000000≤n∧n≤1000000)(hs:HS)(id:Nat)(hid:id<hs.n)(hg:hs.H.get id=some (box (Cel.cells t))) :
 CallOk ρ Try.prog 45 [.ptr id 0 0,enc n] hs (enc (t.next n).2) (hs.wr id (box (Cel.cells (t.next n).1))):=by
 refine st hρ hE hcon Try.func45 fB45 rfl (by simp) (by simp) (by simp) (by simp) ?_ hid hg
 obtain⟨l,i⟩:=t
 obtain⟨j,rfl⟩:=Int.eq_ofNat_of_zero_le hi
 simp only at hl
 simp[fS45r0,fS45r1,fS45r2,fS45r3,fS45r4,fS45,hE]
 refine brT_mk (fun h=>?_) (fun h=>?_)
 · simp[fS45r0,fS45r1,fS45r2,fS45r3,fS45r4,fS45,hE,h,Tp.next]
   exact GivesL.keep rfl rfl (by simp) (by simp) (by simp)
 · have hw:IntKind.i64.wrap ((j:Int)+1)=((j+1:Nat):Int):=wrap_succ (by omega)
   have hw2:IntKind.i64.wrap (((j+1:Nat):Int)-1)=(j:Int):=by rw[wrap_i64 (by omega) (by omega)];omega
   have hj:j<l.length:=by omega
   simp[fS45r0,fS45r1,fS45r2,fS45r3,fS45r4,fS45,hE,h,hw,hw2,hj,hc,hn,Tp.next,-Int.natCast_add]
   exact GivesL.keep rfl rfl (by simp) (by simp) (by simp)
end
end Go.Proofs.Ytfgmnebfhemnpaa
namespace Go.Proofs.Ytfgmnebfhemnpaa
open Go.J
open Go.J.Enc (enc)
set_option maxRecDepth 100000
set_option maxHeartbeats 4000000
section
variable {ρ:Nat→Value}(hρ:J.Good ρ){E:Env}(hE:E.P=Try.prog)(hcon:ConsOk ρ E)
include hρ hE hcon
theorem make_Vars_loop(hc:E.con 9=fnS (spec1 fun i=>some (tVar i))){n:Nat}(hn:n≤10000){Q:Ex→PT V→HS→Prop}
 (hQ:Q (.exit 0) (mkP [(3,oV 0 ((varTs n).map encTy))]) { H:=mkP (oH 0 5 ((varTs n).map encTy)),n:=1,log:=[] }) :
 ∀ (m i:Nat) (L:List Ty),i+m=n→L=varTs i→LsN ρ E 0 16 fS31l0 (LessQ 0 Q) (m+1) (mkP [(0,.int .i64 (n:Int)),(3,oV 0 (L.map encTy)),(4,.int .i64 (i:Int))]) { H:=mkP (oH 0 5 (L.map encTy)),n:=1,log:=[] }:=by
 intro m
 induction m with
 | zero =>
   intro i L hi hL
   obtain rfl:i=n:=by omega
   refine lp hρ hE hcon fun K hK=>?_
   rw[← hL]at hQ
   simp[fS31l0,fS31r0,fS31r1,fS31r2,fS31r3,fS31r4,fS31b0,fS31r5,fS31b1,fS31r6,fS31,hE]
   refine LessQ.mk (Less.keep 1 ?_ ?_ ?_ rfl) hQ<;>rcases L with _|⟨x,L⟩<;>first|rfl|simp
 | succ m ih =>
   intro i L hi hL
   have hil:(i:Int)<n:=by omega
   have hw:IntKind.i64.wrap ((i:Int)+1)=((i+1:Nat):Int):=wrap_succ (by omega)
   have hLl:L.length=i:=by rw[hL];simp
   have hnew:L++[tVar i]=varTs (i+1):=by rw[hL,varTs_succ]
   refine lp hρ hE hcon fun K hK=>?_
   rcases L with _|⟨x,L⟩
   · simp[fS31l0,fS31r0,fS31r1,fS31r2,fS31r3,fS31r4,fS31b0,fS31r5,fS31b1,fS31r6,fS31,hE,hil,hc,hw,-Int.natCast_add]
     exact hK _ _ (LsN_less (Less.lit (fun k=>if k=0 then 8 else k) 1 (by simp[-Int.natCast_add]) (by simp) rfl rfl) (ih (i+1) _ (by omega) hnew))
   · have h64:(L.length+1+1)*64≤1048576:=by simp at hLl;omega
     simp[fS31l0,fS31r0,fS31r1,fS31r2,fS31r3,fS31r4,fS31b0,fS31r5,fS31b1,fS31r6,fS31,hE,hil,hc,hw,h64,Nat.not_succ_le_self,-Int.natCast_add]
     exact hK _ _ (LsN_less (Less.keep 1 (by simp[-Int.natCast_add]) (by simp) rfl rfl) (ih (i+1) _ (by omega) hnew))
theorem make_Vars_run(hc:E.con 9=fnS (spec1 fun i=>some (tVar i))){n:Nat}(hn:n≤10000){hs:HS}(hv:hs.H.get hs.n=none) :
 CallOk ρ Try.prog 31 [enc (n:Int)] hs (oV hs.n ((varTs n).map encTy)) (bi (Nat.beq (lenL ((varTs n).map encTy)) 0) hs { H:=hs.H.set hs.n (oO 5 ((varTs n).map encTy)),n:=hs.n+1,log:=hs.n::hs.log }):=by
 refine row hρ hE hcon Try.func31 fB31 rfl (by simp) (by simp) ?_ hv
 simp[fS31r0,fS31r1,fS31r2,fS31r3,fS31r4,fS31b0,fS31r5,fS31b1,fS31r6,fS31,hE]
 refine Ls_lessQ (Ls_loop (LsN_less (Less.keep (TL:=[(0,.int .i64 (n:Int)),(3,oV 0 (([]:List Ty).map encTy)),(4,.int .i64 ((0:Nat):Int))]) (HL:=oH 0 5 (([]:List Ty).map encTy)) 1 (by simp) (by simp) rfl rfl)
  (make_Vars_loop hρ hE hcon hc hn ?_ n 0 [] (by omega) rfl)))
 generalize varTs n=L
 rcases L with _|⟨x,L⟩
 · simp[fS31r0,fS31r1,fS31r2,fS31r3,fS31r4,fS31b0,fS31r5,fS31b1,fS31r6,fS31,hE]
   exact GivesL.keepX rfl rfl (by simp) (by simp)
 · simp[fS31r0,fS31r1,fS31r2,fS31r3,fS31r4,fS31b0,fS31r5,fS31b1,fS31r6,fS31,hE]
   exact GivesL.keepX rfl rfl (by simp) (by simp)
end
end Go.Proofs.Ytfgmnebfhemnpaa
namespace Go.Proofs.Ytfgmnebfhemnpaa
open Go.J
open Go.J.Enc (enc)
set_option maxRecDepth 100000
set_option maxHeartbeats 4000000
section
variable {ρ:Nat→Value}(hρ:J.Good ρ){E:Env}(hE:E.P=Try.prog)(hcon:ConsOk ρ E)
include hρ hE hcon
theorem make_Datas_run (hc:E.con 33=fnS (spec0 allD)) {bits:Int} (hs:HS):CallOk ρ Try.prog 14 [enc bits] hs (enc (datasOf bits)) hs:=by
 refine fn hρ hE hcon Try.func14 fB14 rfl (by simp) ?_ hs
 have hlen:allD.length=7:=rfl
 unfold datasOf selD1
 generalize allD=A at hc hlen
 have h1:A[1]?=some A[1]:=List.getElem?_eq_getElem (by omega)
 rw[h1]
 have main : ∀ (L0:List Decl),L0.length≤1→∀ T hs,Less 0 T hs (mkP [(0,.int .i64 bits),(3,.sl (A.map encDecl) false),(4,oV 0 (L0.map encDecl)),(5,.int .i64 ((0:Nat):Int))]) { H:=mkP (oH 0 4 (L0.map encDecl)),n:=1,log:=[] } →
  ∀ Q,Q (.exit 0) (mkP [(4,oV 0 ((L0++selD bits A 0).map encDecl))]) { H:=mkP (oH 0 4 ((L0++selD bits A 0).map encDecl)),n:=1,log:=[] }→Ls ρ E 0 45 (.loop fS14l0) T hs Q:=by
  intro L0 hL0 T hs hl Q hQ
  refine lpi hρ hE hcon 7 (fun i (L:List Decl)=>[(0,.int .i64 bits),(3,.sl (A.map encDecl) false),(4,oV 0 (L.map encDecl)),(5,.int .i64 (i:Int))]) (fun i L=>oH 0 4 (L.map encDecl)) (fun i L=>L=L0++selD bits (A.take i) 0) L0 hl (by simp[selD]) ?_ ?_
  · intro L hL K
    rw[List.take_of_length_le (by omega)]at hL
    subst hL
    generalize L0++selD bits A 0=L at hQ
    simp[fS14l0,fS14r0,fS14r1,fS14r2,fS14r3,fS14r4,fS14r5,fS14r6,fS14r7,fS14r8,fS14b0,fS14r9,fS14b1,fS14r10,fS14,hE,hlen]
    rcases L with _|⟨x,L⟩<;>simp[fS14l0,fS14r0,fS14r1,fS14r2,fS14r3,fS14r4,fS14r5,fS14r6,fS14r7,fS14r8,fS14b0,fS14r9,fS14b1,fS14r10,fS14,hE,hlen]<;>exact LessQ.mk (Less.auto (by simp) (by simp) rfl rfl) hQ
  · intro i L hi hL K hK
    have hil:i<A.length:=by omega
    have hi7:(i:Int)<7:=by omega
    have hw:IntKind.i64.wrap ((i:Int)+1)=((i+1:Nat):Int):=wrap_succ (by omega)
    have hL8:L.length≤8:=by
     rw[hL,List.length_append]
     have:=selD_len bits (A.take i) 0
     rw[List.length_take]at this
     omega
    have hnew:∀ L',L'=(if i≠1∧andI .i64 (bits.fdiv (2 ^ i)) 1=1 then L++[A[i]]else L)→L'=L0++selD bits (A.take (i+1)) 0:=by
     intro L' h
     rw[h,List.take_add_one,List.getElem?_eq_getElem hil,Option.toList_some,selD_app,hL]
     have:(A.take i).length=i:=by rw[List.length_take];omega
     rw[this,Nat.zero_add]
     simp only[selD]
     split<;>simp
    clear hL
    have hgd:∀ h,A[i]'h=A[i]:=fun _=>rfl
    have hw2:IntKind.i64.wrap 2=2:=wrap_i64 (by omega) (by omega)
    have hwu:IntKind.u64.wrap (i:Int)=(i:Int):=by
     have:i<7:=hi
     match i,this with
     | 0,_=>rfl
     | 1,_=>rfl
     | 2,_=>rfl
     | 3,_=>rfl
     | 4,_=>rfl
     | 5,_=>rfl
     | 6,_=>rfl
     |n+7,h=>omega
    have hmin:min i IntKind.i64.bits=i:=Nat.min_eq_left (Nat.le_trans (Nat.le_of_lt hi) (by decide))
    by_cases h1i:i=1
    · subst h1i
      have hnew:=hnew L (by simp)
      rcases L with _|⟨x,L⟩<;>simp[fS14l0,fS14r0,fS14r1,fS14r2,fS14r3,fS14r4,fS14r5,fS14r6,fS14r7,fS14r8,fS14b0,fS14r9,fS14b1,fS14r10,fS14,hE,hlen,hw2,-Int.natCast_add]<;>exact hK _ hnew _ _ (Less.auto (by simp) (by simp) rfl rfl)
    · have h1i':¬ (i:Int)=1:=by omega
      by_cases hb:andI .i64 (bits.fdiv (2 ^ i)) 1=1
      · have hnew:=hnew _ (if_pos ⟨h1i,hb⟩).symm
        rcases L with _|⟨x,L⟩
        · simp[fS14l0,fS14r0,fS14r1,fS14r2,fS14r3,fS14r4,fS14r5,fS14r6,fS14r7,fS14r8,fS14b0,fS14r9,fS14b1,fS14r10,fS14,hE,hlen,hi7,hil,hw,hwu,hmin,hi,h1i',hb,-Int.natCast_add]
          exact hK _ hnew _ _ (Less.auto (by simp[-Int.natCast_add]) (by simp) rfl rfl)
        · have h64:(L.length+1+1)*72≤1048576:=by simp at hL8;omega
          simp[fS14l0,fS14r0,fS14r1,fS14r2,fS14r3,fS14r4,fS14r5,fS14r6,fS14r7,fS14r8,fS14b0,fS14r9,fS14b1,fS14r10,fS14,hE,hlen,hi7,hil,hw,hwu,hmin,hi,h1i',hb,h64,Nat.not_succ_le_self,-Int.natCast_add]
          exact hK _ hnew _ _ (Less.auto (by simp[-Int.natCast_add]) (by simp) rfl rfl)
      · have hnew:=hnew _ (if_neg fun h=>hb h.2).symm
        rcases L with _|⟨x,L⟩<;>simp[fS14l0,fS14r0,fS14r1,fS14r2,fS14r3,fS14r4,fS14r5,fS14r6,fS14r7,fS14r8,fS14b0,fS14r9,fS14b1,fS14r10,fS14,hE,hlen,hi7,hil,hw,hwu,hmin,hi,h1i',hb,-Int.natCast_add]<;>exact hK _ hnew _ _ (Less.auto (by simp[-Int.natCast_add]) (by simp) rfl rfl)
 by_cases h2:andI .i64 bits 2=0
 · by_cases h64:andI .i64 bits 64=0
   · rw[if_neg (by simp[h2,h64])]
     simp[fS14r0,fS14r1,fS14r2,fS14r3,fS14r4,fS14r5,fS14r6,fS14r7,fS14r8,fS14b0,fS14r9,fS14b1,fS14r10,fS14,hE,hc,hlen,h2,h64]
     refine main [] (by simp) _ _ (Less.auto (by simp) (by simp) rfl rfl) _ ?_
     rw[List.nil_append]
     generalize selD bits A 0=R
     rcases R with _|⟨y,R⟩<;>simp[fS14r0,fS14r1,fS14r2,fS14r3,fS14r4,fS14r5,fS14r6,fS14r7,fS14r8,fS14b0,fS14r9,fS14b1,fS14r10,fS14,hE]
   · rw[if_pos (.inr h64)]
     simp[fS14r0,fS14r1,fS14r2,fS14r3,fS14r4,fS14r5,fS14r6,fS14r7,fS14r8,fS14b0,fS14r9,fS14b1,fS14r10,fS14,hE,hc,hlen,h2,h64]
     refine main [A[1]] (by simp) _ _ (Less.auto (by simp) (by simp) rfl rfl) _ ?_
     simp[fS14r0,fS14r1,fS14r2,fS14r3,fS14r4,fS14r5,fS14r6,fS14r7,fS14r8,fS14b0,fS14r9,fS14b1,fS14r10,fS14,hE]
 · rw[if_pos (.inl h2)]
   simp[fS14r0,fS14r1,fS14r2,fS14r3,fS14r4,fS14r5,fS14r6,fS14r7,fS14r8,fS14b0,fS14r9,fS14b1,fS14r10,fS14,hE,hc,hlen,h2]
   refine main [A[1]] (by simp) _ _ (Less.auto (by simp) (by simp) rfl rfl) _ ?_
   simp[fS14r0,fS14r1,fS14r2,fS14r3,fS14r4,fS14r5,fS14r6,fS14r7,fS14r8,fS14b0,fS14r9,fS14b1,fS14r10,fS14,hE]
end
end Go.Proofs.Ytfgmnebfhemnpaa
namespace Go.Proofs.Ytfgmnebfhemnpaa
open Go.J
open Go.J.Enc (enc)
set_option maxRecDepth 100000
set_option maxHeartbeats 4000000
open Classical in
def nextF(t:Tp)(n:Int):Option (Tp×Int):=if t.ok∧-1000000≤n∧n≤1000000 then some (t.next n)else none
open Classical in
def typeF(d:Nat)(t:Tp)(D:List Decl)(Lv:List Ty)(n:Int):Option (Tp×Ty):=if t.ok∧DOk D∧Lv.length≤100000∧n≤d then some (typeM n.toNat t D Lv)else none
section
variable {ρ:Nat→Value}(hρ:J.Good ρ){E:Env}(hE:E.P=Try.prog)(hcon:ConsOk ρ E)
include hρ hE hcon
theorem make_Tape_Type_run (hN:E.con 45=stS (stF1 nextF)) (hC:E.con 10=fnS (spec2 fun n l=>if l.length≤10000 then some (tCon n l)else none)) (hI:E.con 46=fnS (spec0 tInt)) (hA:E.con 47=fnS (spec2 fun a b=>some (tArrow a b)))
 {d:Nat} {n:Int} (hT0:0<n→E.con 30=stS (stF3 (typeF d))) {t:Tp} {D:List Decl} {Lv:List Ty} (ht:t.ok) (hD:DOk D) (hLv:Lv.length≤100000) (hn:n≤d+1) (hdd:d≤1000) (hs:HS) (id:Nat) (hid:id<hs.n) (hg:hs.H.get id=some (box (Cel.cells t))) :
 CallOk ρ Try.prog 30 [.ptr id 0 0,enc D,enc Lv,enc n] hs (enc (typeM n.toNat t D Lv).2) (hs.wr id (box (Cel.cells (typeM n.toNat t D Lv).1))):=by
 have h7:nextF t 7=some (t.next 7):=if_pos ⟨ht,by omega,by omega⟩
 have ht1:=next_ok ht 7
 have hk0:=next_nn t 7
 generalize hR:typeM n.toNat t D Lv=R
 rw[typeM.eq_def]at hR
 rcases hq:t.next 7 with⟨t1,k⟩
 simp only[hq]at h7 ht1 hk0 hR
 refine st hρ hE hcon Try.func30 fB30 rfl (by simp) (by simp) (by simp) (by simp) ?_ hid hg
 by_cases c1:k<3∧Lv≠[]
 · rw[if_pos c1]at hR
   obtain⟨j,hj,e1,e2⟩:=next_get t1 c1.2
   have hF:nextF t1 (Lv.length:Int)=some (t1.next (Lv.length:Int)):=if_pos ⟨ht1,by omega,by omega⟩
   rw[e2]at hR
   rcases hq2:t1.next (Lv.length:Int)with⟨t2,k2⟩
   simp only[hq2]at hF e1 hR
   subst e1 hR
   have hlp:0<Lv.length:=by omega
   simp[fS30r0,fS30r1,fS30r2,fS30r3,fS30r4,fS30r5,fS30r6,fS30r7,fS30r8,fS30r9,fS30r10,fS30r11,fS30r12,fS30b0,fS30r13,fS30b1,fS30r14,fS30b2,fS30r15,fS30r16,fS30,hE,hN,h7,c1.1,hlp,hF,hj]
   exact GivesL.keep rfl rfl (by simp) (by simp) (by simp)
 · rw [if_neg c1]at hR
   have hp1:¬ (k<3∧0<Lv.length):=fun h=>c1 ⟨h.1,List.length_pos_iff.1 h.2⟩
   by_cases c2:k<4
   · rw[if_pos c2]at hR
     subst hR
     by_cases c3:k<3
     · have hL0:Lv=[]:=Classical.byContradiction fun h=>c1 ⟨c3,h⟩
       subst hL0
       simp[fS30r0,fS30r1,fS30r2,fS30r3,fS30r4,fS30r5,fS30r6,fS30r7,fS30r8,fS30r9,fS30r10,fS30r11,fS30r12,fS30b0,fS30r13,fS30b1,fS30r14,fS30b2,fS30r15,fS30r16,fS30,hE,hN,h7,c3,c2,hI]
       exact GivesL.keep rfl rfl (by simp) (by simp) (by simp)
     · simp[fS30r0,fS30r1,fS30r2,fS30r3,fS30r4,fS30r5,fS30r6,fS30r7,fS30r8,fS30r9,fS30r10,fS30r11,fS30r12,fS30b0,fS30r13,fS30b1,fS30r14,fS30b2,fS30r15,fS30r16,fS30,hE,hN,h7,c3,c2,hI]
       exact GivesL.keep rfl rfl (by simp) (by simp) (by simp)
   · rw [if_neg c2]at hR
     have c3:¬ k<3:=by omega
     by_cases c4:n<1
     · have h0:n.toNat=0:=by omega
       rw[h0]at hR
       simp only[]at hR
       subst hR
       simp[fS30r0,fS30r1,fS30r2,fS30r3,fS30r4,fS30r5,fS30r6,fS30r7,fS30r8,fS30r9,fS30r10,fS30r11,fS30r12,fS30b0,fS30r13,fS30b1,fS30r14,fS30b2,fS30r15,fS30r16,fS30,hE,hN,h7,c3,c2,c4,hI]
       exact GivesL.keep rfl rfl (by simp) (by simp) (by simp)
     · have hT := hT0 (by omega)
       obtain⟨m,hm⟩:∃ m,n.toNat=m+1:=⟨n.toNat-1,by omega⟩
       have hnm:n=(m:Int)+1:=by omega
       have hmd:m≤d:=by omega
       rw[hm]at hR
       simp only[]at hR
       have hw:IntKind.i64.wrap (n-1)=(m:Int):=by rw[hnm,wrap_i64 (by omega) (by omega)];omega
       have hTy:∀ t':Tp,t'.ok→typeF d t' D Lv (m:Int)=some (typeM m t' D Lv):=fun t' h=>by
        unfold typeF
        rw[if_pos ⟨h,hD,hLv,by omega⟩,Int.toNat_natCast]
       by_cases c5:(k=4∨k=5)∧D≠[]
       · rw [if_pos c5]at hR
         obtain⟨j,hj,e1,e2⟩:=next_get t1 c5.2
         have hF:nextF t1 (D.length:Int)=some (t1.next (D.length:Int)):=if_pos ⟨ht1,by have:=hD.1;omega,by have:=hD.1;omega⟩
         have ht2:=next_ok ht1 (D.length:Int)
         rw[e2]at hR
         rcases hq2:t1.next (D.length:Int)with⟨t2,k2⟩
         simp only[hq2,Option.getD_some]at hF e1 hR ht2
         subst e1
         have hdp:=hD.2 _ (List.getElem_mem hj)
         have hDp:0<D.length:=by omega
         generalize hdj:D[j]=dd at hR hdp
         obtain⟨dpos,dname,dparams,dctors⟩:=dd
         simp only at hR hdp
         have main:∀ T hs,Less 1 T hs (mkP [(0,.ptr 0 0 0),(1,.sl (D.map encDecl) false),(2,.sl (Lv.map encTy) false),(3,.int .i64 n),(8,.ptr 1 0 0),(10,.ptr 2 0 0),(11,oV 3 (([]:List Ty).map encTy)),(12,.int .i64 ((0:Nat):Int))])
          { H:=mkP ([(0,box (Cel.cells t2)),(1,box [.int .i64 0,.str [],.int .i64 0,.int .i64 0,.snil]),(2,box (encDecl ⟨dpos,dname,dparams,dctors⟩))]++oH 3 5 (([]:List Ty).map encTy)),n:=4,log:=[] } →
          ∀ Q,Q (.exit 1) (mkP [(8,.ptr 1 0 0),(10,.ptr 2 0 0),(11,oV 3 ((argsM m t2 D Lv dparams.length).2.map encTy))])
            { H:=mkP ([(0,box (Cel.cells (argsM m t2 D Lv dparams.length).1)),(1,box [.int .i64 0,.str [],.int .i64 0,.int .i64 0,.snil]),(2,box (encDecl ⟨dpos,dname,dparams,dctors⟩))]++oH 3 5 ((argsM m t2 D Lv dparams.length).2.map encTy)),n:=4,log:=[] } →
          Ls ρ E 1 95 (.loop fS30l0) T hs Q:=by
          intro T hs hl Q hQ
          refine lpi hρ hE hcon dparams.length (fun i (p:Tp×List Ty)=>[(0,.ptr 0 0 0),(1,.sl (D.map encDecl) false),(2,.sl (Lv.map encTy) false),(3,.int .i64 n),(8,.ptr 1 0 0),(10,.ptr 2 0 0),(11,oV 3 (p.2.map encTy)),(12,.int .i64 (i:Int))])
           (fun i p=>[(0,box (Cel.cells p.1)),(1,box [.int .i64 0,.str [],.int .i64 0,.int .i64 0,.snil]),(2,box (encDecl ⟨dpos,dname,dparams,dctors⟩))]++oH 3 5 (p.2.map encTy)) (fun i p=>p=argsM m t2 D Lv i) (t2,[]) hl (by rw[argsM]) ?_ ?_
          · intro p hp K
            rw[← hp]at hQ
            obtain⟨t3,L⟩:=p
            rcases L with _|⟨x,L⟩<;>simp[fS30l0,fS30r0,fS30r1,fS30r2,fS30r3,fS30r4,fS30r5,fS30r6,fS30r7,fS30r8,fS30r9,fS30r10,fS30r11,fS30r12,fS30b0,fS30r13,fS30b1,fS30r14,fS30b2,fS30r15,fS30r16,fS30,hE]<;>exact LessQ.mk (Less.auto (by simp) (by simp) rfl rfl) hQ
          · intro i p hi hp K hK
            have hlen:=argsM_len m t2 D Lv i
            have hok:=argsM_ok (D:=D) (Lv:=Lv) m ht2 i
            rw[← hp]at hlen hok
            have hTp:=hTy p.1 hok
            have hnew:=hK (typeM m p.1 D Lv |>.1,p.2++[(typeM m p.1 D Lv).2]) (by rw[argsM,← hp])
            have hi':(i:Int)<dparams.length:=by omega
            have hw2:IntKind.i64.wrap ((i:Int)+1)=((i+1:Nat):Int):=wrap_succ (by omega)
            obtain⟨t3,L⟩:=p
            simp only at hTp hnew hlen
            rcases hq3:typeM m t3 D Lv with⟨t4,x4⟩
            simp only[hq3]at hTp hnew
            rcases L with _|⟨x,L⟩
            · simp[fS30l0,fS30r0,fS30r1,fS30r2,fS30r3,fS30r4,fS30r5,fS30r6,fS30r7,fS30r8,fS30r9,fS30r10,fS30r11,fS30r12,fS30b0,fS30r13,fS30b1,fS30r14,fS30b2,fS30r15,fS30r16,fS30,hE,hi,hi',hw,hw2,hT,hTp,-Int.natCast_add]
              exact hnew _ _ (Less.auto (by simp[-Int.natCast_add]) (by simp) rfl rfl)
            · have h64:(L.length+1+1)*64≤1048576:=by simp at hlen;omega
              simp[fS30l0,fS30r0,fS30r1,fS30r2,fS30r3,fS30r4,fS30r5,fS30r6,fS30r7,fS30r8,fS30r9,fS30r10,fS30r11,fS30r12,fS30b0,fS30r13,fS30b1,fS30r14,fS30b2,fS30r15,fS30r16,fS30,hE,hi,hi',hw,hw2,hT,hTp,h64,Nat.not_succ_le_self,-Int.natCast_add]
              exact hnew _ _ (Less.auto (by simp[-Int.natCast_add]) (by simp) rfl rfl)
         have hlenR:=argsM_len m t2 D Lv dparams.length
         rcases hq4:argsM m t2 D Lv dparams.length with⟨t5,L⟩
         simp only[hq4]at main hR hlenR
         subst hR
         have hlen2:L.length≤10000:=by omega
         rcases c5.1 with rfl|rfl<;>simp[fS30r0,fS30r1,fS30r2,fS30r3,fS30r4,fS30r5,fS30r6,fS30r7,fS30r8,fS30r9,fS30r10,fS30r11,fS30r12,fS30b0,fS30r13,fS30b1,fS30r14,fS30b2,fS30r15,fS30r16,fS30,hE,hN,h7,c4,hF,hj,hdj,hDp]<;>refine main _ _ (Less.auto (by simp) (by simp) rfl rfl) _ ?_ <;>
         (rcases L with _|⟨x,L⟩
          · simp[fS30r0,fS30r1,fS30r2,fS30r3,fS30r4,fS30r5,fS30r6,fS30r7,fS30r8,fS30r9,fS30r10,fS30r11,fS30r12,fS30b0,fS30r13,fS30b1,fS30r14,fS30b2,fS30r15,fS30r16,fS30,hE,hC]
            exact GivesL.keep rfl rfl (by simp[tCon]) (by simp) (by simp)
          · have hl9:L.length≤9999:=by simpa using hlen2
            simp[fS30r0,fS30r1,fS30r2,fS30r3,fS30r4,fS30r5,fS30r6,fS30r7,fS30r8,fS30r9,fS30r10,fS30r11,fS30r12,fS30b0,fS30r13,fS30b1,fS30r14,fS30b2,fS30r15,fS30r16,fS30,hE,hC,hl9]
            exact GivesL.keep rfl rfl (by simp[tCon]) (by simp) (by simp))
       · rw [if_neg c5]at hR
         have hp5:¬ ((k=4∨k=5)∧0<D.length):=fun h=>c5 ⟨h.1,List.length_pos_iff.1 h.2⟩
         have hF1:=hTy t1 ht1
         have ht2:=(typeM_ok (D:=D) (Lv:=Lv) m t1 ht1).1
         rcases hq2:typeM m t1 D Lv with⟨t2,a⟩
         simp only[hq2]at hF1 hR ht2
         have hF2:=hTy t2 ht2
         rcases hq3:typeM m t2 D Lv with⟨t3,b⟩
         simp only[hq3]at hF2 hR
         subst hR
         have hD0:(k=4∨k=5)→D=[]:=fun h=>Classical.byContradiction fun hne=>c5 ⟨h,hne⟩
         by_cases c6:k=4
         · have:=hD0 (.inl c6)
           subst this c6
           simp[fS30r0,fS30r1,fS30r2,fS30r3,fS30r4,fS30r5,fS30r6,fS30r7,fS30r8,fS30r9,fS30r10,fS30r11,fS30r12,fS30b0,fS30r13,fS30b1,fS30r14,fS30b2,fS30r15,fS30r16,fS30,hE,hN,h7,c4,hw,hT,hF1,hF2,hA]
           exact GivesL.keep rfl rfl (by simp) (by simp) (by simp)
         · by_cases c7:k=5
           · have:=hD0 (.inr c7)
             subst this c7
             simp[fS30r0,fS30r1,fS30r2,fS30r3,fS30r4,fS30r5,fS30r6,fS30r7,fS30r8,fS30r9,fS30r10,fS30r11,fS30r12,fS30b0,fS30r13,fS30b1,fS30r14,fS30b2,fS30r15,fS30r16,fS30,hE,hN,h7,c4,hw,hT,hF1,hF2,hA]
             exact GivesL.keep rfl rfl (by simp) (by simp) (by simp)
           · simp[fS30r0,fS30r1,fS30r2,fS30r3,fS30r4,fS30r5,fS30r6,fS30r7,fS30r8,fS30r9,fS30r10,fS30r11,fS30r12,fS30b0,fS30r13,fS30b1,fS30r14,fS30b2,fS30r15,fS30r16,fS30,hE,hN,h7,c3,c2,c4,c6,c7,hw,hT,hF1,hF2,hA]
             exact GivesL.keep rfl rfl (by simp) (by simp) (by simp)
end
end Go.Proofs.Ytfgmnebfhemnpaa
namespace Go.Proofs.Ytfgmnebfhemnpaa
open Go.J
open Go.J.Enc (enc)
set_option maxRecDepth 100000
set_option maxHeartbeats 4000000
section
variable {ρ:Nat→Value}(hρ:J.Good ρ){E:Env}(hE:E.P=Try.prog)(hcon:ConsOk ρ E)
include hρ hE hcon
theorem types_Var_run{i:Int}(hs:HS):CallOk ρ Try.prog 22 [enc i] hs (enc (tVar i)) hs:=by
 refine fn hρ hE hcon Try.func22 fB22 rfl (by simp) ?_ hs
 simp[fS22r0,fS22r1,fS22,hE,tVar]
end
end Go.Proofs.Ytfgmnebfhemnpaa
/- The contracts of small functions,joined. -/
namespace Go.Proofs.Ytfgmnebfhemnpaa
open Go.J
open Go.J.Enc (enc)
set_option maxRecDepth 100000
set_option maxHeartbeats 1000000
theorem ite_inv{c:Prop}{_:Decidable c}{α:Type}{x r:α}(h:(if c then some x else none)=some r):c∧x=r:=by
 split at h
 · cases h;exact⟨‹_›,rfl⟩
 · cases h
theorem fo{f:Nat}{fn:Func}{sc:SC}(hf:Try.prog.funcs[f]?=some fn)(hb:fn.body.bind stripC=some sc):FnOk Try.prog f:=fnOk hf (by
 cases h:fn.body with
 |none=>rw[h]at hb;cases hb
 |some c=>rfl)
abbrev EL(L:List (Nat×J.Spec)):Env:=envL Try.prog pol L
section
variable {ρ:Nat→Value}(hρ:J.Good ρ)
include hρ
def modS:J.Spec:=fnS (spec2 fun n m:Int=>if -1000000≤m∧m≤1000000 then some (modI n m)else none)
theorem vMod:Valid ρ Try.prog 15 modS:=v2 (fo Try.func15 fB15) fun a b r h hs=>by
 obtain⟨h1,rfl⟩:=ite_inv h
 exact make_Mod_run hρ (E:=EL []) rfl (consOk_list valid_nil) (by omega) (by omega) hs
def fewS:J.Spec:=fnS (spec1 fun l:List Int=>some (decide (l.length≤60)))
theorem vFew:Valid ρ Try.prog 5 fewS:=v1 (fo Try.func5 fB5) fun a r h hs=>by
 cases h
 exact make_Few_run hρ (E:=EL []) rfl (consOk_list valid_nil) hs
def conS:J.Spec:=fnS (spec2 fun (n:List Nat) (l:List Ty)=>if l.length≤10000 then some (tCon n l)else none)
theorem vCon:Valid ρ Try.prog 10 conS:=v2 (fo Try.func10 fB10) fun a b r h hs=>by
 obtain⟨h1,rfl⟩:=ite_inv h
 exact ref3_Con_run hρ (E:=EL []) rfl (consOk_list valid_nil) h1 hs
theorem vInt:Valid ρ Try.prog 46 (fnS (spec0 tInt)):=v0 (fo Try.func46 fB46) fun hs =>
 ref3_Int_run hρ (E:=EL [(10,conS)]) rfl (consOk_list (valid_cons (vCon hρ) valid_nil)) rfl hs
theorem vArrow:Valid ρ Try.prog 47 (fnS (spec2 fun a b:Ty=>some (tArrow a b))):=v2 (fo Try.func47 fB47) fun a b r h hs=>by
 cases h
 exact ref3_Arrow_run hρ (E:=EL [(10,conS)]) rfl (consOk_list (valid_cons (vCon hρ) valid_nil)) rfl hs
theorem vVar:Valid ρ Try.prog 9 (fnS (spec1 fun i:Int=>some (tVar i))):=v1 (fo Try.func9 fB9) fun a r h hs=>by
 cases h
 exact ref3_Var_run hρ (E:=EL []) rfl (consOk_list valid_nil) hs
theorem vRigid:Valid ρ Try.prog 32 (fnS (spec2 fun h i:Int=>some (tRigid h i))):=v2 (fo Try.func32 fB32) fun a b r h hs=>by
 cases h
 exact ref3_Rigid_run hρ (E:=EL []) rfl (consOk_list valid_nil) hs
theorem vNext:Valid ρ Try.prog 45 (stS (stF1 nextF)):=s1 (fo Try.func45 fB45) fun s a q h hs id hid hg=>by
 obtain⟨⟨h1,h2⟩,rfl⟩:=ite_inv h
 exact make_Tape_Next_run hρ (E:=EL [(15,modS)]) rfl (consOk_list (valid_cons (vMod hρ) valid_nil)) rfl h1.1 h1.2 h2 hs id hid hg
def hasS:J.Spec:=fnC (spec2 fun (l:List Int) (x:Int)=>if l.length≤1000000 then some (decide (x∈l))else none)
end
end Go.Proofs.Ytfgmnebfhemnpaa
