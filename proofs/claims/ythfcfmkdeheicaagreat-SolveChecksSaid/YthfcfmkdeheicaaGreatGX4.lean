import Derived.Test.YthfcfmkdeheicaaGreatGX3
import Derived.Test.YthfcfmkdeheicaaGreatJL
import Derived.Test.YthfcfmkdeheicaaGreatJK
set_option linter.all false
noncomputable section
namespace Go.Proofs.YthfcfmkdeheicaaGreat
open Go.J
open Go.J.Enc (enc)
set_option maxRecDepth 100000
set_option maxHeartbeats 4000000
open Classical in
def nextF(t:Tp)(n:Int):Option (Tp×Int):=if t.ok∧-1000000≤n∧n≤1000000 then some (t.next n)else none
open Classical in
def typeF(d:Nat)(t:Tp)(D:List Decl)(Lv:List Ty)(n:Int):Option (Tp×Ty):=if t.ok∧DOk D∧Lv.length≤100000∧n≤d then some (typeM n.toNat t D Lv)else none
section
variable {ρ:Nat→Value}(hρ:J.Good ρ){E:Env}(hE:E.P=Tryz.prog)(hcon:ConsOk ρ E)
include hρ hE hcon
theorem make_Tape_Type_run (hN:E.con 56=stS (stF1 nextF)) (hC:E.con 61=fnS (spec2 fun n l=>if l.length≤10000 then some (tCon n l)else none)) (hI:E.con 49=fnS (spec0 tInt)) (hA:E.con 62=fnS (spec2 fun a b=>some (tArrow a b)))
 {d:Nat} {n:Int} (hT0:0<n→E.con 15=stS (stF3 (typeF d))) {t:Tp} {D:List Decl} {Lv:List Ty} (ht:t.ok) (hD:DOk D) (hLv:Lv.length≤100000) (hn:n≤d+1) (hdd:d≤1000) (hs:HS) (id:Nat) (hid:id<hs.n) (hg:hs.H.get id=some (box (Cel.cells t))) :
 CallOk ρ Tryz.prog 15 [.ptr id 0 0,enc D,enc Lv,enc n] hs (enc (typeM n.toNat t D Lv).2) (hs.wr id (box (Cel.cells (typeM n.toNat t D Lv).1))):=by
 have h7:nextF t 7=some (t.next 7):=if_pos ⟨ht,by omega,by omega⟩
 have ht1:=next_ok ht 7
 have hk0:=next_nn t 7
 generalize hR:typeM n.toNat t D Lv=R
 rw[typeM.eq_def]at hR
 rcases hq:t.next 7 with⟨t1,k⟩
 simp only[hq]at h7 ht1 hk0 hR
 refine st hρ hE hcon Tryz.func15 fB15 rfl (by simp) (by simp) (by simp) (by simp) ?_ hid hg
 by_cases c1:k<3∧Lv≠[]
 · rw[if_pos c1]at hR
   obtain⟨j,hj,e1,e2⟩:=next_get t1 c1.2
   have hF:nextF t1 (Lv.length:Int)=some (t1.next (Lv.length:Int)):=if_pos ⟨ht1,by omega,by omega⟩
   rw[e2]at hR
   rcases hq2:t1.next (Lv.length:Int)with⟨t2,k2⟩
   simp only[hq2]at hF e1 hR
   subst e1 hR
   have hlp:0<Lv.length:=by omega
   simp[fS15r0,fS15r1,fS15r2,fS15r3,fS15r4,fS15r5,fS15r6,fS15r7,fS15r8,fS15r9,fS15r10,fS15r11,fS15r12,fS15b0,fS15r13,fS15b1,fS15r14,fS15b2,fS15r15,fS15r16,fS15,hE,hN,h7,c1.1,hlp,hF,hj]
   exact GivesL.keep rfl rfl (by simp) (by simp) (by simp)
 · rw [if_neg c1]at hR
   have hp1:¬ (k<3∧0<Lv.length):=fun h=>c1 ⟨h.1,List.length_pos_iff.1 h.2⟩
   by_cases c2:k<4
   · rw[if_pos c2]at hR
     subst hR
     by_cases c3:k<3
     · have hL0:Lv=[]:=Classical.byContradiction fun h=>c1 ⟨c3,h⟩
       subst hL0
       simp[fS15r0,fS15r1,fS15r2,fS15r3,fS15r4,fS15r5,fS15r6,fS15r7,fS15r8,fS15r9,fS15r10,fS15r11,fS15r12,fS15b0,fS15r13,fS15b1,fS15r14,fS15b2,fS15r15,fS15r16,fS15,hE,hN,h7,c3,c2,hI]
       exact GivesL.keep rfl rfl (by simp) (by simp) (by simp)
     · simp[fS15r0,fS15r1,fS15r2,fS15r3,fS15r4,fS15r5,fS15r6,fS15r7,fS15r8,fS15r9,fS15r10,fS15r11,fS15r12,fS15b0,fS15r13,fS15b1,fS15r14,fS15b2,fS15r15,fS15r16,fS15,hE,hN,h7,c3,c2,hI]
       exact GivesL.keep rfl rfl (by simp) (by simp) (by simp)
   · rw [if_neg c2]at hR
     have c3:¬ k<3:=by omega
     by_cases c4:n<1
     · have h0:n.toNat=0:=by omega
       rw[h0]at hR
       simp only[]at hR
       subst hR
       simp[fS15r0,fS15r1,fS15r2,fS15r3,fS15r4,fS15r5,fS15r6,fS15r7,fS15r8,fS15r9,fS15r10,fS15r11,fS15r12,fS15b0,fS15r13,fS15b1,fS15r14,fS15b2,fS15r15,fS15r16,fS15,hE,hN,h7,c3,c2,c4,hI]
       exact GivesL.keep rfl rfl (by simp) (by simp) (by simp)
     · have hT := hT0 (by omega)
       obtain⟨m,hm⟩:∃ m,n.toNat=m+1:=⟨n.toNat-1,by omega⟩
       have hnm:n=(m:Int)+1:=by omega
       have hmd:m≤d:=by omega
       rw[hm]at hR
       simp only[]at hR
       have hw:IntKind.i64.wrap (n-1)=(m:Int):=by rw[hnm,wrap_i64 (by omega) (by omega)];omega
       have hTy:∀ t':Tp,t'.ok→typeF d t' D Lv (m:Int)=some (typeM m t' D Lv):=fun t' h=>by
        unfold typeF
        rw[if_pos ⟨h,hD,hLv,by omega⟩,Int.toNat_natCast]
       by_cases c5:(k=4∨k=5)∧D≠[]
       · rw [if_pos c5]at hR
         obtain⟨j,hj,e1,e2⟩:=next_get t1 c5.2
         have hF:nextF t1 (D.length:Int)=some (t1.next (D.length:Int)):=if_pos ⟨ht1,by have:=hD.1;omega,by have:=hD.1;omega⟩
         have ht2:=next_ok ht1 (D.length:Int)
         rw[e2]at hR
         rcases hq2:t1.next (D.length:Int)with⟨t2,k2⟩
         simp only[hq2,Option.getD_some]at hF e1 hR ht2
         subst e1
         have hdp:=hD.2 _ (List.getElem_mem hj)
         have hDp:0<D.length:=by omega
         generalize hdj:D[j]=dd at hR hdp
         obtain⟨dpos,dname,dparams,dctors⟩:=dd
         simp only at hR hdp
         have main:∀ T hs,Less 1 T hs (mkP [(0,.ptr 0 0 0),(1,.sl (D.map encDecl) false),(2,.sl (Lv.map encTy) false),(3,.int .i64 n),(8,.ptr 1 0 0),(10,.ptr 2 0 0),(11,oV 3 (([]:List Ty).map encTy)),(12,.int .i64 ((0:Nat):Int))])
          { H:=mkP ([(0,box (Cel.cells t2)),(1,box [.int .i64 0,.str [],.int .i64 0,.int .i64 0,.snil]),(2,box (encDecl ⟨dpos,dname,dparams,dctors⟩))]++oH 3 5 (([]:List Ty).map encTy)),n:=4,log:=[] } →
          ∀ Q,Q (.exit 1) (mkP [(8,.ptr 1 0 0),(10,.ptr 2 0 0),(11,oV 3 ((argsM m t2 D Lv dparams.length).2.map encTy))])
            { H:=mkP ([(0,box (Cel.cells (argsM m t2 D Lv dparams.length).1)),(1,box [.int .i64 0,.str [],.int .i64 0,.int .i64 0,.snil]),(2,box (encDecl ⟨dpos,dname,dparams,dctors⟩))]++oH 3 5 ((argsM m t2 D Lv dparams.length).2.map encTy)),n:=4,log:=[] } →
          Ls ρ E 1 95 (.loop fS15l0) T hs Q:=by
          intro T hs hl Q hQ
          refine lpi hρ hE hcon dparams.length (fun i (p:Tp×List Ty)=>[(0,.ptr 0 0 0),(1,.sl (D.map encDecl) false),(2,.sl (Lv.map encTy) false),(3,.int .i64 n),(8,.ptr 1 0 0),(10,.ptr 2 0 0),(11,oV 3 (p.2.map encTy)),(12,.int .i64 (i:Int))])
           (fun i p=>[(0,box (Cel.cells p.1)),(1,box [.int .i64 0,.str [],.int .i64 0,.int .i64 0,.snil]),(2,box (encDecl ⟨dpos,dname,dparams,dctors⟩))]++oH 3 5 (p.2.map encTy)) (fun i p=>p=argsM m t2 D Lv i) (t2,[]) hl (by rw[argsM]) ?_ ?_
          · intro p hp K
            rw[← hp]at hQ
            obtain⟨t3,L⟩:=p
            rcases L with _|⟨x,L⟩<;>simp[fS15l0,fS15r0,fS15r1,fS15r2,fS15r3,fS15r4,fS15r5,fS15r6,fS15r7,fS15r8,fS15r9,fS15r10,fS15r11,fS15r12,fS15b0,fS15r13,fS15b1,fS15r14,fS15b2,fS15r15,fS15r16,fS15,hE]<;>exact LessQ.mk (Less.auto (by simp) (by simp) rfl rfl) hQ
          · intro i p hi hp K hK
            have hlen:=argsM_len m t2 D Lv i
            have hok:=argsM_ok (D:=D) (Lv:=Lv) m ht2 i
            rw[← hp]at hlen hok
            have hTp:=hTy p.1 hok
            have hnew:=hK (typeM m p.1 D Lv |>.1,p.2++[(typeM m p.1 D Lv).2]) (by rw[argsM,← hp])
            have hi':(i:Int)<dparams.length:=by omega
            have hw2:IntKind.i64.wrap ((i:Int)+1)=((i+1:Nat):Int):=wrap_succ (by omega)
            obtain⟨t3,L⟩:=p
            simp only at hTp hnew hlen
            rcases hq3:typeM m t3 D Lv with⟨t4,x4⟩
            simp only[hq3]at hTp hnew
            rcases L with _|⟨x,L⟩
            · simp[fS15l0,fS15r0,fS15r1,fS15r2,fS15r3,fS15r4,fS15r5,fS15r6,fS15r7,fS15r8,fS15r9,fS15r10,fS15r11,fS15r12,fS15b0,fS15r13,fS15b1,fS15r14,fS15b2,fS15r15,fS15r16,fS15,hE,hi,hi',hw,hw2,hT,hTp,-Int.natCast_add]
              exact hnew _ _ (Less.auto (by simp[-Int.natCast_add]) (by simp) rfl rfl)
            · have h64:(L.length+1+1)*64≤1048576:=by simp at hlen;omega
              simp[fS15l0,fS15r0,fS15r1,fS15r2,fS15r3,fS15r4,fS15r5,fS15r6,fS15r7,fS15r8,fS15r9,fS15r10,fS15r11,fS15r12,fS15b0,fS15r13,fS15b1,fS15r14,fS15b2,fS15r15,fS15r16,fS15,hE,hi,hi',hw,hw2,hT,hTp,h64,Nat.not_succ_le_self,-Int.natCast_add]
              exact hnew _ _ (Less.auto (by simp[-Int.natCast_add]) (by simp) rfl rfl)
         have hlenR:=argsM_len m t2 D Lv dparams.length
         rcases hq4:argsM m t2 D Lv dparams.length with⟨t5,L⟩
         simp only[hq4]at main hR hlenR
         subst hR
         have hlen2:L.length≤10000:=by omega
         rcases c5.1 with rfl|rfl<;>simp[fS15r0,fS15r1,fS15r2,fS15r3,fS15r4,fS15r5,fS15r6,fS15r7,fS15r8,fS15r9,fS15r10,fS15r11,fS15r12,fS15b0,fS15r13,fS15b1,fS15r14,fS15b2,fS15r15,fS15r16,fS15,hE,hN,h7,c4,hF,hj,hdj,hDp]<;>refine main _ _ (Less.auto (by simp) (by simp) rfl rfl) _ ?_ <;>
         (rcases L with _|⟨x,L⟩
          · simp[fS15r0,fS15r1,fS15r2,fS15r3,fS15r4,fS15r5,fS15r6,fS15r7,fS15r8,fS15r9,fS15r10,fS15r11,fS15r12,fS15b0,fS15r13,fS15b1,fS15r14,fS15b2,fS15r15,fS15r16,fS15,hE,hC]
            exact GivesL.keep rfl rfl (by simp[tCon]) (by simp) (by simp)
          · have hl9:L.length≤9999:=by simpa using hlen2
            simp[fS15r0,fS15r1,fS15r2,fS15r3,fS15r4,fS15r5,fS15r6,fS15r7,fS15r8,fS15r9,fS15r10,fS15r11,fS15r12,fS15b0,fS15r13,fS15b1,fS15r14,fS15b2,fS15r15,fS15r16,fS15,hE,hC,hl9]
            exact GivesL.keep rfl rfl (by simp[tCon]) (by simp) (by simp))
       · rw [if_neg c5]at hR
         have hp5:¬ ((k=4∨k=5)∧0<D.length):=fun h=>c5 ⟨h.1,List.length_pos_iff.1 h.2⟩
         have hF1:=hTy t1 ht1
         have ht2:=(typeM_ok (D:=D) (Lv:=Lv) m t1 ht1).1
         rcases hq2:typeM m t1 D Lv with⟨t2,a⟩
         simp only[hq2]at hF1 hR ht2
         have hF2:=hTy t2 ht2
         rcases hq3:typeM m t2 D Lv with⟨t3,b⟩
         simp only[hq3]at hF2 hR
         subst hR
         have hD0:(k=4∨k=5)→D=[]:=fun h=>Classical.byContradiction fun hne=>c5 ⟨h,hne⟩
         by_cases c6:k=4
         · have:=hD0 (.inl c6)
           subst this c6
           simp[fS15r0,fS15r1,fS15r2,fS15r3,fS15r4,fS15r5,fS15r6,fS15r7,fS15r8,fS15r9,fS15r10,fS15r11,fS15r12,fS15b0,fS15r13,fS15b1,fS15r14,fS15b2,fS15r15,fS15r16,fS15,hE,hN,h7,c4,hw,hT,hF1,hF2,hA]
           exact GivesL.keep rfl rfl (by simp) (by simp) (by simp)
         · by_cases c7:k=5
           · have:=hD0 (.inr c7)
             subst this c7
             simp[fS15r0,fS15r1,fS15r2,fS15r3,fS15r4,fS15r5,fS15r6,fS15r7,fS15r8,fS15r9,fS15r10,fS15r11,fS15r12,fS15b0,fS15r13,fS15b1,fS15r14,fS15b2,fS15r15,fS15r16,fS15,hE,hN,h7,c4,hw,hT,hF1,hF2,hA]
             exact GivesL.keep rfl rfl (by simp) (by simp) (by simp)
           · simp[fS15r0,fS15r1,fS15r2,fS15r3,fS15r4,fS15r5,fS15r6,fS15r7,fS15r8,fS15r9,fS15r10,fS15r11,fS15r12,fS15b0,fS15r13,fS15b1,fS15r14,fS15b2,fS15r15,fS15r16,fS15,hE,hN,h7,c3,c2,c4,c6,c7,hw,hT,hF1,hF2,hA]
             exact GivesL.keep rfl rfl (by simp) (by simp) (by simp)
end
end Go.Proofs.YthfcfmkdeheicaaGreat
namespace Go.Proofs.YthfcfmkdeheicaaGreat
open Go.J
open Go.J.Enc (enc)
set_option maxRecDepth 100000
set_option maxHeartbeats 4000000
def replF(d:Nat)(t:Ty)(s:List Assign):Option Ty:=if t.ok=true∧t.size≤d∧s.length≤100000 then some (t.repl s)else none
section
variable {ρ:Nat→Value}(hρ:J.Good ρ){E:Env}(hE:E.P=Tryz.prog)(hcon:ConsOk ρ E)
include hρ hE hcon
theorem ref3_Replace_run {d:Nat} (hc:E.con 25=fnS (spec2 (replF d))) {t:Ty} {s:List Assign} (ht:t.ok=true) (hd:t.size≤d+1) (hsl:s.length≤100000) (hs:HS):CallOk ρ Tryz.prog 25 [enc t,enc s] hs (enc (t.repl s)) hs:=by
 refine fn hρ hE hcon Tryz.func25 fB25 rfl (by simp) ?_ hs
 rw[repl_eq]
 by_cases hk:t.kind=1
 · rw [if_pos hk]
   simp[fS25r0,fS25r1,fS25r2,fS25r3,fS25r4,fS25r5,fS25b0,fS25r6,fS25b1,fS25r7,fS25r8,fS25r9,fS25r10,fS25r11,fS25r12,fS25b2,fS25r13,fS25b3,fS25r14,fS25,hE,hk]
   refine lpi hρ hE hcon s.length (nn:=2) (fun i (_:Unit)=>[(1,.sl (s.map encAssign) false),(2,.ptr 0 0 0),(4,.ptr 1 0 0),(5,.int .i64 (i:Int))]) (fun i _=>[(0,box (encTy t)),(1,box [.int .i64 0,.str [],.int .i64 0,.int .i64 0,.snil])]) (fun i _=>lookA (s.take i) t.id=none) ()
    (Less.auto (by simp) (by simp[hk]) rfl rfl) rfl ?_ ?_
   · intro _ hl K
     rw[List.take_length]at hl
     simp[fS25l0,fS25r0,fS25r1,fS25r2,fS25r3,fS25r4,fS25r5,fS25b0,fS25r6,fS25b1,fS25r7,fS25r8,fS25r9,fS25r10,fS25r11,fS25r12,fS25b2,fS25r13,fS25b3,fS25r14,fS25,hE]
     refine LessQ.mk (Less.auto (TL:=[(2,.ptr 0 0 0),(4,.ptr 1 0 0)]) (HL:=[(0,box (encTy t)),(1,box [.int .i64 0,.str [],.int .i64 0,.int .i64 0,.snil])]) (n:=2) (by simp) (by simp[hk]) rfl rfl) ?_
     simp[fS25r0,fS25r1,fS25r2,fS25r3,fS25r4,fS25r5,fS25b0,fS25r6,fS25b1,fS25r7,fS25r8,fS25r9,fS25r10,fS25r11,fS25r12,fS25b2,fS25r13,fS25b3,fS25r14,fS25,hE,hl,hk]
   · intro i _ hi hl K hK
     have hi':(i:Int)<s.length:=by omega
     have hw2:IntKind.i64.wrap ((i:Int)+1)=((i+1:Nat):Int):=wrap_succ (by omega)
     have hlk:∀ j,lookA (s.take (i+1)) j=(lookA (s.take i) j).or (lookA [s[i]] j):=fun j=>by
      rw[List.take_add_one,List.getElem?_eq_getElem hi,Option.toList_some,lookA_app]
     by_cases he:s[i].id=t.id
     · have hres:lookA s t.id=some s[i].type:=by
        conv=>lhs;rw[← List.take_append_drop (i+1) s]
        rw[lookA_app,hlk,hl]
        simp[lookA,he]
       simp[fS25l0,fS25r0,fS25r1,fS25r2,fS25r3,fS25r4,fS25r5,fS25b0,fS25r6,fS25b1,fS25r7,fS25r8,fS25r9,fS25r10,fS25r11,fS25r12,fS25b2,fS25r13,fS25b3,fS25r14,fS25,hE,hi,hi',he,hk]
       refine LessQ.mk (Less.auto (TL:=[(4,.ptr 1 0 0)]) (HL:=[(1,box (encTy s[i].type))]) (n:=2) (by simp) (by simp) rfl rfl) ?_
       simp[fS25r0,fS25r1,fS25r2,fS25r3,fS25r4,fS25r5,fS25b0,fS25r6,fS25b1,fS25r7,fS25r8,fS25r9,fS25r10,fS25r11,fS25r12,fS25b2,fS25r13,fS25b3,fS25r14,fS25,hE,hres]
     · have hnew:=hK () (by rw[hlk,hl];simp[lookA,he])
       simp[fS25l0,fS25r0,fS25r1,fS25r2,fS25r3,fS25r4,fS25r5,fS25b0,fS25r6,fS25b1,fS25r7,fS25r8,fS25r9,fS25r10,fS25r11,fS25r12,fS25b2,fS25r13,fS25b3,fS25r14,fS25,hE,hi,hi',he,hk,hw2,-Int.natCast_add]
       exact hnew _ _ (Less.auto (by simp[-Int.natCast_add]) (by simp[hk]) rfl rfl)
 · rw [if_neg hk]
   simp[fS25r0,fS25r1,fS25r2,fS25r3,fS25r4,fS25r5,fS25b0,fS25r6,fS25b1,fS25r7,fS25r8,fS25r9,fS25r10,fS25r11,fS25r12,fS25b2,fS25r13,fS25b3,fS25r14,fS25,hE,hk]
   have hlen:=Ty.ok_len ht
   refine lpi hρ hE hcon t.args.length (nn:=4) (fun i (L:List Ty)=>[(1,.sl (s.map encAssign) false),(2,.ptr 0 0 0),(4,.ptr 1 0 0),(6,.ptr 2 0 0),(7,.int .i64 (i:Int))])
    (fun i L=>[(0,box (encTy t)),(1,box [.int .i64 0,.str [],.int .i64 0,.int .i64 0,.snil]),(2,box [.int .i64 t.kind,.str t.name,.int .i64 t.id,.int .i64 t.home,oV 3 (L.map encTy)])]++oH 3 5 (L.map encTy)) (fun i L=>L=(t.args.take i).map (Ty.repl s)) []
    (Less.auto (by simp) (by simp) (by simp) (by simp)) rfl ?_ ?_
   · intro L hL K
     rw[List.take_length]at hL
     rw[← hL]
     clear hL
     rcases L with _|⟨x,L⟩
     · simp[fS25l1,fS25r0,fS25r1,fS25r2,fS25r3,fS25r4,fS25r5,fS25b0,fS25r6,fS25b1,fS25r7,fS25r8,fS25r9,fS25r10,fS25r11,fS25r12,fS25b2,fS25r13,fS25b3,fS25r14,fS25,hE]
       refine LessQ.mk (Less.auto (TL:=[(4,.ptr 1 0 0),(6,.ptr 2 0 0)]) (HL:=[(1,box [.int .i64 0,.str [],.int .i64 0,.int .i64 0,.snil]),(2,box [.int .i64 t.kind,.str t.name,.int .i64 t.id,.int .i64 t.home,.snil])]) (n:=4) (by simp) (by simp) (by simp) (by simp)) ?_
       simp[fS25r0,fS25r1,fS25r2,fS25r3,fS25r4,fS25r5,fS25b0,fS25r6,fS25b1,fS25r7,fS25r8,fS25r9,fS25r10,fS25r11,fS25r12,fS25b2,fS25r13,fS25b3,fS25r14,fS25,hE]
     · simp[fS25l1,fS25r0,fS25r1,fS25r2,fS25r3,fS25r4,fS25r5,fS25b0,fS25r6,fS25b1,fS25r7,fS25r8,fS25r9,fS25r10,fS25r11,fS25r12,fS25b2,fS25r13,fS25b3,fS25r14,fS25,hE]
       refine LessQ.mk (Less.auto (TL:=[(4,.ptr 1 0 0),(6,.ptr 2 0 0)]) (HL:=[(1,box [.int .i64 0,.str [],.int .i64 0,.int .i64 0,.snil]),(2,box [.int .i64 t.kind,.str t.name,.int .i64 t.id,.int .i64 t.home,oV 3 ((x::L).map encTy)])]++oH 3 5 ((x::L).map encTy)) (n:=4) (by simp) (by simp) (by simp) (by simp)) ?_
       simp[fS25r0,fS25r1,fS25r2,fS25r3,fS25r4,fS25r5,fS25b0,fS25r6,fS25b1,fS25r7,fS25r8,fS25r9,fS25r10,fS25r11,fS25r12,fS25b2,fS25r13,fS25b3,fS25r14,fS25,hE]
   · intro i L hi hL K hK
     have hi':(i:Int)<t.args.length:=by omega
     have hw2:IntKind.i64.wrap ((i:Int)+1)=((i+1:Nat):Int):=wrap_succ (by omega)
     have hm:=List.getElem_mem hi
     have hF:replF d t.args[i] s=some (t.args[i].repl s):=by
      unfold replF
      rw[if_pos ⟨Ty.ok_arg ht hm,by have:=Ty.size_arg hm;omega,hsl⟩]
     have hnew:=hK (L++[t.args[i].repl s]) (by rw[List.take_add_one,List.getElem?_eq_getElem hi,Option.toList_some,List.map_append,hL];rfl)
     have hLl:L.length=i:=by rw[hL,List.length_map,List.length_take];omega
     clear hL
     generalize t.args[i].repl s=y at hF hnew
     rcases L with _|⟨x,L⟩
     · simp[fS25l1,fS25r0,fS25r1,fS25r2,fS25r3,fS25r4,fS25r5,fS25b0,fS25r6,fS25b1,fS25r7,fS25r8,fS25r9,fS25r10,fS25r11,fS25r12,fS25b2,fS25r13,fS25b3,fS25r14,fS25,hE,hi,hi',hc,hF,hw2,-Int.natCast_add]
       exact hnew _ _ (Less.auto (by simp[-Int.natCast_add]) (by simp) (by simp) (by simp))
     · have h64:(L.length+1+1)*64≤1048576:=by simp at hLl;omega
       simp[fS25l1,fS25r0,fS25r1,fS25r2,fS25r3,fS25r4,fS25r5,fS25b0,fS25r6,fS25b1,fS25r7,fS25r8,fS25r9,fS25r10,fS25r11,fS25r12,fS25b2,fS25r13,fS25b3,fS25r14,fS25,hE,hi,hi',hc,hF,hw2,h64,Nat.not_succ_le_self,-Int.natCast_add]
       exact hnew _ _ (Less.auto (by simp[-Int.natCast_add]) (by simp) (by simp) (by simp))
end
end Go.Proofs.YthfcfmkdeheicaaGreat
namespace Go.Proofs.YthfcfmkdeheicaaGreat
open Go.J
open Go.J.Enc (enc)
set_option maxRecDepth 100000
set_option maxHeartbeats 4000000
section
variable {ρ:Nat→Value}(hρ:J.Good ρ){E:Env}(hE:E.P=Tryz.prog)(hcon:ConsOk ρ E)
include hρ hE hcon
theorem types_Var_run{i:Int}(hs:HS):CallOk ρ Tryz.prog 86 [enc i] hs (enc (tVar i)) hs:=by
 refine fn hρ hE hcon Tryz.func86 fB86 rfl (by simp) ?_ hs
 simp[fS86r0,fS86r1,fS86,hE,tVar]
end
end Go.Proofs.YthfcfmkdeheicaaGreat
namespace Go.Proofs.YthfcfmkdeheicaaGreat
open Go.J
open Go.J.Enc (enc)
set_option maxRecDepth 100000
set_option maxHeartbeats 4000000
def leavesF(d:Nat)(L:List Ty)(t:Ty)(kind:Int):Option (List Ty):=if t.size≤d∧t.ok=true∧Ty.oks L=true∧(leavesM kind t L).length≤10000 then some (leavesM kind t L)else none
theorem leaves_take(kind:Int):∀ (l:List Ty) (i:Nat) (L0:List Ty),(leavesL kind (l.take i) L0).length≤(leavesL kind l L0).length:=by
 intro l
 induction l with
 |nil=>intro i L0;simp
 | cons a l ih =>
   intro i L0
   cases i with
   |zero=>exact(leavesL_len kind (a::l) L0).1
   | succ i =>
     rw[List.take_succ_cons,leavesL,leavesL]
     exact ih i _
section
variable {ρ:Nat→Value}(hρ:J.Good ρ){E:Env}(hE:E.P=Tryz.prog)(hcon:ConsOk ρ E)
include hρ hE hcon
theorem ref3_leaves_loop1 {d:Nat} (hc:E.con 91=ioS 5 (ioF2 (leavesF d)) kOne) {k:Nat} {t:Ty} {kind:Int} {L0:List Ty} (hk:k=0∨k=1∧L0≠[]) (ht:t.ok=true) (hd:t.size≤d+1) (h0:Ty.oks L0=true) (hl0:(leavesL kind t.args L0).length≤10000) {Q:Ex→PT V→HS→Prop}
 (hQ:Q (.exit 2) (mkP [(0,oV 0 ((leavesL kind t.args L0).map encTy))]) { H:=mkP (oH 0 5 ((leavesL kind t.args L0).map encTy)),n:=1,log:=[] }) :
 ∀ (n i:Nat) (L:List Ty),i+n=t.args.length→L=leavesL kind (t.args.take i) L0→LsN ρ E k 52 fS91l1 (LessQ k Q) (n+1) (mkP [(0,oV 0 (L.map encTy)),(2,.int .i64 kind),(4,.ptr 1 0 0),(8,.int .i64 (i:Int))])
   { H:=mkP ((1,box (encTy t))::oH 0 5 (L.map encTy)),n:=2,log:=[] }:=by
 intro n
 induction n with
 | zero =>
   intro i L hi hL
   have hil:¬ (i:Int)<t.args.length:=by omega
   have e:L=leavesL kind t.args L0:=by rw[hL,List.take_of_length_le (by omega)]
   rw[← e]at hQ
   have hlen:=leavesL_len kind t.args L0
   rw[← e]at hlen
   refine lp hρ hE hcon fun K hK=>?_
   rcases L with _|⟨x,L⟩
   · have hk0:k=0:=by
      rcases hk with h|⟨_,h⟩
      · exact h
      · cases L0 with
        |nil=>exact absurd rfl h
        |cons a l=>simp at hlen
     subst hk0
     simp[fS91l1,fS91r0,fS91r1,fS91r2,fS91r3,fS91r4,fS91r5,fS91b0,fS91r6,fS91b1,fS91r7,fS91r8,fS91r9,fS91r10,fS91b2,fS91r11,fS91b3,fS91r12,fS91,hE,hil]
     exact LessQ.mk (Less.keep 1 (by simp) (by simp) rfl rfl) hQ
   · simp[fS91l1,fS91r0,fS91r1,fS91r2,fS91r3,fS91r4,fS91r5,fS91b0,fS91r6,fS91b1,fS91r7,fS91r8,fS91r9,fS91r10,fS91b2,fS91r11,fS91b3,fS91r12,fS91,hE,hil]
     rcases hk with rfl|⟨rfl,_⟩<;>exact LessQ.mk (Less.keep 1 (by simp) (by simp) rfl rfl) hQ
 | succ n ih =>
   intro i L hi hL
   have hil:i<t.args.length:=by omega
   have hil':(i:Int)<t.args.length:=by omega
   have hw:IntKind.i64.wrap ((i:Int)+1)=((i+1:Nat):Int):=wrap_succ (by have:=Ty.ok_len ht;omega)
   have hm:=List.getElem_mem hil
   have hs1:=Ty.size_arg hm
   have hok:=Ty.ok_arg ht hm
   have hLok:Ty.oks L=true:=by rw[hL];exact leavesL_ok (oks_take (Ty.oks_iff.2 (Ty.ok_iff.1 ht).2) i) _ h0
   have hlen:=leavesL_len kind (t.args.take i) L0
   rw[← hL]at hlen
   have hsz:Ty.sizes (t.args.take i)+t.args[i].size≤Ty.sizes t.args:=by
    have:=sizes_take_le t.args (i+1)
    rw[List.take_add_one,List.getElem?_eq_getElem hil,sizes_app]at this
    simpa [Ty.sizes]using this
   have hts:=Ty.size_eq t
   have hnew:leavesM kind t.args[i] L=leavesL kind (t.args.take (i+1)) L0:=by
    rw[List.take_add_one,List.getElem?_eq_getElem hil,Option.toList_some,leavesL_snoc,hL]
   have hb:(leavesM kind t.args[i] L).length≤10000:=by rw[hnew];exact Nat.le_trans (leaves_take kind t.args (i+1) L0) hl0
   have hF:leavesF d L t.args[i] kind=some (leavesM kind t.args[i] L):=by
    unfold leavesF;rw[if_pos ⟨by omega,hok,hLok,hb⟩]
   have hml:=leavesM_len kind t.args[i] L
   refine lp hρ hE hcon fun K hK=>?_
   generalize hR:leavesM kind t.args[i] L=R at hF hnew hml
   rcases L with _|⟨x,L⟩
   · have hk0:k=0:=by
      rcases hk with h|⟨_,h⟩
      · exact h
      · cases L0 with
        |nil=>exact absurd rfl h
        |cons a l=>simp at hlen
     subst hk0
     rcases R with _|⟨y,R⟩<;>simp[fS91l1,fS91r0,fS91r1,fS91r2,fS91r3,fS91r4,fS91r5,fS91b0,fS91r6,fS91b1,fS91r7,fS91r8,fS91r9,fS91r10,fS91b2,fS91r11,fS91b3,fS91r12,fS91,hE,hil,hil',hc,hw,hF,kOne,-Int.natCast_add]
     · exact hK _ _ (LsN_less (Less.keep 2 (by simp[-Int.natCast_add]) (by simp) rfl rfl) (ih (i+1) _ (by omega) hnew))
     · exact hK _ _ (LsN_less (Less.lit (fun k=>if k=0 then 16 else k) 2 (by simp[-Int.natCast_add]) (by simp) rfl rfl) (ih (i+1) _ (by omega) hnew))
   · rcases R with _|⟨y,R⟩
     · simp at hml
     · have hml0:L.length≤R.length:=by simp at hml;omega
       simp[fS91l1,fS91r0,fS91r1,fS91r2,fS91r3,fS91r4,fS91r5,fS91b0,fS91r6,fS91b1,fS91r7,fS91r8,fS91r9,fS91r10,fS91b2,fS91r11,fS91b3,fS91r12,fS91,hE,hil,hil',hc,hw,hF,kOne,hml0,-Int.natCast_add]
       rcases hk with rfl|⟨rfl,_⟩<;>exact hK _ _ (LsN_less (Less.keep 2 (by simp[-Int.natCast_add]) (by simp) rfl rfl) (ih (i+1) _ (by omega) hnew))
theorem ref3_leaves_loop0 (hc:E.con 23=fnS (spec2 fun a b:Ty=>if a.ok=true then some (decide (a=b))else none)) {k:Nat} {t:Ty} {L:List Ty} (hk:k=0∨k=1∧L≠[]) (h0:Ty.oks L=true) (hl0:L.length≤10000) {Q:Ex→PT V→HS→Prop}
 (hf:t∈L→Q .ret (mkP [(6,oV 0 (L.map encTy))]) { H:=mkP (oH 0 5 (L.map encTy)),n:=1,log:=[] })
 (hn:t ∉ L→Q (.exit 0) (mkP [(0,oV 0 (L.map encTy)),(4,.ptr 1 0 0)]) { H:=mkP ((1,box (encTy t))::oH 0 5 (L.map encTy)),n:=2,log:=[] }) :
 ∀ (n i:Nat),i+n=L.length→t ∉ L.take i→LsN ρ E k 52 fS91l0 (LessQ k Q) (n+1) (mkP [(0,oV 0 (L.map encTy)),(4,.ptr 1 0 0),(7,.int .i64 (i:Int))])
   { H:=mkP ((1,box (encTy t))::oH 0 5 (L.map encTy)),n:=2,log:=[] }:=by
 intro n
 induction n with
 | zero =>
   intro i hi hL
   have hil:¬ (i:Int)<L.length:=by omega
   have e:t ∉ L:=by rw[List.take_of_length_le (by omega)]at hL;exact hL
   have hn:=hn e
   refine lp hρ hE hcon fun K hK=>?_
   rcases L with _|⟨x,L⟩
   · have hk0:k=0:=by
      rcases hk with h|⟨_,h⟩
      · exact h
      · exact absurd rfl h
     subst hk0
     obtain rfl:i=0:=by simpa using hi
     simp[fS91l0,fS91r0,fS91r1,fS91r2,fS91r3,fS91r4,fS91r5,fS91b0,fS91r6,fS91b1,fS91r7,fS91r8,fS91r9,fS91r10,fS91b2,fS91r11,fS91b3,fS91r12,fS91,hE]
     exact LessQ.mk (Less.keep 2 (by simp) (by simp) rfl rfl) hn
   · have hil2:¬ (i:Int)<(L.length:Int)+1:=by simp at hil;omega
     simp[fS91l0,fS91r0,fS91r1,fS91r2,fS91r3,fS91r4,fS91r5,fS91b0,fS91r6,fS91b1,fS91r7,fS91r8,fS91r9,fS91r10,fS91b2,fS91r11,fS91b3,fS91r12,fS91,hE,hil2]
     rcases hk with rfl|⟨rfl,_⟩<;>exact LessQ.mk (Less.keep 2 (by simp) (by simp) rfl rfl) hn
 | succ n ih =>
   intro i hi hL
   have hil:i<L.length:=by omega
   have hw:IntKind.i64.wrap ((i:Int)+1)=((i+1:Nat):Int):=wrap_succ (by omega)
   have hok:=Ty.oks_iff.1 h0 _ (List.getElem_mem hil)
   have hnext:L[i]≠t→t ∉ L.take (i+1):=by
    intro h hm
    rw[List.take_add_one,List.getElem?_eq_getElem hil]at hm
    rcases List.mem_append.1 hm with hm|hm
    · exact hL hm
    · exact h (List.mem_singleton.1 hm).symm
   have hmem:L[i]=t→t∈L:=fun h=>h ▸ List.getElem_mem hil
   have hgi:(L.map encTy)[i]?=some (encTy L[i]):=by rw[List.getElem?_map,List.getElem?_eq_getElem hil];rfl
   refine lp hρ hE hcon fun K hK=>?_
   generalize L[i]=y at hok hnext hmem hgi
   rcases L with _|⟨x,L⟩
   · simp at hil
   · have hil2:(i:Int)<(L.length:Int)+1:=by simp at hil;omega
     have hil3:i<L.length+1:=by simpa using hil
     simp only[List.map_cons,encTy_n]at hgi
     have hgi3:∀ h,(encTy x::L.map encTy)[i]'h=encTy y:=fun h=>by simp only[encTy_n];exact(List.getElem?_eq_some_iff.1 hgi).2
     simp only[encTy_n]at hgi3
     have hd1:i*5 / 5=i:=by omega
     have hd2:i*5 % 5=0:=by omega
     simp[fS91l0,fS91r0,fS91r1,fS91r2,fS91r3,fS91r4,fS91r5,fS91b0,fS91r6,fS91b1,fS91r7,fS91r8,fS91r9,fS91r10,fS91b2,fS91r11,fS91b3,fS91r12,fS91,hE,hil2,hil3,hc,hok,hd1,hd2,hgi3]
     refine brT_mk (fun h=>?_) (fun h=>?_)<;>simp[fS91r0,fS91r1,fS91r2,fS91r3,fS91r4,fS91r5,fS91b0,fS91r6,fS91b1,fS91r7,fS91r8,fS91r9,fS91r10,fS91b2,fS91r11,fS91b3,fS91r12,fS91,hE,hw,-Int.natCast_add]
     · rcases hk with rfl|⟨rfl,_⟩<;>exact LessQ.mk (Less.keep 1 (by simp) (by simp) rfl rfl) (hf (hmem h))
     · rcases hk with rfl|⟨rfl,_⟩<;>exact hK _ _ (LsN_less (Less.keep 2 (by simp[-Int.natCast_add]) (by simp) rfl rfl) (ih (i+1) (by omega) (hnext h)))
theorem ref3_leaves_run {d:Nat} (hcE:E.con 23=fnS (spec2 fun a b:Ty=>if a.ok=true then some (decide (a=b))else none)) (hc:E.con 91=ioS 5 (ioF2 (leavesF d)) kOne) {L:List Ty} {t:Ty} {kind:Int} (ht:t.ok=true) (hd:t.size≤d+1) (h0:Ty.oks L=true) (hl0:(leavesM kind t L).length≤10000)
 {hs:HS} {v:V} (hv:rowOf 5 hs v=some (L.map encTy)) (hvac:hs.H.get hs.n=none):CallOk ρ Tryz.prog 91 [v,enc t,enc kind] hs (rowTo 5 v (L.map encTy) ((leavesM kind t L).map encTy) hs).1 (rowTo 5 v (L.map encTy) ((leavesM kind t L).map encTy) hs).2:=by
 have hlen:=leavesM_len kind t L
 refine io hρ hE hcon (K:=kOne) (rs:=[]) (.inl rfl) Tryz.func91 fB91 rfl (by simp) (by simp) (by simp) rfl (by simpa using hlen.1) ?_ hv hvac
 clear hv hvac
 rw[leavesM_eq]
 have hk:(if L.map encTy=[]then 0 else 1)=0∨(if L.map encTy=[]then 0 else 1)=1∧L≠[]:=by
  cases L with
  |nil=>exact .inl rfl
  |cons a l=>exact .inr ⟨rfl,by simp⟩
 by_cases hleaf:t.kind=kind∧t.args=[]
 · rw [if_pos hleaf]
   obtain⟨hkd,har⟩:=hleaf
   rcases L with _|⟨x,L⟩
   · simp[fS91r0,fS91r1,fS91r2,fS91r3,fS91r4,fS91r5,fS91b0,fS91r6,fS91b1,fS91r7,fS91r8,fS91r9,fS91r10,fS91b2,fS91r11,fS91b3,fS91r12,fS91,hE,hkd,har]
     refine Ls_lessQ (Ls_loop (LsN_less (Less.lit (TL:=[(0,oV 0 (([]:List Ty).map encTy)),(4,.ptr 1 0 0),(7,.int .i64 ((0:Nat):Int))]) (HL:=(1,box (encTy t))::oH 0 5 (([]:List Ty).map encTy)) (fun k=>if k=1 then 0 else k) 2 ?_ ?_ rfl rfl) (ref3_leaves_loop0 hρ hE hcon hcE (.inl rfl) h0 (by simp) ?_ ?_ 0 0 rfl (by simp))))
     · simp
     · simp[har,hkd]
     · intro h;cases h
     · intro _
       simp[fS91r0,fS91r1,fS91r2,fS91r3,fS91r4,fS91r5,fS91b0,fS91r6,fS91b1,fS91r7,fS91r8,fS91r9,fS91r10,fS91b2,fS91r11,fS91b3,fS91r12,fS91,hE,hkd,har]
       exact GivesL.litX (fun k=>if k=0 then 5 else k) rfl rfl ⟨rfl,rfl⟩ (by simp)
   · simp[fS91r0,fS91r1,fS91r2,fS91r3,fS91r4,fS91r5,fS91b0,fS91r6,fS91b1,fS91r7,fS91r8,fS91r9,fS91r10,fS91b2,fS91r11,fS91b3,fS91r12,fS91,hE,hkd,har]
     refine Ls_lessQ (Ls_loop (LsN_less (Less.keep (TL:=[(0,oV 0 ((x::L).map encTy)),(4,.ptr 1 0 0),(7,.int .i64 ((0:Nat):Int))]) (HL:=(1,box (encTy t))::oH 0 5 ((x::L).map encTy)) 2 ?_ ?_ rfl rfl) (ref3_leaves_loop0 hρ hE hcon hcE (.inr ⟨rfl,by simp⟩) h0 (by omega) ?_ ?_ (x::L).length 0 (by omega) (by simp))))
     · simp
     · simp[har,hkd]
     · intro h
       simp[fS91r0,fS91r1,fS91r2,fS91r3,fS91r4,fS91r5,fS91b0,fS91r6,fS91b1,fS91r7,fS91r8,fS91r9,fS91r10,fS91b2,fS91r11,fS91b3,fS91r12,fS91,hE,hkd,har,h]
       exact GivesL.keepX rfl rfl rfl (by simp)
     · intro hn
       have h64:(L.length+1+1)*64≤1048576:=by have:=hlen.1;simp only[List.length_cons]at this;omega
       simp[fS91r0,fS91r1,fS91r2,fS91r3,fS91r4,fS91r5,fS91b0,fS91r6,fS91b1,fS91r7,fS91r8,fS91r9,fS91r10,fS91b2,fS91r11,fS91b3,fS91r12,fS91,hE,hkd,har,hn,h64,Nat.not_succ_le_self]
       exact GivesL.keepX rfl rfl rfl (by simp)
 · rw [if_neg hleaf]
   have hneq:t.kind=kind→¬ t.args=[]:=fun h1 h2=>hleaf ⟨h1,h2⟩
   have hl1:(leavesL kind t.args L).length≤10000:=by rw[leavesM_eq,if_neg hleaf]at hl0;exact hl0
   rcases L with _|⟨x,L⟩
   · have go:∀ T hs',Less 0 T hs' (mkP [(0,oV 0 (([]:List Ty).map encTy)),(2,.int .i64 kind),(4,.ptr 1 0 0),(8,.int .i64 ((0:Nat):Int))]) { H:=mkP ((1,box (encTy t))::oH 0 5 (([]:List Ty).map encTy)),n:=2,log:=[] } →
      ∀ Q,Q (.exit 2) (mkP [(0,oV 0 ((leavesL kind t.args []).map encTy))]) { H:=mkP (oH 0 5 ((leavesL kind t.args []).map encTy)),n:=1,log:=[] }→Ls ρ E 0 52 (.loop fS91l1) T hs' Q:=fun T hs' hl Q hQ =>
      Ls_lessQ (Ls_loop (LsN_less hl (ref3_leaves_loop1 hρ hE hcon hc (.inl rfl) ht hd h0 hl1 hQ t.args.length 0 [] (by omega) rfl)))
     by_cases h1:t.kind=kind
     · have h2:=hneq h1
       simp[fS91r0,fS91r1,fS91r2,fS91r3,fS91r4,fS91r5,fS91b0,fS91r6,fS91b1,fS91r7,fS91r8,fS91r9,fS91r10,fS91b2,fS91r11,fS91b3,fS91r12,fS91,hE,h1,h2]
       refine go _ _ (Less.lit (fun k=>if k=1 then 0 else k) 2 (by simp) (by simp[h1]) rfl rfl) _ ?_
       generalize leavesL kind t.args []=R
       rcases R with _|⟨y,R⟩<;>simp[fS91r0,fS91r1,fS91r2,fS91r3,fS91r4,fS91r5,fS91b0,fS91r6,fS91b1,fS91r7,fS91r8,fS91r9,fS91r10,fS91b2,fS91r11,fS91b3,fS91r12,fS91,hE]<;>exact GivesL.keepX rfl rfl rfl (by simp)
     · simp[fS91r0,fS91r1,fS91r2,fS91r3,fS91r4,fS91r5,fS91b0,fS91r6,fS91b1,fS91r7,fS91r8,fS91r9,fS91r10,fS91b2,fS91r11,fS91b3,fS91r12,fS91,hE,h1]
       refine go _ _ (Less.lit (fun k=>if k=1 then 0 else k) 2 (by simp) (by simp) rfl rfl) _ ?_
       generalize leavesL kind t.args []=R
       rcases R with _|⟨y,R⟩<;>simp[fS91r0,fS91r1,fS91r2,fS91r3,fS91r4,fS91r5,fS91b0,fS91r6,fS91b1,fS91r7,fS91r8,fS91r9,fS91r10,fS91b2,fS91r11,fS91b3,fS91r12,fS91,hE]<;>exact GivesL.keepX rfl rfl rfl (by simp)
   · have hRl:=(leavesL_len kind t.args (x::L)).1
     have go:∀ T hs',Less 1 T hs' (mkP [(0,oV 0 ((x::L).map encTy)),(2,.int .i64 kind),(4,.ptr 1 0 0),(8,.int .i64 ((0:Nat):Int))]) { H:=mkP ((1,box (encTy t))::oH 0 5 ((x::L).map encTy)),n:=2,log:=[] } →
      ∀ Q,Q (.exit 2) (mkP [(0,oV 0 ((leavesL kind t.args (x::L)).map encTy))]) { H:=mkP (oH 0 5 ((leavesL kind t.args (x::L)).map encTy)),n:=1,log:=[] }→Ls ρ E 1 52 (.loop fS91l1) T hs' Q:=fun T hs' hl Q hQ =>
      Ls_lessQ (Ls_loop (LsN_less hl (ref3_leaves_loop1 hρ hE hcon hc (.inr ⟨rfl,by simp⟩) ht hd h0 hl1 hQ t.args.length 0 (x::L) (by omega) rfl)))
     by_cases h1:t.kind=kind
     · have h2:=hneq h1
       simp[fS91r0,fS91r1,fS91r2,fS91r3,fS91r4,fS91r5,fS91b0,fS91r6,fS91b1,fS91r7,fS91r8,fS91r9,fS91r10,fS91b2,fS91r11,fS91b3,fS91r12,fS91,hE,h1,h2]
       refine go _ _ (Less.keep 2 (by simp) (by simp[h1]) rfl rfl) _ ?_
       generalize leavesL kind t.args (x::L)=R at hRl
       rcases R with _|⟨y,R⟩
       · simp at hRl
       · simp[fS91r0,fS91r1,fS91r2,fS91r3,fS91r4,fS91r5,fS91b0,fS91r6,fS91b1,fS91r7,fS91r8,fS91r9,fS91r10,fS91b2,fS91r11,fS91b3,fS91r12,fS91,hE]
         exact GivesL.keepX rfl rfl rfl (by simp)
     · simp[fS91r0,fS91r1,fS91r2,fS91r3,fS91r4,fS91r5,fS91b0,fS91r6,fS91b1,fS91r7,fS91r8,fS91r9,fS91r10,fS91b2,fS91r11,fS91b3,fS91r12,fS91,hE,h1]
       refine go _ _ (Less.keep 2 (by simp) (by simp) rfl rfl) _ ?_
       generalize leavesL kind t.args (x::L)=R at hRl
       rcases R with _|⟨y,R⟩
       · simp at hRl
       · simp[fS91r0,fS91r1,fS91r2,fS91r3,fS91r4,fS91r5,fS91b0,fS91r6,fS91b1,fS91r7,fS91r8,fS91r9,fS91r10,fS91b2,fS91r11,fS91b3,fS91r12,fS91,hE]
         exact GivesL.keepX rfl rfl rfl (by simp)
end
end Go.Proofs.YthfcfmkdeheicaaGreat
namespace Go.Proofs.YthfcfmkdeheicaaGreat
open Go.J
open Go.J.Enc (enc)
set_option maxRecDepth 100000
set_option maxHeartbeats 4000000
section
variable {ρ:Nat→Value}(hρ:J.Good ρ){E:Env}(hE:E.P=Tryz.prog)(hcon:ConsOk ρ E)
include hρ hE hcon
theorem ref3_Has_loop{l:List Int}{x:Int}(h1:l.length≤1000000){Q:Ex→PT V→HS→Prop}
 (hf:x∈l→∀ T hs,T.get 4=some (.bool true)→Q .ret T hs) (ht:x ∉ l→∀ T hs,Q (.exit 0) T hs) :
 ∀ (n i:Nat),i+n=l.length→x ∉ l.take i→LsN ρ E 0 18 fS34l0 Q (n+1) (mkP [(0,.sl (l.map encI) false),(1,.int .i64 x),(5,.int .i64 (i:Int))]) { H:=mkP [],n:=0,log:=[] }:=by
 intro n
 induction n with
 | zero =>
   intro i hi he
   have hil:¬ (i:Int)<l.length:=by omega
   have e:x ∉ l:=by rw[List.take_of_length_le (by omega)]at he;exact he
   refine lp hρ hE hcon fun K hK=>?_
   simp[fS34l0,fS34r0,fS34r1,fS34r2,fS34r3,fS34r4,fS34b0,fS34r5,fS34b1,fS34r6,fS34,hE,hil]
   exact ht e _ _
 | succ n ih =>
   intro i hi he
   have hil:i<l.length:=by omega
   have hil':(i:Int)<l.length:=by omega
   have hw:IntKind.i64.wrap ((i:Int)+1)=((i+1:Nat):Int):=wrap_succ (by omega)
   have hnext:l[i]≠x→x ∉ l.take (i+1):=by
    intro h hm
    rw[List.take_add_one,List.getElem?_eq_getElem hil]at hm
    rcases List.mem_append.1 hm with hm|hm
    · exact he hm
    · exact h (List.mem_singleton.1 hm).symm
   have hmem:l[i]=x→x∈l:=fun h=>h ▸ List.getElem_mem hil
   refine lp hρ hE hcon fun K hK=>?_
   simp[fS34l0,fS34r0,fS34r1,fS34r2,fS34r3,fS34r4,fS34b0,fS34r5,fS34b1,fS34r6,fS34,hE,hil',hil]
   refine brT_mk (fun h=>?_) (fun h=>?_)<;>simp[fS34r0,fS34r1,fS34r2,fS34r3,fS34r4,fS34b0,fS34r5,fS34b1,fS34r6,fS34,hE,hw,-Int.natCast_add]
   · exact hf (hmem h) _ _ (by simp)
   · exact hK _ _ (LsN_less (Less.keep 0 (by simp[-Int.natCast_add]) (by simp) rfl rfl) (ih (i+1) (by omega) (hnext h)))
theorem ref3_Has_run{l:List Int}{x:Int}(h1:l.length≤1000000)(hs:HS):CallOk ρ Tryz.prog 34 [enc l,enc x] hs (enc (decide (x∈l))) hs:=by
 refine fn hρ hE hcon Tryz.func34 fB34 rfl (by simp) ?_ hs
 simp[fS34r0,fS34r1,fS34r2,fS34r3,fS34r4,fS34b0,fS34r5,fS34b1,fS34r6,fS34,hE]
 refine Ls_loop (LsN_less (Less.keep (TL:=[(0,.sl (l.map encI) false),(1,.int .i64 x),(5,.int .i64 ((0:Nat):Int))]) (HL:=[]) 0 (by simp) (by simp) rfl rfl) (ref3_Has_loop hρ hE hcon h1 ?_ ?_ l.length 0 (by omega) (by simp)))
 · intro h T hs hT
   simp[hT,h,hE]
 · intro h T hs
   simp[fS34r0,fS34r1,fS34r2,fS34r3,fS34r4,fS34b0,fS34r5,fS34b1,fS34r6,fS34,h,hE]
theorem ref3_Vars_loop0 {d:Nat} (hc:E.con 91=ioS 5 (ioF2 (leavesF d)) kOne) {l:List Ty} (hl:Ty.oks l=true) (hll:l.length≤10000) (hd:Ty.sizes l≤d) (hd2:(leavesL 1 l []).length≤10000) {Q:Ex→PT V→HS→Prop}
 (hQ:Q (.exit 0) (mkP [(3,oV 0 ((leavesL 1 l []).map encTy))]) { H:=mkP (oH 0 5 ((leavesL 1 l []).map encTy)),n:=1,log:=[] }) :
 ∀ (n i:Nat) (L:List Ty),i+n=l.length→L=leavesL 1 (l.take i) []→LsN ρ E 0 42 fS33l0 (LessQ 0 Q) (n+1) (mkP [(0,.sl (l.map encTy) false),(3,oV 0 (L.map encTy)),(4,.int .i64 (i:Int))])
   { H:=mkP (oH 0 5 (L.map encTy)),n:=1,log:=[] }:=by
 intro n
 induction n with
 | zero =>
   intro i L hi hL
   have hil:¬ (i:Int)<l.length:=by omega
   have e:L=leavesL 1 l []:=by rw[hL,List.take_of_length_le (by omega)]
   rw[← e]at hQ
   refine lp hρ hE hcon fun K hK=>?_
   rcases L with _|⟨x,L⟩<;>simp[fS33l0,fS33r0,fS33r1,fS33r2,fS33r3,fS33r4,fS33b0,fS33r5,fS33b1,fS33r6,fS33r7,fS33r8,fS33r9,fS33r10,fS33b2,fS33r11,fS33b3,fS33r12,fS33,hE,hil]<;>exact LessQ.mk (Less.keep 1 (by simp) (by simp) rfl rfl) hQ
 | succ n ih =>
   intro i L hi hL
   have hil:i<l.length:=by omega
   have hil':(i:Int)<l.length:=by omega
   have hw:IntKind.i64.wrap ((i:Int)+1)=((i+1:Nat):Int):=wrap_succ (by omega)
   have hm:=List.getElem_mem hil
   have hok:=Ty.oks_iff.1 hl _ hm
   have hLok:Ty.oks L=true:=by rw[hL];exact leavesL_ok (oks_take hl i) _ rfl
   have hlen:=leavesL_len 1 (l.take i) []
   rw[← hL]at hlen
   have hsz:Ty.sizes (l.take i)+l[i].size≤Ty.sizes l:=by
    have:=sizes_take_le l (i+1)
    rw[List.take_add_one,List.getElem?_eq_getElem hil,sizes_app]at this
    simpa [Ty.sizes]using this
   have hnew:leavesM 1 l[i] L=leavesL 1 (l.take (i+1)) []:=by
    rw[List.take_add_one,List.getElem?_eq_getElem hil,Option.toList_some,leavesL_snoc,hL]
   have hb:(leavesM 1 l[i] L).length≤10000:=by rw[hnew];exact Nat.le_trans (leaves_take 1 l (i+1) []) hd2
   have hF:leavesF d L l[i] 1=some (leavesM 1 l[i] L):=by
    unfold leavesF;rw[if_pos ⟨by omega,hok,hLok,hb⟩]
   have hml:=leavesM_len 1 l[i] L
   refine lp hρ hE hcon fun K hK=>?_
   generalize hR:leavesM 1 l[i] L=R at hF hnew hml
   rcases L with _|⟨x,L⟩
   · rcases R with _|⟨y,R⟩<;>simp[fS33l0,fS33r0,fS33r1,fS33r2,fS33r3,fS33r4,fS33b0,fS33r5,fS33b1,fS33r6,fS33r7,fS33r8,fS33r9,fS33r10,fS33b2,fS33r11,fS33b3,fS33r12,fS33,hE,hil,hil',hc,hw,hF,kOne,-Int.natCast_add]
     · exact hK _ _ (LsN_less (Less.keep 1 (by simp[-Int.natCast_add]) (by simp) rfl rfl) (ih (i+1) _ (by omega) hnew))
     · exact hK _ _ (LsN_less (Less.lit (fun k=>if k=0 then 12 else k) 1 (by simp[-Int.natCast_add]) (by simp) rfl rfl) (ih (i+1) _ (by omega) hnew))
   · rcases R with _|⟨y,R⟩
     · simp at hml
     · have hml0:L.length≤R.length:=by simp at hml;omega
       simp[fS33l0,fS33r0,fS33r1,fS33r2,fS33r3,fS33r4,fS33b0,fS33r5,fS33b1,fS33r6,fS33r7,fS33r8,fS33r9,fS33r10,fS33b2,fS33r11,fS33b3,fS33r12,fS33,hE,hil,hil',hc,hw,hF,kOne,hml0,-Int.natCast_add]
       exact hK _ _ (LsN_less (Less.keep 1 (by simp[-Int.natCast_add]) (by simp) rfl rfl) (ih (i+1) _ (by omega) hnew))
theorem ref3_Vars_loop1 (hc:E.con 34=fnC (spec2 fun (l:List Int) (x:Int)=>if l.length≤1000000 then some (decide (x∈l))else none)) {F:List Ty} (hl:F.length≤10000) {Q:Ex→PT V→HS→Prop}
 (hQ:Q (.exit 2) (mkP [(5,oV 1 ((idsOf F).map encI))]) { H:=mkP (oH 1 1 ((idsOf F).map encI)),n:=2,log:=[] }) :
 ∀ (n i:Nat) (O:List Int),i+n=F.length→O=idsOf (F.take i)→LsN ρ E 0 42 fS33l1 (LessQ 0 Q) (n+1) (mkP [(3,oV 0 (F.map encTy)),(5,oV 1 (O.map encI)),(6,.int .i64 (i:Int))])
   { H:=mkP (oH 0 5 (F.map encTy)++oH 1 1 (O.map encI)),n:=2,log:=[] }:=by
 intro n
 induction n with
 | zero =>
   intro i O hi hO
   have e:O=idsOf F:=by rw[hO,List.take_of_length_le (by omega)]
   rw[← e]at hQ
   refine lp hρ hE hcon fun K hK=>?_
   rcases F with _|⟨x,F⟩
   · obtain rfl:i=0:=by simpa using hi
     rcases O with _|⟨y,O⟩<;>simp[fS33l1,fS33r0,fS33r1,fS33r2,fS33r3,fS33r4,fS33b0,fS33r5,fS33b1,fS33r6,fS33r7,fS33r8,fS33r9,fS33r10,fS33b2,fS33r11,fS33b3,fS33r12,fS33,hE]<;>exact LessQ.mk (Less.keep 2 (by simp) (by simp) rfl rfl) hQ
   · have hil:¬ (i:Int)<(F.length:Int)+1:=by simp at hi;omega
     rcases O with _|⟨y,O⟩<;>simp[fS33l1,fS33r0,fS33r1,fS33r2,fS33r3,fS33r4,fS33b0,fS33r5,fS33b1,fS33r6,fS33r7,fS33r8,fS33r9,fS33r10,fS33b2,fS33r11,fS33b3,fS33r12,fS33,hE,hil]<;>exact LessQ.mk (Less.keep 2 (by simp) (by simp) rfl rfl) hQ
 | succ n ih =>
   intro i O hi hO
   have hil:i<F.length:=by omega
   have hw:IntKind.i64.wrap ((i:Int)+1)=((i+1:Nat):Int):=wrap_succ (by omega)
   have hOl:O.length≤10000:=by rw[hO];have:=idsOf_len (F.take i);rw[List.length_take]at this;omega
   have hnew:addId O F[i]=idsOf (F.take (i+1)):=by
    rw[List.take_add_one,List.getElem?_eq_getElem hil,Option.toList_some,idsOf_snoc,hO]
   have hgi:(F.map encTy)[i]?=some (encTy F[i]):=by rw[List.getElem?_map,List.getElem?_eq_getElem hil];rfl
   refine lp hρ hE hcon fun K hK=>?_
   generalize F[i]=y at hnew hgi
   rcases F with _|⟨x,F⟩
   · simp at hil
   have hil2:(i:Int)<(F.length:Int)+1:=by simp at hil;omega
   have hil3:i<F.length+1:=by simpa using hil
   simp only[List.map_cons,encTy_n]at hgi
   have hgi3:∀ h,(encTy x::F.map encTy)[i]'h=encTy y:=fun h=>by simp only[encTy_n];exact(List.getElem?_eq_some_iff.1 hgi).2
   simp only[encTy_n]at hgi3
   have hd1:(i*5+2) / 5=i:=by omega
   have hd2:(i*5+2) % 5=2:=by omega
   by_cases hmem:y.id∈O
   · have hadd:addId O y=O:=if_pos hmem
     rw[hadd]at hnew
     rcases O with _|⟨z,O⟩
     · cases hmem
     · have hOl2:O.length+1≤1000000:=by simp at hOl;omega
       simp[fS33l1,fS33r0,fS33r1,fS33r2,fS33r3,fS33r4,fS33b0,fS33r5,fS33b1,fS33r6,fS33r7,fS33r8,fS33r9,fS33r10,fS33b2,fS33r11,fS33b3,fS33r12,fS33,hE,hil2,hil3,hc,hd1,hd2,hgi3,hmem,hw,hOl2,-Int.natCast_add,-List.mem_cons]
       exact hK _ _ (LsN_less (Less.keep 2 (by simp[-Int.natCast_add]) (by simp) rfl rfl) (ih (i+1) _ (by omega) hnew))
   · have hadd:addId O y=O++[y.id]:=if_neg hmem
     rw[hadd]at hnew
     rcases O with _|⟨z,O⟩
     · simp[fS33l1,fS33r0,fS33r1,fS33r2,fS33r3,fS33r4,fS33b0,fS33r5,fS33b1,fS33r6,fS33r7,fS33r8,fS33r9,fS33r10,fS33b2,fS33r11,fS33b3,fS33r12,fS33,hE,hil2,hil3,hc,hd1,hd2,hgi3,hw,-Int.natCast_add]
       exact hK _ _ (LsN_less (Less.lit (fun k=>if k=1 then 21 else k) 2 (by simp[-Int.natCast_add]) (by simp) rfl rfl) (ih (i+1) _ (by omega) hnew))
     · have hOl2:O.length+1≤1000000:=by simp at hOl;omega
       have h64:(O.length+1+1)*8≤1048576:=by simp at hOl;omega
       simp[fS33l1,fS33r0,fS33r1,fS33r2,fS33r3,fS33r4,fS33b0,fS33r5,fS33b1,fS33r6,fS33r7,fS33r8,fS33r9,fS33r10,fS33b2,fS33r11,fS33b3,fS33r12,fS33,hE,hil2,hil3,hc,hd1,hd2,hgi3,hmem,hw,hOl2,h64,Nat.not_succ_le_self,-Int.natCast_add,-List.mem_cons]
       exact hK _ _ (LsN_less (Less.keep 2 (by simp[-Int.natCast_add]) (by simp) rfl rfl) (ih (i+1) _ (by omega) hnew))
theorem ref3_Vars_run{d:Nat}(hcH:E.con 34=fnC (spec2 fun (l:List Int) (x:Int)=>if l.length≤1000000 then some (decide (x∈l))else none))(hc:E.con 91=ioS 5 (ioF2 (leavesF d)) kOne){l:List Ty}(hl:Ty.oks l=true)(hll:l.length≤10000)(hd:Ty.sizes l≤d)(hd2:(leavesL 1 l []).length≤10000)(hs:HS):CallOk ρ Tryz.prog 33 [enc l] hs (enc (varsM l)) hs:=by
 refine fn hρ hE hcon Tryz.func33 fB33 rfl (by simp) ?_ hs
 simp[fS33r0,fS33r1,fS33r2,fS33r3,fS33r4,fS33b0,fS33r5,fS33b1,fS33r6,fS33r7,fS33r8,fS33r9,fS33r10,fS33b2,fS33r11,fS33b3,fS33r12,fS33,hE]
 refine Ls_lessQ (Ls_loop (LsN_less (Less.keep (TL:=[(0,.sl (l.map encTy) false),(3,oV 0 (([]:List Ty).map encTy)),(4,.int .i64 ((0:Nat):Int))]) (HL:=oH 0 5 (([]:List Ty).map encTy)) 1 (by simp) (by simp) rfl rfl) (ref3_Vars_loop0 hρ hE hcon hc hl hll hd hd2 ?_ l.length 0 [] (by omega) rfl)))
 have hlen:=leavesL_len 1 l []
 unfold varsM
 have hF:=hd2
 clear hd2
 generalize leavesL 1 l []=F at hlen hF
 rcases F with _|⟨y,F⟩
 · simp[fS33r0,fS33r1,fS33r2,fS33r3,fS33r4,fS33b0,fS33r5,fS33b1,fS33r6,fS33r7,fS33r8,fS33r9,fS33r10,fS33b2,fS33r11,fS33b3,fS33r12,fS33,hE]
   refine Ls_lessQ (Ls_loop (LsN_less (Less.keep (TL:=[(3,oV 0 (([]:List Ty).map encTy)),(5,oV 1 (([]:List Int).map encI)),(6,.int .i64 ((0:Nat):Int))]) (HL:=oH 0 5 (([]:List Ty).map encTy)++oH 1 1 (([]:List Int).map encI)) 2 (by simp) (by simp) rfl rfl) (ref3_Vars_loop1 hρ hE hcon hcH hF ?_ 0 0 [] (by simp) rfl)))
   generalize idsOf []=O
   rcases O with _|⟨z,O⟩<;>simp[fS33r0,fS33r1,fS33r2,fS33r3,fS33r4,fS33b0,fS33r5,fS33b1,fS33r6,fS33r7,fS33r8,fS33r9,fS33r10,fS33b2,fS33r11,fS33b3,fS33r12,fS33,hE]
 · simp[fS33r0,fS33r1,fS33r2,fS33r3,fS33r4,fS33b0,fS33r5,fS33b1,fS33r6,fS33r7,fS33r8,fS33r9,fS33r10,fS33b2,fS33r11,fS33b3,fS33r12,fS33,hE]
   refine Ls_lessQ (Ls_loop (LsN_less (Less.keep (TL:=[(3,oV 0 ((y::F).map encTy)),(5,oV 1 (([]:List Int).map encI)),(6,.int .i64 ((0:Nat):Int))]) (HL:=oH 0 5 ((y::F).map encTy)++oH 1 1 (([]:List Int).map encI)) 2 (by simp) (by simp) rfl rfl) (ref3_Vars_loop1 hρ hE hcon hcH hF ?_ (y::F).length 0 [] (by omega) rfl)))
   generalize idsOf (y::F)=O
   rcases O with _|⟨z,O⟩<;>simp[fS33r0,fS33r1,fS33r2,fS33r3,fS33r4,fS33b0,fS33r5,fS33b1,fS33r6,fS33r7,fS33r8,fS33r9,fS33r10,fS33b2,fS33r11,fS33b3,fS33r12,fS33,hE]
end
end Go.Proofs.YthfcfmkdeheicaaGreat
/- The contracts of small functions,joined. -/
namespace Go.Proofs.YthfcfmkdeheicaaGreat
open Go.J
open Go.J.Enc (enc)
set_option maxRecDepth 100000
set_option maxHeartbeats 1000000
theorem ite_inv{c:Prop}{_:Decidable c}{α:Type}{x r:α}(h:(if c then some x else none)=some r):c∧x=r:=by
 split at h
 · cases h;exact⟨‹_›,rfl⟩
 · cases h
theorem fo{f:Nat}{fn:Func}{sc:SC}(hf:Tryz.prog.funcs[f]?=some fn)(hb:fn.body.bind stripC=some sc):FnOk Tryz.prog f:=fnOk hf (by
 cases h:fn.body with
 |none=>rw[h]at hb;cases hb
 |some c=>rfl)
abbrev EL(L:List (Nat×J.Spec)):Env:=envL Tryz.prog pol L
section
variable {ρ:Nat→Value}(hρ:J.Good ρ)
include hρ
def modS:J.Spec:=fnS (spec2 fun n m:Int=>if -1000000≤m∧m≤1000000 then some (modI n m)else none)
theorem vMod:Valid ρ Tryz.prog 14 modS:=v2 (fo Tryz.func14 fB14) fun a b r h hs=>by
 obtain⟨h1,rfl⟩:=ite_inv h
 exact make_Mod_run hρ (E:=EL []) rfl (consOk_list valid_nil) (by omega) (by omega) hs
def fewS:J.Spec:=fnS (spec1 fun l:List Int=>some (decide (l.length≤60)))
theorem vFew:Valid ρ Tryz.prog 10 fewS:=v1 (fo Tryz.func10 fB10) fun a r h hs=>by
 cases h
 exact make_Few_run hρ (E:=EL []) rfl (consOk_list valid_nil) hs
def conS:J.Spec:=fnS (spec2 fun (n:List Nat) (l:List Ty)=>if l.length≤10000 then some (tCon n l)else none)
theorem vCon:Valid ρ Tryz.prog 61 conS:=v2 (fo Tryz.func61 fB61) fun a b r h hs=>by
 obtain⟨h1,rfl⟩:=ite_inv h
 exact ref3_Con_run hρ (E:=EL []) rfl (consOk_list valid_nil) h1 hs
theorem vInt:Valid ρ Tryz.prog 49 (fnS (spec0 tInt)):=v0 (fo Tryz.func49 fB49) fun hs =>
 ref3_Int_run hρ (E:=EL [(61,conS)]) rfl (consOk_list (valid_cons (vCon hρ) valid_nil)) rfl hs
theorem vArrow:Valid ρ Tryz.prog 62 (fnS (spec2 fun a b:Ty=>some (tArrow a b))):=v2 (fo Tryz.func62 fB62) fun a b r h hs=>by
 cases h
 exact ref3_Arrow_run hρ (E:=EL [(61,conS)]) rfl (consOk_list (valid_cons (vCon hρ) valid_nil)) rfl hs
theorem vVar:Valid ρ Tryz.prog 52 (fnS (spec1 fun i:Int=>some (tVar i))):=v1 (fo Tryz.func52 fB52) fun a r h hs=>by
 cases h
 exact ref3_Var_run hρ (E:=EL []) rfl (consOk_list valid_nil) hs
theorem vRigid:Valid ρ Tryz.prog 58 (fnS (spec2 fun h i:Int=>some (tRigid h i))):=v2 (fo Tryz.func58 fB58) fun a b r h hs=>by
 cases h
 exact ref3_Rigid_run hρ (E:=EL []) rfl (consOk_list valid_nil) hs
theorem vNext:Valid ρ Tryz.prog 56 (stS (stF1 nextF)):=s1 (fo Tryz.func56 fB56) fun s a q h hs id hid hg=>by
 obtain⟨⟨h1,h2⟩,rfl⟩:=ite_inv h
 exact make_Tape_Next_run hρ (E:=EL [(14,modS)]) rfl (consOk_list (valid_cons (vMod hρ) valid_nil)) rfl h1.1 h1.2 h2 hs id hid hg
theorem vEq(d:Nat):Valid ρ Tryz.prog 23 (fnS (spec2 (eqF d)))∧Valid ρ Tryz.prog 77 (fnS (spec2 (eqAllF d))):=by
 have all:∀ d,Valid ρ Tryz.prog 23 (fnS (spec2 (eqF d)))→Valid ρ Tryz.prog 77 (fnS (spec2 (eqAllF d))):=fun d hv=>v2 (fo Tryz.func77 fB77) fun a b r h hs=>by
  obtain⟨⟨h1,h2,h3⟩,rfl⟩:=ite_inv h
  exact ref3_EqualAll_run hρ (E:=EL [(23,fnS (spec2 (eqF d)))]) rfl (consOk_list (valid_cons hv valid_nil)) rfl h1 h2 h3 hs
 have one:∀ d,Valid ρ Tryz.prog 23 (fnS (spec2 (eqF d))):=by
  intro d
  induction d with
  | zero =>
    refine v2 (fo Tryz.func23 fB23) fun a b r h hs=>?_
    obtain⟨⟨h1,h2⟩,rfl⟩:=ite_inv h
    have:=Ty.size_eq a
    omega
  | succ d ih =>
    refine v2 (fo Tryz.func23 fB23) fun a b r h hs=>?_
    obtain⟨⟨h1,h2⟩,rfl⟩:=ite_inv h
    exact ref3_Equal_run hρ (E:=EL [(77,fnS (spec2 (eqAllF d)))]) rfl (consOk_list (valid_cons (all d ih) valid_nil)) rfl h1 h2 hs
 exact⟨one d,all d (one d)⟩
def equalS:J.Spec:=fnS (spec2 fun a b:Ty=>if a.ok=true then some (decide (a=b))else none)
theorem vEqual:Valid ρ Tryz.prog 23 equalS:=v2 (fo Tryz.func23 fB23) fun a b r h hs=>by
 obtain⟨h1,rfl⟩:=ite_inv h
 exact ref3_Equal_run hρ (E:=EL [(77,fnS (spec2 (eqAllF a.size)))]) rfl (consOk_list (valid_cons (vEq hρ a.size).2 valid_nil)) rfl h1 (by omega) hs
theorem vReplace(d:Nat):Valid ρ Tryz.prog 25 (fnS (spec2 (replF d))):=by
 induction d with
 | zero =>
   refine v2 (fo Tryz.func25 fB25) fun a b r h hs=>?_
   obtain⟨⟨h1,h2,h3⟩,rfl⟩:=ite_inv h
   have:=Ty.size_eq a
   omega
 | succ d ih =>
   refine v2 (fo Tryz.func25 fB25) fun a b r h hs=>?_
   obtain⟨⟨h1,h2,h3⟩,rfl⟩:=ite_inv h
   exact ref3_Replace_run hρ (E:=EL [(25,fnS (spec2 (replF d)))]) rfl (consOk_list (valid_cons ih valid_nil)) rfl h1 h2 h3 hs
theorem vLeaves(d:Nat):Valid ρ Tryz.prog 91 (ioS 5 (ioF2 (leavesF d)) kOne):=by
 induction d with
 | zero =>
   refine Valid.io (fo Tryz.func91 fB91) fun es vs r _ _ h0 _ _ _ hs v hv hvac=>?_
   obtain⟨l,a,b,q,rfl,rfl,h,rfl⟩:=ioF2_inv h0
   obtain⟨⟨h1,h2,h3⟩,rfl⟩:=ite_inv h
   have:=Ty.size_eq a
   omega
 | succ d ih =>
   refine Valid.io (fo Tryz.func91 fB91) fun es vs r _ _ h0 _ _ _ hs v hv hvac=>?_
   obtain⟨l,a,b,q,rfl,rfl,h,rfl⟩:=ioF2_inv h0
   obtain⟨⟨h1,h2,h3,h4⟩,rfl⟩:=ite_inv h
   exact ref3_leaves_run hρ (E:=EL [(23,equalS),(91,ioS 5 (ioF2 (leavesF d)) kOne)]) rfl (consOk_list (valid_cons (vEqual hρ) (valid_cons ih valid_nil))) rfl rfl h2 h1 h3 h4 hv hvac
def hasS:J.Spec:=fnC (spec2 fun (l:List Int) (x:Int)=>if l.length≤1000000 then some (decide (x∈l))else none)
theorem vHas:Valid ρ Tryz.prog 34 hasS:=c2 (fo Tryz.func34 fB34) fun a b r h hs=>by
 obtain⟨h1,rfl⟩:=ite_inv h
 exact ref3_Has_run hρ (E:=EL []) rfl (consOk_list valid_nil) h1 hs
def varsU:J.Spec:=fnS (spec1 fun l:List Ty=>if Ty.oks l=true∧l.length≤10000∧(leavesL 1 l []).length≤10000 then some (varsM l)else none)
theorem vVarsU:Valid ρ Tryz.prog 33 varsU:=v1 (fo Tryz.func33 fB33) fun a r h hs=>by
 obtain⟨⟨h1,h2,h3⟩,rfl⟩:=ite_inv h
 exact ref3_Vars_run hρ (E:=EL [(34,hasS),(91,ioS 5 (ioF2 (leavesF (Ty.sizes a))) kOne)]) rfl (consOk_list (valid_cons (vHas hρ) (valid_cons (vLeaves hρ (Ty.sizes a)) valid_nil))) rfl rfl h1 h2 (Nat.le_refl _) h3 hs
end
end Go.Proofs.YthfcfmkdeheicaaGreat
