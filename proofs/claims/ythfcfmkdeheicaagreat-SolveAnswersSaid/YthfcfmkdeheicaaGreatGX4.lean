import Derived.Test.YthfcfmkdeheicaaGreatGX3
import Derived.Test.YthfcfmkdeheicaaGreatJL
import Derived.Test.YthfcfmkdeheicaaGreatJK
set_option linter.all false
noncomputable section
namespace Go.Proofs.YthfcfmkdeheicaaGreat
open Go.J
open Go.J.Enc (enc)
set_option maxRecDepth 100000
set_option maxHeartbeats 4000000
open Classical in
def nextF(t:Tp)(n:Int):Option (Tp×Int):=if t.ok∧-1000000≤n∧n≤1000000 then some (t.next n)else none
open Classical in
def typeF(d:Nat)(t:Tp)(D:List Decl)(Lv:List Ty)(n:Int):Option (Tp×Ty):=if t.ok∧DOk D∧Lv.length≤100000∧n≤d then some (typeM n.toNat t D Lv)else none
section
variable {ρ:Nat→Value}(hρ:J.Good ρ){E:Env}(hE:E.P=Tryz.prog)(hcon:ConsOk ρ E)
include hρ hE hcon
theorem zl0 (hN:E.con 56=stS (stF1 nextF)) (hC:E.con 61=fnS (zF fun n l=>if l.length≤10000 then some (zo6 n l)else none)) (hI:E.con 49=fnS (zoG tInt)) (hA:E.con 62=fnS (zF fun a b=>some (zhf a b)))
 {d:Nat} {n:Int} (hT0:0<n→E.con 15=stS (stF3 (typeF d))) {t:Tp} {D:List Decl} {Lv:List Ty} (ht:t.ok) (hD:DOk D) (hLv:Lv.length≤100000) (hn:n≤d+1) (hdd:d≤1000) (hs:HS) (id:Nat) (hid:id<hs.n) (hg:hs.H.get id=some (box (Cel.cells t))) :
 CallOk ρ Tryz.prog 15 [.ptr id 0 0,enc D,enc Lv,enc n] hs (enc (typeM n.toNat t D Lv).2) (hs.wr id (box (Cel.cells (typeM n.toNat t D Lv).1))):=by
 have h7:nextF t 7=some (t.next 7):=if_pos ⟨ht,by omega,by omega⟩
 have ht1:=zfc ht 7
 have hk0:=next_nn t 7
 generalize hR:typeM n.toNat t D Lv=R
 rw[typeM.eq_def]at hR
 rcases hq:t.next 7 with⟨t1,k⟩
 simp only[hq]at h7 ht1 hk0 hR
 refine st hρ hE hcon Tryz.func15 fB15 rfl (by simp) (by simp) (by simp) (by simp) ?_ hid hg
 by_cases c1:k<3∧Lv≠[]
 · rw[if_pos c1]at hR
   obtain⟨j,hj,e1,e2⟩:=zfT t1 c1.2
   have hF:nextF t1 (Lv.length:Int)=some (t1.next (Lv.length:Int)):=if_pos ⟨ht1,by omega,by omega⟩
   rw[e2]at hR
   rcases hq2:t1.next (Lv.length:Int)with⟨t2,k2⟩
   simp only[hq2]at hF e1 hR
   subst e1 hR
   have hlp:0<Lv.length:=by omega
   simp[zgK,zgJ,zgI,zgH,zgG,zgF,zgE,zgD,zgC,zgB,zd2,zd1,zd0,zgN,zdz,zgM,zdy,zgL,zdx,zdw,fS15,hE,hN,h7,c1.1,hlp,hF,hj]
   exact GivesL.keep rfl rfl (by simp) (by simp) (by simp)
 · rw [if_neg c1]at hR
   have hp1:¬ (k<3∧0<Lv.length):=fun h=>c1 ⟨h.1,List.length_pos_iff.1 h.2⟩
   by_cases c2:k<4
   · rw[if_pos c2]at hR
     subst hR
     by_cases c3:k<3
     · have hL0:Lv=[]:=Classical.byContradiction fun h=>c1 ⟨c3,h⟩
       subst hL0
       simp[zgK,zgJ,zgI,zgH,zgG,zgF,zgE,zgD,zgC,zgB,zd2,zd1,zd0,zgN,zdz,zgM,zdy,zgL,zdx,zdw,fS15,hE,hN,h7,c3,c2,hI]
       exact GivesL.keep rfl rfl (by simp) (by simp) (by simp)
     · simp[zgK,zgJ,zgI,zgH,zgG,zgF,zgE,zgD,zgC,zgB,zd2,zd1,zd0,zgN,zdz,zgM,zdy,zgL,zdx,zdw,fS15,hE,hN,h7,c3,c2,hI]
       exact GivesL.keep rfl rfl (by simp) (by simp) (by simp)
   · rw [if_neg c2]at hR
     have c3:¬ k<3:=by omega
     by_cases c4:n<1
     · have h0:n.toNat=0:=by omega
       rw[h0]at hR
       simp only[]at hR
       subst hR
       simp[zgK,zgJ,zgI,zgH,zgG,zgF,zgE,zgD,zgC,zgB,zd2,zd1,zd0,zgN,zdz,zgM,zdy,zgL,zdx,zdw,fS15,hE,hN,h7,c3,c2,c4,hI]
       exact GivesL.keep rfl rfl (by simp) (by simp) (by simp)
     · have hT := hT0 (by omega)
       obtain⟨m,hm⟩:∃ m,n.toNat=m+1:=⟨n.toNat-1,by omega⟩
       have hnm:n=(m:Int)+1:=by omega
       have hmd:m≤d:=by omega
       rw[hm]at hR
       simp only[]at hR
       have hw:IntKind.i64.wrap (n-1)=(m:Int):=by rw[hnm,wrap_i64 (by omega) (by omega)];omega
       have hTy:∀ t':Tp,t'.ok→typeF d t' D Lv (m:Int)=some (typeM m t' D Lv):=fun t' h=>by
        unfold typeF
        rw[if_pos ⟨h,hD,hLv,by omega⟩,Int.toNat_natCast]
       by_cases c5:(k=4∨k=5)∧D≠[]
       · rw [if_pos c5]at hR
         obtain⟨j,hj,e1,e2⟩:=zfT t1 c5.2
         have hF:nextF t1 (D.length:Int)=some (t1.next (D.length:Int)):=if_pos ⟨ht1,by have:=hD.1;omega,by have:=hD.1;omega⟩
         have ht2:=zfc ht1 (D.length:Int)
         rw[e2]at hR
         rcases hq2:t1.next (D.length:Int)with⟨t2,k2⟩
         simp only[hq2,Option.getD_some]at hF e1 hR ht2
         subst e1
         have hdp:=hD.2 _ (List.getElem_mem hj)
         have hDp:0<D.length:=by omega
         generalize hdj:D[j]=dd at hR hdp
         obtain⟨dpos,dname,dparams,dctors⟩:=dd
         simp only at hR hdp
         have main:∀ T hs,Less 1 T hs (mkP [(0,.ptr 0 0 0),(1,.sl (D.map zal) false),(2,.sl (Lv.map zl) false),(3,.int .i64 n),(8,.ptr 1 0 0),(10,.ptr 2 0 0),(11,oV 3 (([]:List Ty).map zl)),(12,.int .i64 ((0:Nat):Int))])
          { H:=mkP ([(0,box (Cel.cells t2)),(1,box [.int .i64 0,.str [],.int .i64 0,.int .i64 0,.snil]),(2,box (zal ⟨dpos,dname,dparams,dctors⟩))]++oH 3 5 (([]:List Ty).map zl)),n:=4,log:=[] } →
          ∀ Q,Q (.exit 1) (mkP [(8,.ptr 1 0 0),(10,.ptr 2 0 0),(11,oV 3 ((zev m t2 D Lv dparams.length).2.map zl))])
            { H:=mkP ([(0,box (Cel.cells (zev m t2 D Lv dparams.length).1)),(1,box [.int .i64 0,.str [],.int .i64 0,.int .i64 0,.snil]),(2,box (zal ⟨dpos,dname,dparams,dctors⟩))]++oH 3 5 ((zev m t2 D Lv dparams.length).2.map zl)),n:=4,log:=[] } →
          Ls ρ E 1 95 (.loop fS15l0) T hs Q:=by
          intro T hs hl Q hQ
          refine lpi hρ hE hcon dparams.length (fun i (p:Tp×List Ty)=>[(0,.ptr 0 0 0),(1,.sl (D.map zal) false),(2,.sl (Lv.map zl) false),(3,.int .i64 n),(8,.ptr 1 0 0),(10,.ptr 2 0 0),(11,oV 3 (p.2.map zl)),(12,.int .i64 (i:Int))])
           (fun i p=>[(0,box (Cel.cells p.1)),(1,box [.int .i64 0,.str [],.int .i64 0,.int .i64 0,.snil]),(2,box (zal ⟨dpos,dname,dparams,dctors⟩))]++oH 3 5 (p.2.map zl)) (fun i p=>p=zev m t2 D Lv i) (t2,[]) hl (by rw[zev]) ?_ ?_
          · intro p hp K
            rw[← hp]at hQ
            obtain⟨t3,L⟩:=p
            rcases L with _|⟨x,L⟩<;>simp[fS15l0,zgK,zgJ,zgI,zgH,zgG,zgF,zgE,zgD,zgC,zgB,zd2,zd1,zd0,zgN,zdz,zgM,zdy,zgL,zdx,zdw,fS15,hE]<;>exact LessQ.mk (Less.auto (by simp) (by simp) rfl rfl) hQ
          · intro i p hi hp K hK
            have hlen:=zlS m t2 D Lv i
            have hok:=argsM_ok (D:=D) (Lv:=Lv) m ht2 i
            rw[← hp]at hlen hok
            have hTp:=hTy p.1 hok
            have hnew:=hK (typeM m p.1 D Lv |>.1,p.2++[(typeM m p.1 D Lv).2]) (by rw[zev,← hp])
            have hi':(i:Int)<dparams.length:=by omega
            have hw2:IntKind.i64.wrap ((i:Int)+1)=((i+1:Nat):Int):=zu (by omega)
            obtain⟨t3,L⟩:=p
            simp only at hTp hnew hlen
            rcases hq3:typeM m t3 D Lv with⟨t4,x4⟩
            simp only[hq3]at hTp hnew
            rcases L with _|⟨x,L⟩
            · simp[fS15l0,zgK,zgJ,zgI,zgH,zgG,zgF,zgE,zgD,zgC,zgB,zd2,zd1,zd0,zgN,zdz,zgM,zdy,zgL,zdx,zdw,fS15,hE,hi,hi',hw,hw2,hT,hTp,-Int.natCast_add]
              exact hnew _ _ (Less.auto (by simp[-Int.natCast_add]) (by simp) rfl rfl)
            · have h64:(L.length+1+1)*64≤1048576:=by simp at hlen;omega
              simp[fS15l0,zgK,zgJ,zgI,zgH,zgG,zgF,zgE,zgD,zgC,zgB,zd2,zd1,zd0,zgN,zdz,zgM,zdy,zgL,zdx,zdw,fS15,hE,hi,hi',hw,hw2,hT,hTp,h64,Nat.not_succ_le_self,-Int.natCast_add]
              exact hnew _ _ (Less.auto (by simp[-Int.natCast_add]) (by simp) rfl rfl)
         have hlenR:=zlS m t2 D Lv dparams.length
         rcases hq4:zev m t2 D Lv dparams.length with⟨t5,L⟩
         simp only[hq4]at main hR hlenR
         subst hR
         have hlen2:L.length≤10000:=by omega
         rcases c5.1 with rfl|rfl<;>simp[zgK,zgJ,zgI,zgH,zgG,zgF,zgE,zgD,zgC,zgB,zd2,zd1,zd0,zgN,zdz,zgM,zdy,zgL,zdx,zdw,fS15,hE,hN,h7,c4,hF,hj,hdj,hDp]<;>refine main _ _ (Less.auto (by simp) (by simp) rfl rfl) _ ?_ <;>
         (rcases L with _|⟨x,L⟩
          · simp[zgK,zgJ,zgI,zgH,zgG,zgF,zgE,zgD,zgC,zgB,zd2,zd1,zd0,zgN,zdz,zgM,zdy,zgL,zdx,zdw,fS15,hE,hC]
            exact GivesL.keep rfl rfl (by simp[zo6]) (by simp) (by simp)
          · have hl9:L.length≤9999:=by simpa using hlen2
            simp[zgK,zgJ,zgI,zgH,zgG,zgF,zgE,zgD,zgC,zgB,zd2,zd1,zd0,zgN,zdz,zgM,zdy,zgL,zdx,zdw,fS15,hE,hC,hl9]
            exact GivesL.keep rfl rfl (by simp[zo6]) (by simp) (by simp))
       · rw [if_neg c5]at hR
         have hp5:¬ ((k=4∨k=5)∧0<D.length):=fun h=>c5 ⟨h.1,List.length_pos_iff.1 h.2⟩
         have hF1:=hTy t1 ht1
         have ht2:=(zjq (D:=D) (Lv:=Lv) m t1 ht1).1
         rcases hq2:typeM m t1 D Lv with⟨t2,a⟩
         simp only[hq2]at hF1 hR ht2
         have hF2:=hTy t2 ht2
         rcases hq3:typeM m t2 D Lv with⟨t3,b⟩
         simp only[hq3]at hF2 hR
         subst hR
         have hD0:(k=4∨k=5)→D=[]:=fun h=>Classical.byContradiction fun hne=>c5 ⟨h,hne⟩
         by_cases c6:k=4
         · have:=hD0 (.inl c6)
           subst this c6
           simp[zgK,zgJ,zgI,zgH,zgG,zgF,zgE,zgD,zgC,zgB,zd2,zd1,zd0,zgN,zdz,zgM,zdy,zgL,zdx,zdw,fS15,hE,hN,h7,c4,hw,hT,hF1,hF2,hA]
           exact GivesL.keep rfl rfl (by simp) (by simp) (by simp)
         · by_cases c7:k=5
           · have:=hD0 (.inr c7)
             subst this c7
             simp[zgK,zgJ,zgI,zgH,zgG,zgF,zgE,zgD,zgC,zgB,zd2,zd1,zd0,zgN,zdz,zgM,zdy,zgL,zdx,zdw,fS15,hE,hN,h7,c4,hw,hT,hF1,hF2,hA]
             exact GivesL.keep rfl rfl (by simp) (by simp) (by simp)
           · simp[zgK,zgJ,zgI,zgH,zgG,zgF,zgE,zgD,zgC,zgB,zd2,zd1,zd0,zgN,zdz,zgM,zdy,zgL,zdx,zdw,fS15,hE,hN,h7,c3,c2,c4,c6,c7,hw,hT,hF1,hF2,hA]
             exact GivesL.keep rfl rfl (by simp) (by simp) (by simp)
end
end Go.Proofs.YthfcfmkdeheicaaGreat
namespace Go.Proofs.YthfcfmkdeheicaaGreat
open Go.J
open Go.J.Enc (enc)
set_option maxRecDepth 100000
set_option maxHeartbeats 4000000
def replF(d:Nat)(t:Ty)(s:List Assign):Option Ty:=if t.ok=true∧t.size≤d∧s.length≤100000 then some (t.repl s)else none
section
variable {ρ:Nat→Value}(hρ:J.Good ρ){E:Env}(hE:E.P=Tryz.prog)(hcon:ConsOk ρ E)
include hρ hE hcon
theorem zia {d:Nat} (hc:E.con 25=fnS (zF (replF d))) {t:Ty} {s:List Assign} (ht:t.ok=true) (hd:t.size≤d+1) (hsl:s.length≤100000) (hs:HS):CallOk ρ Tryz.prog 25 [enc t,enc s] hs (enc (t.repl s)) hs:=by
 refine fn hρ hE hcon Tryz.func25 fB25 rfl (by simp) ?_ hs
 rw[zmi]
 by_cases hk:t.kind=1
 · rw [if_pos hk]
   simp[zg6,zg5,zg4,zg3,zg2,zg1,zgA,zg0,zg9,zgz,zgy,zgx,zdv,zdu,zdt,zg8,zds,zg7,zdr,fS25,hE,hk]
   refine lpi hρ hE hcon s.length (nn:=2) (fun i (_:Unit)=>[(1,.sl (s.map zi) false),(2,.ptr 0 0 0),(4,.ptr 1 0 0),(5,.int .i64 (i:Int))]) (fun i _=>[(0,box (zl t)),(1,box [.int .i64 0,.str [],.int .i64 0,.int .i64 0,.snil])]) (fun i _=>zq (s.take i) t.id=none) ()
    (Less.auto (by simp) (by simp[hk]) rfl rfl) rfl ?_ ?_
   · intro _ hl K
     rw[List.take_length]at hl
     simp[fS25l0,zg6,zg5,zg4,zg3,zg2,zg1,zgA,zg0,zg9,zgz,zgy,zgx,zdv,zdu,zdt,zg8,zds,zg7,zdr,fS25,hE]
     refine LessQ.mk (Less.auto (TL:=[(2,.ptr 0 0 0),(4,.ptr 1 0 0)]) (HL:=[(0,box (zl t)),(1,box [.int .i64 0,.str [],.int .i64 0,.int .i64 0,.snil])]) (n:=2) (by simp) (by simp[hk]) rfl rfl) ?_
     simp[zg6,zg5,zg4,zg3,zg2,zg1,zgA,zg0,zg9,zgz,zgy,zgx,zdv,zdu,zdt,zg8,zds,zg7,zdr,fS25,hE,hl,hk]
   · intro i _ hi hl K hK
     have hi':(i:Int)<s.length:=by omega
     have hw2:IntKind.i64.wrap ((i:Int)+1)=((i+1:Nat):Int):=zu (by omega)
     have hlk:∀ j,zq (s.take (i+1)) j=(zq (s.take i) j).or (zq [s[i]] j):=fun j=>by
      rw[List.take_add_one,List.getElem?_eq_getElem hi,Option.toList_some,za2]
     by_cases he:s[i].id=t.id
     · have hres:zq s t.id=some s[i].type:=by
        conv=>lhs;rw[← List.take_append_drop (i+1) s]
        rw[za2,hlk,hl]
        simp[zq,he]
       simp[fS25l0,zg6,zg5,zg4,zg3,zg2,zg1,zgA,zg0,zg9,zgz,zgy,zgx,zdv,zdu,zdt,zg8,zds,zg7,zdr,fS25,hE,hi,hi',he,hk]
       refine LessQ.mk (Less.auto (TL:=[(4,.ptr 1 0 0)]) (HL:=[(1,box (zl s[i].type))]) (n:=2) (by simp) (by simp) rfl rfl) ?_
       simp[zg6,zg5,zg4,zg3,zg2,zg1,zgA,zg0,zg9,zgz,zgy,zgx,zdv,zdu,zdt,zg8,zds,zg7,zdr,fS25,hE,hres]
     · have hnew:=hK () (by rw[hlk,hl];simp[zq,he])
       simp[fS25l0,zg6,zg5,zg4,zg3,zg2,zg1,zgA,zg0,zg9,zgz,zgy,zgx,zdv,zdu,zdt,zg8,zds,zg7,zdr,fS25,hE,hi,hi',he,hk,hw2,-Int.natCast_add]
       exact hnew _ _ (Less.auto (by simp[-Int.natCast_add]) (by simp[hk]) rfl rfl)
 · rw [if_neg hk]
   simp[zg6,zg5,zg4,zg3,zg2,zg1,zgA,zg0,zg9,zgz,zgy,zgx,zdv,zdu,zdt,zg8,zds,zg7,zdr,fS25,hE,hk]
   have hlen:=Ty.ok_len ht
   refine lpi hρ hE hcon t.args.length (nn:=4) (fun i (L:List Ty)=>[(1,.sl (s.map zi) false),(2,.ptr 0 0 0),(4,.ptr 1 0 0),(6,.ptr 2 0 0),(7,.int .i64 (i:Int))])
    (fun i L=>[(0,box (zl t)),(1,box [.int .i64 0,.str [],.int .i64 0,.int .i64 0,.snil]),(2,box [.int .i64 t.kind,.str t.name,.int .i64 t.id,.int .i64 t.home,oV 3 (L.map zl)])]++oH 3 5 (L.map zl)) (fun i L=>L=(t.args.take i).map (Ty.repl s)) []
    (Less.auto (by simp) (by simp) (by simp) (by simp)) rfl ?_ ?_
   · intro L hL K
     rw[List.take_length]at hL
     rw[← hL]
     clear hL
     rcases L with _|⟨x,L⟩
     · simp[fS25l1,zg6,zg5,zg4,zg3,zg2,zg1,zgA,zg0,zg9,zgz,zgy,zgx,zdv,zdu,zdt,zg8,zds,zg7,zdr,fS25,hE]
       refine LessQ.mk (Less.auto (TL:=[(4,.ptr 1 0 0),(6,.ptr 2 0 0)]) (HL:=[(1,box [.int .i64 0,.str [],.int .i64 0,.int .i64 0,.snil]),(2,box [.int .i64 t.kind,.str t.name,.int .i64 t.id,.int .i64 t.home,.snil])]) (n:=4) (by simp) (by simp) (by simp) (by simp)) ?_
       simp[zg6,zg5,zg4,zg3,zg2,zg1,zgA,zg0,zg9,zgz,zgy,zgx,zdv,zdu,zdt,zg8,zds,zg7,zdr,fS25,hE]
     · simp[fS25l1,zg6,zg5,zg4,zg3,zg2,zg1,zgA,zg0,zg9,zgz,zgy,zgx,zdv,zdu,zdt,zg8,zds,zg7,zdr,fS25,hE]
       refine LessQ.mk (Less.auto (TL:=[(4,.ptr 1 0 0),(6,.ptr 2 0 0)]) (HL:=[(1,box [.int .i64 0,.str [],.int .i64 0,.int .i64 0,.snil]),(2,box [.int .i64 t.kind,.str t.name,.int .i64 t.id,.int .i64 t.home,oV 3 ((x::L).map zl)])]++oH 3 5 ((x::L).map zl)) (n:=4) (by simp) (by simp) (by simp) (by simp)) ?_
       simp[zg6,zg5,zg4,zg3,zg2,zg1,zgA,zg0,zg9,zgz,zgy,zgx,zdv,zdu,zdt,zg8,zds,zg7,zdr,fS25,hE]
   · intro i L hi hL K hK
     have hi':(i:Int)<t.args.length:=by omega
     have hw2:IntKind.i64.wrap ((i:Int)+1)=((i+1:Nat):Int):=zu (by omega)
     have hm:=List.getElem_mem hi
     have hF:replF d t.args[i] s=some (t.args[i].repl s):=by
      unfold replF
      rw[if_pos ⟨Ty.ok_arg ht hm,by have:=Ty.size_arg hm;omega,hsl⟩]
     have hnew:=hK (L++[t.args[i].repl s]) (by rw[List.take_add_one,List.getElem?_eq_getElem hi,Option.toList_some,List.map_append,hL];rfl)
     have hLl:L.length=i:=by rw[hL,List.length_map,List.length_take];omega
     clear hL
     generalize t.args[i].repl s=y at hF hnew
     rcases L with _|⟨x,L⟩
     · simp[fS25l1,zg6,zg5,zg4,zg3,zg2,zg1,zgA,zg0,zg9,zgz,zgy,zgx,zdv,zdu,zdt,zg8,zds,zg7,zdr,fS25,hE,hi,hi',hc,hF,hw2,-Int.natCast_add]
       exact hnew _ _ (Less.auto (by simp[-Int.natCast_add]) (by simp) (by simp) (by simp))
     · have h64:(L.length+1+1)*64≤1048576:=by simp at hLl;omega
       simp[fS25l1,zg6,zg5,zg4,zg3,zg2,zg1,zgA,zg0,zg9,zgz,zgy,zgx,zdv,zdu,zdt,zg8,zds,zg7,zdr,fS25,hE,hi,hi',hc,hF,hw2,h64,Nat.not_succ_le_self,-Int.natCast_add]
       exact hnew _ _ (Less.auto (by simp[-Int.natCast_add]) (by simp) (by simp) (by simp))
end
end Go.Proofs.YthfcfmkdeheicaaGreat
namespace Go.Proofs.YthfcfmkdeheicaaGreat
open Go.J
open Go.J.Enc (enc)
set_option maxRecDepth 100000
set_option maxHeartbeats 4000000
section
variable {ρ:Nat→Value}(hρ:J.Good ρ){E:Env}(hE:E.P=Tryz.prog)(hcon:ConsOk ρ E)
include hρ hE hcon
theorem types_Var_run{i:Int}(hs:HS):CallOk ρ Tryz.prog 86 [enc i] hs (enc (zD i)) hs:=by
 refine fn hρ hE hcon Tryz.func86 fB86 rfl (by simp) ?_ hs
 simp[fS86r0,fS86r1,fS86,hE,zD]
end
end Go.Proofs.YthfcfmkdeheicaaGreat
namespace Go.Proofs.YthfcfmkdeheicaaGreat
open Go.J
open Go.J.Enc (enc)
set_option maxRecDepth 100000
set_option maxHeartbeats 4000000
def zfd(d:Nat)(L:List Ty)(t:Ty)(kind:Int):Option (List Ty):=if t.size≤d∧t.ok=true∧Ty.oks L=true∧(zak kind t L).length≤10000 then some (zak kind t L)else none
theorem zpd(kind:Int):∀ (l:List Ty) (i:Nat) (L0:List Ty),(zx kind (l.take i) L0).length≤(zx kind l L0).length:=by
 intro l
 induction l with
 |nil=>intro i L0;simp
 | cons a l ih =>
   intro i L0
   cases i with
   |zero=>exact(zaK kind (a::l) L0).1
   | succ i =>
     rw[List.take_succ_cons,zx,zx]
     exact ih i _
section
variable {ρ:Nat→Value}(hρ:J.Good ρ){E:Env}(hE:E.P=Tryz.prog)(hcon:ConsOk ρ E)
include hρ hE hcon
theorem zhk {d:Nat} (hc:E.con 91=ioS 5 (ioF2 (zfd d)) kOne) {k:Nat} {t:Ty} {kind:Int} {L0:List Ty} (hk:k=0∨k=1∧L0≠[]) (ht:t.ok=true) (hd:t.size≤d+1) (h0:Ty.oks L0=true) (hl0:(zx kind t.args L0).length≤10000) {Q:Ex→PT V→HS→Prop}
 (hQ:Q (.exit 2) (mkP [(0,oV 0 ((zx kind t.args L0).map zl))]) { H:=mkP (oH 0 5 ((zx kind t.args L0).map zl)),n:=1,log:=[] }) :
 ∀ (n i:Nat) (L:List Ty),i+n=t.args.length→L=zx kind (t.args.take i) L0→LsN ρ E k 52 zmZ (LessQ k Q) (n+1) (mkP [(0,oV 0 (L.map zl)),(2,.int .i64 kind),(4,.ptr 1 0 0),(8,.int .i64 (i:Int))])
   { H:=mkP ((1,box (zl t))::oH 0 5 (L.map zl)),n:=2,log:=[] }:=by
 intro n
 induction n with
 | zero =>
   intro i L hi hL
   have hil:¬ (i:Int)<t.args.length:=by omega
   have e:L=zx kind t.args L0:=by rw[hL,List.take_of_length_le (by omega)]
   rw[← e]at hQ
   have hlen:=zaK kind t.args L0
   rw[← e]at hlen
   refine lp hρ hE hcon fun K hK=>?_
   rcases L with _|⟨x,L⟩
   · have hk0:k=0:=by
      rcases hk with h|⟨_,h⟩
      · exact h
      · cases L0 with
        |nil=>exact absurd rfl h
        |cons a l=>simp at hlen
     subst hk0
     simp[zmZ,zcb,zca,zbZ,zbY,zbX,zbW,zcf,zbV,zce,zbU,zbT,zbS,zaD,zcd,zaC,zcc,zaB,fS91,hE,hil]
     exact LessQ.mk (Less.keep 1 (by simp) (by simp) rfl rfl) hQ
   · simp[zmZ,zcb,zca,zbZ,zbY,zbX,zbW,zcf,zbV,zce,zbU,zbT,zbS,zaD,zcd,zaC,zcc,zaB,fS91,hE,hil]
     rcases hk with rfl|⟨rfl,_⟩<;>exact LessQ.mk (Less.keep 1 (by simp) (by simp) rfl rfl) hQ
 | succ n ih =>
   intro i L hi hL
   have hil:i<t.args.length:=by omega
   have hil':(i:Int)<t.args.length:=by omega
   have hw:IntKind.i64.wrap ((i:Int)+1)=((i+1:Nat):Int):=zu (by have:=Ty.ok_len ht;omega)
   have hm:=List.getElem_mem hil
   have hs1:=Ty.size_arg hm
   have hok:=Ty.ok_arg ht hm
   have hLok:Ty.oks L=true:=by rw[hL];exact leavesL_ok (oks_take (Ty.oks_iff.2 (Ty.ok_iff.1 ht).2) i) _ h0
   have hlen:=zaK kind (t.args.take i) L0
   rw[← hL]at hlen
   have hsz:Ty.sizes (t.args.take i)+t.args[i].size≤Ty.sizes t.args:=by
    have:=zeO t.args (i+1)
    rw[List.take_add_one,List.getElem?_eq_getElem hil,zi0]at this
    simpa [Ty.sizes]using this
   have hts:=Ty.size_eq t
   have hnew:zak kind t.args[i] L=zx kind (t.args.take (i+1)) L0:=by
    rw[List.take_add_one,List.getElem?_eq_getElem hil,Option.toList_some,zmW,hL]
   have hb:(zak kind t.args[i] L).length≤10000:=by rw[hnew];exact Nat.le_trans (zpd kind t.args (i+1) L0) hl0
   have hF:zfd d L t.args[i] kind=some (zak kind t.args[i] L):=by
    unfold zfd;rw[if_pos ⟨by omega,hok,hLok,hb⟩]
   have hml:=zhT kind t.args[i] L
   refine lp hρ hE hcon fun K hK=>?_
   generalize hR:zak kind t.args[i] L=R at hF hnew hml
   rcases L with _|⟨x,L⟩
   · have hk0:k=0:=by
      rcases hk with h|⟨_,h⟩
      · exact h
      · cases L0 with
        |nil=>exact absurd rfl h
        |cons a l=>simp at hlen
     subst hk0
     rcases R with _|⟨y,R⟩<;>simp[zmZ,zcb,zca,zbZ,zbY,zbX,zbW,zcf,zbV,zce,zbU,zbT,zbS,zaD,zcd,zaC,zcc,zaB,fS91,hE,hil,hil',hc,hw,hF,kOne,-Int.natCast_add]
     · exact hK _ _ (zP (Less.keep 2 (by simp[-Int.natCast_add]) (by simp) rfl rfl) (ih (i+1) _ (by omega) hnew))
     · exact hK _ _ (zP (Less.lit (fun k=>if k=0 then 16 else k) 2 (by simp[-Int.natCast_add]) (by simp) rfl rfl) (ih (i+1) _ (by omega) hnew))
   · rcases R with _|⟨y,R⟩
     · simp at hml
     · have hml0:L.length≤R.length:=by simp at hml;omega
       simp[zmZ,zcb,zca,zbZ,zbY,zbX,zbW,zcf,zbV,zce,zbU,zbT,zbS,zaD,zcd,zaC,zcc,zaB,fS91,hE,hil,hil',hc,hw,hF,kOne,hml0,-Int.natCast_add]
       rcases hk with rfl|⟨rfl,_⟩<;>exact hK _ _ (zP (Less.keep 2 (by simp[-Int.natCast_add]) (by simp) rfl rfl) (ih (i+1) _ (by omega) hnew))
theorem zhl (hc:E.con 23=fnS (zF fun a b:Ty=>if a.ok=true then some (decide (a=b))else none)) {k:Nat} {t:Ty} {L:List Ty} (hk:k=0∨k=1∧L≠[]) (h0:Ty.oks L=true) (hl0:L.length≤10000) {Q:Ex→PT V→HS→Prop}
 (hf:t∈L→Q .ret (mkP [(6,oV 0 (L.map zl))]) { H:=mkP (oH 0 5 (L.map zl)),n:=1,log:=[] })
 (hn:t ∉ L→Q (.exit 0) (mkP [(0,oV 0 (L.map zl)),(4,.ptr 1 0 0)]) { H:=mkP ((1,box (zl t))::oH 0 5 (L.map zl)),n:=2,log:=[] }) :
 ∀ (n i:Nat),i+n=L.length→t ∉ L.take i→LsN ρ E k 52 fS91l0 (LessQ k Q) (n+1) (mkP [(0,oV 0 (L.map zl)),(4,.ptr 1 0 0),(7,.int .i64 (i:Int))])
   { H:=mkP ((1,box (zl t))::oH 0 5 (L.map zl)),n:=2,log:=[] }:=by
 intro n
 induction n with
 | zero =>
   intro i hi hL
   have hil:¬ (i:Int)<L.length:=by omega
   have e:t ∉ L:=by rw[List.take_of_length_le (by omega)]at hL;exact hL
   have hn:=hn e
   refine lp hρ hE hcon fun K hK=>?_
   rcases L with _|⟨x,L⟩
   · have hk0:k=0:=by
      rcases hk with h|⟨_,h⟩
      · exact h
      · exact absurd rfl h
     subst hk0
     obtain rfl:i=0:=by simpa using hi
     simp[fS91l0,zcb,zca,zbZ,zbY,zbX,zbW,zcf,zbV,zce,zbU,zbT,zbS,zaD,zcd,zaC,zcc,zaB,fS91,hE]
     exact LessQ.mk (Less.keep 2 (by simp) (by simp) rfl rfl) hn
   · have hil2:¬ (i:Int)<(L.length:Int)+1:=by simp at hil;omega
     simp[fS91l0,zcb,zca,zbZ,zbY,zbX,zbW,zcf,zbV,zce,zbU,zbT,zbS,zaD,zcd,zaC,zcc,zaB,fS91,hE,hil2]
     rcases hk with rfl|⟨rfl,_⟩<;>exact LessQ.mk (Less.keep 2 (by simp) (by simp) rfl rfl) hn
 | succ n ih =>
   intro i hi hL
   have hil:i<L.length:=by omega
   have hw:IntKind.i64.wrap ((i:Int)+1)=((i+1:Nat):Int):=zu (by omega)
   have hok:=Ty.oks_iff.1 h0 _ (List.getElem_mem hil)
   have hnext:L[i]≠t→t ∉ L.take (i+1):=by
    intro h hm
    rw[List.take_add_one,List.getElem?_eq_getElem hil]at hm
    rcases List.mem_append.1 hm with hm|hm
    · exact hL hm
    · exact h (List.mem_singleton.1 hm).symm
   have hmem:L[i]=t→t∈L:=fun h=>h ▸ List.getElem_mem hil
   have hgi:(L.map zl)[i]?=some (zl L[i]):=by rw[List.getElem?_map,List.getElem?_eq_getElem hil];rfl
   refine lp hρ hE hcon fun K hK=>?_
   generalize L[i]=y at hok hnext hmem hgi
   rcases L with _|⟨x,L⟩
   · simp at hil
   · have hil2:(i:Int)<(L.length:Int)+1:=by simp at hil;omega
     have hil3:i<L.length+1:=by simpa using hil
     simp only[List.map_cons,zas]at hgi
     have hgi3:∀ h,(zl x::L.map zl)[i]'h=zl y:=fun h=>by simp only[zas];exact(List.getElem?_eq_some_iff.1 hgi).2
     simp only[zas]at hgi3
     have hd1:i*5 / 5=i:=by omega
     have hd2:i*5 % 5=0:=by omega
     simp[fS91l0,zcb,zca,zbZ,zbY,zbX,zbW,zcf,zbV,zce,zbU,zbT,zbS,zaD,zcd,zaC,zcc,zaB,fS91,hE,hil2,hil3,hc,hok,hd1,hd2,hgi3]
     refine zih (fun h=>?_) (fun h=>?_)<;>simp[zcb,zca,zbZ,zbY,zbX,zbW,zcf,zbV,zce,zbU,zbT,zbS,zaD,zcd,zaC,zcc,zaB,fS91,hE,hw,-Int.natCast_add]
     · rcases hk with rfl|⟨rfl,_⟩<;>exact LessQ.mk (Less.keep 1 (by simp) (by simp) rfl rfl) (hf (hmem h))
     · rcases hk with rfl|⟨rfl,_⟩<;>exact hK _ _ (zP (Less.keep 2 (by simp[-Int.natCast_add]) (by simp) rfl rfl) (ih (i+1) (by omega) (hnext h)))
theorem zoM {d:Nat} (hcE:E.con 23=fnS (zF fun a b:Ty=>if a.ok=true then some (decide (a=b))else none)) (hc:E.con 91=ioS 5 (ioF2 (zfd d)) kOne) {L:List Ty} {t:Ty} {kind:Int} (ht:t.ok=true) (hd:t.size≤d+1) (h0:Ty.oks L=true) (hl0:(zak kind t L).length≤10000)
 {hs:HS} {v:V} (hv:rowOf 5 hs v=some (L.map zl)) (hvac:hs.H.get hs.n=none):CallOk ρ Tryz.prog 91 [v,enc t,enc kind] hs (zdP 5 v (L.map zl) ((zak kind t L).map zl) hs).1 (zdP 5 v (L.map zl) ((zak kind t L).map zl) hs).2:=by
 have hlen:=zhT kind t L
 refine io hρ hE hcon (K:=kOne) (rs:=[]) (.inl rfl) Tryz.func91 fB91 rfl (by simp) (by simp) (by simp) rfl (by simpa using hlen.1) ?_ hv hvac
 clear hv hvac
 rw[zdY]
 have hk:(if L.map zl=[]then 0 else 1)=0∨(if L.map zl=[]then 0 else 1)=1∧L≠[]:=by
  cases L with
  |nil=>exact .inl rfl
  |cons a l=>exact .inr ⟨rfl,by simp⟩
 by_cases hleaf:t.kind=kind∧t.args=[]
 · rw [if_pos hleaf]
   obtain⟨hkd,har⟩:=hleaf
   rcases L with _|⟨x,L⟩
   · simp[zcb,zca,zbZ,zbY,zbX,zbW,zcf,zbV,zce,zbU,zbT,zbS,zaD,zcd,zaC,zcc,zaB,fS91,hE,hkd,har]
     refine zdM (zec (zP (Less.lit (TL:=[(0,oV 0 (([]:List Ty).map zl)),(4,.ptr 1 0 0),(7,.int .i64 ((0:Nat):Int))]) (HL:=(1,box (zl t))::oH 0 5 (([]:List Ty).map zl)) (fun k=>if k=1 then 0 else k) 2 ?_ ?_ rfl rfl) (zhl hρ hE hcon hcE (.inl rfl) h0 (by simp) ?_ ?_ 0 0 rfl (by simp))))
     · simp
     · simp[har,hkd]
     · intro h;cases h
     · intro _
       simp[zcb,zca,zbZ,zbY,zbX,zbW,zcf,zbV,zce,zbU,zbT,zbS,zaD,zcd,zaC,zcc,zaB,fS91,hE,hkd,har]
       exact GivesL.litX (fun k=>if k=0 then 5 else k) rfl rfl ⟨rfl,rfl⟩ (by simp)
   · simp[zcb,zca,zbZ,zbY,zbX,zbW,zcf,zbV,zce,zbU,zbT,zbS,zaD,zcd,zaC,zcc,zaB,fS91,hE,hkd,har]
     refine zdM (zec (zP (Less.keep (TL:=[(0,oV 0 ((x::L).map zl)),(4,.ptr 1 0 0),(7,.int .i64 ((0:Nat):Int))]) (HL:=(1,box (zl t))::oH 0 5 ((x::L).map zl)) 2 ?_ ?_ rfl rfl) (zhl hρ hE hcon hcE (.inr ⟨rfl,by simp⟩) h0 (by omega) ?_ ?_ (x::L).length 0 (by omega) (by simp))))
     · simp
     · simp[har,hkd]
     · intro h
       simp[zcb,zca,zbZ,zbY,zbX,zbW,zcf,zbV,zce,zbU,zbT,zbS,zaD,zcd,zaC,zcc,zaB,fS91,hE,hkd,har,h]
       exact GivesL.keepX rfl rfl rfl (by simp)
     · intro hn
       have h64:(L.length+1+1)*64≤1048576:=by have:=hlen.1;simp only[List.length_cons]at this;omega
       simp[zcb,zca,zbZ,zbY,zbX,zbW,zcf,zbV,zce,zbU,zbT,zbS,zaD,zcd,zaC,zcc,zaB,fS91,hE,hkd,har,hn,h64,Nat.not_succ_le_self]
       exact GivesL.keepX rfl rfl rfl (by simp)
 · rw [if_neg hleaf]
   have hneq:t.kind=kind→¬ t.args=[]:=fun h1 h2=>hleaf ⟨h1,h2⟩
   have hl1:(zx kind t.args L).length≤10000:=by rw[zdY,if_neg hleaf]at hl0;exact hl0
   rcases L with _|⟨x,L⟩
   · have go:∀ T hs',Less 0 T hs' (mkP [(0,oV 0 (([]:List Ty).map zl)),(2,.int .i64 kind),(4,.ptr 1 0 0),(8,.int .i64 ((0:Nat):Int))]) { H:=mkP ((1,box (zl t))::oH 0 5 (([]:List Ty).map zl)),n:=2,log:=[] } →
      ∀ Q,Q (.exit 2) (mkP [(0,oV 0 ((zx kind t.args []).map zl))]) { H:=mkP (oH 0 5 ((zx kind t.args []).map zl)),n:=1,log:=[] }→Ls ρ E 0 52 (.loop zmZ) T hs' Q:=fun T hs' hl Q hQ =>
      zdM (zec (zP hl (zhk hρ hE hcon hc (.inl rfl) ht hd h0 hl1 hQ t.args.length 0 [] (by omega) rfl)))
     by_cases h1:t.kind=kind
     · have h2:=hneq h1
       simp[zcb,zca,zbZ,zbY,zbX,zbW,zcf,zbV,zce,zbU,zbT,zbS,zaD,zcd,zaC,zcc,zaB,fS91,hE,h1,h2]
       refine go _ _ (Less.lit (fun k=>if k=1 then 0 else k) 2 (by simp) (by simp[h1]) rfl rfl) _ ?_
       generalize zx kind t.args []=R
       rcases R with _|⟨y,R⟩<;>simp[zcb,zca,zbZ,zbY,zbX,zbW,zcf,zbV,zce,zbU,zbT,zbS,zaD,zcd,zaC,zcc,zaB,fS91,hE]<;>exact GivesL.keepX rfl rfl rfl (by simp)
     · simp[zcb,zca,zbZ,zbY,zbX,zbW,zcf,zbV,zce,zbU,zbT,zbS,zaD,zcd,zaC,zcc,zaB,fS91,hE,h1]
       refine go _ _ (Less.lit (fun k=>if k=1 then 0 else k) 2 (by simp) (by simp) rfl rfl) _ ?_
       generalize zx kind t.args []=R
       rcases R with _|⟨y,R⟩<;>simp[zcb,zca,zbZ,zbY,zbX,zbW,zcf,zbV,zce,zbU,zbT,zbS,zaD,zcd,zaC,zcc,zaB,fS91,hE]<;>exact GivesL.keepX rfl rfl rfl (by simp)
   · have hRl:=(zaK kind t.args (x::L)).1
     have go:∀ T hs',Less 1 T hs' (mkP [(0,oV 0 ((x::L).map zl)),(2,.int .i64 kind),(4,.ptr 1 0 0),(8,.int .i64 ((0:Nat):Int))]) { H:=mkP ((1,box (zl t))::oH 0 5 ((x::L).map zl)),n:=2,log:=[] } →
      ∀ Q,Q (.exit 2) (mkP [(0,oV 0 ((zx kind t.args (x::L)).map zl))]) { H:=mkP (oH 0 5 ((zx kind t.args (x::L)).map zl)),n:=1,log:=[] }→Ls ρ E 1 52 (.loop zmZ) T hs' Q:=fun T hs' hl Q hQ =>
      zdM (zec (zP hl (zhk hρ hE hcon hc (.inr ⟨rfl,by simp⟩) ht hd h0 hl1 hQ t.args.length 0 (x::L) (by omega) rfl)))
     by_cases h1:t.kind=kind
     · have h2:=hneq h1
       simp[zcb,zca,zbZ,zbY,zbX,zbW,zcf,zbV,zce,zbU,zbT,zbS,zaD,zcd,zaC,zcc,zaB,fS91,hE,h1,h2]
       refine go _ _ (Less.keep 2 (by simp) (by simp[h1]) rfl rfl) _ ?_
       generalize zx kind t.args (x::L)=R at hRl
       rcases R with _|⟨y,R⟩
       · simp at hRl
       · simp[zcb,zca,zbZ,zbY,zbX,zbW,zcf,zbV,zce,zbU,zbT,zbS,zaD,zcd,zaC,zcc,zaB,fS91,hE]
         exact GivesL.keepX rfl rfl rfl (by simp)
     · simp[zcb,zca,zbZ,zbY,zbX,zbW,zcf,zbV,zce,zbU,zbT,zbS,zaD,zcd,zaC,zcc,zaB,fS91,hE,h1]
       refine go _ _ (Less.keep 2 (by simp) (by simp) rfl rfl) _ ?_
       generalize zx kind t.args (x::L)=R at hRl
       rcases R with _|⟨y,R⟩
       · simp at hRl
       · simp[zcb,zca,zbZ,zbY,zbX,zbW,zcf,zbV,zce,zbU,zbT,zbS,zaD,zcd,zaC,zcc,zaB,fS91,hE]
         exact GivesL.keepX rfl rfl rfl (by simp)
end
end Go.Proofs.YthfcfmkdeheicaaGreat
namespace Go.Proofs.YthfcfmkdeheicaaGreat
open Go.J
open Go.J.Enc (enc)
set_option maxRecDepth 100000
set_option maxHeartbeats 4000000
section
variable {ρ:Nat→Value}(hρ:J.Good ρ){E:Env}(hE:E.P=Tryz.prog)(hcon:ConsOk ρ E)
include hρ hE hcon
theorem ref3_Has_loop{l:List Int}{x:Int}(h1:l.length≤1000000){Q:Ex→PT V→HS→Prop}
 (hf:x∈l→∀ T hs,T.get 4=some (.bool true)→Q .ret T hs) (ht:x ∉ l→∀ T hs,Q (.exit 0) T hs) :
 ∀ (n i:Nat),i+n=l.length→x ∉ l.take i→LsN ρ E 0 18 fS34l0 Q (n+1) (mkP [(0,.sl (l.map encI) false),(1,.int .i64 x),(5,.int .i64 (i:Int))]) { H:=mkP [],n:=0,log:=[] }:=by
 intro n
 induction n with
 | zero =>
   intro i hi he
   have hil:¬ (i:Int)<l.length:=by omega
   have e:x ∉ l:=by rw[List.take_of_length_le (by omega)]at he;exact he
   refine lp hρ hE hcon fun K hK=>?_
   simp[fS34l0,fS34r0,fS34r1,fS34r2,fS34r3,fS34r4,fS34b0,fS34r5,fS34b1,fS34r6,fS34,hE,hil]
   exact ht e _ _
 | succ n ih =>
   intro i hi he
   have hil:i<l.length:=by omega
   have hil':(i:Int)<l.length:=by omega
   have hw:IntKind.i64.wrap ((i:Int)+1)=((i+1:Nat):Int):=zu (by omega)
   have hnext:l[i]≠x→x ∉ l.take (i+1):=by
    intro h hm
    rw[List.take_add_one,List.getElem?_eq_getElem hil]at hm
    rcases List.mem_append.1 hm with hm|hm
    · exact he hm
    · exact h (List.mem_singleton.1 hm).symm
   have hmem:l[i]=x→x∈l:=fun h=>h ▸ List.getElem_mem hil
   refine lp hρ hE hcon fun K hK=>?_
   simp[fS34l0,fS34r0,fS34r1,fS34r2,fS34r3,fS34r4,fS34b0,fS34r5,fS34b1,fS34r6,fS34,hE,hil',hil]
   refine zih (fun h=>?_) (fun h=>?_)<;>simp[fS34r0,fS34r1,fS34r2,fS34r3,fS34r4,fS34b0,fS34r5,fS34b1,fS34r6,fS34,hE,hw,-Int.natCast_add]
   · exact hf (hmem h) _ _ (by simp)
   · exact hK _ _ (zP (Less.keep 0 (by simp[-Int.natCast_add]) (by simp) rfl rfl) (ih (i+1) (by omega) (hnext h)))
theorem ref3_Has_run{l:List Int}{x:Int}(h1:l.length≤1000000)(hs:HS):CallOk ρ Tryz.prog 34 [enc l,enc x] hs (enc (decide (x∈l))) hs:=by
 refine fn hρ hE hcon Tryz.func34 fB34 rfl (by simp) ?_ hs
 simp[fS34r0,fS34r1,fS34r2,fS34r3,fS34r4,fS34b0,fS34r5,fS34b1,fS34r6,fS34,hE]
 refine zec (zP (Less.keep (TL:=[(0,.sl (l.map encI) false),(1,.int .i64 x),(5,.int .i64 ((0:Nat):Int))]) (HL:=[]) 0 (by simp) (by simp) rfl rfl) (ref3_Has_loop hρ hE hcon h1 ?_ ?_ l.length 0 (by omega) (by simp)))
 · intro h T hs hT
   simp[hT,h,hE]
 · intro h T hs
   simp[fS34r0,fS34r1,fS34r2,fS34r3,fS34r4,fS34b0,fS34r5,fS34b1,fS34r6,fS34,h,hE]
theorem zoN {d:Nat} (hc:E.con 91=ioS 5 (ioF2 (zfd d)) kOne) {l:List Ty} (hl:Ty.oks l=true) (hll:l.length≤10000) (hd:Ty.sizes l≤d) (hd2:(zx 1 l []).length≤10000) {Q:Ex→PT V→HS→Prop}
 (hQ:Q (.exit 0) (mkP [(3,oV 0 ((zx 1 l []).map zl))]) { H:=mkP (oH 0 5 ((zx 1 l []).map zl)),n:=1,log:=[] }) :
 ∀ (n i:Nat) (L:List Ty),i+n=l.length→L=zx 1 (l.take i) []→LsN ρ E 0 42 fS33l0 (LessQ 0 Q) (n+1) (mkP [(0,.sl (l.map zl) false),(3,oV 0 (L.map zl)),(4,.int .i64 (i:Int))])
   { H:=mkP (oH 0 5 (L.map zl)),n:=1,log:=[] }:=by
 intro n
 induction n with
 | zero =>
   intro i L hi hL
   have hil:¬ (i:Int)<l.length:=by omega
   have e:L=zx 1 l []:=by rw[hL,List.take_of_length_le (by omega)]
   rw[← e]at hQ
   refine lp hρ hE hcon fun K hK=>?_
   rcases L with _|⟨x,L⟩<;>simp[fS33l0,zgs,zgr,zgq,zgp,zgo,zgw,zgn,zgv,zgm,zgl,zgk,zgj,zdq,zgu,zdp,zgt,zdo,fS33,hE,hil]<;>exact LessQ.mk (Less.keep 1 (by simp) (by simp) rfl rfl) hQ
 | succ n ih =>
   intro i L hi hL
   have hil:i<l.length:=by omega
   have hil':(i:Int)<l.length:=by omega
   have hw:IntKind.i64.wrap ((i:Int)+1)=((i+1:Nat):Int):=zu (by omega)
   have hm:=List.getElem_mem hil
   have hok:=Ty.oks_iff.1 hl _ hm
   have hLok:Ty.oks L=true:=by rw[hL];exact leavesL_ok (oks_take hl i) _ rfl
   have hlen:=zaK 1 (l.take i) []
   rw[← hL]at hlen
   have hsz:Ty.sizes (l.take i)+l[i].size≤Ty.sizes l:=by
    have:=zeO l (i+1)
    rw[List.take_add_one,List.getElem?_eq_getElem hil,zi0]at this
    simpa [Ty.sizes]using this
   have hnew:zak 1 l[i] L=zx 1 (l.take (i+1)) []:=by
    rw[List.take_add_one,List.getElem?_eq_getElem hil,Option.toList_some,zmW,hL]
   have hb:(zak 1 l[i] L).length≤10000:=by rw[hnew];exact Nat.le_trans (zpd 1 l (i+1) []) hd2
   have hF:zfd d L l[i] 1=some (zak 1 l[i] L):=by
    unfold zfd;rw[if_pos ⟨by omega,hok,hLok,hb⟩]
   have hml:=zhT 1 l[i] L
   refine lp hρ hE hcon fun K hK=>?_
   generalize hR:zak 1 l[i] L=R at hF hnew hml
   rcases L with _|⟨x,L⟩
   · rcases R with _|⟨y,R⟩<;>simp[fS33l0,zgs,zgr,zgq,zgp,zgo,zgw,zgn,zgv,zgm,zgl,zgk,zgj,zdq,zgu,zdp,zgt,zdo,fS33,hE,hil,hil',hc,hw,hF,kOne,-Int.natCast_add]
     · exact hK _ _ (zP (Less.keep 1 (by simp[-Int.natCast_add]) (by simp) rfl rfl) (ih (i+1) _ (by omega) hnew))
     · exact hK _ _ (zP (Less.lit (fun k=>if k=0 then 12 else k) 1 (by simp[-Int.natCast_add]) (by simp) rfl rfl) (ih (i+1) _ (by omega) hnew))
   · rcases R with _|⟨y,R⟩
     · simp at hml
     · have hml0:L.length≤R.length:=by simp at hml;omega
       simp[fS33l0,zgs,zgr,zgq,zgp,zgo,zgw,zgn,zgv,zgm,zgl,zgk,zgj,zdq,zgu,zdp,zgt,zdo,fS33,hE,hil,hil',hc,hw,hF,kOne,hml0,-Int.natCast_add]
       exact hK _ _ (zP (Less.keep 1 (by simp[-Int.natCast_add]) (by simp) rfl rfl) (ih (i+1) _ (by omega) hnew))
theorem zi4 (hc:E.con 34=fnC (zF fun (l:List Int) (x:Int)=>if l.length≤1000000 then some (decide (x∈l))else none)) {F:List Ty} (hl:F.length≤10000) {Q:Ex→PT V→HS→Prop}
 (hQ:Q (.exit 2) (mkP [(5,oV 1 ((zfe F).map encI))]) { H:=mkP (oH 1 1 ((zfe F).map encI)),n:=2,log:=[] }) :
 ∀ (n i:Nat) (O:List Int),i+n=F.length→O=zfe (F.take i)→LsN ρ E 0 42 zp6 (LessQ 0 Q) (n+1) (mkP [(3,oV 0 (F.map zl)),(5,oV 1 (O.map encI)),(6,.int .i64 (i:Int))])
   { H:=mkP (oH 0 5 (F.map zl)++oH 1 1 (O.map encI)),n:=2,log:=[] }:=by
 intro n
 induction n with
 | zero =>
   intro i O hi hO
   have e:O=zfe F:=by rw[hO,List.take_of_length_le (by omega)]
   rw[← e]at hQ
   refine lp hρ hE hcon fun K hK=>?_
   rcases F with _|⟨x,F⟩
   · obtain rfl:i=0:=by simpa using hi
     rcases O with _|⟨y,O⟩<;>simp[zp6,zgs,zgr,zgq,zgp,zgo,zgw,zgn,zgv,zgm,zgl,zgk,zgj,zdq,zgu,zdp,zgt,zdo,fS33,hE]<;>exact LessQ.mk (Less.keep 2 (by simp) (by simp) rfl rfl) hQ
   · have hil:¬ (i:Int)<(F.length:Int)+1:=by simp at hi;omega
     rcases O with _|⟨y,O⟩<;>simp[zp6,zgs,zgr,zgq,zgp,zgo,zgw,zgn,zgv,zgm,zgl,zgk,zgj,zdq,zgu,zdp,zgt,zdo,fS33,hE,hil]<;>exact LessQ.mk (Less.keep 2 (by simp) (by simp) rfl rfl) hQ
 | succ n ih =>
   intro i O hi hO
   have hil:i<F.length:=by omega
   have hw:IntKind.i64.wrap ((i:Int)+1)=((i+1:Nat):Int):=zu (by omega)
   have hOl:O.length≤10000:=by rw[hO];have:=ziA (F.take i);rw[List.length_take]at this;omega
   have hnew:zir O F[i]=zfe (F.take (i+1)):=by
    rw[List.take_add_one,List.getElem?_eq_getElem hil,Option.toList_some,idsOf_snoc,hO]
   have hgi:(F.map zl)[i]?=some (zl F[i]):=by rw[List.getElem?_map,List.getElem?_eq_getElem hil];rfl
   refine lp hρ hE hcon fun K hK=>?_
   generalize F[i]=y at hnew hgi
   rcases F with _|⟨x,F⟩
   · simp at hil
   have hil2:(i:Int)<(F.length:Int)+1:=by simp at hil;omega
   have hil3:i<F.length+1:=by simpa using hil
   simp only[List.map_cons,zas]at hgi
   have hgi3:∀ h,(zl x::F.map zl)[i]'h=zl y:=fun h=>by simp only[zas];exact(List.getElem?_eq_some_iff.1 hgi).2
   simp only[zas]at hgi3
   have hd1:(i*5+2) / 5=i:=by omega
   have hd2:(i*5+2) % 5=2:=by omega
   by_cases hmem:y.id∈O
   · have hadd:zir O y=O:=if_pos hmem
     rw[hadd]at hnew
     rcases O with _|⟨z,O⟩
     · cases hmem
     · have hOl2:O.length+1≤1000000:=by simp at hOl;omega
       simp[zp6,zgs,zgr,zgq,zgp,zgo,zgw,zgn,zgv,zgm,zgl,zgk,zgj,zdq,zgu,zdp,zgt,zdo,fS33,hE,hil2,hil3,hc,hd1,hd2,hgi3,hmem,hw,hOl2,-Int.natCast_add,-List.mem_cons]
       exact hK _ _ (zP (Less.keep 2 (by simp[-Int.natCast_add]) (by simp) rfl rfl) (ih (i+1) _ (by omega) hnew))
   · have hadd:zir O y=O++[y.id]:=if_neg hmem
     rw[hadd]at hnew
     rcases O with _|⟨z,O⟩
     · simp[zp6,zgs,zgr,zgq,zgp,zgo,zgw,zgn,zgv,zgm,zgl,zgk,zgj,zdq,zgu,zdp,zgt,zdo,fS33,hE,hil2,hil3,hc,hd1,hd2,hgi3,hw,-Int.natCast_add]
       exact hK _ _ (zP (Less.lit (fun k=>if k=1 then 21 else k) 2 (by simp[-Int.natCast_add]) (by simp) rfl rfl) (ih (i+1) _ (by omega) hnew))
     · have hOl2:O.length+1≤1000000:=by simp at hOl;omega
       have h64:(O.length+1+1)*8≤1048576:=by simp at hOl;omega
       simp[zp6,zgs,zgr,zgq,zgp,zgo,zgw,zgn,zgv,zgm,zgl,zgk,zgj,zdq,zgu,zdp,zgt,zdo,fS33,hE,hil2,hil3,hc,hd1,hd2,hgi3,hmem,hw,hOl2,h64,Nat.not_succ_le_self,-Int.natCast_add,-List.mem_cons]
       exact hK _ _ (zP (Less.keep 2 (by simp[-Int.natCast_add]) (by simp) rfl rfl) (ih (i+1) _ (by omega) hnew))
theorem ref3_Vars_run{d:Nat}(hcH:E.con 34=fnC (zF fun (l:List Int) (x:Int)=>if l.length≤1000000 then some (decide (x∈l))else none))(hc:E.con 91=ioS 5 (ioF2 (zfd d)) kOne){l:List Ty}(hl:Ty.oks l=true)(hll:l.length≤10000)(hd:Ty.sizes l≤d)(hd2:(zx 1 l []).length≤10000)(hs:HS):CallOk ρ Tryz.prog 33 [enc l] hs (enc (zG l)) hs:=by
 refine fn hρ hE hcon Tryz.func33 fB33 rfl (by simp) ?_ hs
 simp[zgs,zgr,zgq,zgp,zgo,zgw,zgn,zgv,zgm,zgl,zgk,zgj,zdq,zgu,zdp,zgt,zdo,fS33,hE]
 refine zdM (zec (zP (Less.keep (TL:=[(0,.sl (l.map zl) false),(3,oV 0 (([]:List Ty).map zl)),(4,.int .i64 ((0:Nat):Int))]) (HL:=oH 0 5 (([]:List Ty).map zl)) 1 (by simp) (by simp) rfl rfl) (zoN hρ hE hcon hc hl hll hd hd2 ?_ l.length 0 [] (by omega) rfl)))
 have hlen:=zaK 1 l []
 unfold zG
 have hF:=hd2
 clear hd2
 generalize zx 1 l []=F at hlen hF
 rcases F with _|⟨y,F⟩
 · simp[zgs,zgr,zgq,zgp,zgo,zgw,zgn,zgv,zgm,zgl,zgk,zgj,zdq,zgu,zdp,zgt,zdo,fS33,hE]
   refine zdM (zec (zP (Less.keep (TL:=[(3,oV 0 (([]:List Ty).map zl)),(5,oV 1 (([]:List Int).map encI)),(6,.int .i64 ((0:Nat):Int))]) (HL:=oH 0 5 (([]:List Ty).map zl)++oH 1 1 (([]:List Int).map encI)) 2 (by simp) (by simp) rfl rfl) (zi4 hρ hE hcon hcH hF ?_ 0 0 [] (by simp) rfl)))
   generalize zfe []=O
   rcases O with _|⟨z,O⟩<;>simp[zgs,zgr,zgq,zgp,zgo,zgw,zgn,zgv,zgm,zgl,zgk,zgj,zdq,zgu,zdp,zgt,zdo,fS33,hE]
 · simp[zgs,zgr,zgq,zgp,zgo,zgw,zgn,zgv,zgm,zgl,zgk,zgj,zdq,zgu,zdp,zgt,zdo,fS33,hE]
   refine zdM (zec (zP (Less.keep (TL:=[(3,oV 0 ((y::F).map zl)),(5,oV 1 (([]:List Int).map encI)),(6,.int .i64 ((0:Nat):Int))]) (HL:=oH 0 5 ((y::F).map zl)++oH 1 1 (([]:List Int).map encI)) 2 (by simp) (by simp) rfl rfl) (zi4 hρ hE hcon hcH hF ?_ (y::F).length 0 [] (by omega) rfl)))
   generalize zfe (y::F)=O
   rcases O with _|⟨z,O⟩<;>simp[zgs,zgr,zgq,zgp,zgo,zgw,zgn,zgv,zgm,zgl,zgk,zgj,zdq,zgu,zdp,zgt,zdo,fS33,hE]
end
end Go.Proofs.YthfcfmkdeheicaaGreat
namespace Go.Proofs.YthfcfmkdeheicaaGreat
open Go.J
open Go.J.Enc (enc)
set_option maxRecDepth 100000
set_option maxHeartbeats 4000000
section
variable {ρ:Nat→Value}(hρ:J.Good ρ){E:Env}(hE:E.P=Tryz.prog)(hcon:ConsOk ρ E)
include hρ hE hcon
theorem ref2_lower_run{c:Byte}(hs:HS):CallOk ρ Tryz.prog 152 [enc c] hs (enc (lowerB c.n)) hs:=by
 refine fn hρ hE hcon Tryz.func152 fB152 rfl (by simp) ?_ hs
 obtain⟨c⟩:=c
 by_cases h1:97≤c<;>by_cases h2:c≤122<;>simp[fS152r0,fS152r1,fS152,hE,lowerB,h1,h2,show (97≤(c:Int))↔97≤c by omega,show ((c:Int)≤122)↔c≤122 by omega]
theorem ref2_upper_run{c:Byte}(hs:HS):CallOk ρ Tryz.prog 154 [enc c] hs (enc (upperB c.n)) hs:=by
 refine fn hρ hE hcon Tryz.func154 fB154 rfl (by simp) ?_ hs
 obtain⟨c⟩:=c
 by_cases h1:65≤c<;>by_cases h2:c≤90<;>simp[fS154r0,fS154r1,fS154,hE,upperB,h1,h2,show (65≤(c:Int))↔65≤c by omega,show ((c:Int)≤90)↔c≤90 by omega]
theorem ref2_digit_run{c:Byte}(hs:HS):CallOk ρ Tryz.prog 190 [enc c] hs (enc (znG c.n)) hs:=by
 refine fn hρ hE hcon Tryz.func190 fB190 rfl (by simp) ?_ hs
 obtain⟨c⟩:=c
 by_cases h1:48≤c<;>by_cases h2:c≤57<;>simp[fS190r0,fS190r1,fS190,hE,znG,h1,h2,show (48≤(c:Int))↔48≤c by omega,show ((c:Int)≤57)↔c≤57 by omega]
theorem ref2_inner_run(h1:E.con 152=fnS (zC fun c:Byte=>some (lowerB c.n)))(h2:E.con 154=fnS (zC fun c:Byte=>some (upperB c.n)))(h3:E.con 190=fnS (zC fun c:Byte=>some (znG c.n)))
 {c:Byte} (hs:HS):CallOk ρ Tryz.prog 169 [enc c] hs (enc (zhs c.n)) hs:=by
 refine fn hρ hE hcon Tryz.func169 fB169 rfl (by simp) ?_ hs
 obtain⟨c⟩:=c
 by_cases e4:c=95
 · subst e4
   have hd:(Enc.dec (V.int .u8 95):Option Byte)=some ⟨95⟩:=rfl
   simp[fS169r0,fS169r1,fS169,hE,h1,h2,h3,zhs,hd,show lowerB 95=false from rfl,show upperB 95=false from rfl,show znG 95=false from rfl]
 · have h95:¬ (c:Int)=95:=by omega
   cases e1:lowerB c<;>cases e2:upperB c<;>cases e3:znG c<;>simp[fS169r0,fS169r1,fS169,hE,h1,h2,h3,zhs,e1,e2,e3,e4,h95]
theorem ref2_word_loop (hc:E.con 169=fnS (zC fun c:Byte=>some (zhs c.n))) {s:List Nat} (hl:s.length<2^63) {Q:Ex→PT V→HS→Prop}
 (hf:s.all zhs=false→∀ T hs,T.get 2=some (.bool false)→Q .ret T hs) (ht:s.all zhs=true→Q (.exit 0) (mkP [(0,.str s)]) { H:=mkP [],n:=0,log:=[] }) :
 ∀ (n i:Nat),i+n=s.length→(s.take i).all zhs=true→LsN ρ E 0 17 fS151l0 (LessQ 0 Q) (n+1) (mkP [(0,.str s),(3,.int .i64 (i:Int))]) { H:=mkP [],n:=0,log:=[] }:=by
 intro n
 induction n with
 | zero =>
   intro i hi he
   have hil:¬ (i:Int)<s.length:=by omega
   rw[List.take_of_length_le (by omega)]at he
   refine lp hρ hE hcon fun K hK=>?_
   simp[fS151l0,zmB,zmA,zm9,zm8,zm7,zmD,zm6,zmC,zm5,fS151,hE,hil]
   exact LessQ.mk (Less.keep 0 (by simp) (by simp) rfl rfl) (ht he)
 | succ n ih =>
   intro i hi he
   have hil:i<s.length:=by omega
   have hil':(i:Int)<s.length:=by omega
   have hw:IntKind.i64.wrap ((i:Int)+1)=((i+1:Nat):Int):=zu (by omega)
   refine lp hρ hE hcon fun K hK=>?_
   cases hb:zhs s[i]with
   | true =>
     have hnx:(s.take (i+1)).all zhs=true:=by
      rw[List.take_add_one,List.getElem?_eq_getElem hil,List.all_append,he];simp[hb]
     simp[fS151l0,zmB,zmA,zm9,zm8,zm7,zmD,zm6,zmC,zm5,fS151,hE,hil',hil,hc,hb,hw,-Int.natCast_add]
     exact hK _ _ (zP (Less.keep 0 (by simp[-Int.natCast_add]) (by simp) rfl rfl) (ih (i+1) (by omega) hnx))
   | false =>
     simp[fS151l0,zmB,zmA,zm9,zm8,zm7,zmD,zm6,zmC,zm5,fS151,hE,hil',hil,hc,hb]
     exact LessQ.mk (Less.keep (TL:=[(2,.bool false)]) (HL:=[]) 0 (by simp) (by simp) rfl rfl) (hf (List.all_eq_false.2 ⟨_,List.getElem_mem hil,by simp[hb]⟩) _ _ (by simp))
theorem ref2_word_run(hc:E.con 169=fnS (zC fun c:Byte=>some (zhs c.n))){s:List Nat}(hl:s.length<2^63)(hs:HS):CallOk ρ Tryz.prog 151 [enc s] hs (enc (zov s)) hs:=by
 refine fn hρ hE hcon Tryz.func151 fB151 rfl (by simp) ?_ hs
 simp[zmB,zmA,zm9,zm8,zm7,zmD,zm6,zmC,zm5,fS151,hE]
 refine zdM (zec (zP (Less.keep (TL:=[(0,.str s),(3,.int .i64 ((0:Nat):Int))]) (HL:=[]) 0 (by simp) (by simp) rfl rfl) (ref2_word_loop hρ hE hcon hc hl ?_ ?_ s.length 0 (by omega) (by simp))))
 · intro h T hs hT
   simp[hT,zov,h,hE]
 · intro h
   have e:zov s=!s.isEmpty:=by unfold zov;rw[h];rfl
   rw[e]
   rcases s with _|⟨c,s⟩<;>simp[zmB,zmA,zm9,zm8,zm7,zmD,zm6,zmC,zm5,fS151,hE]
theorem znQ{s:List Nat}(hs:HS):CallOk ρ Tryz.prog 153 [enc s] hs (enc (decide (s∈keywords))) hs:=by
 refine fn hρ hE hcon Tryz.func153 fB153 rfl (by simp) ?_ hs
 simp[zkh,zkg,zkf,zke,zkd,zkc,zkj,zkb,zki,zka,fS153,hE]
 refine lpi hρ hE hcon 7 (nn:=0) (fun i (_:Unit)=>[(0,.str s),(3,.sl (keywords.map encS) true),(4,.int .i64 (i:Int))]) (fun i _=>[]) (fun i _=>s ∉ keywords.take i) ()
  (Less.auto (by simp[keywords]) (by simp) rfl rfl) (by simp) ?_ ?_
 · intro _ he K
   have hn:s ∉ keywords:=by rwa [List.take_of_length_le (by decide)]at he
   simp[fS153l0,zkh,zkg,zkf,zke,zkd,zkc,zkj,zkb,zki,zka,fS153,hE,show keywords.length=7 from rfl]
   refine LessQ.mk (Less.auto (TL:=[]) (HL:=[]) (n:=0) (by simp) (by simp) rfl rfl) ?_
   simp[zkh,zkg,zkf,zke,zkd,zkc,zkj,zkb,zki,zka,fS153,hE,hn]
 · intro i _ hil he K hK
   have hw:IntKind.i64.wrap ((i:Int)+1)=((i+1:Nat):Int):=zu (by omega)
   have hil':(i:Int)<7:=by omega
   have hk:i<keywords.length:=hil
   have hnx:keywords[i]≠s→s ∉ keywords.take (i+1):=by
    intro h hm
    rw[List.take_add_one,List.getElem?_eq_getElem hk]at hm
    rcases List.mem_append.1 hm with hm|hm
    · exact he hm
    · exact h (List.mem_singleton.1 hm).symm
   have hmem:keywords[i]=s→s∈keywords:=fun h=>h ▸ List.getElem_mem hk
   by_cases h:keywords[i]=s
   · have hm:=hmem h
     simp[fS153l0,zkh,zkg,zkf,zke,zkd,zkc,zkj,zkb,zki,zka,fS153,hE,hil,hil',hk,h,show keywords.length=7 from rfl]
     refine LessQ.mk (Less.auto (TL:=[(2,.bool true)]) (HL:=[]) (n:=0) (by simp) (by simp) rfl rfl) ?_
     simp[zkh,zkg,zkf,zke,zkd,zkc,zkj,zkb,zki,zka,fS153,hE,hm]
   · have hnew:=hK () (hnx h)
     simp[fS153l0,zkh,zkg,zkf,zke,zkd,zkc,zkj,zkb,zki,zka,fS153,hE,hil,hil',hk,h,hw,show keywords.length=7 from rfl,-Int.natCast_add]
     exact hnew _ _ (Less.auto (by simp[-Int.natCast_add]) (by simp) rfl rfl)
end
end Go.Proofs.YthfcfmkdeheicaaGreat
namespace Go.Proofs.YthfcfmkdeheicaaGreat
open Go.J
open Go.J.Enc (enc)
set_option maxRecDepth 100000
set_option maxHeartbeats 4000000
section
variable {ρ:Nat→Value}(hρ:J.Good ρ){E:Env}(hE:E.P=Tryz.prog)(hcon:ConsOk ρ E)
include hρ hE hcon
theorem ref2_Lower_run(h1:E.con 151=fnS (zC fun s:List Nat=>if s.length<2^63 then some (zov s)else none))(h2:E.con 152=fnS (zC fun c:Byte=>some (lowerB c.n)))
 (h3:E.con 153=fnS (zC fun s:List Nat=>some (decide (s∈keywords)))) {s:List Nat} (hl:s.length<2^63) (hs:HS):CallOk ρ Tryz.prog 117 [enc s] hs (enc (zpc s)) hs:=by
 refine fn hρ hE hcon Tryz.func117 fB117 rfl (by simp) ?_ hs
 simp only[show (2:Nat)^63=9223372036854775808 from rfl]at *
 cases hw:zov s with
 |false=>simp[fS117r0,fS117r1,fS117,hE,h1,hl,hw,zpc]
 | true =>
   rcases s with _|⟨c,s⟩
   · cases hw
   · have hl2:((s.length:Int)+1≤12)↔s.length≤11:=by omega
     simp only[List.length_cons]at hl
     cases hc:lowerB c<;>by_cases h12:s.length≤11<;>by_cases hk:(c::s)∈keywords<;>simp[fS117r0,fS117r1,fS117,hE,h1,h2,h3,hl,hw,zpc,hc,h12,hk,hl2]
theorem ref2_Upper_run(h1:E.con 151=fnS (zC fun s:List Nat=>if s.length<2^63 then some (zov s)else none))(h2:E.con 154=fnS (zC fun c:Byte=>some (upperB c.n)))
 {s:List Nat} (hl:s.length<2^63) (hs:HS):CallOk ρ Tryz.prog 118 [enc s] hs (enc (ziu s)) hs:=by
 refine fn hρ hE hcon Tryz.func118 fB118 rfl (by simp) ?_ hs
 simp only[show (2:Nat)^63=9223372036854775808 from rfl]at *
 cases hw:zov s with
 |false=>simp[fS118r0,fS118r1,fS118,hE,h1,hl,hw,ziu]
 | true =>
   rcases s with _|⟨c,s⟩
   · cases hw
   · have hl2:((s.length:Int)+1≤12)↔s.length≤11:=by omega
     simp only[List.length_cons]at hl
     cases hc:upperB c<;>by_cases h12:s.length≤11<;>simp[fS118r0,fS118r1,fS118,hE,h1,h2,hl,hw,ziu,hc,h12,hl2]
theorem zoO {d:Nat} (hc:E.con 72=fnS (zC fun t:Ty=>if t.size≤d∧t.short=true then some t.valid else none)) {t:Ty} (ht:t.size≤d+1) (hll:t.args.length≤1000000) (hsh:t.short=true) {Q:Ex→PT V→HS→Prop}
 (hf:Ty.valids t.args=false→Q .ret (mkP [(2,.bool false)]) { H:=mkP [],n:=0,log:=[] }) (hq:Ty.valids t.args=true→Q (.exit 1) (mkP [(1,.ptr 0 0 0)]) { H:=mkP [(0,box (zl t))],n:=1,log:=[] }) :
 ∀ (n i:Nat),i+n=t.args.length→Ty.valids (t.args.take i)=true→LsN ρ E 0 132 fS72l0 (LessQ 0 Q) (n+1) (mkP [(1,.ptr 0 0 0),(3,.int .i64 (i:Int))]) { H:=mkP [(0,box (zl t))],n:=1,log:=[] }:=by
 intro n
 induction n with
 | zero =>
   intro i hi he
   have hil:¬ (i:Int)<t.args.length:=by omega
   rw[List.take_of_length_le (by omega)]at he
   refine lp hρ hE hcon fun K hK=>?_
   simp[fS72l0,zcV,zcU,zcT,zcS,zcR,zcQ,zcP,zcO,zcN,zcM,zbg,zbf,zbe,zbd,zbc,zbb,zcZ,zba,zcY,zaZ,zaY,zaX,zaW,zaV,zcX,zaU,zcW,zaT,fS72,hE,hil]
   exact LessQ.mk (Less.keep 1 (by simp) (by simp) rfl rfl) (hq he)
 | succ n ih =>
   intro i hi he
   have hil:i<t.args.length:=by omega
   have hil':(i:Int)<t.args.length:=by omega
   have hw:IntKind.i64.wrap ((i:Int)+1)=((i+1:Nat):Int):=zu (by omega)
   have hsz:t.args[i].size≤d:=by have:=Ty.size_arg (List.getElem_mem hil);omega
   have hs2:t.args[i].short=true:=Ty.shorts_iff.1 (Ty.short_iff.1 hsh).2 _ (List.getElem_mem hil)
   refine lp hρ hE hcon fun K hK=>?_
   cases hb:t.args[i].valid with
   | true =>
     have hnx:Ty.valids (t.args.take (i+1))=true:=by
      rw[Ty.valids_iff]at he ⊢
      intro u hu
      rw[List.take_add_one,List.getElem?_eq_getElem hil]at hu
      rcases List.mem_append.1 hu with hu|hu
      · exact he u hu
      · rw[List.mem_singleton.1 hu];exact hb
     simp[fS72l0,zcV,zcU,zcT,zcS,zcR,zcQ,zcP,zcO,zcN,zcM,zbg,zbf,zbe,zbd,zbc,zbb,zcZ,zba,zcY,zaZ,zaY,zaX,zaW,zaV,zcX,zaU,zcW,zaT,fS72,hE,hil',hil,hc,hsz,hs2,hb,hw,-Int.natCast_add]
     exact hK _ _ (zP (Less.keep 1 (by simp[-Int.natCast_add]) (by simp) rfl rfl) (ih (i+1) (by omega) hnx))
   | false =>
     have hnv:Ty.valids t.args=false:=by
      rw[Bool.eq_false_iff,Ne,Ty.valids_iff]
      intro h
      rw[h _ (List.getElem_mem hil)]at hb
      cases hb
     simp[fS72l0,zcV,zcU,zcT,zcS,zcR,zcQ,zcP,zcO,zcN,zcM,zbg,zbf,zbe,zbd,zbc,zbb,zcZ,zba,zcY,zaZ,zaY,zaX,zaW,zaV,zcX,zaU,zcW,zaT,fS72,hE,hil',hil,hc,hsz,hs2,hb]
     exact LessQ.mk (Less.keep 0 (by simp) (by simp) rfl rfl) (hf hnv)
theorem ref3_Valid_run {d:Nat} (hc:E.con 72=fnS (zC fun t:Ty=>if t.size≤d∧t.short=true then some t.valid else none)) (hL:E.con 117=fnS (zC fun s:List Nat=>if s.length<2^63 then some (zpc s)else none))
 (hU:E.con 118=fnS (zC fun s:List Nat=>if s.length<2^63 then some (ziu s)else none))
 {t:Ty} (ht:t.size≤d+1) (hll:t.args.length≤1000000) (hsh:t.short=true) (hs:HS):CallOk ρ Tryz.prog 72 [enc t] hs (enc t.valid) hs:=by
 refine fn hρ hE hcon Tryz.func72 fB72 rfl (by simp) ?_ hs
 have lo:=fun Q=>zoO hρ hE hcon hc ht hll hsh (Q:=Q)
 obtain⟨k,nm,i,h,l⟩:=t
 have hnm:=(Ty.short_iff.1 hsh).1
 simp only[Ty.name_mk,Ty.args_mk]at hnm hll lo
 simp only[show (2:Nat)^63=9223372036854775808 from rfl]at hL hU hnm
 by_cases h1:k=1
 · subst h1
   simp[zcV,zcU,zcT,zcS,zcR,zcQ,zcP,zcO,zcN,zcM,zbg,zbf,zbe,zbd,zbc,zbb,zcZ,zba,zcY,zaZ,zaY,zaX,zaW,zaV,zcX,zaU,zcW,zaT,fS72,hE]
   repeat' (refine zih (fun h=>?_) (fun h=>?_)<;>simp[h,hE,zcV,zcU,zcT,zcS,zcR,zcQ,zcP,zcO,zcN,zcM,zbg,zbf,zbe,zbd,zbc,zbb,zcZ,zba,zcY,zaZ,zaY,zaX,zaW,zaV,zcX,zaU,zcW,zaT,fS72])
   all_goals clear lo
   all_goals simp_all [Ty.valid]
   all_goals (intros;first|omega|simp_all|(exfalso;omega))
 by_cases h2:k=2
 · subst h2
   simp[zcV,zcU,zcT,zcS,zcR,zcQ,zcP,zcO,zcN,zcM,zbg,zbf,zbe,zbd,zbc,zbb,zcZ,zba,zcY,zaZ,zaY,zaX,zaW,zaV,zcX,zaU,zcW,zaT,fS72,hE]
   repeat' (refine zih (fun h=>?_) (fun h=>?_)<;>simp[h,hE,hL,hnm,zcV,zcU,zcT,zcS,zcR,zcQ,zcP,zcO,zcN,zcM,zbg,zbf,zbe,zbd,zbc,zbb,zcZ,zba,zcY,zaZ,zaY,zaX,zaW,zaV,zcX,zaU,zcW,zaT,fS72])
   all_goals clear lo
   all_goals simp_all [Ty.valid]
   all_goals (intros;first|omega|simp_all|(exfalso;omega))
 by_cases h3:k=3
 · subst h3
   simp[zcV,zcU,zcT,zcS,zcR,zcQ,zcP,zcO,zcN,zcM,zbg,zbf,zbe,zbd,zbc,zbb,zcZ,zba,zcY,zaZ,zaY,zaX,zaW,zaV,zcX,zaU,zcW,zaT,fS72,hE]
   repeat' (refine zih (fun h=>?_) (fun h=>?_)<;>simp[h,hE,hL,hnm,zcV,zcU,zcT,zcS,zcR,zcQ,zcP,zcO,zcN,zcM,zbg,zbf,zbe,zbd,zbc,zbb,zcZ,zba,zcY,zaZ,zaY,zaX,zaW,zaV,zcX,zaU,zcW,zaT,fS72])
   all_goals clear lo
   all_goals simp_all [Ty.valid]
   all_goals (intros;first|omega|simp_all|(exfalso;omega))
 by_cases h5:k=5
 · subst h5
   simp[zcV,zcU,zcT,zcS,zcR,zcQ,zcP,zcO,zcN,zcM,zbg,zbf,zbe,zbd,zbc,zbb,zcZ,zba,zcY,zaZ,zaY,zaX,zaW,zaV,zcX,zaU,zcW,zaT,fS72,hE]
   repeat' (refine zih (fun h=>?_) (fun h=>?_)<;>simp[h,hE,hL,hnm,zcV,zcU,zcT,zcS,zcR,zcQ,zcP,zcO,zcN,zcM,zbg,zbf,zbe,zbd,zbc,zbb,zcZ,zba,zcY,zaZ,zaY,zaX,zaW,zaV,zcX,zaU,zcW,zaT,fS72])
   all_goals clear lo
   all_goals simp_all [Ty.valid]
   all_goals (intros;first|omega|simp_all|(exfalso;omega))
 by_cases h4:k=4
 · subst h4
   by_cases hi0:i=0
   · by_cases hh0:h=0
     · subst hi0 hh0
       simp[zcV,zcU,zcT,zcS,zcR,zcQ,zcP,zcO,zcN,zcM,zbg,zbf,zbe,zbd,zbc,zbb,zcZ,zba,zcY,zaZ,zaY,zaX,zaW,zaV,zcX,zaU,zcW,zaT,fS72,hE]
       refine zdM (zec (zP (Less.keep (TL:=[(1,.ptr 0 0 0),(3,.int .i64 ((0:Nat):Int))]) (HL:=[(0,box (zl (.mk 4 nm 0 0 l)))]) 1 (by simp) (by simp) rfl rfl) (lo _ ?_ ?_ l.length 0 (by omega) (by simp[Ty.valids]))))
       · intro hv
         simp[zcV,zcU,zcT,zcS,zcR,zcQ,zcP,zcO,zcN,zcM,zbg,zbf,zbe,zbd,zbc,zbb,zcZ,zba,zcY,zaZ,zaY,zaX,zaW,zaV,zcX,zaU,zcW,zaT,fS72,hE,hv,Ty.valid]
       · intro hv
         clear lo
         by_cases ha:nm=[45,62]
         · subst ha
           have hl2:((l.length:Int)=2)↔l.length=2:=by omega
           simp[zcV,zcU,zcT,zcS,zcR,zcQ,zcP,zcO,zcN,zcM,zbg,zbf,zbe,zbd,zbc,zbb,zcZ,zba,zcY,zaZ,zaY,zaX,zaW,zaV,zcX,zaU,zcW,zaT,fS72,hE,hv,Ty.valid,hl2]
         by_cases hb:nm=[73,110,116]
         · subst hb
           simp[zcV,zcU,zcT,zcS,zcR,zcQ,zcP,zcO,zcN,zcM,zbg,zbf,zbe,zbd,zbc,zbb,zcZ,zba,zcY,zaZ,zaY,zaX,zaW,zaV,zcX,zaU,zcW,zaT,fS72,hE,hv,Ty.valid]
         have hl4:((l.length:Int)≤4)↔l.length≤4:=by omega
         cases hu:ziu nm<;>simp[zcV,zcU,zcT,zcS,zcR,zcQ,zcP,zcO,zcN,zcM,zbg,zbf,zbe,zbd,zbc,zbb,zcZ,zba,zcY,zaZ,zaY,zaX,zaW,zaV,zcX,zaU,zcW,zaT,fS72,hE,hv,Ty.valid,ha,hb,hU,hnm,hu,hl4]
     · simp[zcV,zcU,zcT,zcS,zcR,zcQ,zcP,zcO,zcN,zcM,zbg,zbf,zbe,zbd,zbc,zbb,zcZ,zba,zcY,zaZ,zaY,zaX,zaW,zaV,zcX,zaU,zcW,zaT,fS72,hE,hi0,hh0,Ty.valid]
   · simp[zcV,zcU,zcT,zcS,zcR,zcQ,zcP,zcO,zcN,zcM,zbg,zbf,zbe,zbd,zbc,zbb,zcZ,zba,zcY,zaZ,zaY,zaX,zaW,zaV,zcX,zaU,zcW,zaT,fS72,hE,hi0,Ty.valid]
 simp[zcV,zcU,zcT,zcS,zcR,zcQ,zcP,zcO,zcN,zcM,zbg,zbf,zbe,zbd,zbc,zbb,zcZ,zba,zcY,zaZ,zaY,zaX,zaW,zaV,zcX,zaU,zcW,zaT,fS72,hE,h1,h2,h3,h4,h5,Ty.valid]
end
end Go.Proofs.YthfcfmkdeheicaaGreat
/- The contracts of small functions,joined. -/
namespace Go.Proofs.YthfcfmkdeheicaaGreat
open Go.J
open Go.J.Enc (enc)
set_option maxRecDepth 100000
set_option maxHeartbeats 1000000
theorem zB{c:Prop}{_:Decidable c}{α:Type}{x r:α}(h:(if c then some x else none)=some r):c∧x=r:=by
 split at h
 · cases h;exact⟨‹_›,rfl⟩
 · cases h
theorem fo{f:Nat}{fn:Func}{sc:SC}(hf:Tryz.prog.funcs[f]?=some fn)(hb:fn.body.bind zk=some sc):zle Tryz.prog f:=fnOk hf (by
 cases h:fn.body with
 |none=>rw[h]at hb;cases hb
 |some c=>rfl)
abbrev EL(L:List (Nat×J.Spec)):Env:=envL Tryz.prog pol L
section
variable {ρ:Nat→Value}(hρ:J.Good ρ)
include hρ
def modS:J.Spec:=fnS (zF fun n m:Int=>if -1000000≤m∧m≤1000000 then some (znT n m)else none)
theorem vMod:Valid ρ Tryz.prog 14 modS:=v2 (fo Tryz.func14 fB14) fun a b r h hs=>by
 obtain⟨h1,rfl⟩:=zB h
 exact make_Mod_run hρ (E:=EL []) rfl (zg valid_nil) (by omega) (by omega) hs
def fewS:J.Spec:=fnS (zC fun l:List Int=>some (decide (l.length≤60)))
theorem vFew:Valid ρ Tryz.prog 10 fewS:=v1 (fo Tryz.func10 fB10) fun a r h hs=>by
 cases h
 exact make_Few_run hρ (E:=EL []) rfl (zg valid_nil) hs
def conS:J.Spec:=fnS (zF fun (n:List Nat) (l:List Ty)=>if l.length≤10000 then some (zo6 n l)else none)
theorem vCon:Valid ρ Tryz.prog 61 conS:=v2 (fo Tryz.func61 fB61) fun a b r h hs=>by
 obtain⟨h1,rfl⟩:=zB h
 exact ref3_Con_run hρ (E:=EL []) rfl (zg valid_nil) h1 hs
theorem vInt:Valid ρ Tryz.prog 49 (fnS (zoG tInt)):=v0 (fo Tryz.func49 fB49) fun hs =>
 ref3_Int_run hρ (E:=EL [(61,conS)]) rfl (zg (zf (vCon hρ) valid_nil)) rfl hs
theorem vArrow:Valid ρ Tryz.prog 62 (fnS (zF fun a b:Ty=>some (zhf a b))):=v2 (fo Tryz.func62 fB62) fun a b r h hs=>by
 cases h
 exact ref3_Arrow_run hρ (E:=EL [(61,conS)]) rfl (zg (zf (vCon hρ) valid_nil)) rfl hs
theorem vVar:Valid ρ Tryz.prog 52 (fnS (zC fun i:Int=>some (zD i))):=v1 (fo Tryz.func52 fB52) fun a r h hs=>by
 cases h
 exact ref3_Var_run hρ (E:=EL []) rfl (zg valid_nil) hs
theorem vRigid:Valid ρ Tryz.prog 58 (fnS (zF fun h i:Int=>some (zbG h i))):=v2 (fo Tryz.func58 fB58) fun a b r h hs=>by
 cases h
 exact ref3_Rigid_run hρ (E:=EL []) rfl (zg valid_nil) hs
theorem vNext:Valid ρ Tryz.prog 56 (stS (stF1 nextF)):=s1 (fo Tryz.func56 fB56) fun s a q h hs id hid hg=>by
 obtain⟨⟨h1,h2⟩,rfl⟩:=zB h
 exact zl1 hρ (E:=EL [(14,modS)]) rfl (zg (zf (vMod hρ) valid_nil)) rfl h1.1 h1.2 h2 hs id hid hg
theorem vEq(d:Nat):Valid ρ Tryz.prog 23 (fnS (zF (eqF d)))∧Valid ρ Tryz.prog 77 (fnS (zF (eqAllF d))):=by
 have all:∀ d,Valid ρ Tryz.prog 23 (fnS (zF (eqF d)))→Valid ρ Tryz.prog 77 (fnS (zF (eqAllF d))):=fun d hv=>v2 (fo Tryz.func77 fB77) fun a b r h hs=>by
  obtain⟨⟨h1,h2,h3⟩,rfl⟩:=zB h
  exact zmj hρ (E:=EL [(23,fnS (zF (eqF d)))]) rfl (zg (zf hv valid_nil)) rfl h1 h2 h3 hs
 have one:∀ d,Valid ρ Tryz.prog 23 (fnS (zF (eqF d))):=by
  intro d
  induction d with
  | zero =>
    refine v2 (fo Tryz.func23 fB23) fun a b r h hs=>?_
    obtain⟨⟨h1,h2⟩,rfl⟩:=zB h
    have:=Ty.size_eq a
    omega
  | succ d ih =>
    refine v2 (fo Tryz.func23 fB23) fun a b r h hs=>?_
    obtain⟨⟨h1,h2⟩,rfl⟩:=zB h
    exact zj3 hρ (E:=EL [(77,fnS (zF (eqAllF d)))]) rfl (zg (zf (all d ih) valid_nil)) rfl h1 h2 hs
 exact⟨one d,all d (one d)⟩
def equalS:J.Spec:=fnS (zF fun a b:Ty=>if a.ok=true then some (decide (a=b))else none)
theorem vEqual:Valid ρ Tryz.prog 23 equalS:=v2 (fo Tryz.func23 fB23) fun a b r h hs=>by
 obtain⟨h1,rfl⟩:=zB h
 exact zj3 hρ (E:=EL [(77,fnS (zF (eqAllF a.size)))]) rfl (zg (zf (vEq hρ a.size).2 valid_nil)) rfl h1 (by omega) hs
theorem vReplace(d:Nat):Valid ρ Tryz.prog 25 (fnS (zF (replF d))):=by
 induction d with
 | zero =>
   refine v2 (fo Tryz.func25 fB25) fun a b r h hs=>?_
   obtain⟨⟨h1,h2,h3⟩,rfl⟩:=zB h
   have:=Ty.size_eq a
   omega
 | succ d ih =>
   refine v2 (fo Tryz.func25 fB25) fun a b r h hs=>?_
   obtain⟨⟨h1,h2,h3⟩,rfl⟩:=zB h
   exact zia hρ (E:=EL [(25,fnS (zF (replF d)))]) rfl (zg (zf ih valid_nil)) rfl h1 h2 h3 hs
theorem vLeaves(d:Nat):Valid ρ Tryz.prog 91 (ioS 5 (ioF2 (zfd d)) kOne):=by
 induction d with
 | zero =>
   refine Valid.io (fo Tryz.func91 fB91) fun es vs r _ _ h0 _ _ _ hs v hv hvac=>?_
   obtain⟨l,a,b,q,rfl,rfl,h,rfl⟩:=ioF2_inv h0
   obtain⟨⟨h1,h2,h3⟩,rfl⟩:=zB h
   have:=Ty.size_eq a
   omega
 | succ d ih =>
   refine Valid.io (fo Tryz.func91 fB91) fun es vs r _ _ h0 _ _ _ hs v hv hvac=>?_
   obtain⟨l,a,b,q,rfl,rfl,h,rfl⟩:=ioF2_inv h0
   obtain⟨⟨h1,h2,h3,h4⟩,rfl⟩:=zB h
   exact zoM hρ (E:=EL [(23,equalS),(91,ioS 5 (ioF2 (zfd d)) kOne)]) rfl (zg (zf (vEqual hρ) (zf ih valid_nil))) rfl rfl h2 h1 h3 h4 hv hvac
def hasS:J.Spec:=fnC (zF fun (l:List Int) (x:Int)=>if l.length≤1000000 then some (decide (x∈l))else none)
theorem vHas:Valid ρ Tryz.prog 34 hasS:=c2 (fo Tryz.func34 fB34) fun a b r h hs=>by
 obtain⟨h1,rfl⟩:=zB h
 exact ref3_Has_run hρ (E:=EL []) rfl (zg valid_nil) h1 hs
def varsU:J.Spec:=fnS (zC fun l:List Ty=>if Ty.oks l=true∧l.length≤10000∧(zx 1 l []).length≤10000 then some (zG l)else none)
theorem vVarsU:Valid ρ Tryz.prog 33 varsU:=v1 (fo Tryz.func33 fB33) fun a r h hs=>by
 obtain⟨⟨h1,h2,h3⟩,rfl⟩:=zB h
 exact ref3_Vars_run hρ (E:=EL [(34,hasS),(91,ioS 5 (ioF2 (zfd (Ty.sizes a))) kOne)]) rfl (zg (zf (vHas hρ) (zf (vLeaves hρ (Ty.sizes a)) valid_nil))) rfl rfl h1 h2 (Nat.le_refl _) h3 hs
end
end Go.Proofs.YthfcfmkdeheicaaGreat
