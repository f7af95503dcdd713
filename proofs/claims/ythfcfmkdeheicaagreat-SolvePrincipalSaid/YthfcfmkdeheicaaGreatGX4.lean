import Derived.Test.YthfcfmkdeheicaaGreatGX3
import Derived.Test.YthfcfmkdeheicaaGreatJL
import Derived.Test.YthfcfmkdeheicaaGreatJK
set_option linter.all false
noncomputable section
namespace Go.Proofs.YthfcfmkdeheicaaGreat
open Go.J
open Go.J.Enc (enc)
set_option maxRecDepth 100000
set_option maxHeartbeats 4000000
open Classical in
def zly(t:Tp)(n:Int):Option (Tp×Int):=if t.ok∧-1000000≤n∧n≤1000000 then some (t.next n)else none
open Classical in
def zmi(d:Nat)(t:Tp)(D:List Decl)(Lv:List Ty)(n:Int):Option (Tp×Ty):=if t.ok∧DOk D∧Lv.length≤100000∧n≤d then some (typeM n.toNat t D Lv)else none
section
variable {ρ:Nat→Value}(hρ:J.Good ρ){E:Env}(hE:E.P=Tryz.prog)(hcon:ConsOk ρ E)
include hρ hE hcon
theorem zl0 (hN:E.con 56=stS (stF1 zly)) (hC:E.con 61=fnS (zD fun n l=>if l.length≤10000 then some (zok n l)else none)) (hI:E.con 49=fnS (zlp tInt)) (hA:E.con 62=fnS (zD fun a b=>some (zhy a b)))
 {d:Nat} {n:Int} (hT0:0<n→E.con 15=stS (stF3 (zmi d))) {t:Tp} {D:List Decl} {Lv:List Ty} (ht:t.ok) (hD:DOk D) (hLv:Lv.length≤100000) (hn:n≤d+1) (hdd:d≤1000) (hs:HS) (id:Nat) (hid:id<hs.n) (hg:hs.H.get id=some (box (Cel.cells t))) :
 CallOk ρ Tryz.prog 15 [.ptr id 0 0,enc D,enc Lv,enc n] hs (enc (typeM n.toNat t D Lv).2) (hs.wr id (box (Cel.cells (typeM n.toNat t D Lv).1))):=by
 have h7:zly t 7=some (t.next 7):=if_pos ⟨ht,by omega,by omega⟩
 have ht1:=zcJ ht 7
 have hk0:=next_nn t 7
 generalize hR:typeM n.toNat t D Lv=R
 rw[typeM.eq_def]at hR
 rcases hq:t.next 7 with⟨t1,k⟩
 simp only[hq]at h7 ht1 hk0 hR
 refine st hρ hE hcon Tryz.func15 fB15 rfl (by simp) (by simp) (by simp) (by simp) ?_ hid hg
 by_cases c1:k<3∧Lv≠[]
 · rw[if_pos c1]at hR
   obtain⟨j,hj,e1,e2⟩:=zfk t1 c1.2
   have hF:zly t1 (Lv.length:Int)=some (t1.next (Lv.length:Int)):=if_pos ⟨ht1,by omega,by omega⟩
   rw[e2]at hR
   rcases hq2:t1.next (Lv.length:Int)with⟨t2,k2⟩
   simp only[hq2]at hF e1 hR
   subst e1 hR
   have hlp:0<Lv.length:=by omega
   simp[zhb,zha,zgZ,zgY,zgX,zgW,zgV,zgU,zgT,zgS,zdD,zdC,zdB,zhe,zdA,zhd,zd9,zhc,zd8,zd7,fS15,hE,hN,h7,c1.1,hlp,hF,hj]
   exact GivesL.keep rfl rfl (by simp) (by simp) (by simp)
 · rw [if_neg c1]at hR
   have hp1:¬ (k<3∧0<Lv.length):=fun h=>c1 ⟨h.1,List.length_pos_iff.1 h.2⟩
   by_cases c2:k<4
   · rw[if_pos c2]at hR
     subst hR
     by_cases c3:k<3
     · have hL0:Lv=[]:=Classical.byContradiction fun h=>c1 ⟨c3,h⟩
       subst hL0
       simp[zhb,zha,zgZ,zgY,zgX,zgW,zgV,zgU,zgT,zgS,zdD,zdC,zdB,zhe,zdA,zhd,zd9,zhc,zd8,zd7,fS15,hE,hN,h7,c3,c2,hI]
       exact GivesL.keep rfl rfl (by simp) (by simp) (by simp)
     · simp[zhb,zha,zgZ,zgY,zgX,zgW,zgV,zgU,zgT,zgS,zdD,zdC,zdB,zhe,zdA,zhd,zd9,zhc,zd8,zd7,fS15,hE,hN,h7,c3,c2,hI]
       exact GivesL.keep rfl rfl (by simp) (by simp) (by simp)
   · rw [if_neg c2]at hR
     have c3:¬ k<3:=by omega
     by_cases c4:n<1
     · have h0:n.toNat=0:=by omega
       rw[h0]at hR
       simp only[]at hR
       subst hR
       simp[zhb,zha,zgZ,zgY,zgX,zgW,zgV,zgU,zgT,zgS,zdD,zdC,zdB,zhe,zdA,zhd,zd9,zhc,zd8,zd7,fS15,hE,hN,h7,c3,c2,c4,hI]
       exact GivesL.keep rfl rfl (by simp) (by simp) (by simp)
     · have hT := hT0 (by omega)
       obtain⟨m,hm⟩:∃ m,n.toNat=m+1:=⟨n.toNat-1,by omega⟩
       have hnm:n=(m:Int)+1:=by omega
       have hmd:m≤d:=by omega
       rw[hm]at hR
       simp only[]at hR
       have hw:IntKind.i64.wrap (n-1)=(m:Int):=by rw[hnm,wrap_i64 (by omega) (by omega)];omega
       have hTy:∀ t':Tp,t'.ok→zmi d t' D Lv (m:Int)=some (typeM m t' D Lv):=fun t' h=>by
        unfold zmi
        rw[if_pos ⟨h,hD,hLv,by omega⟩,Int.toNat_natCast]
       by_cases c5:(k=4∨k=5)∧D≠[]
       · rw [if_pos c5]at hR
         obtain⟨j,hj,e1,e2⟩:=zfk t1 c5.2
         have hF:zly t1 (D.length:Int)=some (t1.next (D.length:Int)):=if_pos ⟨ht1,by have:=hD.1;omega,by have:=hD.1;omega⟩
         have ht2:=zcJ ht1 (D.length:Int)
         rw[e2]at hR
         rcases hq2:t1.next (D.length:Int)with⟨t2,k2⟩
         simp only[hq2,Option.getD_some]at hF e1 hR ht2
         subst e1
         have hdp:=hD.2 _ (List.getElem_mem hj)
         have hDp:0<D.length:=by omega
         generalize hdj:D[j]=dd at hR hdp
         obtain⟨dpos,dname,dparams,dctors⟩:=dd
         simp only at hR hdp
         have main:∀ T hs,Less 1 T hs (mkP [(0,.ptr 0 0 0),(1,.sl (D.map zJ) false),(2,.sl (Lv.map zh) false),(3,.int .i64 n),(8,.ptr 1 0 0),(10,.ptr 2 0 0),(11,oV 3 (([]:List Ty).map zh)),(12,.int .i64 ((0:Nat):Int))])
          { H:=mkP ([(0,box (Cel.cells t2)),(1,box [.int .i64 0,.str [],.int .i64 0,.int .i64 0,.snil]),(2,box (zJ ⟨dpos,dname,dparams,dctors⟩))]++oH 3 5 (([]:List Ty).map zh)),n:=4,log:=[] } →
          ∀ Q,Q (.exit 1) (mkP [(8,.ptr 1 0 0),(10,.ptr 2 0 0),(11,oV 3 ((zeJ m t2 D Lv dparams.length).2.map zh))])
            { H:=mkP ([(0,box (Cel.cells (zeJ m t2 D Lv dparams.length).1)),(1,box [.int .i64 0,.str [],.int .i64 0,.int .i64 0,.snil]),(2,box (zJ ⟨dpos,dname,dparams,dctors⟩))]++oH 3 5 ((zeJ m t2 D Lv dparams.length).2.map zh)),n:=4,log:=[] } →
          Ls ρ E 1 95 (.loop fS15l0) T hs Q:=by
          intro T hs hl Q hQ
          refine lpi hρ hE hcon dparams.length (fun i (p:Tp×List Ty)=>[(0,.ptr 0 0 0),(1,.sl (D.map zJ) false),(2,.sl (Lv.map zh) false),(3,.int .i64 n),(8,.ptr 1 0 0),(10,.ptr 2 0 0),(11,oV 3 (p.2.map zh)),(12,.int .i64 (i:Int))])
           (fun i p=>[(0,box (Cel.cells p.1)),(1,box [.int .i64 0,.str [],.int .i64 0,.int .i64 0,.snil]),(2,box (zJ ⟨dpos,dname,dparams,dctors⟩))]++oH 3 5 (p.2.map zh)) (fun i p=>p=zeJ m t2 D Lv i) (t2,[]) hl (by rw[zeJ]) ?_ ?_
          · intro p hp K
            rw[← hp]at hQ
            obtain⟨t3,L⟩:=p
            rcases L with _|⟨x,L⟩<;>simp[fS15l0,zhb,zha,zgZ,zgY,zgX,zgW,zgV,zgU,zgT,zgS,zdD,zdC,zdB,zhe,zdA,zhd,zd9,zhc,zd8,zd7,fS15,hE]<;>exact LessQ.mk (Less.auto (by simp) (by simp) rfl rfl) hQ
          · intro i p hi hp K hK
            have hlen:=zlT m t2 D Lv i
            have hok:=argsM_ok (D:=D) (Lv:=Lv) m ht2 i
            rw[← hp]at hlen hok
            have hTp:=hTy p.1 hok
            have hnew:=hK (typeM m p.1 D Lv |>.1,p.2++[(typeM m p.1 D Lv).2]) (by rw[zeJ,← hp])
            have hi':(i:Int)<dparams.length:=by omega
            have hw2:IntKind.i64.wrap ((i:Int)+1)=((i+1:Nat):Int):=zq (by omega)
            obtain⟨t3,L⟩:=p
            simp only at hTp hnew hlen
            rcases hq3:typeM m t3 D Lv with⟨t4,x4⟩
            simp only[hq3]at hTp hnew
            rcases L with _|⟨x,L⟩
            · simp[fS15l0,zhb,zha,zgZ,zgY,zgX,zgW,zgV,zgU,zgT,zgS,zdD,zdC,zdB,zhe,zdA,zhd,zd9,zhc,zd8,zd7,fS15,hE,hi,hi',hw,hw2,hT,hTp,-Int.natCast_add]
              exact hnew _ _ (Less.auto (by simp[-Int.natCast_add]) (by simp) rfl rfl)
            · have h64:(L.length+1+1)*64≤1048576:=by simp at hlen;omega
              simp[fS15l0,zhb,zha,zgZ,zgY,zgX,zgW,zgV,zgU,zgT,zgS,zdD,zdC,zdB,zhe,zdA,zhd,zd9,zhc,zd8,zd7,fS15,hE,hi,hi',hw,hw2,hT,hTp,h64,Nat.not_succ_le_self,-Int.natCast_add]
              exact hnew _ _ (Less.auto (by simp[-Int.natCast_add]) (by simp) rfl rfl)
         have hlenR:=zlT m t2 D Lv dparams.length
         rcases hq4:zeJ m t2 D Lv dparams.length with⟨t5,L⟩
         simp only[hq4]at main hR hlenR
         subst hR
         have hlen2:L.length≤10000:=by omega
         rcases c5.1 with rfl|rfl<;>simp[zhb,zha,zgZ,zgY,zgX,zgW,zgV,zgU,zgT,zgS,zdD,zdC,zdB,zhe,zdA,zhd,zd9,zhc,zd8,zd7,fS15,hE,hN,h7,c4,hF,hj,hdj,hDp]<;>refine main _ _ (Less.auto (by simp) (by simp) rfl rfl) _ ?_ <;>
         (rcases L with _|⟨x,L⟩
          · simp[zhb,zha,zgZ,zgY,zgX,zgW,zgV,zgU,zgT,zgS,zdD,zdC,zdB,zhe,zdA,zhd,zd9,zhc,zd8,zd7,fS15,hE,hC]
            exact GivesL.keep rfl rfl (by simp[zok]) (by simp) (by simp)
          · have hl9:L.length≤9999:=by simpa using hlen2
            simp[zhb,zha,zgZ,zgY,zgX,zgW,zgV,zgU,zgT,zgS,zdD,zdC,zdB,zhe,zdA,zhd,zd9,zhc,zd8,zd7,fS15,hE,hC,hl9]
            exact GivesL.keep rfl rfl (by simp[zok]) (by simp) (by simp))
       · rw [if_neg c5]at hR
         have hp5:¬ ((k=4∨k=5)∧0<D.length):=fun h=>c5 ⟨h.1,List.length_pos_iff.1 h.2⟩
         have hF1:=hTy t1 ht1
         have ht2:=(zj2 (D:=D) (Lv:=Lv) m t1 ht1).1
         rcases hq2:typeM m t1 D Lv with⟨t2,a⟩
         simp only[hq2]at hF1 hR ht2
         have hF2:=hTy t2 ht2
         rcases hq3:typeM m t2 D Lv with⟨t3,b⟩
         simp only[hq3]at hF2 hR
         subst hR
         have hD0:(k=4∨k=5)→D=[]:=fun h=>Classical.byContradiction fun hne=>c5 ⟨h,hne⟩
         by_cases c6:k=4
         · have:=hD0 (.inl c6)
           subst this c6
           simp[zhb,zha,zgZ,zgY,zgX,zgW,zgV,zgU,zgT,zgS,zdD,zdC,zdB,zhe,zdA,zhd,zd9,zhc,zd8,zd7,fS15,hE,hN,h7,c4,hw,hT,hF1,hF2,hA]
           exact GivesL.keep rfl rfl (by simp) (by simp) (by simp)
         · by_cases c7:k=5
           · have:=hD0 (.inr c7)
             subst this c7
             simp[zhb,zha,zgZ,zgY,zgX,zgW,zgV,zgU,zgT,zgS,zdD,zdC,zdB,zhe,zdA,zhd,zd9,zhc,zd8,zd7,fS15,hE,hN,h7,c4,hw,hT,hF1,hF2,hA]
             exact GivesL.keep rfl rfl (by simp) (by simp) (by simp)
           · simp[zhb,zha,zgZ,zgY,zgX,zgW,zgV,zgU,zgT,zgS,zdD,zdC,zdB,zhe,zdA,zhd,zd9,zhc,zd8,zd7,fS15,hE,hN,h7,c3,c2,c4,c6,c7,hw,hT,hF1,hF2,hA]
             exact GivesL.keep rfl rfl (by simp) (by simp) (by simp)
end
end Go.Proofs.YthfcfmkdeheicaaGreat
namespace Go.Proofs.YthfcfmkdeheicaaGreat
open Go.J
open Go.J.Enc (enc)
set_option maxRecDepth 100000
set_option maxHeartbeats 4000000
def replF(d:Nat)(t:Ty)(s:List Assign):Option Ty:=if t.ok=true∧t.size≤d∧s.length≤100000 then some (t.repl s)else none
section
variable {ρ:Nat→Value}(hρ:J.Good ρ){E:Env}(hE:E.P=Tryz.prog)(hcon:ConsOk ρ E)
include hρ hE hcon
theorem zit {d:Nat} (hc:E.con 25=fnS (zD (replF d))) {t:Ty} {s:List Assign} (ht:t.ok=true) (hd:t.size≤d+1) (hsl:s.length≤100000) (hs:HS):CallOk ρ Tryz.prog 25 [enc t,enc s] hs (enc (t.repl s)) hs:=by
 refine fn hρ hE hcon Tryz.func25 fB25 rfl (by simp) ?_ hs
 rw[zih]
 by_cases hk:t.kind=1
 · rw [if_pos hk]
   simp[zgN,zgM,zgL,zgK,zgJ,zgI,zgR,zgH,zgQ,zgG,zgF,zgE,zd6,zd5,zd4,zgP,zd3,zgO,zd2,fS25,hE,hk]
   refine lpi hρ hE hcon s.length (nn:=2) (fun i (_:Unit)=>[(1,.sl (s.map zf) false),(2,.ptr 0 0 0),(4,.ptr 1 0 0),(5,.int .i64 (i:Int))]) (fun i _=>[(0,box (zh t)),(1,box [.int .i64 0,.str [],.int .i64 0,.int .i64 0,.snil])]) (fun i _=>zo (s.take i) t.id=none) ()
    (Less.auto (by simp) (by simp[hk]) rfl rfl) rfl ?_ ?_
   · intro _ hl K
     rw[List.take_length]at hl
     simp[fS25l0,zgN,zgM,zgL,zgK,zgJ,zgI,zgR,zgH,zgQ,zgG,zgF,zgE,zd6,zd5,zd4,zgP,zd3,zgO,zd2,fS25,hE]
     refine LessQ.mk (Less.auto (TL:=[(2,.ptr 0 0 0),(4,.ptr 1 0 0)]) (HL:=[(0,box (zh t)),(1,box [.int .i64 0,.str [],.int .i64 0,.int .i64 0,.snil])]) (n:=2) (by simp) (by simp[hk]) rfl rfl) ?_
     simp[zgN,zgM,zgL,zgK,zgJ,zgI,zgR,zgH,zgQ,zgG,zgF,zgE,zd6,zd5,zd4,zgP,zd3,zgO,zd2,fS25,hE,hl,hk]
   · intro i _ hi hl K hK
     have hi':(i:Int)<s.length:=by omega
     have hw2:IntKind.i64.wrap ((i:Int)+1)=((i+1:Nat):Int):=zq (by omega)
     have hlk:∀ j,zo (s.take (i+1)) j=(zo (s.take i) j).or (zo [s[i]] j):=fun j=>by
      rw[List.take_add_one,List.getElem?_eq_getElem hi,Option.toList_some,zaS]
     by_cases he:s[i].id=t.id
     · have hres:zo s t.id=some s[i].type:=by
        conv=>lhs;rw[← List.take_append_drop (i+1) s]
        rw[zaS,hlk,hl]
        simp[zo,he]
       simp[fS25l0,zgN,zgM,zgL,zgK,zgJ,zgI,zgR,zgH,zgQ,zgG,zgF,zgE,zd6,zd5,zd4,zgP,zd3,zgO,zd2,fS25,hE,hi,hi',he,hk]
       refine LessQ.mk (Less.auto (TL:=[(4,.ptr 1 0 0)]) (HL:=[(1,box (zh s[i].type))]) (n:=2) (by simp) (by simp) rfl rfl) ?_
       simp[zgN,zgM,zgL,zgK,zgJ,zgI,zgR,zgH,zgQ,zgG,zgF,zgE,zd6,zd5,zd4,zgP,zd3,zgO,zd2,fS25,hE,hres]
     · have hnew:=hK () (by rw[hlk,hl];simp[zo,he])
       simp[fS25l0,zgN,zgM,zgL,zgK,zgJ,zgI,zgR,zgH,zgQ,zgG,zgF,zgE,zd6,zd5,zd4,zgP,zd3,zgO,zd2,fS25,hE,hi,hi',he,hk,hw2,-Int.natCast_add]
       exact hnew _ _ (Less.auto (by simp[-Int.natCast_add]) (by simp[hk]) rfl rfl)
 · rw [if_neg hk]
   simp[zgN,zgM,zgL,zgK,zgJ,zgI,zgR,zgH,zgQ,zgG,zgF,zgE,zd6,zd5,zd4,zgP,zd3,zgO,zd2,fS25,hE,hk]
   have hlen:=Ty.ok_len ht
   refine lpi hρ hE hcon t.args.length (nn:=4) (fun i (L:List Ty)=>[(1,.sl (s.map zf) false),(2,.ptr 0 0 0),(4,.ptr 1 0 0),(6,.ptr 2 0 0),(7,.int .i64 (i:Int))])
    (fun i L=>[(0,box (zh t)),(1,box [.int .i64 0,.str [],.int .i64 0,.int .i64 0,.snil]),(2,box [.int .i64 t.kind,.str t.name,.int .i64 t.id,.int .i64 t.home,oV 3 (L.map zh)])]++oH 3 5 (L.map zh)) (fun i L=>L=(t.args.take i).map (Ty.repl s)) []
    (Less.auto (by simp) (by simp) (by simp) (by simp)) rfl ?_ ?_
   · intro L hL K
     rw[List.take_length]at hL
     rw[← hL]
     clear hL
     rcases L with _|⟨x,L⟩
     · simp[fS25l1,zgN,zgM,zgL,zgK,zgJ,zgI,zgR,zgH,zgQ,zgG,zgF,zgE,zd6,zd5,zd4,zgP,zd3,zgO,zd2,fS25,hE]
       refine LessQ.mk (Less.auto (TL:=[(4,.ptr 1 0 0),(6,.ptr 2 0 0)]) (HL:=[(1,box [.int .i64 0,.str [],.int .i64 0,.int .i64 0,.snil]),(2,box [.int .i64 t.kind,.str t.name,.int .i64 t.id,.int .i64 t.home,.snil])]) (n:=4) (by simp) (by simp) (by simp) (by simp)) ?_
       simp[zgN,zgM,zgL,zgK,zgJ,zgI,zgR,zgH,zgQ,zgG,zgF,zgE,zd6,zd5,zd4,zgP,zd3,zgO,zd2,fS25,hE]
     · simp[fS25l1,zgN,zgM,zgL,zgK,zgJ,zgI,zgR,zgH,zgQ,zgG,zgF,zgE,zd6,zd5,zd4,zgP,zd3,zgO,zd2,fS25,hE]
       refine LessQ.mk (Less.auto (TL:=[(4,.ptr 1 0 0),(6,.ptr 2 0 0)]) (HL:=[(1,box [.int .i64 0,.str [],.int .i64 0,.int .i64 0,.snil]),(2,box [.int .i64 t.kind,.str t.name,.int .i64 t.id,.int .i64 t.home,oV 3 ((x::L).map zh)])]++oH 3 5 ((x::L).map zh)) (n:=4) (by simp) (by simp) (by simp) (by simp)) ?_
       simp[zgN,zgM,zgL,zgK,zgJ,zgI,zgR,zgH,zgQ,zgG,zgF,zgE,zd6,zd5,zd4,zgP,zd3,zgO,zd2,fS25,hE]
   · intro i L hi hL K hK
     have hi':(i:Int)<t.args.length:=by omega
     have hw2:IntKind.i64.wrap ((i:Int)+1)=((i+1:Nat):Int):=zq (by omega)
     have hm:=List.getElem_mem hi
     have hF:replF d t.args[i] s=some (t.args[i].repl s):=by
      unfold replF
      rw[if_pos ⟨Ty.ok_arg ht hm,by have:=Ty.size_arg hm;omega,hsl⟩]
     have hnew:=hK (L++[t.args[i].repl s]) (by rw[List.take_add_one,List.getElem?_eq_getElem hi,Option.toList_some,List.map_append,hL];rfl)
     have hLl:L.length=i:=by rw[hL,List.length_map,List.length_take];omega
     clear hL
     generalize t.args[i].repl s=y at hF hnew
     rcases L with _|⟨x,L⟩
     · simp[fS25l1,zgN,zgM,zgL,zgK,zgJ,zgI,zgR,zgH,zgQ,zgG,zgF,zgE,zd6,zd5,zd4,zgP,zd3,zgO,zd2,fS25,hE,hi,hi',hc,hF,hw2,-Int.natCast_add]
       exact hnew _ _ (Less.auto (by simp[-Int.natCast_add]) (by simp) (by simp) (by simp))
     · have h64:(L.length+1+1)*64≤1048576:=by simp at hLl;omega
       simp[fS25l1,zgN,zgM,zgL,zgK,zgJ,zgI,zgR,zgH,zgQ,zgG,zgF,zgE,zd6,zd5,zd4,zgP,zd3,zgO,zd2,fS25,hE,hi,hi',hc,hF,hw2,h64,Nat.not_succ_le_self,-Int.natCast_add]
       exact hnew _ _ (Less.auto (by simp[-Int.natCast_add]) (by simp) (by simp) (by simp))
end
end Go.Proofs.YthfcfmkdeheicaaGreat
namespace Go.Proofs.YthfcfmkdeheicaaGreat
open Go.J
open Go.J.Enc (enc)
set_option maxRecDepth 100000
set_option maxHeartbeats 4000000
section
variable {ρ:Nat→Value}(hρ:J.Good ρ){E:Env}(hE:E.P=Tryz.prog)(hcon:ConsOk ρ E)
include hρ hE hcon
theorem types_Var_run{i:Int}(hs:HS):CallOk ρ Tryz.prog 86 [enc i] hs (enc (zA i)) hs:=by
 refine fn hρ hE hcon Tryz.func86 fB86 rfl (by simp) ?_ hs
 simp[fS86r0,fS86r1,fS86,hE,zA]
end
end Go.Proofs.YthfcfmkdeheicaaGreat
namespace Go.Proofs.YthfcfmkdeheicaaGreat
open Go.J
open Go.J.Enc (enc)
set_option maxRecDepth 100000
set_option maxHeartbeats 4000000
def zfx(d:Nat)(L:List Ty)(t:Ty)(kind:Int):Option (List Ty):=if t.size≤d∧t.ok=true∧Ty.oks L=true∧(zah kind t L).length≤10000 then some (zah kind t L)else none
theorem zoF(kind:Int):∀ (l:List Ty) (i:Nat) (L0:List Ty),(zw kind (l.take i) L0).length≤(zw kind l L0).length:=by
 intro l
 induction l with
 |nil=>intro i L0;simp
 | cons a l ih =>
   intro i L0
   cases i with
   |zero=>exact(zbx kind (a::l) L0).1
   | succ i =>
     rw[List.take_succ_cons,zw,zw]
     exact ih i _
section
variable {ρ:Nat→Value}(hρ:J.Good ρ){E:Env}(hE:E.P=Tryz.prog)(hcon:ConsOk ρ E)
include hρ hE hcon
theorem zh3 {d:Nat} (hc:E.con 91=ioS 5 (ioF2 (zfx d)) kOne) {k:Nat} {t:Ty} {kind:Int} {L0:List Ty} (hk:k=0∨k=1∧L0≠[]) (ht:t.ok=true) (hd:t.size≤d+1) (h0:Ty.oks L0=true) (hl0:(zw kind t.args L0).length≤10000) {Q:Ex→PT V→HS→Prop}
 (hQ:Q (.exit 2) (mkP [(0,oV 0 ((zw kind t.args L0).map zh))]) { H:=mkP (oH 0 5 ((zw kind t.args L0).map zh)),n:=1,log:=[] }) :
 ∀ (n i:Nat) (L:List Ty),i+n=t.args.length→L=zw kind (t.args.take i) L0→LsN ρ E k 52 zmV (LessQ k Q) (n+1) (mkP [(0,oV 0 (L.map zh)),(2,.int .i64 kind),(4,.ptr 1 0 0),(8,.int .i64 (i:Int))])
   { H:=mkP ((1,box (zh t))::oH 0 5 (L.map zh)),n:=2,log:=[] }:=by
 intro n
 induction n with
 | zero =>
   intro i L hi hL
   have hil:¬ (i:Int)<t.args.length:=by omega
   have e:L=zw kind t.args L0:=by rw[hL,List.take_of_length_le (by omega)]
   rw[← e]at hQ
   have hlen:=zbx kind t.args L0
   rw[← e]at hlen
   refine lp hρ hE hcon fun K hK=>?_
   rcases L with _|⟨x,L⟩
   · have hk0:k=0:=by
      rcases hk with h|⟨_,h⟩
      · exact h
      · cases L0 with
        |nil=>exact absurd rfl h
        |cons a l=>simp at hlen
     subst hk0
     simp[zmV,zcE,zcD,zcC,zcB,zcA,zc9,zcI,zc8,zcH,zc7,zc6,zc5,zaP,zcG,zaO,zcF,zaN,fS91,hE,hil]
     exact LessQ.mk (Less.keep 1 (by simp) (by simp) rfl rfl) hQ
   · simp[zmV,zcE,zcD,zcC,zcB,zcA,zc9,zcI,zc8,zcH,zc7,zc6,zc5,zaP,zcG,zaO,zcF,zaN,fS91,hE,hil]
     rcases hk with rfl|⟨rfl,_⟩<;>exact LessQ.mk (Less.keep 1 (by simp) (by simp) rfl rfl) hQ
 | succ n ih =>
   intro i L hi hL
   have hil:i<t.args.length:=by omega
   have hil':(i:Int)<t.args.length:=by omega
   have hw:IntKind.i64.wrap ((i:Int)+1)=((i+1:Nat):Int):=zq (by have:=Ty.ok_len ht;omega)
   have hm:=List.getElem_mem hil
   have hs1:=Ty.size_arg hm
   have hok:=Ty.ok_arg ht hm
   have hLok:Ty.oks L=true:=by rw[hL];exact leavesL_ok (oks_take (Ty.oks_iff.2 (Ty.ok_iff.1 ht).2) i) _ h0
   have hlen:=zbx kind (t.args.take i) L0
   rw[← hL]at hlen
   have hsz:Ty.sizes (t.args.take i)+t.args[i].size≤Ty.sizes t.args:=by
    have:=zfi t.args (i+1)
    rw[List.take_add_one,List.getElem?_eq_getElem hil,ziD]at this
    simpa [Ty.sizes]using this
   have hts:=Ty.size_eq t
   have hnew:zah kind t.args[i] L=zw kind (t.args.take (i+1)) L0:=by
    rw[List.take_add_one,List.getElem?_eq_getElem hil,Option.toList_some,zmR,hL]
   have hb:(zah kind t.args[i] L).length≤10000:=by rw[hnew];exact Nat.le_trans (zoF kind t.args (i+1) L0) hl0
   have hF:zfx d L t.args[i] kind=some (zah kind t.args[i] L):=by
    unfold zfx;rw[if_pos ⟨by omega,hok,hLok,hb⟩]
   have hml:=zin kind t.args[i] L
   refine lp hρ hE hcon fun K hK=>?_
   generalize hR:zah kind t.args[i] L=R at hF hnew hml
   rcases L with _|⟨x,L⟩
   · have hk0:k=0:=by
      rcases hk with h|⟨_,h⟩
      · exact h
      · cases L0 with
        |nil=>exact absurd rfl h
        |cons a l=>simp at hlen
     subst hk0
     rcases R with _|⟨y,R⟩<;>simp[zmV,zcE,zcD,zcC,zcB,zcA,zc9,zcI,zc8,zcH,zc7,zc6,zc5,zaP,zcG,zaO,zcF,zaN,fS91,hE,hil,hil',hc,hw,hF,kOne,-Int.natCast_add]
     · exact hK _ _ (zQ (Less.keep 2 (by simp[-Int.natCast_add]) (by simp) rfl rfl) (ih (i+1) _ (by omega) hnew))
     · exact hK _ _ (zQ (Less.lit (fun k=>if k=0 then 16 else k) 2 (by simp[-Int.natCast_add]) (by simp) rfl rfl) (ih (i+1) _ (by omega) hnew))
   · rcases R with _|⟨y,R⟩
     · simp at hml
     · have hml0:L.length≤R.length:=by simp at hml;omega
       simp[zmV,zcE,zcD,zcC,zcB,zcA,zc9,zcI,zc8,zcH,zc7,zc6,zc5,zaP,zcG,zaO,zcF,zaN,fS91,hE,hil,hil',hc,hw,hF,kOne,hml0,-Int.natCast_add]
       rcases hk with rfl|⟨rfl,_⟩<;>exact hK _ _ (zQ (Less.keep 2 (by simp[-Int.natCast_add]) (by simp) rfl rfl) (ih (i+1) _ (by omega) hnew))
theorem zh4 (hc:E.con 23=fnS (zD fun a b:Ty=>if a.ok=true then some (decide (a=b))else none)) {k:Nat} {t:Ty} {L:List Ty} (hk:k=0∨k=1∧L≠[]) (h0:Ty.oks L=true) (hl0:L.length≤10000) {Q:Ex→PT V→HS→Prop}
 (hf:t∈L→Q .ret (mkP [(6,oV 0 (L.map zh))]) { H:=mkP (oH 0 5 (L.map zh)),n:=1,log:=[] })
 (hn:t ∉ L→Q (.exit 0) (mkP [(0,oV 0 (L.map zh)),(4,.ptr 1 0 0)]) { H:=mkP ((1,box (zh t))::oH 0 5 (L.map zh)),n:=2,log:=[] }) :
 ∀ (n i:Nat),i+n=L.length→t ∉ L.take i→LsN ρ E k 52 fS91l0 (LessQ k Q) (n+1) (mkP [(0,oV 0 (L.map zh)),(4,.ptr 1 0 0),(7,.int .i64 (i:Int))])
   { H:=mkP ((1,box (zh t))::oH 0 5 (L.map zh)),n:=2,log:=[] }:=by
 intro n
 induction n with
 | zero =>
   intro i hi hL
   have hil:¬ (i:Int)<L.length:=by omega
   have e:t ∉ L:=by rw[List.take_of_length_le (by omega)]at hL;exact hL
   have hn:=hn e
   refine lp hρ hE hcon fun K hK=>?_
   rcases L with _|⟨x,L⟩
   · have hk0:k=0:=by
      rcases hk with h|⟨_,h⟩
      · exact h
      · exact absurd rfl h
     subst hk0
     obtain rfl:i=0:=by simpa using hi
     simp[fS91l0,zcE,zcD,zcC,zcB,zcA,zc9,zcI,zc8,zcH,zc7,zc6,zc5,zaP,zcG,zaO,zcF,zaN,fS91,hE]
     exact LessQ.mk (Less.keep 2 (by simp) (by simp) rfl rfl) hn
   · have hil2:¬ (i:Int)<(L.length:Int)+1:=by simp at hil;omega
     simp[fS91l0,zcE,zcD,zcC,zcB,zcA,zc9,zcI,zc8,zcH,zc7,zc6,zc5,zaP,zcG,zaO,zcF,zaN,fS91,hE,hil2]
     rcases hk with rfl|⟨rfl,_⟩<;>exact LessQ.mk (Less.keep 2 (by simp) (by simp) rfl rfl) hn
 | succ n ih =>
   intro i hi hL
   have hil:i<L.length:=by omega
   have hw:IntKind.i64.wrap ((i:Int)+1)=((i+1:Nat):Int):=zq (by omega)
   have hok:=Ty.oks_iff.1 h0 _ (List.getElem_mem hil)
   have hnext:L[i]≠t→t ∉ L.take (i+1):=by
    intro h hm
    rw[List.take_add_one,List.getElem?_eq_getElem hil]at hm
    rcases List.mem_append.1 hm with hm|hm
    · exact hL hm
    · exact h (List.mem_singleton.1 hm).symm
   have hmem:L[i]=t→t∈L:=fun h=>h ▸ List.getElem_mem hil
   have hgi:(L.map zh)[i]?=some (zh L[i]):=by rw[List.getElem?_map,List.getElem?_eq_getElem hil];rfl
   refine lp hρ hE hcon fun K hK=>?_
   generalize L[i]=y at hok hnext hmem hgi
   rcases L with _|⟨x,L⟩
   · simp at hil
   · have hil2:(i:Int)<(L.length:Int)+1:=by simp at hil;omega
     have hil3:i<L.length+1:=by simpa using hil
     simp only[List.map_cons,zas]at hgi
     have hgi3:∀ h,(zh x::L.map zh)[i]'h=zh y:=fun h=>by simp only[zas];exact(List.getElem?_eq_some_iff.1 hgi).2
     simp only[zas]at hgi3
     have hd1:i*5 / 5=i:=by omega
     have hd2:i*5 % 5=0:=by omega
     simp[fS91l0,zcE,zcD,zcC,zcB,zcA,zc9,zcI,zc8,zcH,zc7,zc6,zc5,zaP,zcG,zaO,zcF,zaN,fS91,hE,hil2,hil3,hc,hok,hd1,hd2,hgi3]
     refine zn2 (fun h=>?_) (fun h=>?_)<;>simp[zcE,zcD,zcC,zcB,zcA,zc9,zcI,zc8,zcH,zc7,zc6,zc5,zaP,zcG,zaO,zcF,zaN,fS91,hE,hw,-Int.natCast_add]
     · rcases hk with rfl|⟨rfl,_⟩<;>exact LessQ.mk (Less.keep 1 (by simp) (by simp) rfl rfl) (hf (hmem h))
     · rcases hk with rfl|⟨rfl,_⟩<;>exact hK _ _ (zQ (Less.keep 2 (by simp[-Int.natCast_add]) (by simp) rfl rfl) (ih (i+1) (by omega) (hnext h)))
theorem zo4 {d:Nat} (hcE:E.con 23=fnS (zD fun a b:Ty=>if a.ok=true then some (decide (a=b))else none)) (hc:E.con 91=ioS 5 (ioF2 (zfx d)) kOne) {L:List Ty} {t:Ty} {kind:Int} (ht:t.ok=true) (hd:t.size≤d+1) (h0:Ty.oks L=true) (hl0:(zah kind t L).length≤10000)
 {hs:HS} {v:V} (hv:rowOf 5 hs v=some (L.map zh)) (hvac:hs.H.get hs.n=none):CallOk ρ Tryz.prog 91 [v,enc t,enc kind] hs (zbh 5 v (L.map zh) ((zah kind t L).map zh) hs).1 (zbh 5 v (L.map zh) ((zah kind t L).map zh) hs).2:=by
 have hlen:=zin kind t L
 refine io hρ hE hcon (K:=kOne) (rs:=[]) (.inl rfl) Tryz.func91 fB91 rfl (by simp) (by simp) (by simp) rfl (by simpa using hlen.1) ?_ hv hvac
 clear hv hvac
 rw[zer]
 have hk:(if L.map zh=[]then 0 else 1)=0∨(if L.map zh=[]then 0 else 1)=1∧L≠[]:=by
  cases L with
  |nil=>exact .inl rfl
  |cons a l=>exact .inr ⟨rfl,by simp⟩
 by_cases hleaf:t.kind=kind∧t.args=[]
 · rw [if_pos hleaf]
   obtain⟨hkd,har⟩:=hleaf
   rcases L with _|⟨x,L⟩
   · simp[zcE,zcD,zcC,zcB,zcA,zc9,zcI,zc8,zcH,zc7,zc6,zc5,zaP,zcG,zaO,zcF,zaN,fS91,hE,hkd,har]
     refine zfp (zfW (zQ (Less.lit (TL:=[(0,oV 0 (([]:List Ty).map zh)),(4,.ptr 1 0 0),(7,.int .i64 ((0:Nat):Int))]) (HL:=(1,box (zh t))::oH 0 5 (([]:List Ty).map zh)) (fun k=>if k=1 then 0 else k) 2 ?_ ?_ rfl rfl) (zh4 hρ hE hcon hcE (.inl rfl) h0 (by simp) ?_ ?_ 0 0 rfl (by simp))))
     · simp
     · simp[har,hkd]
     · intro h;cases h
     · intro _
       simp[zcE,zcD,zcC,zcB,zcA,zc9,zcI,zc8,zcH,zc7,zc6,zc5,zaP,zcG,zaO,zcF,zaN,fS91,hE,hkd,har]
       exact GivesL.litX (fun k=>if k=0 then 5 else k) rfl rfl ⟨rfl,rfl⟩ (by simp)
   · simp[zcE,zcD,zcC,zcB,zcA,zc9,zcI,zc8,zcH,zc7,zc6,zc5,zaP,zcG,zaO,zcF,zaN,fS91,hE,hkd,har]
     refine zfp (zfW (zQ (Less.keep (TL:=[(0,oV 0 ((x::L).map zh)),(4,.ptr 1 0 0),(7,.int .i64 ((0:Nat):Int))]) (HL:=(1,box (zh t))::oH 0 5 ((x::L).map zh)) 2 ?_ ?_ rfl rfl) (zh4 hρ hE hcon hcE (.inr ⟨rfl,by simp⟩) h0 (by omega) ?_ ?_ (x::L).length 0 (by omega) (by simp))))
     · simp
     · simp[har,hkd]
     · intro h
       simp[zcE,zcD,zcC,zcB,zcA,zc9,zcI,zc8,zcH,zc7,zc6,zc5,zaP,zcG,zaO,zcF,zaN,fS91,hE,hkd,har,h]
       exact GivesL.keepX rfl rfl rfl (by simp)
     · intro hn
       have h64:(L.length+1+1)*64≤1048576:=by have:=hlen.1;simp only[List.length_cons]at this;omega
       simp[zcE,zcD,zcC,zcB,zcA,zc9,zcI,zc8,zcH,zc7,zc6,zc5,zaP,zcG,zaO,zcF,zaN,fS91,hE,hkd,har,hn,h64,Nat.not_succ_le_self]
       exact GivesL.keepX rfl rfl rfl (by simp)
 · rw [if_neg hleaf]
   have hneq:t.kind=kind→¬ t.args=[]:=fun h1 h2=>hleaf ⟨h1,h2⟩
   have hl1:(zw kind t.args L).length≤10000:=by rw[zer,if_neg hleaf]at hl0;exact hl0
   rcases L with _|⟨x,L⟩
   · have go:∀ T hs',Less 0 T hs' (mkP [(0,oV 0 (([]:List Ty).map zh)),(2,.int .i64 kind),(4,.ptr 1 0 0),(8,.int .i64 ((0:Nat):Int))]) { H:=mkP ((1,box (zh t))::oH 0 5 (([]:List Ty).map zh)),n:=2,log:=[] } →
      ∀ Q,Q (.exit 2) (mkP [(0,oV 0 ((zw kind t.args []).map zh))]) { H:=mkP (oH 0 5 ((zw kind t.args []).map zh)),n:=1,log:=[] }→Ls ρ E 0 52 (.loop zmV) T hs' Q:=fun T hs' hl Q hQ =>
      zfp (zfW (zQ hl (zh3 hρ hE hcon hc (.inl rfl) ht hd h0 hl1 hQ t.args.length 0 [] (by omega) rfl)))
     by_cases h1:t.kind=kind
     · have h2:=hneq h1
       simp[zcE,zcD,zcC,zcB,zcA,zc9,zcI,zc8,zcH,zc7,zc6,zc5,zaP,zcG,zaO,zcF,zaN,fS91,hE,h1,h2]
       refine go _ _ (Less.lit (fun k=>if k=1 then 0 else k) 2 (by simp) (by simp[h1]) rfl rfl) _ ?_
       generalize zw kind t.args []=R
       rcases R with _|⟨y,R⟩<;>simp[zcE,zcD,zcC,zcB,zcA,zc9,zcI,zc8,zcH,zc7,zc6,zc5,zaP,zcG,zaO,zcF,zaN,fS91,hE]<;>exact GivesL.keepX rfl rfl rfl (by simp)
     · simp[zcE,zcD,zcC,zcB,zcA,zc9,zcI,zc8,zcH,zc7,zc6,zc5,zaP,zcG,zaO,zcF,zaN,fS91,hE,h1]
       refine go _ _ (Less.lit (fun k=>if k=1 then 0 else k) 2 (by simp) (by simp) rfl rfl) _ ?_
       generalize zw kind t.args []=R
       rcases R with _|⟨y,R⟩<;>simp[zcE,zcD,zcC,zcB,zcA,zc9,zcI,zc8,zcH,zc7,zc6,zc5,zaP,zcG,zaO,zcF,zaN,fS91,hE]<;>exact GivesL.keepX rfl rfl rfl (by simp)
   · have hRl:=(zbx kind t.args (x::L)).1
     have go:∀ T hs',Less 1 T hs' (mkP [(0,oV 0 ((x::L).map zh)),(2,.int .i64 kind),(4,.ptr 1 0 0),(8,.int .i64 ((0:Nat):Int))]) { H:=mkP ((1,box (zh t))::oH 0 5 ((x::L).map zh)),n:=2,log:=[] } →
      ∀ Q,Q (.exit 2) (mkP [(0,oV 0 ((zw kind t.args (x::L)).map zh))]) { H:=mkP (oH 0 5 ((zw kind t.args (x::L)).map zh)),n:=1,log:=[] }→Ls ρ E 1 52 (.loop zmV) T hs' Q:=fun T hs' hl Q hQ =>
      zfp (zfW (zQ hl (zh3 hρ hE hcon hc (.inr ⟨rfl,by simp⟩) ht hd h0 hl1 hQ t.args.length 0 (x::L) (by omega) rfl)))
     by_cases h1:t.kind=kind
     · have h2:=hneq h1
       simp[zcE,zcD,zcC,zcB,zcA,zc9,zcI,zc8,zcH,zc7,zc6,zc5,zaP,zcG,zaO,zcF,zaN,fS91,hE,h1,h2]
       refine go _ _ (Less.keep 2 (by simp) (by simp[h1]) rfl rfl) _ ?_
       generalize zw kind t.args (x::L)=R at hRl
       rcases R with _|⟨y,R⟩
       · simp at hRl
       · simp[zcE,zcD,zcC,zcB,zcA,zc9,zcI,zc8,zcH,zc7,zc6,zc5,zaP,zcG,zaO,zcF,zaN,fS91,hE]
         exact GivesL.keepX rfl rfl rfl (by simp)
     · simp[zcE,zcD,zcC,zcB,zcA,zc9,zcI,zc8,zcH,zc7,zc6,zc5,zaP,zcG,zaO,zcF,zaN,fS91,hE,h1]
       refine go _ _ (Less.keep 2 (by simp) (by simp) rfl rfl) _ ?_
       generalize zw kind t.args (x::L)=R at hRl
       rcases R with _|⟨y,R⟩
       · simp at hRl
       · simp[zcE,zcD,zcC,zcB,zcA,zc9,zcI,zc8,zcH,zc7,zc6,zc5,zaP,zcG,zaO,zcF,zaN,fS91,hE]
         exact GivesL.keepX rfl rfl rfl (by simp)
end
end Go.Proofs.YthfcfmkdeheicaaGreat
namespace Go.Proofs.YthfcfmkdeheicaaGreat
open Go.J
open Go.J.Enc (enc)
set_option maxRecDepth 100000
set_option maxHeartbeats 4000000
section
variable {ρ:Nat→Value}(hρ:J.Good ρ){E:Env}(hE:E.P=Tryz.prog)(hcon:ConsOk ρ E)
include hρ hE hcon
theorem ref3_Has_loop{l:List Int}{x:Int}(h1:l.length≤1000000){Q:Ex→PT V→HS→Prop}
 (hf:x∈l→∀ T hs,T.get 4=some (.bool true)→Q .ret T hs) (ht:x ∉ l→∀ T hs,Q (.exit 0) T hs) :
 ∀ (n i:Nat),i+n=l.length→x ∉ l.take i→LsN ρ E 0 18 fS34l0 Q (n+1) (mkP [(0,.sl (l.map encI) false),(1,.int .i64 x),(5,.int .i64 (i:Int))]) { H:=mkP [],n:=0,log:=[] }:=by
 intro n
 induction n with
 | zero =>
   intro i hi he
   have hil:¬ (i:Int)<l.length:=by omega
   have e:x ∉ l:=by rw[List.take_of_length_le (by omega)]at he;exact he
   refine lp hρ hE hcon fun K hK=>?_
   simp[fS34l0,fS34r0,fS34r1,fS34r2,fS34r3,fS34r4,fS34b0,fS34r5,fS34b1,fS34r6,fS34,hE,hil]
   exact ht e _ _
 | succ n ih =>
   intro i hi he
   have hil:i<l.length:=by omega
   have hil':(i:Int)<l.length:=by omega
   have hw:IntKind.i64.wrap ((i:Int)+1)=((i+1:Nat):Int):=zq (by omega)
   have hnext:l[i]≠x→x ∉ l.take (i+1):=by
    intro h hm
    rw[List.take_add_one,List.getElem?_eq_getElem hil]at hm
    rcases List.mem_append.1 hm with hm|hm
    · exact he hm
    · exact h (List.mem_singleton.1 hm).symm
   have hmem:l[i]=x→x∈l:=fun h=>h ▸ List.getElem_mem hil
   refine lp hρ hE hcon fun K hK=>?_
   simp[fS34l0,fS34r0,fS34r1,fS34r2,fS34r3,fS34r4,fS34b0,fS34r5,fS34b1,fS34r6,fS34,hE,hil',hil]
   refine zn2 (fun h=>?_) (fun h=>?_)<;>simp[fS34r0,fS34r1,fS34r2,fS34r3,fS34r4,fS34b0,fS34r5,fS34b1,fS34r6,fS34,hE,hw,-Int.natCast_add]
   · exact hf (hmem h) _ _ (by simp)
   · exact hK _ _ (zQ (Less.keep 0 (by simp[-Int.natCast_add]) (by simp) rfl rfl) (ih (i+1) (by omega) (hnext h)))
theorem ref3_Has_run{l:List Int}{x:Int}(h1:l.length≤1000000)(hs:HS):CallOk ρ Tryz.prog 34 [enc l,enc x] hs (enc (decide (x∈l))) hs:=by
 refine fn hρ hE hcon Tryz.func34 fB34 rfl (by simp) ?_ hs
 simp[fS34r0,fS34r1,fS34r2,fS34r3,fS34r4,fS34b0,fS34r5,fS34b1,fS34r6,fS34,hE]
 refine zfW (zQ (Less.keep (TL:=[(0,.sl (l.map encI) false),(1,.int .i64 x),(5,.int .i64 ((0:Nat):Int))]) (HL:=[]) 0 (by simp) (by simp) rfl rfl) (ref3_Has_loop hρ hE hcon h1 ?_ ?_ l.length 0 (by omega) (by simp)))
 · intro h T hs hT
   simp[hT,h,hE]
 · intro h T hs
   simp[fS34r0,fS34r1,fS34r2,fS34r3,fS34r4,fS34b0,fS34r5,fS34b1,fS34r6,fS34,h,hE]
theorem zo5 {d:Nat} (hc:E.con 91=ioS 5 (ioF2 (zfx d)) kOne) {l:List Ty} (hl:Ty.oks l=true) (hll:l.length≤10000) (hd:Ty.sizes l≤d) (hd2:(zw 1 l []).length≤10000) {Q:Ex→PT V→HS→Prop}
 (hQ:Q (.exit 0) (mkP [(3,oV 0 ((zw 1 l []).map zh))]) { H:=mkP (oH 0 5 ((zw 1 l []).map zh)),n:=1,log:=[] }) :
 ∀ (n i:Nat) (L:List Ty),i+n=l.length→L=zw 1 (l.take i) []→LsN ρ E 0 42 fS33l0 (LessQ 0 Q) (n+1) (mkP [(0,.sl (l.map zh) false),(3,oV 0 (L.map zh)),(4,.int .i64 (i:Int))])
   { H:=mkP (oH 0 5 (L.map zh)),n:=1,log:=[] }:=by
 intro n
 induction n with
 | zero =>
   intro i L hi hL
   have hil:¬ (i:Int)<l.length:=by omega
   have e:L=zw 1 l []:=by rw[hL,List.take_of_length_le (by omega)]
   rw[← e]at hQ
   refine lp hρ hE hcon fun K hK=>?_
   rcases L with _|⟨x,L⟩<;>simp[fS33l0,zg9,zg8,zg7,zg6,zg5,zgD,zg4,zgC,zg3,zg2,zg1,zg0,zd1,zgB,zd0,zgA,zdz,fS33,hE,hil]<;>exact LessQ.mk (Less.keep 1 (by simp) (by simp) rfl rfl) hQ
 | succ n ih =>
   intro i L hi hL
   have hil:i<l.length:=by omega
   have hil':(i:Int)<l.length:=by omega
   have hw:IntKind.i64.wrap ((i:Int)+1)=((i+1:Nat):Int):=zq (by omega)
   have hm:=List.getElem_mem hil
   have hok:=Ty.oks_iff.1 hl _ hm
   have hLok:Ty.oks L=true:=by rw[hL];exact leavesL_ok (oks_take hl i) _ rfl
   have hlen:=zbx 1 (l.take i) []
   rw[← hL]at hlen
   have hsz:Ty.sizes (l.take i)+l[i].size≤Ty.sizes l:=by
    have:=zfi l (i+1)
    rw[List.take_add_one,List.getElem?_eq_getElem hil,ziD]at this
    simpa [Ty.sizes]using this
   have hnew:zah 1 l[i] L=zw 1 (l.take (i+1)) []:=by
    rw[List.take_add_one,List.getElem?_eq_getElem hil,Option.toList_some,zmR,hL]
   have hb:(zah 1 l[i] L).length≤10000:=by rw[hnew];exact Nat.le_trans (zoF 1 l (i+1) []) hd2
   have hF:zfx d L l[i] 1=some (zah 1 l[i] L):=by
    unfold zfx;rw[if_pos ⟨by omega,hok,hLok,hb⟩]
   have hml:=zin 1 l[i] L
   refine lp hρ hE hcon fun K hK=>?_
   generalize hR:zah 1 l[i] L=R at hF hnew hml
   rcases L with _|⟨x,L⟩
   · rcases R with _|⟨y,R⟩<;>simp[fS33l0,zg9,zg8,zg7,zg6,zg5,zgD,zg4,zgC,zg3,zg2,zg1,zg0,zd1,zgB,zd0,zgA,zdz,fS33,hE,hil,hil',hc,hw,hF,kOne,-Int.natCast_add]
     · exact hK _ _ (zQ (Less.keep 1 (by simp[-Int.natCast_add]) (by simp) rfl rfl) (ih (i+1) _ (by omega) hnew))
     · exact hK _ _ (zQ (Less.lit (fun k=>if k=0 then 12 else k) 1 (by simp[-Int.natCast_add]) (by simp) rfl rfl) (ih (i+1) _ (by omega) hnew))
   · rcases R with _|⟨y,R⟩
     · simp at hml
     · have hml0:L.length≤R.length:=by simp at hml;omega
       simp[fS33l0,zg9,zg8,zg7,zg6,zg5,zgD,zg4,zgC,zg3,zg2,zg1,zg0,zd1,zgB,zd0,zgA,zdz,fS33,hE,hil,hil',hc,hw,hF,kOne,hml0,-Int.natCast_add]
       exact hK _ _ (zQ (Less.keep 1 (by simp[-Int.natCast_add]) (by simp) rfl rfl) (ih (i+1) _ (by omega) hnew))
theorem ziG (hc:E.con 34=fnC (zD fun (l:List Int) (x:Int)=>if l.length≤1000000 then some (decide (x∈l))else none)) {F:List Ty} (hl:F.length≤10000) {Q:Ex→PT V→HS→Prop}
 (hQ:Q (.exit 2) (mkP [(5,oV 1 ((zfy F).map encI))]) { H:=mkP (oH 1 1 ((zfy F).map encI)),n:=2,log:=[] }) :
 ∀ (n i:Nat) (O:List Int),i+n=F.length→O=zfy (F.take i)→LsN ρ E 0 42 zpm (LessQ 0 Q) (n+1) (mkP [(3,oV 0 (F.map zh)),(5,oV 1 (O.map encI)),(6,.int .i64 (i:Int))])
   { H:=mkP (oH 0 5 (F.map zh)++oH 1 1 (O.map encI)),n:=2,log:=[] }:=by
 intro n
 induction n with
 | zero =>
   intro i O hi hO
   have e:O=zfy F:=by rw[hO,List.take_of_length_le (by omega)]
   rw[← e]at hQ
   refine lp hρ hE hcon fun K hK=>?_
   rcases F with _|⟨x,F⟩
   · obtain rfl:i=0:=by simpa using hi
     rcases O with _|⟨y,O⟩<;>simp[zpm,zg9,zg8,zg7,zg6,zg5,zgD,zg4,zgC,zg3,zg2,zg1,zg0,zd1,zgB,zd0,zgA,zdz,fS33,hE]<;>exact LessQ.mk (Less.keep 2 (by simp) (by simp) rfl rfl) hQ
   · have hil:¬ (i:Int)<(F.length:Int)+1:=by simp at hi;omega
     rcases O with _|⟨y,O⟩<;>simp[zpm,zg9,zg8,zg7,zg6,zg5,zgD,zg4,zgC,zg3,zg2,zg1,zg0,zd1,zgB,zd0,zgA,zdz,fS33,hE,hil]<;>exact LessQ.mk (Less.keep 2 (by simp) (by simp) rfl rfl) hQ
 | succ n ih =>
   intro i O hi hO
   have hil:i<F.length:=by omega
   have hw:IntKind.i64.wrap ((i:Int)+1)=((i+1:Nat):Int):=zq (by omega)
   have hOl:O.length≤10000:=by rw[hO];have:=idsOf_len (F.take i);rw[List.length_take]at this;omega
   have hnew:zi4 O F[i]=zfy (F.take (i+1)):=by
    rw[List.take_add_one,List.getElem?_eq_getElem hil,Option.toList_some,idsOf_snoc,hO]
   have hgi:(F.map zh)[i]?=some (zh F[i]):=by rw[List.getElem?_map,List.getElem?_eq_getElem hil];rfl
   refine lp hρ hE hcon fun K hK=>?_
   generalize F[i]=y at hnew hgi
   rcases F with _|⟨x,F⟩
   · simp at hil
   have hil2:(i:Int)<(F.length:Int)+1:=by simp at hil;omega
   have hil3:i<F.length+1:=by simpa using hil
   simp only[List.map_cons,zas]at hgi
   have hgi3:∀ h,(zh x::F.map zh)[i]'h=zh y:=fun h=>by simp only[zas];exact(List.getElem?_eq_some_iff.1 hgi).2
   simp only[zas]at hgi3
   have hd1:(i*5+2) / 5=i:=by omega
   have hd2:(i*5+2) % 5=2:=by omega
   by_cases hmem:y.id∈O
   · have hadd:zi4 O y=O:=if_pos hmem
     rw[hadd]at hnew
     rcases O with _|⟨z,O⟩
     · cases hmem
     · have hOl2:O.length+1≤1000000:=by simp at hOl;omega
       simp[zpm,zg9,zg8,zg7,zg6,zg5,zgD,zg4,zgC,zg3,zg2,zg1,zg0,zd1,zgB,zd0,zgA,zdz,fS33,hE,hil2,hil3,hc,hd1,hd2,hgi3,hmem,hw,hOl2,-Int.natCast_add,-List.mem_cons]
       exact hK _ _ (zQ (Less.keep 2 (by simp[-Int.natCast_add]) (by simp) rfl rfl) (ih (i+1) _ (by omega) hnew))
   · have hadd:zi4 O y=O++[y.id]:=if_neg hmem
     rw[hadd]at hnew
     rcases O with _|⟨z,O⟩
     · simp[zpm,zg9,zg8,zg7,zg6,zg5,zgD,zg4,zgC,zg3,zg2,zg1,zg0,zd1,zgB,zd0,zgA,zdz,fS33,hE,hil2,hil3,hc,hd1,hd2,hgi3,hw,-Int.natCast_add]
       exact hK _ _ (zQ (Less.lit (fun k=>if k=1 then 21 else k) 2 (by simp[-Int.natCast_add]) (by simp) rfl rfl) (ih (i+1) _ (by omega) hnew))
     · have hOl2:O.length+1≤1000000:=by simp at hOl;omega
       have h64:(O.length+1+1)*8≤1048576:=by simp at hOl;omega
       simp[zpm,zg9,zg8,zg7,zg6,zg5,zgD,zg4,zgC,zg3,zg2,zg1,zg0,zd1,zgB,zd0,zgA,zdz,fS33,hE,hil2,hil3,hc,hd1,hd2,hgi3,hmem,hw,hOl2,h64,Nat.not_succ_le_self,-Int.natCast_add,-List.mem_cons]
       exact hK _ _ (zQ (Less.keep 2 (by simp[-Int.natCast_add]) (by simp) rfl rfl) (ih (i+1) _ (by omega) hnew))
theorem ref3_Vars_run{d:Nat}(hcH:E.con 34=fnC (zD fun (l:List Int) (x:Int)=>if l.length≤1000000 then some (decide (x∈l))else none))(hc:E.con 91=ioS 5 (ioF2 (zfx d)) kOne){l:List Ty}(hl:Ty.oks l=true)(hll:l.length≤10000)(hd:Ty.sizes l≤d)(hd2:(zw 1 l []).length≤10000)(hs:HS):CallOk ρ Tryz.prog 33 [enc l] hs (enc (zN l)) hs:=by
 refine fn hρ hE hcon Tryz.func33 fB33 rfl (by simp) ?_ hs
 simp[zg9,zg8,zg7,zg6,zg5,zgD,zg4,zgC,zg3,zg2,zg1,zg0,zd1,zgB,zd0,zgA,zdz,fS33,hE]
 refine zfp (zfW (zQ (Less.keep (TL:=[(0,.sl (l.map zh) false),(3,oV 0 (([]:List Ty).map zh)),(4,.int .i64 ((0:Nat):Int))]) (HL:=oH 0 5 (([]:List Ty).map zh)) 1 (by simp) (by simp) rfl rfl) (zo5 hρ hE hcon hc hl hll hd hd2 ?_ l.length 0 [] (by omega) rfl)))
 have hlen:=zbx 1 l []
 unfold zN
 have hF:=hd2
 clear hd2
 generalize zw 1 l []=F at hlen hF
 rcases F with _|⟨y,F⟩
 · simp[zg9,zg8,zg7,zg6,zg5,zgD,zg4,zgC,zg3,zg2,zg1,zg0,zd1,zgB,zd0,zgA,zdz,fS33,hE]
   refine zfp (zfW (zQ (Less.keep (TL:=[(3,oV 0 (([]:List Ty).map zh)),(5,oV 1 (([]:List Int).map encI)),(6,.int .i64 ((0:Nat):Int))]) (HL:=oH 0 5 (([]:List Ty).map zh)++oH 1 1 (([]:List Int).map encI)) 2 (by simp) (by simp) rfl rfl) (ziG hρ hE hcon hcH hF ?_ 0 0 [] (by simp) rfl)))
   generalize zfy []=O
   rcases O with _|⟨z,O⟩<;>simp[zg9,zg8,zg7,zg6,zg5,zgD,zg4,zgC,zg3,zg2,zg1,zg0,zd1,zgB,zd0,zgA,zdz,fS33,hE]
 · simp[zg9,zg8,zg7,zg6,zg5,zgD,zg4,zgC,zg3,zg2,zg1,zg0,zd1,zgB,zd0,zgA,zdz,fS33,hE]
   refine zfp (zfW (zQ (Less.keep (TL:=[(3,oV 0 ((y::F).map zh)),(5,oV 1 (([]:List Int).map encI)),(6,.int .i64 ((0:Nat):Int))]) (HL:=oH 0 5 ((y::F).map zh)++oH 1 1 (([]:List Int).map encI)) 2 (by simp) (by simp) rfl rfl) (ziG hρ hE hcon hcH hF ?_ (y::F).length 0 [] (by omega) rfl)))
   generalize zfy (y::F)=O
   rcases O with _|⟨z,O⟩<;>simp[zg9,zg8,zg7,zg6,zg5,zgD,zg4,zgC,zg3,zg2,zg1,zg0,zd1,zgB,zd0,zgA,zdz,fS33,hE]
end
end Go.Proofs.YthfcfmkdeheicaaGreat
/- The contracts of small functions,joined. -/
namespace Go.Proofs.YthfcfmkdeheicaaGreat
open Go.J
open Go.J.Enc (enc)
set_option maxRecDepth 100000
set_option maxHeartbeats 1000000
theorem z8{c:Prop}{_:Decidable c}{α:Type}{x r:α}(h:(if c then some x else none)=some r):c∧x=r:=by
 split at h
 · cases h;exact⟨‹_›,rfl⟩
 · cases h
theorem fo{f:Nat}{fn:Func}{sc:SC}(hf:Tryz.prog.funcs[f]?=some fn)(hb:fn.body.bind zi=some sc):zjV Tryz.prog f:=fnOk hf (by
 cases h:fn.body with
 |none=>rw[h]at hb;cases hb
 |some c=>rfl)
abbrev EL(L:List (Nat×J.Spec)):Env:=envL Tryz.prog pol L
section
variable {ρ:Nat→Value}(hρ:J.Good ρ)
include hρ
def modS:J.Spec:=fnS (zD fun n m:Int=>if -1000000≤m∧m≤1000000 then some (modI n m)else none)
theorem vMod:Valid ρ Tryz.prog 14 modS:=v2 (fo Tryz.func14 fB14) fun a b r h hs=>by
 obtain⟨h1,rfl⟩:=z8 h
 exact make_Mod_run hρ (E:=EL []) rfl (zg valid_nil) (by omega) (by omega) hs
def fewS:J.Spec:=fnS (zan fun l:List Int=>some (decide (l.length≤60)))
theorem vFew:Valid ρ Tryz.prog 10 fewS:=v1 (fo Tryz.func10 fB10) fun a r h hs=>by
 cases h
 exact make_Few_run hρ (E:=EL []) rfl (zg valid_nil) hs
def conS:J.Spec:=fnS (zD fun (n:List Nat) (l:List Ty)=>if l.length≤10000 then some (zok n l)else none)
theorem vCon:Valid ρ Tryz.prog 61 conS:=v2 (fo Tryz.func61 fB61) fun a b r h hs=>by
 obtain⟨h1,rfl⟩:=z8 h
 exact ref3_Con_run hρ (E:=EL []) rfl (zg valid_nil) h1 hs
theorem vInt:Valid ρ Tryz.prog 49 (fnS (zlp tInt)):=v0 (fo Tryz.func49 fB49) fun hs =>
 ref3_Int_run hρ (E:=EL [(61,conS)]) rfl (zg (za (vCon hρ) valid_nil)) rfl hs
theorem vArrow:Valid ρ Tryz.prog 62 (fnS (zD fun a b:Ty=>some (zhy a b))):=v2 (fo Tryz.func62 fB62) fun a b r h hs=>by
 cases h
 exact ref3_Arrow_run hρ (E:=EL [(61,conS)]) rfl (zg (za (vCon hρ) valid_nil)) rfl hs
theorem vVar:Valid ρ Tryz.prog 52 (fnS (zan fun i:Int=>some (zA i))):=v1 (fo Tryz.func52 fB52) fun a r h hs=>by
 cases h
 exact ref3_Var_run hρ (E:=EL []) rfl (zg valid_nil) hs
theorem vRigid:Valid ρ Tryz.prog 58 (fnS (zD fun h i:Int=>some (zc3 h i))):=v2 (fo Tryz.func58 fB58) fun a b r h hs=>by
 cases h
 exact ref3_Rigid_run hρ (E:=EL []) rfl (zg valid_nil) hs
theorem vNext:Valid ρ Tryz.prog 56 (stS (stF1 zly)):=s1 (fo Tryz.func56 fB56) fun s a q h hs id hid hg=>by
 obtain⟨⟨h1,h2⟩,rfl⟩:=z8 h
 exact zl1 hρ (E:=EL [(14,modS)]) rfl (zg (za (vMod hρ) valid_nil)) rfl h1.1 h1.2 h2 hs id hid hg
theorem vEq(d:Nat):Valid ρ Tryz.prog 23 (fnS (zD (eqF d)))∧Valid ρ Tryz.prog 77 (fnS (zD (eqAllF d))):=by
 have all:∀ d,Valid ρ Tryz.prog 23 (fnS (zD (eqF d)))→Valid ρ Tryz.prog 77 (fnS (zD (eqAllF d))):=fun d hv=>v2 (fo Tryz.func77 fB77) fun a b r h hs=>by
  obtain⟨⟨h1,h2,h3⟩,rfl⟩:=z8 h
  exact zmo hρ (E:=EL [(23,fnS (zD (eqF d)))]) rfl (zg (za hv valid_nil)) rfl h1 h2 h3 hs
 have one:∀ d,Valid ρ Tryz.prog 23 (fnS (zD (eqF d))):=by
  intro d
  induction d with
  | zero =>
    refine v2 (fo Tryz.func23 fB23) fun a b r h hs=>?_
    obtain⟨⟨h1,h2⟩,rfl⟩:=z8 h
    have:=Ty.size_eq a
    omega
  | succ d ih =>
    refine v2 (fo Tryz.func23 fB23) fun a b r h hs=>?_
    obtain⟨⟨h1,h2⟩,rfl⟩:=z8 h
    exact zjF hρ (E:=EL [(77,fnS (zD (eqAllF d)))]) rfl (zg (za (all d ih) valid_nil)) rfl h1 h2 hs
 exact⟨one d,all d (one d)⟩
def zp3:J.Spec:=fnS (zD fun a b:Ty=>if a.ok=true then some (decide (a=b))else none)
theorem vEqual:Valid ρ Tryz.prog 23 zp3:=v2 (fo Tryz.func23 fB23) fun a b r h hs=>by
 obtain⟨h1,rfl⟩:=z8 h
 exact zjF hρ (E:=EL [(77,fnS (zD (eqAllF a.size)))]) rfl (zg (za (vEq hρ a.size).2 valid_nil)) rfl h1 (by omega) hs
theorem vReplace(d:Nat):Valid ρ Tryz.prog 25 (fnS (zD (replF d))):=by
 induction d with
 | zero =>
   refine v2 (fo Tryz.func25 fB25) fun a b r h hs=>?_
   obtain⟨⟨h1,h2,h3⟩,rfl⟩:=z8 h
   have:=Ty.size_eq a
   omega
 | succ d ih =>
   refine v2 (fo Tryz.func25 fB25) fun a b r h hs=>?_
   obtain⟨⟨h1,h2,h3⟩,rfl⟩:=z8 h
   exact zit hρ (E:=EL [(25,fnS (zD (replF d)))]) rfl (zg (za ih valid_nil)) rfl h1 h2 h3 hs
theorem vLeaves(d:Nat):Valid ρ Tryz.prog 91 (ioS 5 (ioF2 (zfx d)) kOne):=by
 induction d with
 | zero =>
   refine Valid.io (fo Tryz.func91 fB91) fun es vs r _ _ h0 _ _ _ hs v hv hvac=>?_
   obtain⟨l,a,b,q,rfl,rfl,h,rfl⟩:=ioF2_inv h0
   obtain⟨⟨h1,h2,h3⟩,rfl⟩:=z8 h
   have:=Ty.size_eq a
   omega
 | succ d ih =>
   refine Valid.io (fo Tryz.func91 fB91) fun es vs r _ _ h0 _ _ _ hs v hv hvac=>?_
   obtain⟨l,a,b,q,rfl,rfl,h,rfl⟩:=ioF2_inv h0
   obtain⟨⟨h1,h2,h3,h4⟩,rfl⟩:=z8 h
   exact zo4 hρ (E:=EL [(23,zp3),(91,ioS 5 (ioF2 (zfx d)) kOne)]) rfl (zg (za (vEqual hρ) (za ih valid_nil))) rfl rfl h2 h1 h3 h4 hv hvac
def hasS:J.Spec:=fnC (zD fun (l:List Int) (x:Int)=>if l.length≤1000000 then some (decide (x∈l))else none)
theorem vHas:Valid ρ Tryz.prog 34 hasS:=c2 (fo Tryz.func34 fB34) fun a b r h hs=>by
 obtain⟨h1,rfl⟩:=z8 h
 exact ref3_Has_run hρ (E:=EL []) rfl (zg valid_nil) h1 hs
def varsU:J.Spec:=fnS (zan fun l:List Ty=>if Ty.oks l=true∧l.length≤10000∧(zw 1 l []).length≤10000 then some (zN l)else none)
theorem vVarsU:Valid ρ Tryz.prog 33 varsU:=v1 (fo Tryz.func33 fB33) fun a r h hs=>by
 obtain⟨⟨h1,h2,h3⟩,rfl⟩:=z8 h
 exact ref3_Vars_run hρ (E:=EL [(34,hasS),(91,ioS 5 (ioF2 (zfx (Ty.sizes a))) kOne)]) rfl (zg (za (vHas hρ) (za (vLeaves hρ (Ty.sizes a)) valid_nil))) rfl rfl h1 h2 (Nat.le_refl _) h3 hs
end
end Go.Proofs.YthfcfmkdeheicaaGreat
