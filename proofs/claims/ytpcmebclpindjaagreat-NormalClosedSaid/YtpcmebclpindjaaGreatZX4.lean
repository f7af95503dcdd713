import Derived.Test.YtpcmebclpindjaaGreatZX3
set_option linter.all false
noncomputable section
/- law28.term: walked. -/
namespace Go.Proofs.YtpcmebclpindjaaGreat
open Go.J
open Go.J.Enc (enc)
set_option maxRecDepth 100000
set_option maxHeartbeats 4000000
section
variable {ρ:Nat->Value}(hρ:J.Good ρ)
include hρ
section
variable {E:Env}(hE:E.P=Tryz.prog)(hcon:ConsOk ρ E)
include hE hcon
theorem zeA {e:Nat} (hNx:E.con 55=stS (zkk zey)) (hT:∀ d,e=d+1->E.con 45=stS (zjj (zdp d))) {t:Tp} {D:List Decl} {N:List (List Nat)} (ht:t.ok) (hD:z94 D) (hN:N.length+200*e<=10000) (hs:HS) (id:Nat) (hid:id<hs.n) (hg:hs.H.get id=some (box (Cel.cells t))) :
 CallOk ρ Tryz.prog 45 [.ptr id 0 0,enc D,enc N,enc (e:Int)] hs (enc (zaQ e t D N).2) (hs.wr id (box (Cel.cells (zaQ e t D N).1))):=by
 have hFn:∀ (t':Tp) (n:Int),t'.ok->0<=n->n<=10000->zey t' n=some (t'.next n):=fun t' n h h1 h2=>if_pos ⟨h,by omega,by omega⟩
 have hidx:∀ (t':Tp) (n:Nat),0<n->∃ j:Nat,(t'.next n).2=(j:Int)/\j<n:=fun t' n hn=>by
  have h0:=zfK t' n;have h1:=zgX t' (n:=(n:Int)) (by omega);obtain⟨j,hj⟩:=Int.eq_ofNat_of_zero_le h0;exact⟨j,hj,by omega⟩
 rw[<- hE];refine z4e (K:=fun v hs=>GivesL 1 (enc (zaQ e t D N).2) [(0,box (Cel.cells (zaQ e t D N).1))] v hs\/GivesF 1 (enc (zaQ e t D N).2) [(0,box (Cel.cells (zaQ e t D N).1))] v hs) hρ hcon (by rw[hE];exact follows) (by rw[hE];exact named) (by rw[hE];exact Tryz.func45) zMN rfl (by simp) (by simp) (by simp) (by simp[V.in3,V.in2,V.in1]) ?_ (fun _ _ h=>h) hid hg;clear hid hg;obtain⟨k,hk,hk8⟩:∃ k:Nat,(t.next 8).2=(k:Int)/\k<8:=hidx t 8 (by omega);have ht1:=zO ht 8;have hF:=hFn t 8 ht (by omega) (by omega);have hDl:=hD.1.1;have hNl:N.length<=10000:=by omega
 generalize hR:zaQ e t D N=R
 have way:(zaQ e t D N=headM e (t.next 8).1 D N/\((((e:Int)<1)=True)\/((((e:Int)<1)=False)/\(((k:Int)<2)=False)/\(((k:Int)=2)=False))\/((((e:Int)<1)=False)/\(((k:Int)<2)=False)/\(((k:Int)=2)=True)/\¬ (D≠[]/\N≠[])))) \/
  (∃ d,e=d+1/\(((k:Int)<2)=True))\/(∃ d,e=d+1/\k=2/\D≠[]/\N≠[]):=by
  cases e with
  |zero=>exact .inl ⟨by rw[zaQ],.inl (by simp)⟩
  | succ d =>
    have h1:((((d+1:Nat):Int))<1)=False:=eq_false (by omega);by_cases h2:(k:Int)<2
    . exact .inr (.inl ⟨d,rfl,eq_true h2⟩)
    . by_cases h4:(k:Int)=2/\D≠[]/\N≠[]
      . exact .inr (.inr ⟨d,rfl,by omega,h4.2.1,h4.2.2⟩)
      . refine .inl ⟨?_,.inr ?_⟩
        . rw[zaQ];simp only[hk];rw[if_neg h2,if_neg h4]
        . by_cases h3:(k:Int)=2
          . exact .inr ⟨h1,eq_false h2,eq_true h3,fun h=>h4 ⟨h3,h⟩⟩
          . exact .inl ⟨h1,eq_false h2,eq_false h3⟩
 rcases hq:t.next 8 with⟨t1,k'⟩;simp only[hq]at hk ht1 hF way;subst hk;rcases way with⟨hw,hx⟩|⟨d,rfl,hk⟩|⟨d,rfl,rfl,hD0,hN0⟩
 . by_cases hN0:N=[]
   . subst hN0;by_cases hD0:D=[]
     . subst hD0;have hP:zdN t1 [] []=(t1,false,[120]):=by simp[zdN]
       obtain⟨m,hm,hm3⟩:∃ m:Nat,(Tp.next t1 3).2=(m:Int)/\m<3:=hidx t1 3 (by omega);have hF3:=hFn t1 3 ht1 (by omega) (by omega);have ht3:=zO ht1 3;rcases hq3:Tp.next t1 3 with⟨t3,k3⟩;simp only[hq3]at hm hF3 ht3;subst hm;have hH:headM e t1 [] []=zuS e t3 [] [] (zgi false ([120])) m:=by rw[zc2,hP];simp only[hq3,Int.toNat_natCast]
       rcases hx with he|⟨he,hk,hk'⟩|⟨he,hk,hk',hor⟩
       all_goals first|simp [hE,hNx,hF,hF3,he,hk,hk',-Int.natCast_add]|simp [hE,hNx,hF,hF3,he,-Int.natCast_add]
       all_goals refine zes hρ hE hcon (e:=e) (b:=false) (n:=[120]) hT ht3 hD hN (m:=m) (by omega) (Less.auto (by simp[-Int.natCast_add]) (by simp[zV,zfE]) (by simp[zV,zfE]) rfl) ?_
       all_goals rw[<- hH,<- hw,hR]
       all_goals rintro c' ⟨hl,hp,hn⟩
       all_goals obtain⟨x0,x1,x2,x3,x4,x5,x6,x7,x8,x9,x10,rfl⟩:=eleven hl
       all_goals simp at hp
       all_goals obtain⟨p0,p1,p2,p3,p4,p5,p6,p7,p8,p9,p10⟩:=hp
       all_goals simp [hE,zV,zQ p0,zQ p1,zQ p2,zQ p3,zQ p4,zQ p5,zQ p6,zQ p7,zQ p8,zQ p9,zQ p10]
       all_goals exact .inl (GivesL.keep rfl rfl (by simpa [zam R.2]using hn) (by simp[zbs p0,zbs p1,zbs p2,zbs p3,zbs p4,zbs p5,zbs p6,zbs p7,zbs p8,zbs p9,zbs p10]) (by simp))
     . have hDp:0<D.length:=List.length_pos_iff.2 hD0;have hF2:=hFn t1 2 ht1 (by omega) (by omega);have ht2:=zO ht1 2;rcases hq2:Tp.next t1 2 with⟨t2,k2⟩;simp only[hq2]at hF2 ht2;by_cases hz:k2=0
       . subst hz;obtain⟨jd,hjd,hjd2⟩:=hidx t2 D.length (List.length_pos_iff.2 hD0);have hFD:=hFn t2 D.length ht2 (by omega) (by omega);have htD:=zO ht2 D.length;have hjd3:(jd:Int)<D.length:=by omega
         rcases hqD:t2.next D.length with⟨tD,kD⟩;simp only[hqD]at hjd hFD htD;subst hjd;obtain⟨hc0,hc1,_⟩:=hD.2 _ (List.getElem_mem hjd2);have hcp:=List.length_pos_iff.2 hc0;obtain⟨jc,hjc,hjc2⟩:=hidx tD D[jd].ctors.length hcp;have hFC:=hFn tD D[jd].ctors.length htD (by omega) (by omega);have htC:=zO htD D[jd].ctors.length;have hjc3:(jc:Int)<D[jd].ctors.length:=by omega
         rcases hqC:tD.next D[jd].ctors.length with⟨tC,kC⟩;simp only[hqC]at hjc hFC htC;subst hjc;have m1:jd*4 / 4=jd:=by omega
         have m2:jd*4 % 4=0:=by omega
         have m3:jc*3 / 3=jc:=by omega
         have m4:jc*3 % 3=0:=by omega
         have hP:zdN t1 D []=(tC,true,D[jd].ctors[jc].name):=by simp[zdN,hD0,hq2,hqD,zdu hjd2,hqC,zdu hjc2]
         obtain⟨m,hm,hm3⟩:∃ m:Nat,(Tp.next tC 3).2=(m:Int)/\m<3:=hidx tC 3 (by omega);have hF3:=hFn tC 3 htC (by omega) (by omega);have ht3:=zO htC 3;rcases hq3:Tp.next tC 3 with⟨t3,k3⟩;simp only[hq3]at hm hF3 ht3;subst hm;have hH:headM e t1 D []=zuS e t3 D [] (zgi true (D[jd].ctors[jc].name)) m:=by rw[zc2,hP];simp only[hq3,Int.toNat_natCast]
         rcases hx with he|⟨he,hk,hk'⟩|⟨he,hk,hk',hor⟩
         all_goals first|simp [hE,hNx,hF,hDp,hF2,hjd2,hjd3,hFD,hFC,hjc2,hjc3,m1,m2,m3,m4,zq,zay,hF3,he,hk,hk',-Int.natCast_add]|simp [hE,hNx,hF,hDp,hF2,hjd2,hjd3,hFD,hFC,hjc2,hjc3,m1,m2,m3,m4,zq,zay,hF3,he,-Int.natCast_add]
         all_goals refine zes hρ hE hcon (e:=e) (b:=true) (n:=D[jd].ctors[jc].name) hT ht3 hD hN (m:=m) (by omega) (Less.auto (by simp[-Int.natCast_add]) (by simp[zV,zfE]) (by simp[zV,zfE]) rfl) ?_
         all_goals rw[<- hH,<- hw,hR]
         all_goals rintro c' ⟨hl,hp,hn⟩
         all_goals obtain⟨x0,x1,x2,x3,x4,x5,x6,x7,x8,x9,x10,rfl⟩:=eleven hl
         all_goals simp at hp
         all_goals obtain⟨p0,p1,p2,p3,p4,p5,p6,p7,p8,p9,p10⟩:=hp
         all_goals simp [hE,zV,zQ p0,zQ p1,zQ p2,zQ p3,zQ p4,zQ p5,zQ p6,zQ p7,zQ p8,zQ p9,zQ p10]
         all_goals exact .inl (GivesL.keep rfl rfl (by simpa [zam R.2]using hn) (by simp[zbs p0,zbs p1,zbs p2,zbs p3,zbs p4,zbs p5,zbs p6,zbs p7,zbs p8,zbs p9,zbs p10]) (by simp))
       . have hP:zdN t1 D []=(t2,false,[120]):=by simp[zdN,hD0,hq2,hz]
         obtain⟨m,hm,hm3⟩:∃ m:Nat,(Tp.next t2 3).2=(m:Int)/\m<3:=hidx t2 3 (by omega);have hF3:=hFn t2 3 ht2 (by omega) (by omega);have ht3:=zO ht2 3;rcases hq3:Tp.next t2 3 with⟨t3,k3⟩;simp only[hq3]at hm hF3 ht3;subst hm;have hH:headM e t1 D []=zuS e t3 D [] (zgi false ([120])) m:=by rw[zc2,hP];simp only[hq3,Int.toNat_natCast]
         rcases hx with he|⟨he,hk,hk'⟩|⟨he,hk,hk',hor⟩
         all_goals first|simp [hE,hNx,hF,hDp,hF2,hz,hF3,he,hk,hk',-Int.natCast_add]|simp [hE,hNx,hF,hDp,hF2,hz,hF3,he,-Int.natCast_add]
         all_goals refine zes hρ hE hcon (e:=e) (b:=false) (n:=[120]) hT ht3 hD hN (m:=m) (by omega) (Less.auto (by simp[-Int.natCast_add]) (by simp[zV,zfE]) (by simp[zV,zfE]) rfl) ?_
         all_goals rw[<- hH,<- hw,hR]
         all_goals rintro c' ⟨hl,hp,hn⟩
         all_goals obtain⟨x0,x1,x2,x3,x4,x5,x6,x7,x8,x9,x10,rfl⟩:=eleven hl
         all_goals simp at hp
         all_goals obtain⟨p0,p1,p2,p3,p4,p5,p6,p7,p8,p9,p10⟩:=hp
         all_goals simp [hE,zV,zQ p0,zQ p1,zQ p2,zQ p3,zQ p4,zQ p5,zQ p6,zQ p7,zQ p8,zQ p9,zQ p10]
         all_goals exact .inl (GivesL.keep rfl rfl (by simpa [zam R.2]using hn) (by simp[zbs p0,zbs p1,zbs p2,zbs p3,zbs p4,zbs p5,zbs p6,zbs p7,zbs p8,zbs p9,zbs p10]) (by simp))
   . have hNp:0<N.length:=List.length_pos_iff.2 hN0;by_cases hD0:D=[]
     . subst hD0;obtain⟨jn,hjn,hjn2⟩:=hidx t1 N.length (List.length_pos_iff.2 hN0);have hFN:=hFn t1 N.length ht1 (by omega) (by omega);have htN:=zO ht1 N.length;have hjn3:(jn:Int)<N.length:=by omega
       rcases hqN:t1.next N.length with⟨tN,kN⟩;simp only[hqN]at hjn hFN htN;subst hjn;have hP:zdN t1 [] N=(tN,false,N[jn]):=by simp[zdN,hN0,hqN,zdu hjn2]
       obtain⟨m,hm,hm3⟩:∃ m:Nat,(Tp.next tN 3).2=(m:Int)/\m<3:=hidx tN 3 (by omega);have hF3:=hFn tN 3 htN (by omega) (by omega);have ht3:=zO htN 3;rcases hq3:Tp.next tN 3 with⟨t3,k3⟩;simp only[hq3]at hm hF3 ht3;subst hm;have hH:headM e t1 [] N=zuS e t3 [] N (zgi false (N[jn])) m:=by rw[zc2,hP];simp only[hq3,Int.toNat_natCast]
       rcases hx with he|⟨he,hk,hk'⟩|⟨he,hk,hk',hor⟩
       all_goals first|simp [hE,hNx,hF,hNp,hFN,hjn2,hjn3,hF3,he,hk,hk',-Int.natCast_add]|simp [hE,hNx,hF,hNp,hFN,hjn2,hjn3,hF3,he,-Int.natCast_add]
       all_goals refine zes hρ hE hcon (e:=e) (b:=false) (n:=N[jn]) hT ht3 hD hN (m:=m) (by omega) (Less.auto (by simp[-Int.natCast_add]) (by simp[zV,zfE]) (by simp[zV,zfE]) rfl) ?_
       all_goals rw[<- hH,<- hw,hR]
       all_goals rintro c' ⟨hl,hp,hn⟩
       all_goals obtain⟨x0,x1,x2,x3,x4,x5,x6,x7,x8,x9,x10,rfl⟩:=eleven hl
       all_goals simp at hp
       all_goals obtain⟨p0,p1,p2,p3,p4,p5,p6,p7,p8,p9,p10⟩:=hp
       all_goals simp [hE,zV,zQ p0,zQ p1,zQ p2,zQ p3,zQ p4,zQ p5,zQ p6,zQ p7,zQ p8,zQ p9,zQ p10]
       all_goals exact .inl (GivesL.keep rfl rfl (by simpa [zam R.2]using hn) (by simp[zbs p0,zbs p1,zbs p2,zbs p3,zbs p4,zbs p5,zbs p6,zbs p7,zbs p8,zbs p9,zbs p10]) (by simp))
     . have hDp:0<D.length:=List.length_pos_iff.2 hD0;obtain⟨jn,hjn,hjn2⟩:=hidx t1 N.length (List.length_pos_iff.2 hN0);have hFN:=hFn t1 N.length ht1 (by omega) (by omega);have htN:=zO ht1 N.length;have hjn3:(jn:Int)<N.length:=by omega
       rcases hqN:t1.next N.length with⟨tN,kN⟩;simp only[hqN]at hjn hFN htN;subst hjn;have hF2:=hFn tN 2 htN (by omega) (by omega);have ht2:=zO htN 2;rcases hq2:Tp.next tN 2 with⟨t2,k2⟩;simp only[hq2]at hF2 ht2;by_cases hz:k2=0
       . subst hz;obtain⟨jd,hjd,hjd2⟩:=hidx t2 D.length (List.length_pos_iff.2 hD0);have hFD:=hFn t2 D.length ht2 (by omega) (by omega);have htD:=zO ht2 D.length;have hjd3:(jd:Int)<D.length:=by omega
         rcases hqD:t2.next D.length with⟨tD,kD⟩;simp only[hqD]at hjd hFD htD;subst hjd;obtain⟨hc0,hc1,_⟩:=hD.2 _ (List.getElem_mem hjd2);have hcp:=List.length_pos_iff.2 hc0;obtain⟨jc,hjc,hjc2⟩:=hidx tD D[jd].ctors.length hcp;have hFC:=hFn tD D[jd].ctors.length htD (by omega) (by omega);have htC:=zO htD D[jd].ctors.length;have hjc3:(jc:Int)<D[jd].ctors.length:=by omega
         rcases hqC:tD.next D[jd].ctors.length with⟨tC,kC⟩;simp only[hqC]at hjc hFC htC;subst hjc;have m1:jd*4 / 4=jd:=by omega
         have m2:jd*4 % 4=0:=by omega
         have m3:jc*3 / 3=jc:=by omega
         have m4:jc*3 % 3=0:=by omega
         have hP:zdN t1 D N=(tC,true,D[jd].ctors[jc].name):=by simp[zdN,hN0,hqN,zdu hjn2,hD0,hq2,hqD,zdu hjd2,hqC,zdu hjc2]
         obtain⟨m,hm,hm3⟩:∃ m:Nat,(Tp.next tC 3).2=(m:Int)/\m<3:=hidx tC 3 (by omega);have hF3:=hFn tC 3 htC (by omega) (by omega);have ht3:=zO htC 3;rcases hq3:Tp.next tC 3 with⟨t3,k3⟩;simp only[hq3]at hm hF3 ht3;subst hm;have hH:headM e t1 D N=zuS e t3 D N (zgi true (D[jd].ctors[jc].name)) m:=by rw[zc2,hP];simp only[hq3,Int.toNat_natCast]
         rcases hx with he|⟨he,hk,hk'⟩|⟨he,hk,hk',hor⟩<;>first|exact absurd ⟨hD0,hN0⟩ hor|skip
         all_goals first|simp [hE,hNx,hF,hNp,hFN,hjn2,hjn3,hDp,hF2,hjd2,hjd3,hFD,hFC,hjc2,hjc3,m1,m2,m3,m4,zq,zay,hF3,he,hk,hk',-Int.natCast_add]|simp [hE,hNx,hF,hNp,hFN,hjn2,hjn3,hDp,hF2,hjd2,hjd3,hFD,hFC,hjc2,hjc3,m1,m2,m3,m4,zq,zay,hF3,he,-Int.natCast_add]
         all_goals refine zes hρ hE hcon (e:=e) (b:=true) (n:=D[jd].ctors[jc].name) hT ht3 hD hN (m:=m) (by omega) (Less.auto (by simp[-Int.natCast_add]) (by simp[zV,zfE]) (by simp[zV,zfE]) rfl) ?_
         all_goals rw[<- hH,<- hw,hR]
         all_goals rintro c' ⟨hl,hp,hn⟩
         all_goals obtain⟨x0,x1,x2,x3,x4,x5,x6,x7,x8,x9,x10,rfl⟩:=eleven hl
         all_goals simp at hp
         all_goals obtain⟨p0,p1,p2,p3,p4,p5,p6,p7,p8,p9,p10⟩:=hp
         all_goals simp [hE,zV,zQ p0,zQ p1,zQ p2,zQ p3,zQ p4,zQ p5,zQ p6,zQ p7,zQ p8,zQ p9,zQ p10]
         all_goals exact .inl (GivesL.keep rfl rfl (by simpa [zam R.2]using hn) (by simp[zbs p0,zbs p1,zbs p2,zbs p3,zbs p4,zbs p5,zbs p6,zbs p7,zbs p8,zbs p9,zbs p10]) (by simp))
       . have hP:zdN t1 D N=(t2,false,N[jn]):=by simp[zdN,hN0,hqN,zdu hjn2,hD0,hq2,hz]
         obtain⟨m,hm,hm3⟩:∃ m:Nat,(Tp.next t2 3).2=(m:Int)/\m<3:=hidx t2 3 (by omega);have hF3:=hFn t2 3 ht2 (by omega) (by omega);have ht3:=zO ht2 3;rcases hq3:Tp.next t2 3 with⟨t3,k3⟩;simp only[hq3]at hm hF3 ht3;subst hm;have hH:headM e t1 D N=zuS e t3 D N (zgi false (N[jn])) m:=by rw[zc2,hP];simp only[hq3,Int.toNat_natCast]
         rcases hx with he|⟨he,hk,hk'⟩|⟨he,hk,hk',hor⟩<;>first|exact absurd ⟨hD0,hN0⟩ hor|skip
         all_goals first|simp [hE,hNx,hF,hNp,hFN,hjn2,hjn3,hDp,hF2,hz,hF3,he,hk,hk',-Int.natCast_add]|simp [hE,hNx,hF,hNp,hFN,hjn2,hjn3,hDp,hF2,hz,hF3,he,-Int.natCast_add]
         all_goals refine zes hρ hE hcon (e:=e) (b:=false) (n:=N[jn]) hT ht3 hD hN (m:=m) (by omega) (Less.auto (by simp[-Int.natCast_add]) (by simp[zV,zfE]) (by simp[zV,zfE]) rfl) ?_
         all_goals rw[<- hH,<- hw,hR]
         all_goals rintro c' ⟨hl,hp,hn⟩
         all_goals obtain⟨x0,x1,x2,x3,x4,x5,x6,x7,x8,x9,x10,rfl⟩:=eleven hl
         all_goals simp at hp
         all_goals obtain⟨p0,p1,p2,p3,p4,p5,p6,p7,p8,p9,p10⟩:=hp
         all_goals simp [hE,zV,zQ p0,zQ p1,zQ p2,zQ p3,zQ p4,zQ p5,zQ p6,zQ p7,zQ p8,zQ p9,zQ p10]
         all_goals exact .inl (GivesL.keep rfl rfl (by simpa [zam R.2]using hn) (by simp[zbs p0,zbs p1,zbs p2,zbs p3,zbs p4,zbs p5,zbs p6,zbs p7,zbs p8,zbs p9,zbs p10]) (by simp))
 . have hdN:N.length+1+200*d<=10000:=by omega
   have h1f:((((d+1:Nat):Int))<1)=False:=eq_false (by omega);have hw3:IntKind.i64.wrap (((d+1:Nat):Int)-1)=(d:Int):=by rw[wrap_i64 (by omega) (by omega)];omega
   have hF1:zdp d t1 D (N++[[119]]) (d:Int)=some (zaQ d t1 D (N++[[119]])):=by
    unfold zdp;rw[if_pos ⟨ht1,hD,by simp;omega,by omega,by omega⟩];rfl
   have hR2:R=((zaQ d t1 D (N++[[119]])).1,zDL [119] (zaQ d t1 D (N++[[119]])).2):=by
    rw[<- hR,zaQ,hq];simp only[];rw[if_pos (of_eq_true hk)]
   rcases hq1:zaQ d t1 D (N++[[119]])with⟨t2,y⟩;rw[hq1]at hF1 hR2;subst hR2;have hT1:=hT d rfl;rcases N with _|⟨n0,N⟩
   . simp at hF1;simp [hE,hNx,hF,h1f,hk,hw3,hT1,hF1,-Int.natCast_add];exact .inl (GivesL.keep rfl rfl (by simp[zDL,zam,ty0]) (by simp) (by simp))
   . have g1:(N.length+1)*16<=1048576:=by simp at hdN;omega
     have g2:(N.length+1+1)*16<=1048576:=by simp at hdN;omega
     simp at hF1;simp [hE,hNx,hF,h1f,hk,hw3,hT1,hF1,g1,g2,Nat.not_succ_le_self,-Int.natCast_add];exact .inl (GivesL.keep rfl rfl (by simp[zDL,zam,ty0]) (by simp) (by simp))
 . have h1f:((((d+1:Nat):Int))<1)=False:=eq_false (by omega);have hDp:=List.length_pos_iff.2 hD0;have hNp:=List.length_pos_iff.2 hN0;obtain⟨jd,hjd,hjd2⟩:=hidx t1 D.length hDp;have hFD:=hFn t1 D.length ht1 (by omega) (by omega);have htD:=zO ht1 D.length;have hjd3:(jd:Int)<D.length:=by omega
   rcases hqD:t1.next D.length with⟨tD,kD⟩;simp only[hqD]at hjd hFD htD;subst hjd;obtain⟨jn,hjn,hjn2⟩:=hidx tD N.length hNp;have hFN:=hFn tD N.length htD (by omega) (by omega);have htN:=zO htD N.length;have hjn3:(jn:Int)<N.length:=by omega
   rcases hqN:tD.next N.length with⟨tN,kN⟩;simp only[hqN]at hjn hFN htN;subst hjn;obtain⟨hc0,hc1,hc2⟩:=hD.2 _ (List.getElem_mem hjd2);have m1:jd*4 / 4=jd:=by omega
   have m2:jd*4 % 4=0:=by omega
   have hR2:R=((zd1 d tN D N D[jd].ctors D[jd].ctors.length).1,zvS (zv6 N[jn]) (zd1 d tN D N D[jd].ctors D[jd].ctors.length).2):=by
    rw[<- hR,zaQ,hq];simp only[];rw[if_neg (by decide),if_pos ⟨rfl,hD0,hN0⟩];simp only[hqD,zdu hjd2,hqN,zdu hjn2]
   subst hR2;generalize hdd:D[jd]=dd at hc0 hc1 hc2 ⊢;have hT1:=hT d rfl;simp [hE,hNx,hF,h1f,hDp,hNp,hFD,hjd2,hjd3,hFN,hjn2,hjn3,m1,m2,hdd,-Int.natCast_add];refine zqg hρ hE hcon (d:=d) (t:=tN) (dd:=dd) (k:=zfE 1 N[jn]) hT1 htN hD hN hN0 hc1 hc2 (Less.auto (by simp[zV,zfE,-Int.natCast_add]) (by simp[zV,zfE,zq]) (by simp[zV,zfE]) rfl) ?_;intro A hA hn;generalize zd1 d tN D N dd.ctors dd.ctors.length=R at hn ⊢;rcases A with _|⟨a,A⟩
   . have hn0:R.2=[]:=by simpa using hn.symm
     simp [hE,zV];exact .inl (GivesL.keep rfl rfl (by simp[zvS,zv6,zam,ty0,zfE,hn0]) (by simp) (by simp))
   . have hv:zG [zfE 1 N[jn]]=[zb0 (zv6 N[jn])]:=by simp[zfE,zv6,zam,ty0]
     simp [hE,zV];refine .inr (GivesF.keep rfl rfl ?_ (by simp[ownB]));simp[zaP,zvS,zam (.mk 8 _ _ _ _ _ _),ty0,hv];simpa using hn
end
theorem zGX (d:Nat):Valid ρ Tryz.prog 45 (stS (zjj (zdp d))):=by
 induction d using Nat.strongRecOn with
 | _ d ih =>
   refine s3 (fo Tryz.func45 zMN) fun s a b c q h hs id hid hg=>?_
   unfold zdp at h;obtain⟨⟨h1,h2,h3,h4,h5⟩,rfl⟩:=zo h;obtain⟨e,rfl⟩:=Int.eq_ofNat_of_zero_le h4;rw[Int.toNat_natCast]at h3 ⊢
   cases e with
   |zero=>exact zeA hρ (E:=EL [(55,stS (zkk zey))]) rfl (zf (za (zpV hρ) valid_nil)) (e:=0) rfl (fun d h=>by omega) h1 h2 h3 hs id hid hg
   | succ e =>
     exact zeA hρ (E:=EL [(55,stS (zkk zey)),(45,stS (zjj (zdp e)))]) rfl (zf (za (zpV hρ) (za (ih e (by omega)) valid_nil))) (e:=e+1) rfl (fun d' h=>by
      obtain rfl:e=d':=by omega
      rfl) h1 h2 h3 hs id hid hg
end
end Go.Proofs.YtpcmebclpindjaaGreat
