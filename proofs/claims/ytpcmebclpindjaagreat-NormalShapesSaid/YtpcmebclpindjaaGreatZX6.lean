import Derived.Test.YtpcmebclpindjaaGreatZX5
import Derived.Test.YtpcmebclpindjaaGreatJHa
set_option linter.all false
noncomputable section
/- Tape.Raw: its loop of arms. -/
namespace Go.Proofs.YtpcmebclpindjaaGreat
open Go.J
open Go.J.Enc (enc)
set_option maxRecDepth 100000
set_option maxHeartbeats 4000000
section
variable {ρ:Nat->Value}(hρ:J.Good ρ)
include hρ
section
variable {E:Env}(hE:E.P=Tryz.prog)(hcon:ConsOk ρ E)
include hE hcon
theorem zsw{d:Nat}(hVn:E.con 65=zak)(hT:E.con 38=stS (zr1 (zmx d))){t:Tp}{D:List Decl}{dd:Decl}{k:List V}(ht:t.ok)(hD:zrx D)(hD3:z1a D)(hd50:d<=1000)(hc1:dd.ctors.length<=100)(hc2:∀ c∈dd.ctors,c.fields.length<=100)
 {T:PT V} {hs:HS} {Q:Ex->PT V->HS->Prop}
 (h0:Less 1 T hs (mkP [(0,.ptr 0 0 0),(1,.sl (D.map zg) false),(2,.int .i64 ((d+1:Nat):Int)),(6,.ptr 1 0 0),(13,.ptr 2 0 0),(14,.ptr 3 0 0),(15,.int .i64 ((0:Nat):Int))]) { H:=mkP ([(0,box (Cel.cells t)),(1,.arr 11 0 [zt] true false false),(2,box (zg dd)),(3,.arr 11 0 [[.int .i64 8,.int .i64 0,.str [],.int .i64 0,.sl [k] true,oV 4 [],.int .i64 0,.str [],.int .i64 0,.int .i64 0,.snil]] true false false)]++oH 4 14 []),n:=5,log:=[] })
 (hQ:∀ A,(A.all fun r=>r.all V.pure2)=true->zH A=((zaK (fun t=>zby d t D) t dd.ctors dd.ctors.length).2.map zb6)->Q (.exit 1) (mkP [(6,.ptr 1 0 0),(14,.ptr 3 0 0)]) { H:=mkP ([(0,box (Cel.cells (zaK (fun t=>zby d t D) t dd.ctors dd.ctors.length).1)),(1,.arr 11 0 [zt] true false false),(3,.arr 11 0 [[.int .i64 8,.int .i64 0,.str [],.int .i64 0,.sl [k] true,oV 4 A,.int .i64 0,.str [],.int .i64 0,.int .i64 0,.snil]] true false false)]++oH 4 14 A),n:=5,log:=[] }) :
 Ls ρ E 1 202 (.loop zhC) T hs Q:=by
 refine lpi hρ hE hcon dd.ctors.length (nn:=5) (fun i (S:Tp×List (List V))=>[(0,.ptr 0 0 0),(1,.sl (D.map zg) false),(2,.int .i64 ((d+1:Nat):Int)),(6,.ptr 1 0 0),(13,.ptr 2 0 0),(14,.ptr 3 0 0),(15,.int .i64 (i:Int))])
  (fun i S=>[(0,box (Cel.cells S.1)),(1,.arr 11 0 [zt] true false false),(2,box (zg dd)),(3,.arr 11 0 [[.int .i64 8,.int .i64 0,.str [],.int .i64 0,.sl [k] true,oV 4 S.2,.int .i64 0,.str [],.int .i64 0,.int .i64 0,.snil]] true false false)]++oH 4 14 S.2) (fun i S=>S.1=(zaK (fun t=>zby d t D) t dd.ctors i).1/\(S.2.all fun r=>r.all V.pure2)=true/\zH S.2=((zaK (fun t=>zby d t D) t dd.ctors i).2.map zb6)) (t,[]) (by simpa using h0) ⟨by rw[zaK],rfl,by rw[zaK];rfl⟩ ?_ ?_
 . rintro ⟨u,A⟩ ⟨h1,h2,h3⟩ K;simp only at h1 h2 h3;have hq:=hQ A h2 h3;rw[<- h1]at hq;have hA':∀ a B,A=a::B->(a.all V.pure2)=true/\(B.all fun r=>r.all V.pure2)=true:=by rintro a B rfl;simpa using h2
   rcases A with _|⟨a,A⟩<;>simp [zhC,hE]
   all_goals exact LessQ.mk (Less.auto (by simp[zt]) (by first|(simp[zt,zg];done)|simp[zt,zg,zc7 (hA' _ _ rfl).1,zaj (hA' _ _ rfl).2,(hA' _ _ rfl).1,(hA' _ _ rfl).2]) (by simp[zt]) rfl) hq
 . rintro i ⟨u,A⟩ hi ⟨h1,h2,h3⟩ K hK;simp only at h1 h2 h3;have hi':(i:Int)<dd.ctors.length:=by omega
   have hw2:IntKind.i64.wrap ((i:Int)+1)=((i+1:Nat):Int):=zC (by omega);have hw3:IntKind.i64.wrap (((d+1:Nat):Int)-1)=(d:Int):=by rw[wrap_i64 (by omega) (by omega)];omega
   have hd3:i*3 / 3=i:=by omega
   have hr3:i*3 % 3=0:=by omega
   have hnf:=hc2 _ (List.getElem_mem hi);have hok:=zhz (F:=fun t=>zby d t D) (fun t h=>zef D d t h) ht dd.ctors i;have hu:u.ok:=by rw[h1];exact hok.1
   obtain⟨hv1,hv2⟩:=zeV hu dd.ctors[i].fields.length
   have hF:zmx d (zaV u dd.ctors[i].fields.length).1 D (d:Int)=some (zby d (zaV u dd.ctors[i].fields.length).1 D):=by
    unfold zmx;rw[if_pos ⟨hv1,hD,hD3,by omega,by omega⟩];rfl
   have hap:zaK (fun t=>zby d t D) t dd.ctors (i+1)=((zby d (zaV u dd.ctors[i].fields.length).1 D).1,(zaK (fun t=>zby d t D) t dd.ctors i).2++[.mk 0 dd.ctors[i].name (zaV u dd.ctors[i].fields.length).2 (zby d (zaV u dd.ctors[i].fields.length).1 D).2]):=by
    rw[h1,zaK,List.getElem?_eq_getElem hi];rfl
   have hlA:A.length<=100:=by
    have e1:=congrArg List.length h3;rw[List.length_map,hok.2,zb1,List.length_map]at e1;omega
   generalize (zaK (fun t=>zby d t D) t dd.ctors i).2=B at h3 hap;have hA':∀ a B,A=a::B->(a.all V.pure2)=true/\(B.all fun r=>r.all V.pure2)=true:=by rintro a B rfl;simpa using h2
   rcases hrv:zaV u dd.ctors[i].fields.length with⟨u1,vs⟩;rw[hrv]at hF hap hv1 hv2;simp only at hF hap hv1 hv2;rcases hq:zby d u1 D with⟨u2,y⟩;rw[hq]at hF hap;have k1:∀ a B,A=a::B->(B.length+1+1)*200<=1048576:=by rintro a B rfl;simp at hlA;omega
   have hnew:=hK (u2,A++[.int .i64 0::.str dd.ctors[i].name::zlB vs::zI y]) (by
    refine⟨by rw[hap],?_,?_⟩
    . rw[List.all_append,h2];cases vs<;>simp[zy,zlB]
    . rw[hap,List.map_append,<- h3,zb1,zb1,List.map_append];cases vs<;>simp[zlB,zg4,zy y])
   clear h0 hQ hK hap h3;rcases A with _|⟨a,A⟩
   all_goals simp [zhC,hE,hi,hi',hd3,hr3,zab,-Int.natCast_add]
   all_goals refine zsv hρ hE hcon (d:=d) hVn (t:=u) (D:=D) (k:=k) (con:=dd.ctors[i].name) hu hi h2 hnf (Less.auto (by simp[zt,-Int.natCast_add]) (by first|(simp[zt,zg];done)|simp[zt,zg,zc7 (hA' _ _ rfl).1,zaj (hA' _ _ rfl).2,(hA' _ _ rfl).1,(hA' _ _ rfl).2]) (by simp[zt]) rfl) ?_
   all_goals rw[hrv]
   all_goals simp only[]
   all_goals rcases vs with _|⟨v,vs⟩
   all_goals first
    |simp [zhC,hE,hi,hi',hd3,hr3,hw3,hw2,hT,hF,k1 _ _ rfl,Nat.not_succ_le_self,-Int.natCast_add]
    |simp [zhC,hE,hi,hi',hd3,hr3,hw3,hw2,hT,hF,-Int.natCast_add]
   all_goals exact hnew _ _ (Less.auto (by simp[zt,zlB,zy,-Int.natCast_add]) (by first|(simp[zt,zg,zlB,zy];done)|simp[zt,zg,zlB,zy,zc7 (hA' _ _ rfl).1,zaj (hA' _ _ rfl).2,(hA' _ _ rfl).1,(hA' _ _ rfl).2]) (by simp[zt,zlB,zy]) rfl)
end
end
end Go.Proofs.YtpcmebclpindjaaGreat
/- Tape.Raw: walked. -/
namespace Go.Proofs.YtpcmebclpindjaaGreat
open Go.J
open Go.J.Enc (enc)
set_option maxRecDepth 100000
set_option maxHeartbeats 1000000
section
variable {ρ:Nat->Value}(hρ:J.Good ρ)
include hρ
section
variable {E:Env}(hE:E.P=Tryz.prog)(hcon:ConsOk ρ E)
include hE hcon
theorem zcK {e:Nat} (hNx:E.con 55=stS (zht zcJ)) (hVn:E.con 65=zak) (hTy:E.con 15=stS (zhs (zer 2))) (hT:∀ d,e=d+1->E.con 38=stS (zr1 (zmx d)))
 {t:Tp} {D:List Decl} (ht:t.ok) (hD:zrx D) (hD3:z1a D) (he5:e<=500) (hs:HS) (id:Nat) (hid:id<hs.n) (hg:hs.H.get id=some (box (Cel.cells t))) :
 CallOk ρ Tryz.prog 38 [.ptr id 0 0,enc D,enc (e:Int)] hs (enc (zby e t D).2) (hs.wr id (box (Cel.cells (zby e t D).1))):=by
 have hFn:∀ (t':Tp) (n:Int),t'.ok->0<=n->n<=10000->zcJ t' n=some (t'.next n):=fun t' n h h1 h2=>if_pos ⟨h,by omega,by omega⟩
 have hidx:∀ (t':Tp) (n:Nat),0<n->∃ j:Nat,(t'.next n).2=(j:Int)/\j<n:=fun t' n hn=>by
  have h0:=zcs t' n;have h1:=zc8 t' (n:=(n:Int)) (by omega);obtain⟨j,hj⟩:=Int.eq_ofNat_of_zero_le h0;exact⟨j,hj,by omega⟩
 generalize hR:zby e t D=R;rw[<- hE];refine znx (K:=fun v hs=>GivesL 1 (enc R.2) [(0,box (Cel.cells R.1))] v hs\/GivesF 1 (enc R.2) [(0,box (Cel.cells R.1))] v hs) hρ hcon (by rw[hE];exact follows) (by rw[hE];exact named) (by rw[hE];exact Tryz.func38) zGF rfl (by simp) (by simp) (by simp) (by simp[V.in3,V.in2,V.in1]) ?_ (fun _ _ h=>h) hid hg;clear hid hg;obtain⟨k,hk,hk14⟩:∃ k:Nat,(t.next 14).2=(k:Int)/\k<14:=hidx t 14 (by omega);have ht1:=zn ht 14;have hF:=hFn t 14 ht (by omega) (by omega);have hDl:=hD.1.1
 have way:(∃ kk:Nat,kk<5/\zby e t D=zaJ kk (t.next 14).1 D/\((((e:Int)<1)=True/\(k:Int).tmod 5=(kk:Int))\/(((e:Int)<1)=False/\k=kk)))\/∃ d,e=d+1/\5<=k:=by
  cases e with
  |zero=>exact .inl ⟨k % 5,by omega,by rw[zby,hk];congr 1,.inl ⟨by simp,by rw[Int.ofNat_tmod];rfl⟩⟩
  | succ d =>
    by_cases h5:k<5
    . exact .inl ⟨k,h5,by rw[zby];simp only[hk];rw[if_pos (by omega)],.inr ⟨eq_false (by omega),rfl⟩⟩
    . exact .inr ⟨d,rfl,by omega⟩
 rcases hq:t.next 14 with⟨t1,k'⟩;simp only[hq]at hk ht1 hF way;subst hk;rcases way with⟨kk,hkk,hw,hx⟩|⟨d,rfl,hk5⟩
 . rw [hR]at hw;subst hw;have hc:kk=0\/kk=1\/kk=2\/kk=3\/kk=4:=by omega
   have hF8:=hFn t1 4 ht1 (by omega) (by omega);rcases hc with rfl|rfl|rfl|rfl|rfl
   . rcases hx with⟨he,hkm⟩|⟨he,rfl⟩
     all_goals first
      |simp [hE,hNx,hF,he,hkm,hVn,zak,ht1]
      |simp [hE,hNx,hF,he,hVn,zak,ht1]
     all_goals exact .inl (GivesL.keep rfl rfl (by simp[zaJ,zgZ,zy,ty0]) (by simp) (by simp[zaJ]))
   . rcases hx with⟨he,hkm⟩|⟨he,rfl⟩
     all_goals first
      |simp [hE,hNx,hF,he,hkm,hVn,zak,ht1]
      |simp [hE,hNx,hF,he,hVn,zak,ht1]
     all_goals exact .inl (GivesL.keep rfl rfl (by simp[zaJ,zgZ,zy,ty0]) (by simp) (by simp[zaJ]))
   . rcases hx with⟨he,hkm⟩|⟨he,rfl⟩
     all_goals first
      |simp [hE,hNx,hF,he,hkm,hF8]
      |simp [hE,hNx,hF,he,hF8]
     all_goals exact .inl (GivesL.keep rfl rfl (by simp[zaJ,zDO,zy,ty0]) (by simp) (by simp[zaJ]))
   . by_cases hD0:D=[]
     . subst hD0;rcases hx with⟨he,hkm⟩|⟨he,rfl⟩
       all_goals first
        |simp [hE,hNx,hF,he,hkm]
        |simp [hE,hNx,hF,he]
       all_goals exact .inl (GivesL.keep rfl rfl (by simp[zaJ,zmg,zy,ty0]) (by simp) (by simp[zaJ]))
     . have hDp:=List.length_pos_iff.2 hD0;obtain⟨jd,hjd,hjd2⟩:=hidx t1 D.length hDp;have hFD:=hFn t1 D.length ht1 (by omega) (by omega);have htD:=zn ht1 D.length;have hjd3:(jd:Int)<D.length:=by omega
       rcases hqD:t1.next D.length with⟨tD,kD⟩;simp only[hqD]at hjd hFD htD;subst hjd;obtain⟨hc0,hc1,_⟩:=hD.2 _ (List.getElem_mem hjd2);have hcp:=List.length_pos_iff.2 hc0;obtain⟨jc,hjc,hjc2⟩:=hidx tD D[jd].ctors.length hcp;have hFC:=hFn tD D[jd].ctors.length htD (by omega) (by omega);have hjc3:(jc:Int)<D[jd].ctors.length:=by omega
       rcases hqC:tD.next D[jd].ctors.length with⟨tC,kC⟩;simp only[hqC]at hjc hFC;subst hjc;have m1:jd*4 / 4=jd:=by omega
       have m2:jd*4 % 4=0:=by omega
       have m3:jc*3 / 3=jc:=by omega
       have m4:jc*3 % 3=0:=by omega
       have hRL:zaJ ((3:Nat):Int) t1 D=(tC,zmg D[jd].ctors[jc].name):=by simp[zaJ,hD0,hqD,zbU hjd2,hqC,zbU hjc2]
       rw[hRL];rcases hx with⟨he,hkm⟩|⟨he,rfl⟩
       all_goals first
        |simp [hE,hNx,hF,he,hkm,hDp,hFD,hjd2,hjd3,hFC,hjc2,hjc3,m1,m2,m3,m4,zg,zab]
        |simp [hE,hNx,hF,he,hDp,hFD,hjd2,hjd3,hFC,hjc2,hjc3,m1,m2,m3,m4,zg,zab]
       all_goals exact .inl (GivesL.keep rfl rfl (by simp[zmg,zy,ty0]) (by simp) (by simp))
   . rcases hx with⟨he,hkm⟩|⟨he,rfl⟩
     all_goals first
      |simp [hE,hNx,hF,he,hkm]
      |simp [hE,hNx,hF,he]
     all_goals exact .inl (GivesL.keep rfl rfl (by simp[zaJ,z3s,zy,ty0]) (by simp) (by simp[zaJ]))
 . have h1f:((((d+1:Nat):Int))<1)=False:=eq_false (by omega);have hw3:IntKind.i64.wrap (((d+1:Nat):Int)-1)=(d:Int):=by rw[wrap_i64 (by omega) (by omega)];omega
   have hT1:=hT d rfl;have hRw:∀ t',t'.ok->zmx d t' D (d:Int)=some (zby d t' D):=fun t' h=>by unfold zmx;rw[if_pos ⟨h,hD,hD3,by omega,by omega⟩];rfl
   have ht8:=zn ht1 8;have hRd:R=zby (d+1) t D:=hR.symm;rw[zby]at hRd;simp only[hq]at hRd;clear hR;have hc:k=5\/k=6\/k=7\/k=8\/k=9\/k=10\/k=11\/k=12\/k=13:=by omega
   rcases hc with rfl|rfl|rfl|rfl|rfl|rfl|rfl|rfl|rfl
   . rw[if_neg (by decide),if_pos (by decide)]at hRd;have hr:=hRw _ ht8;rcases hq1:zby d (t1.next 8).1 D with⟨t2,y⟩;rw[hq1]at hr hRd;subst hRd;simp [hE,hNx,hF,h1f,hw3,hT1,hVn,zak,ht1,hr,-Int.natCast_add];exact .inl (GivesL.keep rfl rfl (by simp[znn,zy,ty0]) (by simp) (by simp))
   . rw[if_neg (by decide),if_pos (by decide)]at hRd;have hr:=hRw _ ht8;rcases hq1:zby d (t1.next 8).1 D with⟨t2,y⟩;rw[hq1]at hr hRd;subst hRd;simp [hE,hNx,hF,h1f,hw3,hT1,hVn,zak,ht1,hr,-Int.natCast_add];exact .inl (GivesL.keep rfl rfl (by simp[znn,zy,ty0]) (by simp) (by simp))
   . rw[if_neg (by decide),if_neg (by decide),if_pos (by decide)]at hRd;have hr:=hRw _ ht1;have h2:=zef D d t1 ht1;rcases hq1:zby d t1 D with⟨t2,y⟩;rw[hq1]at hr hRd h2;have hr2:=hRw _ h2;simp only at hRd hr2;rcases hq2:zby d t2 D with⟨t3,z⟩;rw[hq2]at hr2 hRd;subst hRd;simp [hE,hNx,hF,h1f,hw3,hT1,hr,hr2,-Int.natCast_add];exact .inl (GivesL.keep rfl rfl (by simp[zno,zy,ty0]) (by simp) (by simp))
   . rw[if_neg (by decide),if_neg (by decide),if_pos (by decide)]at hRd;have hr:=hRw _ ht1;have h2:=zef D d t1 ht1;rcases hq1:zby d t1 D with⟨t2,y⟩;rw[hq1]at hr hRd h2;have hr2:=hRw _ h2;simp only at hRd hr2;rcases hq2:zby d t2 D with⟨t3,z⟩;rw[hq2]at hr2 hRd;subst hRd;simp [hE,hNx,hF,h1f,hw3,hT1,hr,hr2,-Int.natCast_add];exact .inl (GivesL.keep rfl rfl (by simp[zno,zy,ty0]) (by simp) (by simp))
   . rw[if_neg (by decide),if_neg (by decide),if_pos (by decide)]at hRd;have hr:=hRw _ ht1;have h2:=zef D d t1 ht1;rcases hq1:zby d t1 D with⟨t2,y⟩;rw[hq1]at hr hRd h2;have hr2:=hRw _ h2;simp only at hRd hr2;rcases hq2:zby d t2 D with⟨t3,z⟩;rw[hq2]at hr2 hRd;subst hRd;simp [hE,hNx,hF,h1f,hw3,hT1,hr,hr2,-Int.natCast_add];exact .inl (GivesL.keep rfl rfl (by simp[zno,zy,ty0]) (by simp) (by simp))
   . rw[if_neg (by decide),if_neg (by decide),if_neg (by decide),if_pos (by decide)]at hRd;obtain⟨j2,hj2,hj22⟩:∃ j:Nat,(t1.next 2).2=(j:Int)/\j<2:=hidx t1 2 (by omega);have hF2:=hFn t1 2 ht1 (by omega) (by omega);have htq:=zn ht1 2;rcases hqq:t1.next 2 with⟨tq,kq⟩;simp only[hqq]at hj2 hF2 htq hRd;subst hj2;have htq8:=zn htq 8;have hr:=hRw _ htq8;have h2:=zef D d _ htq8;rcases hq1:zby d (tq.next 8).1 D with⟨t2,y⟩;rw[hq1]at hr hRd h2;simp only at hRd h2;have hr2:=hRw _ h2;rcases hq2:zby d t2 D with⟨t3,z⟩;rw[hq2]at hr2 hRd;subst hRd;have hw6:IntKind.i64.wrap (6+(j2:Int))=6+(j2:Int):=wrap_i64 (by omega) (by omega);simp [hE,hNx,hF,h1f,hw3,hT1,hF2,hVn,zak,htq,hr,hr2,hw6,-Int.natCast_add];exact .inl (GivesL.keep rfl rfl (by simp[zDN,zy,ty0]) (by simp) (by simp))
   . rw[if_neg (by decide),if_neg (by decide),if_neg (by decide),if_neg (by decide),if_pos (by decide)]at hRd;have hr:=hRw _ ht1;have h2:=zef D d t1 ht1;rcases hq1:zby d t1 D with⟨t2,y⟩;rw[hq1]at hr hRd h2;simp only at hRd h2;have hty:zer 2 t2 D [] 2=some (typeM 2 t2 D []):=by unfold zer;rw[if_pos ⟨h2,hD.1,by simp,by omega⟩];rfl
     rcases hq2:typeM 2 t2 D []with⟨t3,g⟩;rw[hq2]at hty hRd;subst hRd;simp [hE,hNx,hF,h1f,hw3,hT1,hr,hTy,hty,-Int.natCast_add];exact .inl (GivesL.keep rfl rfl (by simp[zDP,zy]) (by simp) (by simp))
   . rw[if_neg (by decide),if_neg (by decide),if_neg (by decide),if_neg (by decide),if_neg (by decide),if_pos (by decide)]at hRd;have hr:=hRw _ ht1;rcases hq1:zby d t1 D with⟨t2,y⟩;rw[hq1]at hr hRd;subst hRd;simp [hE,hNx,hF,h1f,hw3,hT1,hr,-Int.natCast_add];exact .inl (GivesL.keep rfl rfl (by simp[z3t,zy,ty0]) (by simp) (by simp))
   . rw [if_neg (by decide),if_neg (by decide),if_neg (by decide),if_neg (by decide),if_neg (by decide),if_neg (by decide)]at hRd;by_cases hD0:D=[]
     . rw[if_pos hD0]at hRd;have hr:=hRw _ ht1;rw[<- hRd]at hr;subst hD0;simp [hE,hNx,hF,h1f,hw3,hT1,hr,-Int.natCast_add];exact .inl (GivesL.keep rfl rfl (by simp) (by simp) (by simp))
     . rw[if_neg hD0]at hRd;have hDp:=List.length_pos_iff.2 hD0;obtain⟨jd,hjd,hjd2⟩:=hidx t1 D.length hDp;have hFD:=hFn t1 D.length ht1 (by omega) (by omega);have htD:=zn ht1 D.length;have hjd3:(jd:Int)<D.length:=by omega
       rcases hqD:t1.next D.length with⟨tD,kD⟩;simp only[hqD]at hjd hFD htD hRd;subst hjd;rw[zbU hjd2]at hRd;obtain⟨hc0,hc1,hc2⟩:=hD.2 _ (List.getElem_mem hjd2);have m1:jd*4 / 4=jd:=by omega
       have m2:jd*4 % 4=0:=by omega
       have hr:=hRw _ htD;have h2:=zef D d tD htD;rcases hq1:zby d tD D with⟨t2,y⟩;rw[hq1]at hr hRd h2;simp only at hRd h2;subst hRd;have hDne:¬ D.length=0:=by omega
       generalize hdd:D[jd]=dd at hc0 hc1 hc2 ⊢;simp [hE,hNx,hF,h1f,hw3,hT1,hD0,hDne,hFD,hjd2,hjd3,m1,m2,hdd,hr,-Int.natCast_add];refine zsw hρ hE hcon (d:=d) hVn hT1 (t:=t2) (D:=D) (dd:=dd) (k:=zI y) h2 hD hD3 (by omega) hc1 hc2 (Less.auto (by simp[zt,-Int.natCast_add]) (by simp[zt,zg]) (by simp[zt]) rfl) ?_;intro A hA hn;generalize zaK (fun t=>zby d t D) t2 dd.ctors dd.ctors.length=R at hn ⊢;rcases A with _|⟨a,A⟩
       . have hn0:R.2=[]:=by simpa using hn.symm
         simp [hE,zt];exact .inl (GivesL.keep rfl rfl (by simp[zdj,zy,ty0,hn0]) (by simp) (by simp))
       . simp [hE,zt];refine .inr (GivesF.keep rfl rfl ?_ (by simp[ownB]));simp[zaF,zdj,zy (.mk 8 _ _ _ _ _ _),ty0];simpa using hn
end
theorem zH3 (d:Nat) (hd:d<=500):Valid ρ Tryz.prog 38 (stS (zr1 (zmx d))):=by
 induction d using Nat.strongRecOn with
 | _ d ih =>
   refine s2 (fo Tryz.func38 zGF) fun s a b q h hs id hid hg=>?_
   unfold zmx at h;obtain⟨⟨h1,h2,h3,h4,h5⟩,rfl⟩:=zJ h;obtain⟨e,rfl⟩:=Int.eq_ofNat_of_zero_le h4;rw[Int.toNat_natCast]
   cases e with
   |zero=>exact zcK hρ (E:=EL [(55,stS (zht zcJ)),(65,zak),(15,stS (zhs (zer 2)))]) rfl (zf (zb (zkt hρ) (zb (zfI hρ) (zb (zyD hρ 2 (by omega)) valid_nil)))) (e:=0) rfl rfl rfl (fun d h=>by omega) h1 h2 h3 (by omega) hs id hid hg
   | succ e =>
     exact zcK hρ (E:=EL [(55,stS (zht zcJ)),(65,zak),(15,stS (zhs (zer 2))),(38,stS (zr1 (zmx e)))]) rfl (zf (zb (zkt hρ) (zb (zfI hρ) (zb (zyD hρ 2 (by omega)) (zb (ih e (by omega) (by omega)) valid_nil))))) (e:=e+1) rfl rfl rfl (fun d' h=>by
      obtain rfl:e=d':=by omega
      rfl) h1 h2 h3 (by omega) hs id hid hg
end
end Go.Proofs.YtpcmebclpindjaaGreat
/- NormalShapes: the law's own run. -/
namespace Go.Proofs.YtpcmebclpindjaaGreat
open Go.J
open Go.J.Enc (enc)
set_option maxRecDepth 100000
set_option maxHeartbeats 1000000
def z1b:J.Spec:=fnS (zfR true)
section
variable {ρ:Nat->Value}(hρ:J.Good ρ)
include hρ
variable {E:Env}(hE:E.P=Tryz.prog)(hcon:ConsOk ρ E)
include hE hcon
theorem zf9(h1:E.con 36=z1b)(h2:E.con 14=z2t)(h3:E.con 37=zrE zgk)(h4:E.con 38=stS (zr1 (zmx 3)))(h5:E.con 39=zl1)(h6:E.con 40=zib)
 {bits:Int} {codes more:List Int} (hs:HS):CallOk ρ Tryz.prog 7 [enc bits,enc codes,enc more] hs (enc true) hs:=by
 refine fn hρ hE hcon Tryz.func7 fB7 rfl (by simp) ?_ hs;by_cases hc:codes.length<=60
 . by_cases hm:more.length<=60
   . have hD2:=zgH bits;have hD3:=zgG bits;have hsh:zR (zdx codes (zO bits)).2.2.1=true:=zku 3 _ _;have hft:(zdx codes (zO bits)).2.2.1.fit 1000:=(zml hD2 3 _ _).fit (by omega);rcases hmm:zdx codes (zO bits)with⟨ctx,goal,e,t⟩;rw[hmm]at hsh hft;have hval:=fun hs=>zkN (hs:=hs) hmm
     have hheap:=fun hs=>zjt (hs:=hs) hmm
     simp only at hsh hft;have ht2:(⟨more,0⟩:Tp).ok:=⟨Int.le_refl _,by show more.length<=100000;omega⟩;have hr:zmx 3 ⟨more,0⟩ (zO bits) 3=some (zby 3 ⟨more,0⟩ (zO bits)):=by unfold zmx;rw[if_pos ⟨ht2,hD2,hD3,by omega,by omega⟩];rfl
     have hfr:=znI hD2 3 ⟨more,0⟩;have hfx:=hfr.fit (by omega);have hwx:=hfr.1;rcases hq:zby 3 ⟨more,0⟩ (zO bits)with⟨t2,x⟩;rw[hq]at hr hfx hwx;simp only at hfx hwx;simp [hE,h1,z1b,h2,z2t,hc,hm,h3,hval,hheap,vacant_eq,h4,hr,h5,zl1,hsh,hft,h6,zib,hfx,hwx]
   . simp [hE,h1,z1b,h2,z2t,hc,hm]
 . simp [hE,h1,z1b,h2,z2t,hc]
end
end Go.Proofs.YtpcmebclpindjaaGreat
