import Derived.Test.YtfloillkpbhhhaaGreatNK1
import Derived.Test.YtfloillkpbhhhaaGreatJK8
set_option linter.all false
noncomputable section
namespace Go.Proofs.YtfloillkpbhhhaaGreat
open Go.J
open Go.J.bo (enc)
set_option maxRecDepth 100000
set_option maxHeartbeats 4000000
variable {Q:Ex->PT V->HS->Prop}{r t:G}{C:HS}{i m0 n x:Int}{d f k m:Nat}{c:Prop}{sc:SC}{s:ao}{α:Type}{v:V}{D:Z Decl}{F L L0 Lv l:Z G}
open Classical in
def BI(t:Tp)(n:Int):Y (Tp×Int):=if t.ok/\-1000000<=n/\n<=1000000 then some (t.next n)else none
open Classical in
def MF(d:Nat)(t:Tp)(D:Z Decl)(Lv:Z G)(n:Int):Y (Tp×G):=if t.ok/\PC D/\Lv.length<=100000/\n<=d then some (jb n.toNat t D Lv)else none
section
variable {I:Nat->Value}(hρ:J.Good I){E:Env}(U:E.P=Pg)(aq:bH I E)
include hρ U aq
theorem LJ (hN:E.dE 34=H6 (Iu BI)) (hC:E.dE 38=dH (dC λn l=>if l.length<=10000 then some (uM n l)else none)) (hI:E.dE 15=dH (Fh Ik)) (hA:E.dE 30=dH (dC λa b=>some (vO a b)))
   (hT0:0<n->E.dE 12=H6 (Ir (MF d))) {t:Tp}   (ht:t.ok) (hD:PC D) (hLv:Lv.length<=100000) (hn:n<=d+1) (ld:d<=1000) (C:HS) (id:Nat) (hid:id<C.n) (hg:C.H.get id=some (box (iC.cells t))) :
 aT I Pg 12 [.ptr id 0 0,enc D,enc Lv,enc n] C (enc (jb n.toNat t D Lv).2) (C.wr id (box (iC.cells (jb n.toNat t D Lv).1))):=by
 have h7:BI t 7=some (t.next 7):=if_pos ⟨ht,by omega,by omega⟩;have oE:=iw ht 7;have rK:=Af t 7;generalize hR:jb n.toNat t D Lv=R;rw[jb.eq_def]at hR;rcases hq:t.next 7 with⟨t1,k⟩;simp only[hq]at h7 oE rK hR;refine st hρ U aq Tryz.func12 qJ.2 rfl (by simp) (by simp) (by simp) (by simp) ?_ hid hg;by_cases c1:k<3/\Lv≠[]
 . rw[if_pos c1]at hR;obtain⟨j,hj,e1,e2⟩:=C8 t1 c1.2;have hF:BI t1 (Lv.length:Int)=some (t1.next (Lv.length:Int)):=if_pos ⟨oE,by omega,by omega⟩;rw[e2]at hR;rcases lR:t1.next (Lv.length:Int)with⟨t2,k2⟩;simp only[lR]at hF e1 hR;subst e1 hR;have hlp:0<Lv.length:=by omega
   simp_all [aH.bw]
 . rw [if_neg c1]at hR;have Bx:¬ (k<3/\0<Lv.length):=λh=>c1 ⟨h.1,bT.1 h.2⟩
   by_cases c2:k<4
   . rw[if_pos c2]at hR;subst hR;by_cases c3:k<3
     . simp_all [aH.bw]
     . simp[U,hN,h7,c3,c2,hI];exact aH.bw
   . rw [if_neg c2]at hR;have c3:¬ k<3:=by omega
     by_cases c4:n<1
     . have h0:n.toNat=0:=by omega
       rw[h0]at hR;simp only[]at hR;subst hR;simp[U,hN,h7,c3,c2,c4,hI];exact aH.bw
     . have hT := hT0 (by omega);obtain⟨m,hm⟩:∃ m,n.toNat=m+1:=⟨n.toNat-1,by omega⟩;have u4:n=(m:Int)+1:=by omega
       rw[hm]at hR;simp only[]at hR;have hw:IntKind.i64.wrap (n-1)=(m:Int):=by rw[u4,wrap_i64 (by omega) (by omega)];omega
       have hTy:∀ t':Tp,t'.ok->MF d t' D Lv (m:Int)=some (jb m t' D Lv):=λt' h=>by
        unfold MF
        grind
       by_cases c5:(k=4\/k=5)/\D≠[]
       . rw [if_pos c5]at hR;obtain⟨j,hj,e1,e2⟩:=C8 t1 c5.2;have hF:BI t1 (D.length:Int)=some (t1.next (D.length:Int)):=if_pos ⟨oE,by have:=hD.1;omega,by have:=hD.1;omega⟩;have pH:=iw oE (D.length:Int);rw[e2]at hR;rcases lR:t1.next (D.length:Int)with⟨t2,k2⟩;simp only[lR,eu]at hF e1 hR pH;subst e1;have hdp:=hD.2 _ (az hj);have AS:0<D.length:=by omega
         generalize hdj:D[j]=dd at hR hdp;obtain⟨zxT,zoF,Ak,zfe⟩:=dd;simp only at hR hdp
         have main:∀ T C,aw 1 T C (dW [(0,.ptr 0 0 0),(1,.sl (D.map aP) false),(2,.sl (Lv.map au) false),(3,.int .i64 n),(8,.ptr 1 0 0),(10,.ptr 2 0 0),(11,oV 3 (([]:Z G).map au)),(12,.int .i64 ((0:Nat):Int))])
          { H:=dW ([(0,box (iC.cells t2)),(1,box [.int .i64 0,.str [],.int .i64 0,.int .i64 0,.aE]),(2,box (aP ⟨zxT,zoF,Ak,zfe⟩))]++oH 3 5 (([]:Z G).map au)),n:=4,log:=[] } ->
          ∀ Q,Q (.exit 1) (dW [(8,.ptr 1 0 0),(10,.ptr 2 0 0),(11,oV 3 ((qP m t2 D Lv Ak.length).2.map au))])
            { H:=dW ([(0,box (iC.cells (qP m t2 D Lv Ak.length).1)),(1,box [.int .i64 0,.str [],.int .i64 0,.int .i64 0,.aE]),(2,box (aP ⟨zxT,zoF,Ak,zfe⟩))]++oH 3 5 ((qP m t2 D Lv Ak.length).2.map au)),n:=4,log:=[] } ->
          Ls I E 1 95 (.loop qa) T C Q:=by
          intro T C hl Q hQ
          refine vC hρ U aq Ak.length (λi (p:Tp×Z G)=>[(0,.ptr 0 0 0),(1,.sl (D.map aP) false),(2,.sl (Lv.map au) false),(3,.int .i64 n),(8,.ptr 1 0 0),(10,.ptr 2 0 0),(11,oV 3 (p.2.map au)),(12,.int .i64 (i:Int))])
           (λi p=>[(0,box (iC.cells p.1)),(1,box [.int .i64 0,.str [],.int .i64 0,.int .i64 0,.aE]),(2,box (aP ⟨zxT,zoF,Ak,zfe⟩))]++oH 3 5 (p.2.map au)) (λi p=>p=qP m t2 D Lv i) (t2,[]) hl (by rw[qP]) ?_ ?_
          . intro p hp K;rw[<- hp]at hQ;obtain⟨t3,L⟩:=p;rcases L with _|⟨x,L⟩<;>simp[qa,U]<;>exact bO.mk (aw.auto) hQ
          . intro i p hi hp K hK;have hlen:=Ke m t2 D Lv i;have er:=zpi (D:=D) (Lv:=Lv) m pH i;rw[<- hp]at hlen er;have zHe:=hTy p.1 er;have bc:=hK (jb m p.1 D Lv |>.1,p.2++[(jb m p.1 D Lv).2]) (by rw[qP,<- hp]);have cj:(i:Int)<Ak.length:=by omega
            have cy:=bI (i:=i);obtain⟨t3,L⟩:=p;simp only at zHe bc hlen;rcases oj:jb m t3 D Lv with⟨t4,x4⟩;simp only[oj]at zHe bc;rcases L with _|⟨x,L⟩
            . simp[qa,U,cj,hw,cy,hT,zHe,-Int.natCast_add];exact bc _ _ (aw.auto)
            . have pA:(L.length+1+1)*64<=1048576:=by simp at hlen;omega
              simp[qa,U,cj,hw,cy,hT,zHe,pA,aY,-Int.natCast_add];exact bc _ _ (aw.auto)
         have zD8:=Ke m t2 D Lv Ak.length;rcases Wg:qP m t2 D Lv Ak.length with⟨t5,L⟩;simp only[Wg]at main hR zD8;subst hR;have KO:L.length<=10000:=by omega
         rcases c5.1 with rfl|rfl<;>simp[U,hN,h7,c4,hF,hj,hdj,AS]<;>refine main _ _ (aw.auto) _ ?_ <;>
         (rcases L with _|⟨x,L⟩
          . simp[U,hC];exact aH.bw (hn:=by simp[uM])
          . have zEb:L.length<=9999:=by simpa using KO
            simp[U,hC,zEb]
            exact aH.bw (hn:=by simp[uM]))
       . rw [if_neg c5]at hR;have hp5:¬ ((k=4\/k=5)/\0<D.length):=λh=>c5 ⟨h.1,bT.1 h.2⟩
         have m7:=hTy t1 oE;have pH:=(ME (D:=D) (Lv:=Lv) m t1 oE).1;rcases lR:jb m t1 D Lv with⟨t2,a⟩;simp only[lR]at m7 hR pH;have n8:=hTy t2 pH;rcases oj:jb m t2 D Lv with⟨t3,b⟩;simp only[oj]at n8 hR;subst hR;have s4:(k=4\/k=5)->D=[]:=λh=>aV λcb=>c5 ⟨h,cb⟩
         by_cases c6:k=4
         . have:=s4 (.inl c6);subst this c6;simp[U,hN,h7,c4,hw,hT,m7,n8,hA];exact aH.bw
         . by_cases c7:k=5
           . have:=s4 (.inr c7);subst this c7;simp[U,hN,h7,c4,hw,hT,m7,n8,hA];exact aH.bw
           . simp[U,hN,h7,c3,c2,c4,c6,c7,hw,hT,m7,n8,hA];exact aH.bw
end
def M0(d:Nat)(t:G)(s:Z cT):Y G:=if t.ok=true/\t.size<=d/\s.length<=100000 then some (t.xV s)else none
section
variable {I:Nat->Value}(hρ:J.Good I){E:Env}(U:E.P=Pg)(aq:bH I E)
include hρ U aq
theorem OT  (hc:E.dE 48=dH (dC (M0 d)))  {s:Z cT} (ht:t.ok=true) (hd:t.size<=d+1) (sf:s.length<=100000) (C:HS):aT I Pg 48 [enc t,enc s] C (enc (t.xV s)) C:=by
 refine fn hρ U aq Tryz.func48 uG.2 rfl (by simp) ?_ C;rw[YH];by_cases hk:t.kind=1
 . rw [if_pos hk];simp[U,hk]
   refine vC hρ U aq s.length (nn:=2) (λi (_:Unit)=>[(1,.sl (s.map lV) false),(2,.ptr 0 0 0),(4,.ptr 1 0 0),(5,.int .i64 (i:Int))]) (λi _=>[(0,box (au t)),(1,box [.int .i64 0,.str [],.int .i64 0,.int .i64 0,.aE])]) (λi _=>wB (s.take i) t.id=none) ()
    (aw.auto (hH:=by simp[hk])) rfl ?_ ?_
   . intro _ hl K;rw[gN]at hl;simp[yM,U];refine bO.mk (aw.auto (TL:=[(2,.ptr 0 0 0),(4,.ptr 1 0 0)]) (HL:=[(0,box (au t)),(1,box [.int .i64 0,.str [],.int .i64 0,.int .i64 0,.aE])]) (n:=2) (hH:=by simp[hk])) ?_;simp[U,hl,hk]
   . intro i _ hi hl K hK;have cj:(i:Int)<s.length:=by omega
     have cy:=bI (i:=i)
     have tA:∀ j,wB (s.take (i+1)) j=(wB (s.take i) j).or (wB [s[i]] j):=λj=>by
      rw[dK,ax hi,fP,Xc]
     by_cases he:s[i].id=t.id
     . have nB:wB s t.id=some s[i].type:=by
        grind [List.take_append_drop,Xc,wB]
       simp[yM,U,hi,cj,he,hk];refine bO.mk (aw.auto (TL:=[(4,.ptr 1 0 0)]) (HL:=[(1,box (au s[i].type))]) (n:=2)) ?_;simp[nB]
     . have bc:=hK () (by rw[tA,hl];simp[wB,he]);simp[yM,U,hi,cj,he,hk,cy,-Int.natCast_add];exact bc _ _ (aw.auto (hH:=by simp[hk]))
 . rw [if_neg hk];simp[U,hk];have hlen:=G.wW ht
   refine vC hρ U aq t.args.length (nn:=4) (λi (L:Z G)=>[(1,.sl (s.map lV) false),(2,.ptr 0 0 0),(4,.ptr 1 0 0),(6,.ptr 2 0 0),(7,.int .i64 (i:Int))])
    (λi L=>[(0,box (au t)),(1,box [.int .i64 0,.str [],.int .i64 0,.int .i64 0,.aE]),(2,box [.int .i64 t.kind,.str t.name,.int .i64 t.id,.int .i64 t.home,oV 3 (L.map au)])]++oH 3 5 (L.map au)) (λi L=>L=(t.args.take i).map (G.xV s)) []
    (aw.auto) rfl ?_ ?_
   . intro L hL K;rw[gN]at hL;rw[<- hL];clear hL;rcases L with _|⟨x,L⟩
     . simp[sM,U];refine bO.mk (aw.auto (TL:=[(4,.ptr 1 0 0),(6,.ptr 2 0 0)]) (HL:=[(1,box [.int .i64 0,.str [],.int .i64 0,.int .i64 0,.aE]),(2,box [.int .i64 t.kind,.str t.name,.int .i64 t.id,.int .i64 t.home,.aE])]) (n:=4)) ?_;simp[U]
     . simp[sM,U];refine bO.mk (aw.auto (TL:=[(4,.ptr 1 0 0),(6,.ptr 2 0 0)]) (HL:=[(1,box [.int .i64 0,.str [],.int .i64 0,.int .i64 0,.aE]),(2,box [.int .i64 t.kind,.str t.name,.int .i64 t.id,.int .i64 t.home,oV 3 ((x::L).map au)])]++oH 3 5 ((x::L).map au)) (n:=4)) ?_;simp[U]
   . intro i L hi hL K hK;have cj:(i:Int)<t.args.length:=by omega
     have cy:=bI (i:=i);have hm:=az hi
     have hF:M0 d t.args[i] s=some (t.args[i].xV s):=by
      unfold M0;rw[if_pos ⟨G.EJ ht hm,by have:=G.Au hm;omega,sf⟩]
     have bc:=hK (L++[t.args[i].xV s]) (by rw[dK,ax hi,fP,dz,hL];rfl);have KR:L.length=i:=by rw[hL,aL,eB];omega
     clear hL;generalize t.args[i].xV s=y at hF bc;rcases L with _|⟨x,L⟩
     . simp[sM,U,hi,cj,hc,hF,cy,-Int.natCast_add];exact bc _ _ (aw.auto)
     . have pA:(L.length+1+1)*64<=1048576:=by simp at KR;omega
       simp[sM,U,hi,cj,hc,hF,cy,pA,aY,-Int.natCast_add];exact bc _ _ (aw.auto)
def VU(C:HS):aT I Pg 162 [enc i] C (enc (fq i)) C:=by
 refine fn hρ U aq Tryz.func162 Q4.2 rfl (by simp) ?_ C;simp[U,fq]
def VV(C:HS):aT I Pg 271 [enc s,enc i] C (enc (s.cg i).isSome) C:=by
 refine fn hρ U aq Tryz.func271 Q5.2 rfl (by simp) ?_ C
 have e:(s.cg i).isSome=decide (0<=i/\i<s.a9.length):=by
  cases h:s.cg i with
  |none=>have:=ao.nj h;simp;omega
  |some x=>obtain⟨j,rfl,hj,_⟩:=ao.fY h;simp;omega
 rw[e];simp[U]
 repeat' (refine EU (λh=>?_) (λh=>?_)<;>simp[h,U])
theorem G7(hc:E.dE 271=dH (dC λ(s:ao) (i:Int)=>some (s.cg i).isSome))(C:HS):aT I Pg 253 [enc s,enc t] C (enc (s.bound t)) C:=by
 refine fn hρ U aq Tryz.func253 EZ.2 rfl (by simp) ?_ C;by_cases hk:t.kind=1
 . cases h:s.cg t.id with
   | none =>
     have e:s.bound t=false:=by unfold ao.bound;rw[h];split<;>simp_all
     simp[U,hk,e,hc,h]
   | some x =>
     have h0:=h;obtain⟨i,hl,hi,hx⟩:=ao.ft h;rw[hi]at h0;rw[ao.Jt hk h];simp[U,hk,hi,hl,hx,hc,h0]
 . have e:s.bound t=false:=by unfold ao.bound;simp[hk]
   simp[U,hk,e]
def Re(hc:E.dE 253=dH (dC λ(s:ao) (t:G)=>some (s.bound t)))(h:s.a9.length<=1000000)
 (hQ:Q (.exit 0) (dW [(3,.ptr 1 0 0),(4,.ptr 2 0 0)]) { H:=dW [(1,box (au r)),(2,.arr 5 0 [[.int .i64 0,.str [],.int .i64 0,.int .i64 0,.aE]] true false false)],n:=3,log:=[] }) :
 ∀ (m i:Nat) (t:G),i+m=s.a9.length->s.kM m t=r->ua I E 0 23 ni (bO 0 Q) (m+1) (dW [(2,.ptr 0 0 0),(3,.ptr 1 0 0),(4,.ptr 2 0 0),(7,.int .i64 (s.a9.length:Int)),(8,.int .i64 (i:Int))])
   { H:=dW [(0,box (qA s)),(1,box (au t)),(2,.arr 5 0 [[.int .i64 0,.str [],.int .i64 0,.int .i64 0,.aE]] true false false)],n:=3,log:=[] }:=by
 intro m
 induction m with
 | zero =>
   intro i t hi ht;have cA:¬ (i:Int)<s.a9.length:=by omega
   refine lp hρ U aq λK hK=>?_
   simp[ni,U,cA];cases ht;refine bO.mk (aw.bw 3 ?_ ?_ rfl rfl) hQ<;>simp[ao.kM]
 | succ m ih =>
   intro i t hi ht;have cA:(i:Int)<s.a9.length:=by omega
   have hw:=bI (i:=i);refine lp hρ U aq λK hK=>?_
   unfold ao.kM at ht;by_cases hb:s.bound t=true
   . rw[if_pos hb]at ht;obtain⟨hk,x,hx,z7⟩:=ao.Dy hb;obtain⟨j,kx,hj,hxj⟩:=ao.ft hx;have pH:s.to t=x.type:=by unfold ao.to;rw[hx]
     cases t;simp only[G.o5]at hj;subst hj;simp[ni,U,cA,hc,hb,hw,kx,hxj,-Int.natCast_add];rw[pH]at ht;exact hK _ _ (gD (aw.bw 3 (by simp[-Int.natCast_add]) (by simp) rfl rfl) (ih (i+1) _ (by omega) ht))
   . rw[if_neg hb]at ht;subst ht;simp[ni,U,cA,hc,hb];refine bO.mk (aw.bw 3 ?_ ?_ rfl rfl) hQ<;>simp
def Ta(hc:E.dE 253=dH (dC λ(s:ao) (t:G)=>some (s.bound t)))(h:s.a9.length<=1000000)(C:HS):aT I Pg 199 [enc s,enc t] C (enc (s.kM s.a9.length t)) C:=by
 refine fn hρ U aq Tryz.func199 u7.2 rfl (by simp) ?_ C;simp[U];refine nX (ru (gD (aw.bw (TL:=[(2,.ptr 0 0 0),(3,.ptr 1 0 0),(4,.ptr 2 0 0),(7,.int .i64 (s.a9.length:Int)),(8,.int .i64 ((0:Nat):Int))]) 3 ?_ ?_ rfl rfl) (Re hρ U aq hc h (r:=s.kM s.a9.length t) ?_ s.a9.length 0 t (by omega) rfl)))
 . simp
 . simp
 . simp[U]
end
def yj(d:Nat)(L:Z G)(t:G)(kind:Int):Y (Z G):=if t.size<=d/\t.ok=true/\G.eK L=true/\(jX kind t L).length<=10000 then some (jX kind t L)else none
theorem Qs(kind:Int):∀ (l:Z G) (i:Nat) (L0:Z G),(eO kind (l.take i) L0).length<=(eO kind l L0).length:=by
 intro l
 induction l with
 |nil=>intro i L0;simp
 | cons a l ih =>
   intro i L0
   cases i with
   |zero=>exact(qM kind (a::l) L0).1
   | succ i =>
     grind [eO]
section
variable {I:Nat->Value}(hρ:J.Good I){E:Env}(U:E.P=Pg)(aq:bH I E)
include hρ U aq
theorem D6  (hc:E.dE 157=CN 5 (V9 (yj d)) Np)   {kind:Int}  (hk:k=0\/k=1/\L0≠[]) (ht:t.ok=true) (hd:t.size<=d+1) (h0:G.eK L0=true) (qs:(eO kind t.args L0).length<=10000) 
 (hQ:Q (.exit 2) (dW [(0,oV 0 ((eO kind t.args L0).map au))]) { H:=dW (oH 0 5 ((eO kind t.args L0).map au)),n:=1,log:=[] }) :
 ∀ (n i:Nat) (L:Z G),i+n=t.args.length->L=eO kind (t.args.take i) L0->ua I E k 52 lY (bO k Q) (n+1) (dW [(0,oV 0 (L.map au)),(2,.int .i64 kind),(4,.ptr 1 0 0),(8,.int .i64 (i:Int))])
   { H:=dW ((1,box (au t))::oH 0 5 (L.map au)),n:=2,log:=[] }:=by
 intro n
 induction n with
 | zero =>
   intro i L hi hL;have cA:¬ (i:Int)<t.args.length:=by omega
   have e:L=eO kind t.args L0:=by rw[hL,aZ (by omega)]
   rw[<- e]at hQ;have hlen:=qM kind t.args L0;rw[<- e]at hlen;refine lp hρ U aq λK hK=>?_
   rcases L with _|⟨x,L⟩
   . have rK:k=0:=by
      simp_all
     subst rK;simp[lY,U,cA];exact bO.mk (aw.bw 1 (by simp) (by simp) rfl rfl) hQ
   . simp[lY,U,cA];rcases hk with rfl|⟨rfl,_⟩<;>exact bO.mk (aw.bw 1 (by simp) (by simp) rfl rfl) hQ
 | succ n ih =>
   intro i L hi hL;have cA:i<t.args.length:=by omega
   have Ch:(i:Int)<t.args.length:=by omega
   have hw:IntKind.i64.wrap ((i:Int)+1)=((i+1:Nat):Int):=bI (by have:=G.wW ht;omega);have hm:=az cA;have cm:=G.Au hm;have er:=G.EJ ht hm;have zxz:G.eK L=true:=by rw[hL];exact Uo (zbC (G.lD.2 (G.oF.1 ht).2) i) _ h0
   have hlen:=qM kind (t.args.take i) L0;rw[<- hL]at hlen;have vy:=G.size_eq t
   have bc:jX kind t.args[i] L=eO kind (t.args.take (i+1)) L0:=by
    rw[dK,ax cA,fP,Nl,hL]
   have hb:(jX kind t.args[i] L).length<=10000:=by rw[bc];exact aO (Qs kind t.args (i+1) L0) qs
   have hF:yj d L t.args[i] kind=some (jX kind t.args[i] L):=by
    unfold yj;rw[if_pos ⟨by omega,er,zxz,hb⟩]
   have We:=Ed kind t.args[i] L;refine lp hρ U aq λK hK=>?_
   generalize hR:jX kind t.args[i] L=R at hF bc We;rcases L with _|⟨x,L⟩
   . have rK:k=0:=by
      simp_all
     subst rK;rcases R with _|⟨y,R⟩<;>simp[lY,U,cA,Ch,hc,hw,hF,Np,-Int.natCast_add]
     . exact hK _ _ (gD (aw.bw 2 (by simp[-Int.natCast_add]) (by simp) rfl rfl) (ih (i+1) _ (by omega) bc))
     . exact hK _ _ (gD (aw.lit (λk=>if k=0 then 16 else k) 2 (by simp[-Int.natCast_add]) (by simp) rfl rfl) (ih (i+1) _ (by omega) bc))
   . rcases R with _|⟨y,R⟩
     . simp at We
     . have zxn:L.length<=R.length:=by simp at We;omega
       simp[lY,U,cA,Ch,hc,hw,hF,Np,zxn,-Int.natCast_add];rcases hk with rfl|⟨rfl,_⟩<;>exact hK _ _ (gD (aw.bw 2 (by simp[-Int.natCast_add]) (by simp) rfl rfl) (ih (i+1) _ (by omega) bc))
theorem D7 (hc:E.dE 32=dH (dC λa b:G=>if a.ok=true then some (decide (a=b))else none))    (hk:k=0\/k=1/\L≠[]) (h0:G.eK L=true) (qs:L.length<=10000) 
 (hf:t∈L->Q .ret (dW [(6,oV 0 (L.map au))]) { H:=dW (oH 0 5 (L.map au)),n:=1,log:=[] })
 (hn:t ∉ L->Q (.exit 0) (dW [(0,oV 0 (L.map au)),(4,.ptr 1 0 0)]) { H:=dW ((1,box (au t))::oH 0 5 (L.map au)),n:=2,log:=[] }) :
 ∀ (n i:Nat),i+n=L.length->t ∉ L.take i->ua I E k 52 uZ (bO k Q) (n+1) (dW [(0,oV 0 (L.map au)),(4,.ptr 1 0 0),(7,.int .i64 (i:Int))])
   { H:=dW ((1,box (au t))::oH 0 5 (L.map au)),n:=2,log:=[] }:=by
 intro n
 induction n with
 | zero =>
   intro i hi hL;have cA:¬ (i:Int)<L.length:=by omega
   have e:t ∉ L:=by rw[aZ (by omega)]at hL;exact hL
   have hn:=hn e;refine lp hρ U aq λK hK=>?_
   rcases L with _|⟨x,L⟩
   . have rK:k=0:=by
      grind
     subst rK;obtain rfl:i=0:=by simpa using hi
     simp[uZ,U];exact bO.mk (aw.bw 2 (by simp) (by simp) rfl rfl) hn
   . have zxo:¬ (i:Int)<(L.length:Int)+1:=by simp at cA;omega
     simp[uZ,U,zxo];rcases hk with rfl|⟨rfl,_⟩<;>exact bO.mk (aw.bw 2 (by simp) (by simp) rfl rfl) hn
 | succ n ih =>
   intro i hi hL;have cA:i<L.length:=by omega
   have hw:=bI (i:=i);have er:=G.lD.1 h0 _ (az cA)
   have gR:L[i]≠t->t ∉ L.take (i+1):=by
    intro h hm;rw[dK,ax cA]at hm
    grind
   have ew:L[i]=t->t∈L:=λh=>h ▸ az cA
   have W8:(L.map au)[i]?=some (au L[i]):=by rw[bC,ax cA];rfl
   refine lp hρ U aq λK hK=>?_
   generalize L[i]=y at er gR ew W8;rcases L with _|⟨x,L⟩
   . simp at cA
   . have zxo:(i:Int)<(L.length:Int)+1:=by simp at cA;omega
     have zoa:i<L.length+1:=by simpa using cA
     simp only[aR,kQ]at W8;have S1:∀ h,(au x::L.map au)[i]'h=au y:=λh=>by simp only[kQ];exact(aM.1 W8).2
     simp only[kQ]at S1;have pS:i*5 / 5=i:=by omega
     have lj:i*5 % 5=0:=by omega
     simp[uZ,U,zxo,zoa,hc,er,pS,lj,S1];refine EU (λh=>?_) (λh=>?_)<;>simp[U,hw,-Int.natCast_add]
     . rcases hk with rfl|⟨rfl,_⟩<;>exact bO.mk (aw.bw 1 (by simp) (by simp) rfl rfl) (hf (ew h))
     . rcases hk with rfl|⟨rfl,_⟩<;>exact hK _ _ (gD (aw.bw 2 (by simp[-Int.natCast_add]) (by simp) rfl rfl) (ih (i+1) (by omega) (gR h)))
theorem Rl  (zMg:E.dE 32=dH (dC λa b:G=>if a.ok=true then some (decide (a=b))else none)) (hc:E.dE 157=CN 5 (V9 (yj d)) Np)   {kind:Int} (ht:t.ok=true) (hd:t.size<=d+1) (h0:G.eK L=true) (qs:(jX kind t L).length<=10000)
   (hv:rowOf 5 C v=some (L.map au)) (rE:C.H.get C.n=none):aT I Pg 157 [v,enc t,enc kind] C (zf 5 v (L.map au) ((jX kind t L).map au) C).1 (zf 5 v (L.map au) ((jX kind t L).map au) C).2:=by
 have hlen:=Ed kind t L;refine io hρ U aq (K:=Np) (rs:=[]) (.inl rfl) Tryz.func157 wI.2 rfl (by simp) (by simp) (by simp) rfl (by simpa using hlen.1) ?_ hv rE;clear hv rE;rw[zJ]
 have hk:(if L.map au=[]then 0 else 1)=0\/(if L.map au=[]then 0 else 1)=1/\L≠[]:=by
  grind
 by_cases Qw:t.kind=kind/\t.args=[]
 . rw [if_pos Qw];obtain⟨hkd,ke⟩:=Qw;rcases L with _|⟨x,L⟩
   . simp[U,hkd,ke];refine nX (ru (gD (aw.lit (TL:=[(0,oV 0 (([]:Z G).map au)),(4,.ptr 1 0 0),(7,.int .i64 ((0:Nat):Int))]) (HL:=(1,box (au t))::oH 0 5 (([]:Z G).map au)) (λk=>if k=1 then 0 else k) 2 ?_ ?_ rfl rfl) (D7 hρ U aq zMg (.inl rfl) h0 (by simp) ?_ ?_ 0 0 rfl (by simp))))
     . simp
     . simp[ke,hkd]
     . grind
     . intro _;simp[U,hkd,ke];exact aH.Za (λk=>if k=0 then 5 else k) rfl rfl ⟨rfl,rfl⟩ (by simp)
   . simp[U,hkd,ke];refine nX (ru (gD (aw.bw (TL:=[(0,oV 0 ((x::L).map au)),(4,.ptr 1 0 0),(7,.int .i64 ((0:Nat):Int))]) (HL:=(1,box (au t))::oH 0 5 ((x::L).map au)) 2 ?_ ?_ rfl rfl) (D7 hρ U aq zMg (.inr ⟨rfl,by simp⟩) h0 (by omega) ?_ ?_ (x::L).length 0 (by omega) (by simp))))
     . simp
     . simp[ke,hkd]
     . intro h;simp[U,h];exact aH.fu rfl rfl rfl (by simp)
     . intro hn;have pA:(L.length+1+1)*64<=1048576:=by have:=hlen.1;simp only[aX]at this;omega
       simp[U,hkd,ke,hn,pA,aY];exact aH.fu rfl rfl rfl (by simp)
 . rw [if_neg Qw];have hneq:t.kind=kind->¬ t.args=[]:=λM O=>Qw ⟨M,O⟩
   have n9:(eO kind t.args L).length<=10000:=by rw[zJ,if_neg Qw]at qs;exact qs
   rcases L with _|⟨x,L⟩
   . have go:∀ T a8,aw 0 T a8 (dW [(0,oV 0 (([]:Z G).map au)),(2,.int .i64 kind),(4,.ptr 1 0 0),(8,.int .i64 ((0:Nat):Int))]) { H:=dW ((1,box (au t))::oH 0 5 (([]:Z G).map au)),n:=2,log:=[] } ->
      ∀ Q,Q (.exit 2) (dW [(0,oV 0 ((eO kind t.args []).map au))]) { H:=dW (oH 0 5 ((eO kind t.args []).map au)),n:=1,log:=[] }->Ls I E 0 52 (.loop lY) T a8 Q:=λT a8 hl Q hQ =>
      nX (ru (gD hl (D6 hρ U aq hc (.inl rfl) ht hd h0 n9 hQ t.args.length 0 [] (by omega) rfl)))
     by_cases M:t.kind=kind
     . have O:=hneq M;simp[U,M,O];refine go _ _ (aw.lit (λk=>if k=1 then 0 else k) 2 (by simp) (by simp[M]) rfl rfl) _ ?_;generalize eO kind t.args []=R;rcases R with _|⟨y,R⟩<;>simp[U]<;>exact aH.fu rfl rfl rfl (by simp)
     . simp[U,M];refine go _ _ (aw.lit (λk=>if k=1 then 0 else k) 2 (by simp) (by simp) rfl rfl) _ ?_;generalize eO kind t.args []=R;rcases R with _|⟨y,R⟩<;>simp[U]<;>exact aH.fu rfl rfl rfl (by simp)
   . have hRl:=(qM kind t.args (x::L)).1
     have go:∀ T a8,aw 1 T a8 (dW [(0,oV 0 ((x::L).map au)),(2,.int .i64 kind),(4,.ptr 1 0 0),(8,.int .i64 ((0:Nat):Int))]) { H:=dW ((1,box (au t))::oH 0 5 ((x::L).map au)),n:=2,log:=[] } ->
      ∀ Q,Q (.exit 2) (dW [(0,oV 0 ((eO kind t.args (x::L)).map au))]) { H:=dW (oH 0 5 ((eO kind t.args (x::L)).map au)),n:=1,log:=[] }->Ls I E 1 52 (.loop lY) T a8 Q:=λT a8 hl Q hQ =>
      nX (ru (gD hl (D6 hρ U aq hc (.inr ⟨rfl,by simp⟩) ht hd h0 n9 hQ t.args.length 0 (x::L) (by omega) rfl)))
     by_cases M:t.kind=kind
     . have O:=hneq M;simp[U,M,O];refine go _ _ (aw.bw 2 (by simp) (by simp[M]) rfl rfl) _ ?_;generalize eO kind t.args (x::L)=R at hRl;rcases R with _|⟨y,R⟩
       . simp at hRl
       . simp[U];exact aH.fu rfl rfl rfl (by simp)
     . simp[U,M];refine go _ _ (aw.bw 2 (by simp) (by simp) rfl rfl) _ ?_;generalize eO kind t.args (x::L)=R at hRl;rcases R with _|⟨y,R⟩
       . simp at hRl
       . simp[U];exact aH.fu rfl rfl rfl (by simp)
theorem V4{l:Z Int}(M:l.length<=1000000)
 (hf:x∈l->∀ T C,T.get 4=some (.bool true)->Q .ret T C) (ht:x ∉ l->∀ T C,Q (.exit 0) T C) :
 ∀ (n i:Nat),i+n=l.length->x ∉ l.take i->ua I E 0 18 EX Q (n+1) (dW [(0,.sl (l.map cW) false),(1,.int .i64 x),(5,.int .i64 (i:Int))]) { H:=dW [],n:=0,log:=[] }:=by
 intro n
 induction n with
 | zero =>
   intro i hi he;have cA:¬ (i:Int)<l.length:=by omega
   have e:x ∉ l:=by rw[aZ (by omega)]at he;exact he
   refine lp hρ U aq λK hK=>?_
   simp[EX,U,cA];exact ht e _ _
 | succ n ih =>
   intro i hi he;have cA:i<l.length:=by omega
   have Ch:(i:Int)<l.length:=by omega
   have hw:=bI (i:=i)
   have gR:l[i]≠x->x ∉ l.take (i+1):=by
    intro h hm;rw[dK,ax cA]at hm
    grind
   have ew:l[i]=x->x∈l:=λh=>h ▸ az cA
   refine lp hρ U aq λK hK=>?_
   simp[EX,U,Ch,cA];refine EU (λh=>?_) (λh=>?_)<;>simp[U,hw,-Int.natCast_add]
   . exact hf (ew h) _ _ (by simp)
   . exact hK _ _ (gD (aw.bw 0 (by simp[-Int.natCast_add]) (by simp) rfl rfl) (ih (i+1) (by omega) (gR h)))
def YN{l:Z Int}(M:l.length<=1000000)(C:HS):aT I Pg 72 [enc l,enc x] C (enc (decide (x∈l))) C:=by
 refine fn hρ U aq Tryz.func72 Mm.2 rfl (by simp) ?_ C;simp;refine ru (gD (aw.bw (TL:=[(0,.sl (l.map cW) false),(1,.int .i64 x),(5,.int .i64 ((0:Nat):Int))]) (HL:=[]) 0 (by simp) (by simp) rfl rfl) (V4 hρ U aq M ?_ ?_ l.length 0 (by omega) (by simp)))
 . intro h T C hT;simp[hT,h,U]
 . intro h T C;simp[h,U]
def Rm  (hc:E.dE 157=CN 5 (V9 (yj d)) Np)  (hl:G.eK l=true) (fX:l.length<=10000) (hd:G.bj l<=d) (lj:(eO 1 l []).length<=10000) 
 (hQ:Q (.exit 0) (dW [(3,oV 0 ((eO 1 l []).map au))]) { H:=dW (oH 0 5 ((eO 1 l []).map au)),n:=1,log:=[] }) :
 ∀ (n i:Nat) (L:Z G),i+n=l.length->L=eO 1 (l.take i) []->ua I E 0 42 yL (bO 0 Q) (n+1) (dW [(0,.sl (l.map au) false),(3,oV 0 (L.map au)),(4,.int .i64 (i:Int))])
   { H:=dW (oH 0 5 (L.map au)),n:=1,log:=[] }:=by
 intro n
 induction n with
 | zero =>
   intro i L hi hL;have cA:¬ (i:Int)<l.length:=by omega
   have e:L=eO 1 l []:=by rw[hL,aZ (by omega)]
   rw[<- e]at hQ;refine lp hρ U aq λK hK=>?_
   rcases L with _|⟨x,L⟩<;>simp[yL,U,cA]<;>exact bO.mk (aw.bw 1 (by simp) (by simp) rfl rfl) hQ
 | succ n ih =>
   intro i L hi hL;have cA:i<l.length:=by omega
   have Ch:(i:Int)<l.length:=by omega
   have hw:=bI (i:=i);have hm:=az cA;have er:=G.lD.1 hl _ hm;have zxz:G.eK L=true:=by rw[hL];exact Uo (zbC hl i) _ rfl
   have hlen:=qM 1 (l.take i) [];rw[<- hL]at hlen
   have b8:G.bj (l.take i)+l[i].size<=G.bj l:=by
    have:=VX l (i+1);rw[dK,ax cA,Fj]at this;simpa [G.bj]using this
   have bc:jX 1 l[i] L=eO 1 (l.take (i+1)) []:=by
    rw[dK,ax cA,fP,Nl,hL]
   have hb:(jX 1 l[i] L).length<=10000:=by rw[bc];exact aO (Qs 1 l (i+1) []) lj
   have hF:yj d L l[i] 1=some (jX 1 l[i] L):=by
    unfold yj;rw[if_pos ⟨by omega,er,zxz,hb⟩]
   have We:=Ed 1 l[i] L;refine lp hρ U aq λK hK=>?_
   generalize hR:jX 1 l[i] L=R at hF bc We;rcases L with _|⟨x,L⟩
   . rcases R with _|⟨y,R⟩<;>simp[yL,U,cA,Ch,hc,hw,hF,Np,-Int.natCast_add]
     . exact hK _ _ (gD (aw.bw 1 (by simp[-Int.natCast_add]) (by simp) rfl rfl) (ih (i+1) _ (by omega) bc))
     . exact hK _ _ (gD (aw.lit (λk=>if k=0 then 12 else k) 1 (by simp[-Int.natCast_add]) (by simp) rfl rfl) (ih (i+1) _ (by omega) bc))
   . rcases R with _|⟨y,R⟩
     . simp at We
     . have zxn:L.length<=R.length:=by simp at We;omega
       simp[yL,U,cA,Ch,hc,hw,hF,Np,zxn,-Int.natCast_add];exact hK _ _ (gD (aw.bw 1 (by simp[-Int.natCast_add]) (by simp) rfl rfl) (ih (i+1) _ (by omega) bc))
def G8 (hc:E.dE 72=KU (dC λ(l:Z Int) (x:Int)=>if l.length<=1000000 then some (decide (x∈l))else none))  (hl:F.length<=10000) 
 (hQ:Q (.exit 2) (dW [(5,oV 1 ((vE F).map cW))]) { H:=dW (oH 1 1 ((vE F).map cW)),n:=2,log:=[] }) :
 ∀ (n i:Nat) (dy:Z Int),i+n=F.length->dy=vE (F.take i)->ua I E 0 42 qG (bO 0 Q) (n+1) (dW [(3,oV 0 (F.map au)),(5,oV 1 (dy.map cW)),(6,.int .i64 (i:Int))])
   { H:=dW (oH 0 5 (F.map au)++oH 1 1 (dy.map cW)),n:=2,log:=[] }:=by
 intro n
 induction n with
 | zero =>
   intro i dy hi hO;have e:dy=vE F:=by rw[hO,aZ (by omega)]
   rw[<- e]at hQ;refine lp hρ U aq λK hK=>?_
   rcases F with _|⟨x,F⟩
   . obtain rfl:i=0:=by simpa using hi
     rcases dy with _|⟨y,dy⟩<;>simp[qG,U]<;>exact bO.mk (aw.bw 2 (by simp) (by simp) rfl rfl) hQ
   . have cA:¬ (i:Int)<(F.length:Int)+1:=by simp at hi;omega
     rcases dy with _|⟨y,dy⟩<;>simp[qG,U,cA]<;>exact bO.mk (aw.bw 2 (by simp) (by simp) rfl rfl) hQ
 | succ n ih =>
   intro i dy hi hO;have cA:i<F.length:=by omega
   have hw:=bI (i:=i);have zKi:dy.length<=10000:=by rw[hO];have:=Xf (F.take i);rw[eB]at this;omega
   have bc:AY dy F[i]=vE (F.take (i+1)):=by
    rw[dK,ax cA,fP,Uw,hO]
   have W8:(F.map au)[i]?=some (au F[i]):=by rw[bC,ax cA];rfl
   refine lp hρ U aq λK hK=>?_
   generalize F[i]=y at bc W8;rcases F with _|⟨x,F⟩
   . simp at cA
   have zoa:i<F.length+1:=by simpa using cA
   simp only[aR,kQ]at W8;have S1:∀ h,(au x::F.map au)[i]'h=au y:=λh=>by simp only[kQ];exact(aM.1 W8).2
   simp only[kQ]at S1;have pS:(i*5+2) / 5=i:=by omega
   have lj:(i*5+2) % 5=2:=by omega
   by_cases ew:y.id∈dy
   . have rS:AY dy y=dy:=if_pos ew;rw[rS]at bc;rcases dy with _|⟨z,dy⟩
     . cases ew
     . have zxy:dy.length+1<=1000000:=by simp at zKi;omega
       simp[qG,U,zoa,hc,pS,lj,S1,ew,hw,zxy,-Int.natCast_add,-List.mem_cons];exact hK _ _ (gD (aw.bw 2 (by simp[-Int.natCast_add]) (by simp) rfl rfl) (ih (i+1) _ (by omega) bc))
   . have rS:AY dy y=dy++[y.id]:=if_neg ew;rw[rS]at bc;rcases dy with _|⟨z,dy⟩
     . simp[qG,U,zoa,hc,pS,lj,S1,hw,-Int.natCast_add];exact hK _ _ (gD (aw.lit (λk=>if k=1 then 21 else k) 2 (by simp[-Int.natCast_add]) (by simp) rfl rfl) (ih (i+1) _ (by omega) bc))
     . have zxy:dy.length+1<=1000000:=by simp at zKi;omega
       have pA:(dy.length+1+1)*8<=1048576:=by simp at zKi;omega
       simp[qG,U,zoa,hc,pS,lj,S1,ew,hw,zxy,pA,aY,-Int.natCast_add,-List.mem_cons];exact hK _ _ (gD (aw.bw 2 (by simp[-Int.natCast_add]) (by simp) rfl rfl) (ih (i+1) _ (by omega) bc))
def V3(zMf:E.dE 72=KU (dC λ(l:Z Int) (x:Int)=>if l.length<=1000000 then some (decide (x∈l))else none))(hc:E.dE 157=CN 5 (V9 (yj d)) Np)(hl:G.eK l=true)(fX:l.length<=10000)(hd:G.bj l<=d)(lj:(eO 1 l []).length<=10000)(C:HS):aT I Pg 71 [enc l] C (enc (tQ l)) C:=by
 refine fn hρ U aq Tryz.func71 Ep.2 rfl (by simp) ?_ C;simp;refine nX (ru (gD (aw.bw (TL:=[(0,.sl (l.map au) false),(3,oV 0 (([]:Z G).map au)),(4,.int .i64 ((0:Nat):Int))]) (HL:=oH 0 5 (([]:Z G).map au)) 1 (by simp) (by simp) rfl rfl) (Rm hρ U aq hc hl fX hd lj ?_ l.length 0 [] (by omega) rfl)));have hlen:=qM 1 l [];unfold tQ;have hF:=lj;clear lj;generalize eO 1 l []=F at hlen hF;rcases F with _|⟨y,F⟩
 . simp;refine nX (ru (gD (aw.bw (TL:=[(3,oV 0 (([]:Z G).map au)),(5,oV 1 (([]:Z Int).map cW)),(6,.int .i64 ((0:Nat):Int))]) (HL:=oH 0 5 (([]:Z G).map au)++oH 1 1 (([]:Z Int).map cW)) 2 (by simp) (by simp) rfl rfl) (G8 hρ U aq zMf hF ?_ 0 0 [] (by simp) rfl)));simp[vE]
 . simp;refine nX (ru (gD (aw.bw (TL:=[(3,oV 0 ((y::F).map au)),(5,oV 1 (([]:Z Int).map cW)),(6,.int .i64 ((0:Nat):Int))]) (HL:=oH 0 5 ((y::F).map au)++oH 1 1 (([]:Z Int).map cW)) 2 (by simp) (by simp) rfl rfl) (G8 hρ U aq zMf hF ?_ (y::F).length 0 [] (by omega) rfl)));generalize vE (y::F)=dy;rcases dy with _|⟨z,dy⟩<;>simp[U]
end
def bF{_:Decidable c}{x r:α}(h:(if c then some x else none)=some r):c/\x=r:=by
 split at h
 . cases h;exact⟨‹_›,rfl⟩
 . cases h
def fo{fn:Func}(hf:Pg.funcs[f]?=some fn)(hb:fn.body.bind aU=some sc):wh Pg f:=zsL hf (by
 cases h:fn.body with
 |none=>rw[h]at hb;cases hb
 |some c=>rfl)
abbrev EL(L:Z (Nat×J.Spec)):Env:=zkg Pg wx L
section
variable {I:Nat->Value}(hρ:J.Good I)
include hρ
def zDm:J.Spec:=dH (dC λn m:Int=>if -1000000<=m/\m<=1000000 then some (Y1 n m)else none)
def zIh:Valid I Pg 11 zDm:=v2 (fo Tryz.func11 VB.2) λa b r h C=>by
 obtain⟨M,rfl⟩:=bF h;exact Y4 hρ (E:=EL []) rfl (ag aG) (by omega) (by omega) C
def S6:J.Spec:=dH (cO λl:Z Int=>some (decide (l.length<=60)))
def zIn:Valid I Pg 8 S6:=v1 (fo Tryz.func8 VC.2) λa r h C=>by
 cases h;exact Y5 hρ (E:=EL []) rfl (ag aG) C
def ztb:J.Spec:=dH (dC λ(n:Z Nat) (l:Z G)=>if l.length<=10000 then some (uM n l)else none)
def zvO:Valid I Pg 38 ztb:=v2 (fo Tryz.func38 VA.2) λa b r h C=>by
 obtain⟨M,rfl⟩:=bF h;exact YO hρ (E:=EL []) rfl (ag aG) M C
def zBT:Valid I Pg 15 (dH (Fh Ik)):=v0 (fo Tryz.func15 Vz.2) λC =>
 YM hρ (E:=EL [(38,ztb)]) rfl (ag (ae (zvO hρ) aG)) rfl C
def zvS:Valid I Pg 30 (dH (dC λa b:G=>some (vO a b))):=v2 (fo Tryz.func30 Ob.2) λa b r h C=>by
 cases h;exact Tz hρ (E:=EL [(38,ztb)]) rfl (ag (ae (zvO hρ) aG)) rfl C
def zIf:Valid I Pg 14 (dH (cO λi:Int=>some (fq i))):=v1 (fo Tryz.func14 Vy.2) λa r h C=>by
 cases h;exact YL hρ (E:=EL []) rfl (ag aG) C
def zvR:Valid I Pg 31 (dH (cO λi:Int=>some (qU i))):=v1 (fo Tryz.func31 Oa.2) λa r h C=>by
 cases h;exact Tx hρ (E:=EL []) rfl (ag aG) C
def zlH:Valid I Pg 16 (dH (dC λh i:Int=>some (fD h i))):=v2 (fo Tryz.func16 N9.2) λa b r h C=>by
 cases h;exact Tv hρ (E:=EL []) rfl (ag aG) C
def zau:Valid I Pg 34 (H6 (Iu BI)):=s1 (fo Tryz.func34 FX.2) λs a q h C id hid hg=>by
 obtain⟨⟨M,O⟩,rfl⟩:=bF h;exact LK hρ (E:=EL [(11,zDm)]) rfl (ag (ae (zIh hρ) aG)) rfl M.1 M.2 O C id hid hg
def zMN(d:Nat):Valid I Pg 32 (dH (dC (Rr d)))/\Valid I Pg 39 (dH (dC (Po d))):=by
 have all:∀ d,Valid I Pg 32 (dH (dC (Rr d)))->Valid I Pg 39 (dH (dC (Po d))):=λd hv=>v2 (fo Tryz.func39 BD.2) λa b r h C=>by
  obtain⟨⟨M,O,h3⟩,rfl⟩:=bF h;exact M5 hρ (E:=EL [(32,dH (dC (Rr d)))]) rfl (ag (ae hv aG)) rfl M O h3 C
 have one:∀ d,Valid I Pg 32 (dH (dC (Rr d))):=by
  intro d
  induction d with
  | zero =>
    refine v2 (fo Tryz.func32 Cr.2) λa b r h C=>?_
    obtain⟨⟨M,O⟩,rfl⟩:=bF h;have:=G.size_eq a;omega
  | succ d ih =>
    refine v2 (fo Tryz.func32 Cr.2) λa b r h C=>?_
    obtain⟨⟨M,O⟩,rfl⟩:=bF h;exact IB hρ (E:=EL [(39,dH (dC (Po d)))]) rfl (ag (ae (all d ih) aG)) rfl M O C
 exact⟨one d,all d (one d)⟩
def equalS:J.Spec:=dH (dC λa b:G=>if a.ok=true then some (decide (a=b))else none)
def zlL:Valid I Pg 32 equalS:=v2 (fo Tryz.func32 Cr.2) λa b r h C=>by
 obtain⟨M,rfl⟩:=bF h;exact IB hρ (E:=EL [(39,dH (dC (Po a.size)))]) rfl (ag (ae (zMN hρ a.size).2 aG)) rfl M (by omega) C
def zlJ(d:Nat):Valid I Pg 48 (dH (dC (M0 d))):=by
 induction d with
 | zero =>
   refine v2 (fo Tryz.func48 uG.2) λa b r h C=>?_
   obtain⟨⟨M,O,h3⟩,rfl⟩:=bF h;have:=G.size_eq a;omega
 | succ d ih =>
   refine v2 (fo Tryz.func48 uG.2) λa b r h C=>?_
   obtain⟨⟨M,O,h3⟩,rfl⟩:=bF h;exact OT hρ (E:=EL [(48,dH (dC (M0 d)))]) rfl (ag (ae ih aG)) rfl M O h3 C
def zqP(d:Nat):Valid I Pg 157 (CN 5 (V9 (yj d)) Np):=by
 induction d with
 | zero =>
   refine Valid.io (fo Tryz.func157 wI.2) λes vs r _ _ h0 _ _ _ C v hv rE=>?_
   obtain⟨l,a,b,q,rfl,rfl,h,rfl⟩:=zbY h0;obtain⟨⟨M,O,h3⟩,rfl⟩:=bF h;have:=G.size_eq a;omega
 | succ d ih =>
   refine Valid.io (fo Tryz.func157 wI.2) λes vs r _ _ h0 _ _ _ C v hv rE=>?_
   obtain⟨l,a,b,q,rfl,rfl,h,rfl⟩:=zbY h0;obtain⟨⟨M,O,h3,h4⟩,rfl⟩:=bF h;exact Rl hρ (E:=EL [(32,equalS),(157,CN 5 (V9 (yj d)) Np)]) rfl (ag (ae (zlL hρ) (ae ih aG))) rfl rfl O M h3 h4 hv rE
def Gv:J.Spec:=KU (dC λ(l:Z Int) (x:Int)=>if l.length<=1000000 then some (decide (x∈l))else none)
def zBU:Valid I Pg 72 Gv:=c2 (fo Tryz.func72 Mm.2) λa b r h C=>by
 obtain⟨M,rfl⟩:=bF h;exact YN hρ (E:=EL []) rfl (ag aG) M C
def zlw(d:Nat):J.Spec:=dH (cO λl:Z G=>if G.eK l=true/\l.length<=10000/\G.bj l<=d then some (tQ l)else none)
def zBJ(d:Nat)(hd:d<=10000):Valid I Pg 71 (zlw d):=v1 (fo Tryz.func71 Ep.2) λa r h C=>by
 obtain⟨⟨M,O,h3⟩,rfl⟩:=bF h;exact V3 hρ (E:=EL [(72,Gv),(157,CN 5 (V9 (yj d)) Np)]) rfl (ag (ae (zBU hρ) (ae (zqP hρ d) aG))) rfl rfl M O h3 (by have:=(qM 1 a []).2;simp at this;omega) C
end
def zhH(l:Z G):l.length<=G.bj l:=by
 induction l with
 |nil=>exact af _
 |cons t l ih=>have:=G.size_pos t;simp only[G.bj,aX];omega
def Se(d:Nat)(s:ao)(t:G)(m:Int):Y Int:=if s.ll/\t.ok=true/\0<=m/\m<d then some ((sz s.w t (max m 0).toNat:Nat):Int)else none
section
variable {I:Nat->Value}(hρ:J.Good I){E:Env}(U:E.P=Pg)(aq:bH I E)
include hρ U aq
theorem Rh  (hc:E.dE 132=dH (tZ (Se d))) (hd:d<=1000000)  (C:s.ll)  (hu:G.eK l=true) (hlen:l.length<=10000)  (hm:m<=d) {R:Nat} 
 (hQ:Q (.exit 0) (dW [(7,.int .i64 (R:Int)),(2,.int .i64 (m:Int))]) { H:=dW [],n:=0,log:=[] }) :
 ∀ (n i r:Nat),i+n=l.length->1<=r->r<=m+1->VH (sz s.w) m (l.drop i) r=R ->
   ua I E 0 39 wR (bO 0 Q) (n+1) (dW [(17,.int .i64 (i:Int)),(16,.int .i64 (l.length:Int)),(15,.sl (l.map au) false),(7,.int .i64 (r:Int)),(2,.int .i64 (m:Int)),(3,.ptr 0 0 0)]) { H:=dW [(0,box (qA s))],n:=1,log:=[] }:=by
 intro n
 induction n with
 | zero =>
   intro i r hi sg Ax hR;have cA:¬ (i:Int)<l.length:=by omega
   rw[List.drop_of_length_le (by omega)]at hR;simp only[VH]at hR;subst hR;refine lp hρ U aq λK hK=>?_
   simp[wR,U,cA];exact bO.mk (aw.bw 0 (by simp) (by simp) rfl rfl) hQ
 | succ n ih =>
   intro i r hi sg Ax hR;have cA:i<l.length:=by omega
   have Ch:(i:Int)<l.length:=by omega
   have hw:=bI (i:=i);have hx:=G.lD.1 hu _ (az cA);rw[aK cA]at hR;generalize hX:l[i]=x at hx hR;refine lp hρ U aq λK hK=>?_
   unfold VH at hR;by_cases hrm:r<=m
   . rw[if_pos hrm]at hR;have zxk:¬ (m:Int)<(r:Int):=by omega
     have eL:IntKind.i64.wrap ((m:Int)-(r:Int))=((m-r:Nat):Int):=by rw[wrap_i64 (by omega) (by omega)];omega
     have hF:Se d s x ((m-r:Nat):Int)=some ((sz s.w x (m-r):Nat):Int):=by
      unfold Se
      grind
     have hle:=zuj (w:=s.w) x (m-r);generalize sz s.w x (m-r)=q at hF hle hR;have rS:IntKind.i64.wrap ((r:Int)+(q:Int))=((r+q:Nat):Int):=by rw[wrap_i64 (by omega) (by omega)];omega
     simp[wR,U,cA,Ch,zxk,hX,eL,hc,hF,rS,hw,-Int.natCast_add];exact hK _ _ (gD (aw.bw 1 (by simp[-Int.natCast_add]) (by simp) rfl rfl) (ih (i+1) (r+q) (by omega) (by omega) (by omega) hR))
   . rw[if_neg hrm]at hR;subst hR;have zxk:(m:Int)<(r:Int):=by omega
     simp[wR,U,cA,Ch,zxk,hX];exact bO.mk (aw.bw 0 (by simp) (by simp) rfl rfl) hQ
theorem Tc(hc:E.dE 132=dH (tZ (Se d)))(hd:d<=1000000)(hw:E.dE 199=dH (dC λ(s:ao) (t:G)=>if s.a9.length<=1000000 then some (s.w t)else none))
  (C:s.ll)  (ht:t.ok=true)  (hE:m0<d+1) (eM:HS):aT I Pg 132 [enc s,enc t,enc m0] eM (enc ((sz s.w t (max m0 0).toNat:Nat):Int)) eM:=by
 refine fn hρ U aq Tryz.func132 yS.2 rfl (by simp) ?_ eM;have M:s.a9.length<=1000000:=by have:=C.1;omega
 have hu:(s.w t).ok=true:=ao.Sz C _ ht;have em:(if m0<0 then 0 else m0)=(((max m0 0).toNat:Nat):Int):=by split<;>omega
 have hm:(max m0 0).toNat<=d:=by omega
 generalize (max m0 0).toNat=m at em hm;have e:=zmj (w:=s.w) t m;have rS:=bI (i:=m);generalize hU:s.w t=u at hu e;have zJR:G.eK u.args=true:=by rw[G.lD];exactλx hx=>G.EJ hu hx
 simp[U,hw,M,hU,em]
 refine nX (ru (gD (aw.bw (TL:=[(17,.int .i64 ((0:Nat):Int)),(16,.int .i64 (u.args.length:Int)),(15,.sl (u.args.map au) false),(7,.int .i64 ((1:Nat):Int)),(2,.int .i64 (m:Int)),(3,.ptr 0 0 0)]) (HL:=[(0,box (qA s))]) 1 (by simp) (by simp) rfl rfl)
  (Rh hρ U aq hc hd C zJR (G.wW hu) hm (R:=VH (sz s.w) m u.args 1) ?_ u.args.length 0 1 (by omega) (by omega) (by omega) rfl)))
 generalize VH (sz s.w) m u.args 1=q at e;rw[e];by_cases hq:m<q
 . have hq':(m:Int)<q:=by omega
   have e3:min q (m+1)=m+1:=by omega
   simp_all
 . have hq':¬ (m:Int)<q:=by omega
   have e3:min q (m+1)=q:=by omega
   rw[e3];simp[U,hq']
end
end Go.Proofs.YtfloillkpbhhhaaGreat
