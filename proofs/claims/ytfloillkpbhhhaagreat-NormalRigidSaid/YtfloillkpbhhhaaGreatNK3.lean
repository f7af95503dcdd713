import Derived.Test.YtfloillkpbhhhaaGreatNK2
import Derived.Test.YtfloillkpbhhhaaGreatNAL
import Derived.Test.YtfloillkpbhhhaaGreatJK9
import Derived.Test.YtfloillkpbhhhaaGreatJK8
import Derived.Test.YtfloillkpbhhhaaGreatJK11
import Derived.Test.YtfloillkpbhhhaaGreatJK10
set_option linter.all false
noncomputable section
namespace Go.Proofs.YtfloillkpbhhhaaGreat
open Go.J
open Go.J.bo (enc)
set_option maxRecDepth 100000
set_option maxHeartbeats 4000000
variable {t tg:Bool}{Q:Ex->PT V->HS->Prop}{C eM:HS}{m:Int}{o:J.Obj}{S:J.Spec}{d f i:Nat}{H:PT J.Obj}{T:PT V}{c:Scheme}{s:ao}{HD:ao.Sv}{tv v:V}{r:Y Nat}{N:Z (Z Nat)}{D:Z Decl}{l:Z Int}{a n x:Z Nat}{vs:Z V}
section
variable {I:Nat->Value}(hρ:J.Good I)
include hρ
def Wz(d:Nat)(hd:d<=1000)(hv:Valid I Pg 12 S){t:Tp}{Lv:Z G}{n:Int}(hS:0<n->S=H6 (Ir (MF d)))(M:t.ok)(O:PC D)(h3:Lv.length<=100000)(h4:n<=d+1)(C:HS)(id:Nat)(hid:id<C.n)(hg:C.H.get id=some (box (iC.cells t))) :
 aT I Pg 12 [.ptr id 0 0,enc D,enc Lv,enc n] C (enc (jb n.toNat t D Lv).2) (C.wr id (box (iC.cells (jb n.toNat t D Lv).1))) :=
 LJ hρ (E:=EL [(34,H6 (Iu BI)),(38,ztb),(15,dH (Fh Ik)),(30,dH (dC λa b:G=>some (vO a b))),(12,S)]) rfl
  (ag (ae (zau hρ) (ae (zvO hρ) (ae (zBT hρ) (ae (zvS hρ) (ae hv aG)))))) rfl rfl rfl rfl hS M O h3 h4 hd C id hid hg
def zNw:J.Spec:=λ_ _=>none
omit hρ in
def zBO(hf:wh Pg f):Valid I Pg f zNw where
 fn:=hf
 ok:=λ{_ _ _ _} h=>by cases h
 kept:=λ{_ _ _} h=>by cases h
def zBK(d:Nat)(hd:d<=1000):Valid I Pg 12 (H6 (Ir (MF d))):=by
 induction d with
 | zero =>
   refine s3 (fo Tryz.func12 qJ.2) λs a b c q h C id hid hg=>?_
   obtain⟨⟨M,O,h3,h4⟩,rfl⟩:=bF h;exact Wz hρ 0 hd (zBO (fo Tryz.func12 qJ.2)) (λh=>by omega) M O h3 (by omega) C id hid hg
 | succ d ih =>
   refine s3 (fo Tryz.func12 qJ.2) λs a b c q h C id hid hg=>?_
   obtain⟨⟨M,O,h3,h4⟩,rfl⟩:=bF h;exact Wz hρ d (by omega) (ih (by omega)) (λ_=>rfl) M O h3 (by omega) C id hid hg
omit hρ in
def zkF{a8:HS}{r:V}(h:aT I Pg f vs C v a8)(e:gX v=r):aT I Pg f vs C r a8:=by
 intro X w F μ xs hR hD hO hA;refine CallsIn.mono (h X w F μ xs hR hD hO hA) λe' w' he=>?_
 cases e' with
 | returned x =>
   obtain⟨F1,μ1,g1,g2,g3⟩:=he;exact⟨F1,μ1,g1,by rw[<- e];exact g2.norm,g3⟩
 |panicked c=>exact he
 |outgrown=>exact he
def zIw:Valid I Pg 33 (dH (Fh Kw)):=v0 (zsL Tryz.func33 (by kernel_rfl)) λC=>zkF
 (IK hρ (E:=EL [(151,WU zgG)]) (ag (ae (zd1 hρ) aG)) follows named ztB rfl) (by kernel_rfl)
def zvN:Valid I Pg 9 (dH (cO λbits:Int=>some (bu bits))):=v1 (fo Tryz.func9 GY.2) λa r h C=>by
 cases h;exact Ug hρ (E:=EL [(33,dH (Fh Kw))]) rfl (ag (ae (zIw hρ) aG)) rfl C
def zgY:J.Spec:=NX 5 (λvs=>W (cO (λn:Int=>if 0<=n/\n<=10000 then some (rA n.toNat)else none) vs) λv=>match v with|.sl es _=>some es|_=>none)
def zqN:Valid I Pg 13 zgY:=Valid.row (fo Tryz.func13 JF.2) λvs es _ h C hv=>by
 rw[aA]at h;obtain⟨v,M,O⟩:=h;obtain⟨n,r,rfl,h3,rfl⟩:=OG M;obtain⟨⟨h4,h5⟩,rfl⟩:=bF h3;obtain⟨m,rfl⟩:=bK h4;cases O;exact V8 hρ (E:=EL [(14,dH (cO λi:Int=>some (fq i)))]) rfl (ag (ae (zIf hρ) aG)) rfl (by omega) hv
end
def Tb:J.Spec:=dH (Fh true)
section
variable {I:Nat->Value}(hρ:J.Good I)
include hρ
def zt1:Valid I Pg 162 (dH (cO λi:Int=>some (fq i))):=v1 (fo Tryz.func162 Q4.2) λa r h C=>by
 cases h;exact VU hρ (E:=EL []) rfl (ag aG) C
def zt3:Valid I Pg 271 (dH (dC λ(s:ao) (i:Int)=>some (s.cg i).isSome)):=v2 (fo Tryz.func271 Q5.2) λa b r h C=>by
 cases h;exact VV hρ (E:=EL []) rfl (ag aG) C
def zgh:Valid I Pg 253 (dH (dC λ(s:ao) (t:G)=>some (s.bound t))):=v2 (fo Tryz.func253 EZ.2) λa b r h C=>by
 cases h;exact G7 hρ (E:=EL [(271,dH (dC λ(s:ao) (i:Int)=>some (s.cg i).isSome))]) rfl (ag (ae (zt3 hρ) aG)) rfl C
def KA:J.Spec:=dH (dC λ(s:ao) (t:G)=>if s.a9.length<=1000000 then some (s.w t)else none)
def zdx:Valid I Pg 199 KA:=v2 (fo Tryz.func199 u7.2) λa b r h C=>by
 obtain⟨M,rfl⟩:=bF h;exact Ta hρ (E:=EL [(253,dH (dC λ(s:ao) (t:G)=>some (s.bound t)))]) rfl (ag (ae (zgh hρ) aG)) rfl M C
def WN(hd:d<=1000000)(hv:Valid I Pg 132 S)(hS:S=dH (tZ (Se d))){t:G}(M:s.ll)(O:t.ok=true)(h3:m<d+1)(C:HS) :
 aT I Pg 132 [enc s,enc t,enc m] C (enc ((sz s.w t (max m 0).toNat:Nat):Int)) C:=by
 subst hS;exact Tc hρ (E:=EL [(132,dH (tZ (Se d))),(199,KA)]) rfl (ag (ae hv (ae (zdx hρ) aG))) rfl hd rfl M O h3 C
def zvI(d:Nat)(hd:d<=1000000):Valid I Pg 132 (dH (tZ (Se d))):=by
 induction d with
 | zero =>
   refine v3 (fo Tryz.func132 yS.2) λa b c r h C=>?_
   obtain⟨⟨M,O,h3,h4⟩,rfl⟩:=bF h;omega
 | succ d ih =>
   refine v3 (fo Tryz.func132 yS.2) λa b c r h C=>?_
   obtain⟨⟨M,O,h3,h4⟩,rfl⟩:=bF h;exact WN hρ (by omega) (ih (by omega)) rfl M O (by omega) C
end
section
variable {I:Nat->Value}(hρ:J.Good I){E:Env}(U:E.P=Pg)(aq:bH I E)
include hρ U aq
def sG {k:Nat} (hk:k=5\/k=6) (hc:E.dE 284=sj (IH 284 (ao.D0 d)))  (eM:s.ll) {l:Z G} (Ge:∀ x∈l,x.ok=true) (fX:l.length<=10000) {R:ao.Sv} (hv:ao.A3 (ao.ux s d) l HD=some R) (hl:R.2.length<=100000) (rK:k=6->HD.2≠[])
    (hT:aw k T C (dW [(1,.ptr 0 0 0),(2,.ptr 2 0 0),(3,.ptr 3 0 0),(4,.ptr 4 0 0),(41,.sl (l.map au) false),(42,.int .i64 (l.length:Int)),(43,.int .i64 ((0:Nat):Int))]) { H:=dW (gM 284 s HD.1 HD.2),n:=6,log:=[] })
 (hQ:Q (.exit 0) (dW []) { H:=dW (gM 284 s R.1 R.2),n:=6,log:=[] }):Ls I E k 51 (.loop kT) T C Q:=by
 refine vC hρ U aq l.length (nn:=6) (λi (_:ao.Sv)=>[(1,.ptr 0 0 0),(2,.ptr 2 0 0),(3,.ptr 3 0 0),(4,.ptr 4 0 0),(41,.sl (l.map au) false),(42,.int .i64 (l.length:Int)),(43,.int .i64 (i:Int))])
  (λi st=>gM 284 s st.1 st.2) (λi st=>ao.A3 (ao.ux s d) (l.drop i) st=some R/\(k=6->st.2≠[])) HD hT ⟨by simpa using hv,rK⟩ ?_ ?_
 . rintro ⟨seen,out⟩ ⟨M,O⟩ K;rw[bz]at M;cases M;simp only at O hQ;rcases hk with rfl|rfl
   . rcases out with _|⟨x,out⟩<;>simp[kT,U,gM,lu] <;>
     exact bO.mk (aw.auto (by simp[gM]) (by simp[gM,lu]) (by simp[gM]) (by simp[gM]<;>(intro x hx;first|omega|exact⟨.inl hx,by omega⟩))) hQ
   . rcases out with _|⟨x,out⟩
     . exact absurd rfl (O rfl)
     . simp[kT,U,gM,lu];exact bO.mk (aw.auto (by simp[gM]) (by simp[gM,lu]) (by simp[gM]) (by simp[gM]<;>(intro x hx;first|omega|exact⟨.inl hx,by omega⟩))) hQ
 . rintro i ⟨seen,out⟩ cA ⟨M,O⟩ K hK;have Ch:(i:Int)<l.length:=by omega
   have hw:=bI (i:=i);rw[aK cA,ao.A3]at M;have rk:=Ge _ (az cA);obtain⟨x,hx⟩:∃ x,l[i]=x:=⟨_,rfl⟩;rw[hx]at M rk;split at M
   case h_2=>cases M
   rename_i hs h3;have eg:=ao.MP s _ _ _ _ h3;have jz:=ao.R3 (ao.MP s d) _ _ _ M;have hF:=ao.zdI eM rk h3 (aO jz hl);obtain⟨fR,c8⟩:=hs;simp only at eg O
   have bc:=hK (fR,c8) ⟨M,λh e=>O h (by
    simp only at e;rw[e]at eg
    exact dM (Nat.le_zero.1 eg))⟩
   cases x;rcases hk with rfl|rfl
   . rcases out with _|⟨y,out⟩
     . rcases c8 with _|⟨z,c8⟩
       . simp[kT,U,cA,Ch,hx,hc,hF,hw,aJ,gM,lu,-Int.natCast_add];exact bc _ _ (aw.auto (by simp[gM,lu,-Int.natCast_add]) (by simp[gM,lu]) (by simp[gM]) (by simp[gM]<;>(intro x hx;first|omega|exact⟨.inl hx,by omega⟩)))
       . simp[kT,U,cA,Ch,hx,hc,hF,hw,aJ,gM,lu,-Int.natCast_add];exact bc _ _ (aw.auto (by simp[gM,lu,-Int.natCast_add]) (by simp[gM,lu]) (by simp[gM]) (by simp[gM]<;>(intro x hx;first|omega|exact⟨.inl hx,by omega⟩)))
     . rcases c8 with _|⟨z,c8⟩
       . simp at eg
       . have nF:out.length<=c8.length:=by simpa using eg
         simp[kT,U,cA,Ch,hx,hc,hF,hw,nF,aJ,gM,lu,-Int.natCast_add];exact bc _ _ (aw.auto (by simp[gM,lu,-Int.natCast_add]) (by simp[gM,lu]) (by simp[gM]) (by simp[gM]<;>(intro x hx;first|omega|exact⟨.inl hx,by omega⟩)))
   . rcases out with _|⟨y,out⟩
     . exact absurd rfl (O rfl)
     . rcases c8 with _|⟨z,c8⟩
       . simp at eg
       . have nF:out.length<=c8.length:=by simpa using eg
         simp[kT,U,cA,Ch,hx,hc,hF,hw,nF,aJ,gM,lu,-Int.natCast_add];exact bc _ _ (aw.auto (by simp[gM,lu,-Int.natCast_add]) (by simp[gM,lu]) (by simp[gM]) (by simp[gM]<;>(intro x hx;first|omega|exact⟨.inl hx,by omega⟩)))
def OC  (hc:E.dE 284=sj (IH 284 (ao.D0 d))) (wc:E.dE 253=dH (dC λ(s:ao) (t:G)=>some (s.bound t)))
  {t:G} {st R:ao.Sv} (hR:ao.D0 (d+1) s st t=some R) {a m c b e ro:Nat}   (b4:(Ll 284 s (enc t) a m c b e ro st R).Fits vs C) :
 aT I Pg 284 vs C ((Ll 284 s (enc t) a m c b e ro st R).val C) ((Ll 284 s (enc t) a m c b e ro st R).heap C):=by
 obtain⟨eM,ht,hv,hl⟩:=ao.zgw hR;have kd:=ao.MP s _ _ _ _ hv;refine em hρ U aq Tryz.func284 yR.2 rfl (zaW kd) ?_ b4;rw[ao.ux]at hv;obtain⟨seen,out⟩:=st;simp only at hv kd;obtain⟨tk,tn,ti,th,ta⟩:=t;simp only[G.fw,G.o5,G.fC]at hv;by_cases hk:tk=1
 . subst hk;rw[if_pos rfl]at hv;by_cases hm:ti∈seen
   . rw[if_pos hm]at hv;cases hv;rcases out with _|⟨x,out⟩
     . simp[U,hm,Ll,gM,mq,nC,uw];exact aH.fu rfl rfl rfl (by simp[lu])
     . simp[U,hm,Ll,gM,mq,nC,uw];exact aH.fu rfl rfl rfl (by simp[lu])
   rw[if_neg hm]at hv;have hz:zao I4=some (V.bool false):=by rfl
   cases hb:s.bound (G.mk 1 tn ti th ta)with
   | false =>
     rw[if_pos hb]at hv;cases hv;rcases out with _|⟨x,out⟩
     . simp[U,hm,wc,hb,Ll,gM,mq,nC,uw,ik,hz];exact aH.Za (λk=>if k=5 then 25 else k) rfl rfl ⟨rfl,rfl⟩ (by simp[lu])
     . have pA:(out.length+1+1)*8<=1048576:=by simp at hl;omega
       simp[U,hm,wc,hb,pA,aY,Ll,gM,mq,nC,uw,ik,hz];exact aH.fu rfl rfl rfl (by simp[lu])
   | true =>
     rw[if_neg (by rw[hb];simp)]at hv;obtain⟨_,i,x,hi,cA,hx,z7,s6⟩:=ao.pM hb;simp only[G.o5]at hi;subst hi;rw[s6]at hv;have w8:s.a9[i]=x:=(aM.1 hx).2;have ss:i*8 / 8=i:=by omega
     have GC:(i*8+1) / 8=i:=by omega
     have rk:x.type.ok=true:=eM.2 x (w8 ▸ az cA);clear hx s6;obtain⟨xb,⟨ck,cn,ci,ch,ca⟩,xh,xg⟩:=x;simp only[G.fw,G.fC]at hv rk z7;obtain⟨fR,c8⟩:=R;simp only at kd hl;by_cases xo:ck=1
     . subst xo;rw[if_pos rfl]at hv;have hF:ao.D0 d s (seen++[(i:Int)],out) (.mk 1 cn ci ch ca)=some (fR,c8):=ao.zdI eM rk hv hl;rcases out with _|⟨y,out⟩
       . rcases c8 with _|⟨z,c8⟩
         . simp only[Ll,gM,lu];simp[U,hm,wc,hb,cA,w8,hc,hF,aJ,mq,nC,uw,ik,hz,lu];exact aH.fu rfl rfl rfl (by simp)
         . simp only[Ll,gM,lu];simp[U,hm,wc,hb,cA,w8,hc,hF,aJ,mq,nC,uw,ik,hz,lu];exact aH.Za (λk=>if k=5 then 35 else k) rfl rfl ⟨rfl,rfl⟩ (by simp)
       . rcases c8 with _|⟨z,c8⟩
         . simp at kd
         . simp only[Ll,gM,lu];have nF:out.length<=c8.length:=by simpa using kd
           simp[U,hm,wc,hb,cA,w8,hc,hF,aJ,mq,nC,uw,ik,hz,lu];exact⟨nF,aH.fu rfl rfl rfl (by simp)⟩
     . rw [if_neg xo]at hv;have gE:ao.A3 (ao.ux s d) ca (seen++[(i:Int)],out)=some (fR,c8):=hv;have ob:=(G.oF.1 rk).2;have b6:=G.wW rk;simp only[G.fC]at ob b6;rcases out with _|⟨y,out⟩
       . simp only[Ll,gM,lu];simp[U,hm,wc,hb,cA,w8,xo,mq,nC,uw,ik,hz];refine sG hρ U aq (.inl rfl) hc eM ob b6 gE hl (λh=>by cases h) (aw.auto (by simp[gM]) (by simp[gM,lu]) (by simp[gM]) (by simp[gM]<;>(intro x hx;first|omega|exact⟨.inl hx,by omega⟩))) ?_;rcases c8 with _|⟨z,c8⟩
         . simp[U,gM,lu];exact aH.fu rfl rfl rfl (by simp)
         . simp[U,gM,lu];exact aH.fu rfl rfl rfl (by simp)
       . simp only[Ll,gM,lu];simp[U,hm,wc,hb,cA,w8,xo,mq,nC,uw,ik,hz];refine sG hρ U aq (.inr rfl) hc eM ob b6 gE hl (λ_=>by simp) (aw.auto (by simp[gM]) (by simp[gM,lu]) (by simp[gM]) (by simp[gM]<;>(intro x hx;first|omega|exact⟨.inl hx,by omega⟩))) ?_;rcases c8 with _|⟨z,c8⟩
         . simp at kd
         . simp[U,gM,lu];exact aH.fu rfl rfl rfl (by simp)
 . rw [if_neg hk]at hv;have ob:=(G.oF.1 ht).2;have b6:=G.wW ht;simp only[G.fC]at ob b6;obtain⟨fR,c8⟩:=R;simp only at kd hl;rcases out with _|⟨y,out⟩
   . simp only[Ll,gM,lu];simp[U,hk];refine sG hρ U aq (.inl rfl) hc eM ob b6 hv hl (λh=>by cases h) (aw.auto (by simp[gM]) (by simp[gM,lu]) (by simp[gM]) (by simp[gM]<;>(intro x hx;first|omega|exact⟨.inl hx,by omega⟩))) ?_;rcases c8 with _|⟨z,c8⟩
     . simp[U,gM,lu];exact aH.fu rfl rfl rfl (by simp)
     . simp[U,gM,lu];exact aH.fu rfl rfl rfl (by simp)
   . simp only[Ll,gM,lu];simp[U,hk];refine sG hρ U aq (.inr rfl) hc eM ob b6 hv hl (λ_=>by simp) (aw.auto (by simp[gM]) (by simp[gM,lu]) (by simp[gM]) (by simp[gM]<;>(intro x hx;first|omega|exact⟨.inl hx,by omega⟩))) ?_;rcases c8 with _|⟨z,c8⟩
     . simp at kd
     . simp[U,gM,lu];exact aH.fu rfl rfl rfl (by simp)
end
def zmq{l:Z G}(h:tO s l):(nR s l).length<=100000:=by
 have M:=zlu (s:=s) (f:=100000) (λt st=>zdr s 100000 t st) l (([]:Z Int),List.replicate s.a9.length false);have O:=h.2.2.2;have h3:=M.2.2.2;unfold nR;simp only[nO]at h3;omega
section
variable {I:Nat->Value}(hρ:J.Good I)
include hρ
def zBM(d:Nat):Valid I Pg 284 (sj (IH 284 (ao.D0 d))):=by
 induction d with
 | zero =>
   refine Valid.DG (fo Tryz.func284 yR.2) λvs C D h=>?_
   obtain⟨s,t,st,r,a,m,c,b,e,ro,hR,rfl,_,_,b4⟩:=zgu h;have:=(ao.zgw hR).2.2.1;cases this
 | succ d ih =>
   refine Valid.DG (fo Tryz.func284 yR.2) λvs C D h=>?_
   obtain⟨s,t,st,r,a,m,c,b,e,ro,hR,rfl,_,_,b4⟩:=zgu h;exact OC hρ (E:=EL [(284,sj (IH 284 (ao.D0 d))),(253,dH (dC λ(s:ao) (t:G)=>some (s.bound t)))]) rfl (ag (ae ih (ae (zgh hρ) aG))) rfl rfl hR b4
end
section
variable {I:Nat->Value}(hρ:J.Good I)
include hρ
section
variable {E:Env}(U:E.P=Pg)(aq:bH I E)
include U aq
def NJ{a:Int}(C:HS):aT I Pg 269 [enc a] C (enc false) C:=by
 refine fn hρ U aq Tryz.func269 Hq.2 rfl (by simp) ?_ C;simp[U]
def Jo(C:HS):aT I Pg 270 [enc a] C (enc false) C:=by
 refine fn hρ U aq Tryz.func270 DT.2 rfl (by simp) ?_ C;simp[U]
def Kq(M:E.dE 269=KU (cO λ_:Int=>some false)){a b:Int}(C:HS):aT I Pg 246 [enc a,enc b] C (enc (Pz a b)) C:=by
 refine fn hρ U aq Tryz.func246 Et.2 rfl (by simp) ?_ C;unfold Pz;by_cases hl:a<b
 . simp[U,M,hl]
 . by_cases hg:b<a
   . simp[U,M,hl,hg]
   . simp[U,M,hl,hg]
def GH(M:E.dE 270=KU (cO λ_:Z Nat=>some false)){b:Z Nat}(C:HS):aT I Pg 247 [enc a,enc b] C (enc (Sh a b)) C:=by
 refine fn hρ U aq Tryz.func247 Bb.2 rfl (by simp) ?_ C;unfold Sh;by_cases hl:Km a b=true
 . simp[U,M,hl]
 . have xf:Km a b=false:=by simpa using hl
   by_cases hg:a=b
   . subst hg;simp[U,M,xf]
   . simp[U,M,hl,hg]
def zfm(hl:l.length<=1000000)(C:HS):aT I Pg 245 [enc l] C (enc (uv l)) C:=by
 refine fn hρ U aq Tryz.func245 GZ.2 rfl (by simp) ?_ C;generalize hr:uv l=r;simp[U]
 refine vC hρ U aq l.length (nn:=0) (λi (_:Unit)=>[(3,.int .i64 0),(6,.sl (l.map cW) false),(7,.int .i64 (l.length:Int)),(8,.int .i64 (i:Int))]) (λi _=>[]) (λi _=>uv (l.drop i)=r) ()
  (aw.auto) (by simpa using hr) ?_ ?_
 . intro _ h K;rw[bz,uv]at h;simp[BA,U];refine bO.mk (aw.auto (TL:=[(3,.int .i64 0)]) (HL:=[]) (n:=0)) ?_;simp[U,h]
 . intro i _ hi h K hK;have cj:(i:Int)<l.length:=by omega
   have cy:=bI (i:=i);rw[aK hi,uv]at h;by_cases he:l[i]=0
   . rw[if_neg (by simpa using he)]at h;have bc:=hK () h;simp[BA,U,hi,cj,he,cy,-Int.natCast_add];exact bc _ _ (aw.auto)
   . rw[if_pos he]at h;simp[BA,U,hi,cj,he];refine bO.mk (aw.auto (TL:=[(2,.int .i64 l[i])]) (HL:=[]) (n:=0)) ?_;simp[h]
end
def zcB:J.Spec:=KU (dC λa b:Int=>some (Pz a b))
def zcA:J.Spec:=KU (dC λa b:Z Nat=>some (Sh a b))
def zCU:J.Spec:=dH (cO λl:Z Int=>if l.length<=1000000 then some (uv l)else none)
def zBQ:Valid I Pg 269 (KU (cO λ_:Int=>some false)):=c1 (fo Tryz.func269 Hq.2) λa r h C=>by
 cases h;exact NJ hρ (E:=EL []) rfl (ag aG) C
def zBP:Valid I Pg 270 (KU (cO λ_:Z Nat=>some false)):=c1 (fo Tryz.func270 DT.2) λa r h C=>by
 cases h;exact Jo hρ (E:=EL []) rfl (ag aG) C
def zBY:Valid I Pg 246 zcB:=c2 (fo Tryz.func246 Et.2) λa b r h C=>by
 cases h;exact Kq hρ (E:=EL [(269,KU (cO λ_:Int=>some false))]) rfl (ag (ae (zBQ hρ) aG)) rfl C
def zBX:Valid I Pg 247 zcA:=c2 (fo Tryz.func247 Bb.2) λa b r h C=>by
 cases h;exact GH hρ (E:=EL [(270,KU (cO λ_:Z Nat=>some false))]) rfl (ag (ae (zBP hρ) aG)) rfl C
def zMM:Valid I Pg 245 zCU:=v1 (fo Tryz.func245 GZ.2) λa r h C=>by
 obtain⟨M,rfl⟩:=bF h;exact zfm hρ (E:=EL []) rfl (ag aG) M C
def XO(g d:Nat)(vs:Z V):Y V:=match vs with
 | [a,b,.func g' []]=>gd (Nat.beq g' g) (W (bo.dec a:Y (Z G)) λl=>W (bo.dec b:Y (Z G)) λm=>if l.length<=10000/\m.length<=10000/\G.eK l=true/\G.eK m=true/\G.bj l<=d then some (enc (AU l m))else none)
 |_=>none
theorem zkr{g:Nat}(h:XO g d vs=some v):∃ l m:Z G,vs=[enc l,enc m,.func g []]/\l.length<=10000/\m.length<=10000/\G.eK l=true/\G.eK m=true/\G.bj l<=d/\v=enc (AU l m):=by
 unfold XO at h;split at h
 . simp only[bE,aA,J.beq_true]at h;obtain⟨rfl,l,hl,m,hm,h⟩:=h;obtain⟨⟨M,O,h3,h4,h5⟩,rfl⟩:=bF h;exact⟨l,m,by rw[bo.bq _ _ hl,bo.bq _ _ hm],M,O,h3,h4,h5,rfl⟩
 . cases h
def Sf(d:Nat)(a b:G):Y Int:=if a.ok=true/\b.ok=true/\a.size<=d then some (FK a b)else none
section
variable {E:Env}(U:E.P=Pg)(aq:bH I E)
include U aq
def F9  (hc:E.dE 190=dH (dC (Sf d))) {l m:Z G} (hl:l.length<=10000) (hm:m.length<=10000) (er:G.eK l=true) (hok2:G.eK m=true) (hd:G.bj l<=d) (C:HS) :
 aT I Pg 248 [enc l,enc m,.func 190 []] C (enc (AU l m)) C:=by
 refine fn hρ U aq Tryz.func248 fJ.2 rfl (by simp) ?_ C;generalize hr:AU l m=r;simp[U]
 refine vC hρ U aq l.length (nn:=0) (λi (_:Unit)=>[(0,.sl (l.map au) false),(1,.sl (m.map au) false),(2,.func 190 []),(11,.sl (l.map au) false),(12,.int .i64 (l.length:Int)),(13,.int .i64 (i:Int))]) (λi _=>[]) (λi _=>i<=m.length/\AU (l.drop i) (m.drop i)=r) ()
  (aw.auto) ⟨aW _,by simpa using hr⟩ ?_ ?_
 . rintro _ ⟨hlm,h⟩ K;rw[bz]at h;simp[dS,U];refine bO.mk (aw.auto (TL:=[(0,.sl (l.map au) false),(1,.sl (m.map au) false)]) (HL:=[]) (n:=0)) ?_;by_cases cC:l.length<m.length
   . rw[aK cC,AU]at h;have sR:(l.length:Int)<m.length:=by omega
     simp[U,sR,h]
   . have e:m.drop l.length=[]:=List.drop_eq_nil_of_le (by omega);rw[e,AU]at h;have sR:¬ (l.length:Int)<m.length:=by omega
     simp[U,sR,h]
 . rintro i _ hi ⟨hle,h⟩ K hK;have cj:(i:Int)<l.length:=by omega
   have cy:=bI (i:=i);have ew:=az hi;have zN:(i*5) / 5=i:=by omega
   have Ms:(i*5) % 5=0:=by omega
   rw[aK hi]at h;by_cases cC:i<m.length
   . rw[aK cC,AU]at h;have sR:(i:Int)<m.length:=by omega
     have zsx:¬ (m.length:Int)<=i:=by omega
     have W0:¬ m.length<=i:=by omega
     have hF:Sf d l[i] m[i]=some (FK l[i] m[i]):=if_pos ⟨G.lD.1 er _ ew,G.lD.1 hok2 _ (az cC),by have:=G.Fp ew;omega⟩;by_cases he:FK l[i] m[i]=0
     . rw[if_neg (by simpa using he)]at h;have bc:=hK () ⟨by omega,h⟩;rw[he]at hF;simp[dS,U,hi,cj,cC,zsx,hc,hF,cy,-Int.natCast_add];exact bc _ _ (aw.auto)
     . rw[if_pos he]at h;generalize FK l[i] m[i]=c at hF he h;simp[dS,U,hi,cj,cC,zsx,hc,hF,he];refine bO.mk (aw.auto (TL:=[(6,.int .i64 c)]) (HL:=[]) (n:=0)) ?_;simp[h]
   . have e:m.drop i=[]:=List.drop_eq_nil_of_le (by omega);rw[e,AU]at h;have zsx:(m.length:Int)<=i:=by omega
     have W0:m.length<=i:=by omega
     simp[dS,U,hi,cj,zsx];refine bO.mk (aw.auto (TL:=[(6,.int .i64 1)]) (HL:=[]) (n:=0)) ?_;simp[<- h]
def MB(hi:E.dE 246=zcB)(eC:E.dE 247=zcA)(ho:E.dE 245=zCU)(hc:E.dE 248=dH (XO 190 d)){a b:G}(ha:a.ok=true)(hb:b.ok=true)(hd:a.size<=d+1)(C:HS) :
 aT I Pg 190 [enc a,enc b] C (enc (FK a b)) C:=by
 refine fn hρ U aq Tryz.func190 BB.2 rfl (by simp) ?_ C;have sX:=G.wW ha;have pT:=G.wW hb;have b8:=G.size_eq a;have hk:G.eK a.args=true:=G.lD.2 (G.oF.1 ha).2;have OS:G.eK b.args=true:=G.lD.2 (G.oF.1 hb).2;have lj:G.bj a.args<=d:=by omega
 have hq:uv [Pz a.kind b.kind,Sh a.name b.name,Pz a.id b.id,Pz a.home b.home,Pz (a.args.length:Int) (b.args.length:Int)]=uv (UC a b):=rfl;rw[zcz];generalize uv (UC a b)=q at hq;by_cases hz:q=0
 . rw[if_neg (by simpa using hz)];subst hz;generalize hx:AU a.args b.args=x;simp[U,hi,eC,ho,hc,zcB,zcA,zCU,XO,hq,sX,pT,hk,OS,lj,hx]
 . rw[if_pos hz];simp[U,hi,eC,ho,zcB,zcA,zCU,hq,hz]
def Rc(hc:E.dE 190=dH (dC (Sf d))){a b:G}(ha:a.ok=true)(hb:b.ok=true)(hd:a.size<=d)(C:HS) :
 aT I Pg 110 [enc a,enc b] C (enc (decide (a=b))) C:=by
 refine fn hρ U aq Tryz.func110 K8.2 rfl (by simp) ?_ C;have hF:Sf d a b=some (FK a b):=if_pos ⟨ha,hb,hd⟩;have hz:decide (a=b)=decide (FK a b=0):=by rw[dF];simp[zfn]
 rw[hz];generalize FK a b=c at hF;cases a;cases b;simp[U,hc,hF]
end
def zlO(d:Nat):Valid I Pg 190 (dH (dC (Sf d))):=by
 induction d with
 | zero =>
   refine v2 (fo Tryz.func190 BB.2) λa b r h C=>?_
   obtain⟨⟨M,O,h3⟩,rfl⟩:=bF h;have:=G.size_eq a;omega
 | succ d ih =>
   refine v2 (fo Tryz.func190 BB.2) λa b r h C=>?_
   obtain⟨⟨M,O,h3⟩,rfl⟩:=bF h
   have zOh:Valid I Pg 248 (dH (XO 190 d)):=Valid.dH (fo Tryz.func248 fJ.2) λvs v hv C=>by
    obtain⟨l,m,rfl,g1,g2,g3,g4,g5,rfl⟩:=zkr hρ hv;exact F9 hρ (E:=EL [(190,dH (dC (Sf d)))]) rfl (ag (ae ih aG)) rfl g1 g2 g3 g4 g5 C
   exact MB hρ (E:=EL [(246,zcB),(247,zcA),(245,zCU),(248,dH (XO 190 d))]) rfl
    (ag (ae (zBY hρ) (ae (zBX hρ) (ae (zMM hρ) (ae zOh aG))))) rfl rfl rfl rfl M O h3 C
def Ae:J.Spec:=dH (dC λa b:G=>if a.ok=true/\b.ok=true then some (decide (a=b))else none)
def zqJ:Valid I Pg 110 Ae:=v2 (fo Tryz.func110 K8.2) λa b r h C=>by
 obtain⟨⟨M,O⟩,rfl⟩:=bF h;exact Rc hρ (E:=EL [(190,dH (dC (Sf a.size)))]) rfl (ag (ae (zlO hρ a.size) aG)) rfl M O (af _) C
end
def Hz:Z (Z Nat)->Z Nat->Int->Int
 | [],_,_=>-1
 |y::l,x,i=>if x=y then i else Hz l x (i+1)
theorem zsp:∀ (l:Z (Z Nat)) (x:Z Nat) (i:Int),0<=i->(decide (Hz l x i ≥ 0))=decide (x∈l):=by
 intro l
 induction l with
 |nil=>intro x i h;simp[Hz]
 | cons y l ih =>
   intro x i h;rw[Hz]
   grind
def XP(vs:Z V):Y V:=match vs with
 | [.sl es _]=>gd (bj 7 es) (some (.sl es true))
 |_=>none
@[simp] def zHL {es:Z (Z V)} :XP [.sl es t]=gd (bj 7 es) (some (.sl es true)):=(rfl)
theorem zkw(h:XP vs=some v):∃ es t,vs=[.sl es t]/\bj 7 es=true/\v=.sl es true:=by
 unfold XP at h
 grind [bE]
theorem Um (n:Z Nat):∀ l:Z Entry,(∃ (m:Nat) (h:m<l.length),IX l n=some l[m].scheme/\l[m].name=n/\∀ i (hi:i<l.length),m<i->l[i].name≠n)\/(IX l n=none/\∀ i (hi:i<l.length),l[i].name≠n):=by
 intro l;obtain⟨r,hr⟩:∃ r,l.reverse=r:=⟨_,rfl⟩
 induction r generalizing l with
 | nil =>
   obtain rfl:l=[]:=by simpa using hr
   exact .inr ⟨rfl,λi hi=>absurd hi (by simp)⟩
 | cons e r ih =>
   obtain⟨l0,rfl⟩:∃ l0,l=l0++[e]:=⟨r.reverse,by rw[<- List.reverse_cons,<- hr,List.reverse_reverse]⟩;rw[List.reverse_append]at hr;have ih:=ih l0 (List.cons.inj hr).2;rw[zex];by_cases he:e.name=n
   . rw[if_pos he];refine .inl ⟨l0.length,by simp,by simp,by simpa using he,λi hi hm=>?_⟩
     grind
   . rw[if_neg he]
     have de:∀ i (hi:i<(l0++[e]).length),(∀ h:i<l0.length,l0[i].name≠n)->(l0++[e])[i].name≠n:=by
      grind
     grind
def zFv(n:Z Nat)(H:PT J.Obj):Prop:=H.get 0=some (.arr 1 0 [[.str n]] true false false)/\H.get 1=some (.arr 6 0 [[.int .i64 0,.int .i64 0,.str [],.int .i64 0,.int .i64 0,.aE]] true false false)/\H.get 2=some (.arr 1 0 [[.bool false]] true false false)
def zMF(n:Z Nat)(e:Z V)(T:PT V)(H:PT J.Obj)(N:Nat):Prop:=zFv n H/\T.get 3=some (.ptr 0 0 0)/\T.get 4=some (.ptr 1 0 0)/\T.get 5=some (.ptr 2 0 0)/\∃ id,T.get 7=some (.ptr id 0 0)/\4<id/\id<N/\H.get id=some (.arr 7 0 [e] true false false)
def Sm(hi:2<i)(h:zFv n H):zFv n (H.set i o):=by
 obtain⟨M,O,h3⟩:=h;exact⟨by rw[PT.cK,if_neg (by omega)];exact M,by rw[PT.cK,if_neg (by omega)];exact O,by rw[PT.cK,if_neg (by omega)];exact h3⟩
section
variable {I:Nat->Value}(hρ:J.Good I)
include hρ
section
variable {E:Env}(U:E.P=Pg)(aq:bH I E)
include U aq
def znZ{l:Z (Z Nat)}(hl:l.length<=1000000)(C:HS):aT I Pg 171 [enc l,enc x] C (enc (Hz l x 0)) C:=by
 refine fn hρ U aq Tryz.func171 nu.2 rfl (by simp) ?_ C;generalize hr:Hz l x 0=r;simp[U]
 refine vC hρ U aq l.length (nn:=0) (λi (_:Unit)=>[(0,.sl (l.map cF) false),(1,.str x),(7,.int .i64 (l.length:Int)),(8,.int .i64 (i:Int))]) (λi _=>[]) (λi _=>Hz (l.drop i) x i=r) ()
  (aw.auto) (by simpa using hr) ?_ ?_
 . intro _ h K;rw[bz,Hz]at h;simp[lC,U];refine bO.mk (aw.auto (TL:=[]) (HL:=[]) (n:=0)) ?_;simp[h]
 . intro i _ hi h K hK;have cj:(i:Int)<l.length:=by omega
   have cy:=bI (i:=i);rw[aK hi,Hz]at h;by_cases he:x=l[i]
   . rw[if_pos he]at h;simp[lC,U,hi,cj,<- he];refine bO.mk (aw.auto (TL:=[(4,.int .i64 (i:Int))]) (HL:=[]) (n:=0)) ?_;simp[h]
   . rw[if_neg he]at h;have bc:=hK () (by simpa using h);simp[lC,U,hi,cj,he,cy,-Int.natCast_add];exact bc _ _ (aw.auto)
def Cg:J.Spec:=dH (dC λ(l:Z (Z Nat)) (x:Z Nat)=>if l.length<=1000000 then some (Hz l x 0)else none)
def qX:J.Spec:=dH (dC λ(l:Z (Z Nat)) (x:Z Nat)=>if l.length<=1000000 then some (decide (x∈l))else none)
def zeT(hI:E.dE 171=Cg){l:Z (Z Nat)}(hl:l.length<=1000000)(C:HS):aT I Pg 120 [enc l,enc x] C (enc (decide (x∈l))) C:=by
 refine fn hρ U aq Tryz.func120 pV.2 rfl (by simp) ?_ C;rw[<- zsp l x 0 (by omega)];simp[U,hI,Cg,hl]
def ziy{t:G}(C:HS):aT I Pg 127 [enc t] C (enc (mono t)) C:=by
 refine fn hρ U aq Tryz.func127 Lb.2 rfl (by simp) ?_ C;simp[U,mono]
theorem zm3(hC:E.dE 201=dH XP){l:Z Entry}(hl:l.length<=1000)(C:HS):aT I Pg 126 [enc l,enc n,enc c] C (enc (l++[⟨n,c⟩])) C:=by
 refine fn hρ U aq Tryz.func126 JG.2 rfl (by simp) ?_ C;have k2:(l.length+1)*88<=1048576:=aO (aN 88 (Nat.succ_le_succ hl)) (by decide)
 simp_all
def zcW{es:Z (Z V)}(b4:(AV 272 es tg).Fits vs C) :
 aT I Pg 254 vs C ((AV 272 es tg).val C) ((AV 272 es tg).heap C):=by
 refine em hρ U aq Tryz.func254 mY.2 rfl Mh ?_ b4;show Wp I E 0 _ _ _ { H:=dW [],n:=0,log:=[] } (J.Leaves E.P _ (aH 0 (.func 272 [.ptr 0 0 0]) [(0,jm (.sl es tg))]));simp[U];exact aH.bw
theorem znK (hB:E.dE 254=sj (Hg 272)) {l:Z Entry}  (hl:l.length<=100000) (C:HS):aT I Pg 202 [enc l,enc n] C (enc (rD l n)) C:=by
 refine fn hρ U aq Tryz.func202 vz.2 rfl (by simp) ?_ C;simp[U,hB,aJ]
 have hA:∀ (i:Nat) (e:Z V),(l.map df)[i]?=some e->∀ (H:PT J.Obj) (N:Nat) (log:Z Nat) (T0 T1:PT V),T0.get 3=some (.ptr 0 0 0)->T0.get 4=some (.ptr 1 0 0)->T0.get 5=some (.ptr 2 0 0)->4<N->(∀ i,N<=i->H.get i=none)->zFv n H->H8 19 [10,11] [.int .i64 (i:Int),.agg e] T0=some T1 ->
  Js E true 19 A7 T1 { H:=H,n:=N,log:=log } λex T2 dt=>ex=.normal/\N<=dt.n/\dt.H.get 4=H.get 4/\dt.H.get 3=H.get 3/\(∀ i,dt.n<=i->dt.H.get i=none)/\zMF n e T2 dt.H dt.n:=by
  intro i e he H N log T0 T1 g3 g4 g5 hN hv hI hz;cases hz;have gE:∀ j,H.get (N+j)=none:=λj=>hv _ (by omega)
  have ov:=hv N (af _);have h4:¬ 4=N:=by omega
  have h3:¬ 3=N:=by omega
  obtain⟨c,rfl⟩:∃ c,e=df c:=by
   grind
  refine X6 (I:=I) (k:=0) rfl ?_;simp[A7,U,gE,ov,h4,h3];refine⟨λj hj=>?_,Sm (by omega) (Sm (by omega) hI),by simp[PT.cK,g3],by simp[PT.cK,g4],by simp[PT.cK,g5],N,by simp,by omega,by omega,by simp[df]⟩
  grind
 refine nX (Sl (aw.auto (TL:=[(3,.ptr 0 0 0),(4,.ptr 1 0 0),(5,.ptr 2 0 0),(9,.func 272 [.ptr 3 0 0])])
  (HL:=[(0,.arr 1 0 [[.str n]] true false false),(1,.arr 6 0 [[.int .i64 0,.int .i64 0,.str [],.int .i64 0,.int .i64 0,.aE]] true false false),(2,.arr 1 0 [[.bool false]] true false false),(3,jm (.sl (l.map df) false))]) (n:=4) (by simp) (by simp) (by simp) (by simp)) ?_)
 refine zdc hρ aq (by rw[U];exact follows) (by rw[U];exact named) ?_;obtain⟨q,hq⟩:∃ q,rD l n=q:=⟨_,rfl⟩;rw[hq]
 have tA:∀ m (hm:m<l.length),l[m].name=n->(∀ i (h:i<l.length),m+1<=i->l[i].name≠n)->q=(l[m].scheme,true):=by
  intro m hm M O;rw[<- hq];rcases Um n l with⟨k,hk,e1,e2,e3⟩|⟨_,e2⟩
  . have:m=k:=by
     rcases Nat.lt_trichotomy m k with h|h|h
     . exact absurd e2 (O k hk h)
     . exact h
     . exact absurd M (e3 m hm h)
    subst this;unfold rD;rw[e1];rfl
  . exact absurd M (e2 m hm)
 refine Z7 (f:=272) (fn:=Tryz.f272) (tS:=30) (tE:=64) (tI:=3) (tB:=4) (IS:=PF) (IE:=B9) (val:=λe=>.agg e) (bx:=3) (by rw[U];exact Tryz.func272) tK.2 (by kernel_rfl) (by kernel_rfl) (by rw[U];simp) (by simp) (by rw[U];simp) (es:=l.map df) (tg:=false) (by rw[zIz.2.1];exact zmk _) ?_ ?_ (by simp) (by simp) (by omega) ?_ ?_
  (λj H=>zFv n H/\∀ i (h:i<l.length),j<=i->l[i].name≠n) (λj e T H N=>zMF n e T H N/\∀ i (h:i<l.length),j+1<=i->l[i].name≠n) (λj H o h=>⟨Sm (by omega) h.1,h.2⟩) ?_ ?_
  (JJ:=λH N=>4<N/\q.2=true/\H.get 1=some (.arr 6 0 [[.int .i64 q.1.count,.int .i64 q.1.type.kind,.str q.1.type.name,.int .i64 q.1.type.id,.int .i64 q.1.type.home,.sl (q.1.type.args.map au) false]] true false false)/\H.get 2=some (.arr 1 0 [[.bool true]] true false false)) ?_ ?_ ?_ ?_ ?_ ?_
 . intro e he;obtain⟨c,_,rfl⟩:=aI.1 he;simp
 . simp;omega
 . intro i hi;obtain⟨j,rfl⟩:∃ j,i=j+4:=⟨i-4,by omega⟩;simp
 . intro v1 v2;exact⟨_,rfl⟩
 . rintro j e T H N o ⟨⟨g1,g3,g4,g5,id,g7,i1,i2,gid⟩,g8⟩;exact⟨⟨Sm (by omega) g1,g3,g4,g5,id,g7,i1,i2,by rw[PT.cK,if_neg (by omega)];exact gid⟩,g8⟩
 . exact⟨⟨by simp,by simp,by simp⟩,λi M O=>by simp at O;omega⟩
 . rintro H N o hN ⟨j0,j1,j2,j3⟩;exact⟨j0,j1,by rw[PT.cK,if_neg (by omega)];exact j2,by rw[PT.cK,if_neg (by omega)];exact j3⟩
 . rintro H N N' hNN ⟨j1,j2⟩;exact⟨by omega,j2⟩
 . intro i e he H N log T1 hN hv hI hz;refine zhS (hA i e he H N log _ T1 (by simp) (by simp) (by simp) hN hv hI.1 hz) ?_;rintro ex T2 dt ⟨M,O,h3,h4,h5,h6⟩;exact⟨M,O,h3,h4,h5,h6,hI.2⟩
 . rintro i e he H N log T2 hN hv ⟨⟨hI,g3,g4,g5,id,g7,i1,i2,gid⟩,h8⟩
   obtain⟨cA,rfl⟩:∃ h:i<l.length,e=df l[i]:=by
    rw[bC,bG]at he;obtain⟨c,hc,rfl⟩:=he;obtain⟨h,rfl⟩:=aM.1 hc;exact⟨h,rfl⟩
   have gE:∀ j,H.get (N+j)=none:=λj=>hv _ (by omega)
   refine X6 (I:=I) (k:=0) rfl ?_;by_cases cb:l[i].name=n
   . obtain rfl:=tA i cA cb h8;have n1:∀ j,¬ 1=N+j:=λj=>by omega
     have n2:∀ j,¬ 2=N+j:=λj=>by omega
     have n4:∀ j,¬ 4=N+j:=λj=>by omega
     have n5:¬ 1=id:=by omega
     have n6:¬ id=1:=by omega
     have n7:¬ 2=id:=by omega
     clear hq tA h8 he;rcases hle:l[i]with⟨en,ec,⟨tk,tn,ti,th,tl⟩⟩;rw[hle]at cb gid;simp only at cb;subst cb;simp[AZ,U,gE,g3,g4,g5,g7,gid,hI.1,hI.2.1,hI.2.2,n1,n2,n4,n5,n6,n7,df,eD];intro j hj
     repeat rw[if_neg (by omega)]
     exact hv j (by omega)
   . have h9:∀ j (h:j<l.length),i<=j->l[j].name≠n:=λj h hj=>(Nat.lt_or_eq_of_le hj).elim (λh'=>h8 j h h') λh'=>by subst h';exact cb
     simp[AZ,U,gE,g3,g4,g5,g7,gid,hI.1,df,cb,eD];exact⟨λj hj=>hv j (by omega),hI,h9⟩
 . rintro H N log hN hv ⟨⟨j1,j2,j3⟩,h8⟩
   obtain rfl:q=(Rj,false):=by
    rw[<- hq];rcases Um n l with⟨k,hk,e1,e2,e3⟩|⟨e1,_⟩
    . exact absurd e2 (h8 k hk (aW _))
    . unfold rD;rw[e1];rfl
   have gE:∀ j,H.get (N+j)=none:=λj=>hv _ (by omega)
   have n1:∀ j,¬ 1=N+j:=λj=>by omega
   have n2:∀ j,¬ 2=N+j:=λj=>by omega
   refine bO.mk (k:=0) (aw.bw N (TL:=[(4,.ptr 1 0 0),(5,.ptr 2 0 0)]) (HL:=[(1,.arr 6 0 [[.int .i64 0,.int .i64 0,.str [],.int .i64 0,.int .i64 0,.aE]] true false false),(2,.arr 1 0 [[.bool false]] true false false)]) (by simp) (by simp[j2,j3]) rfl rfl) ?_;have e0:¬ N=0:=by omega
   have e1:¬ N=1:=by omega
   have e2:¬ N=2:=by omega
   simp[U,Rj,tT,e0,e1,e2]
 . rintro H N log hN hv ⟨_,j1,j2,j3⟩;obtain⟨⟨ec,⟨tk,tn,ti,th,tl⟩⟩,b⟩:=q;simp only at j1 j2;subst j1;refine bO.mk (k:=0) (aw.bw N (TL:=[(4,.ptr 1 0 0),(5,.ptr 2 0 0)]) (HL:=[(1,.arr 6 0 [[.int .i64 ec,.int .i64 tk,.str tn,.int .i64 ti,.int .i64 th,.sl (tl.map au) false]] true false false),(2,.arr 1 0 [[.bool true]] true false false)]) (by simp) (by simp[j2,j3]) rfl rfl) ?_;simp[U]
end
def zt7:Valid I Pg 171 Cg:=v2 (fo Tryz.func171 nu.2) λa b r h C=>by
 obtain⟨M,rfl⟩:=bF h;exact znZ hρ (E:=EL []) rfl (ag aG) M C
def Yf:Valid I Pg 120 qX:=v2 (fo Tryz.func120 pV.2) λa b r h C=>by
 obtain⟨M,rfl⟩:=bF h;exact zeT hρ (E:=EL [(171,Cg)]) rfl (ag (ae (zt7 hρ) aG)) rfl M C
def ED:J.Spec:=dH (cO λt:G=>some (mono t))
def zlF:Valid I Pg 127 ED:=v1 (fo Tryz.func127 Lb.2) λa r h C=>by
 cases h;exact ziy hρ (E:=EL []) rfl (ag aG) C
def zlQ:Valid I Pg 201 (dH XP):=Valid.dH (fo Tryz.func201 oz.2) λvs v h C=>by
 obtain⟨es,t,rfl,b8,rfl⟩:=zkw h;refine zfb (D:=⟨0,0,λi=>i,[],[],[.sl es t],.sl es true⟩) hρ (E:=EL []) (ag aG) follows named Tryz.func201 oz.2 rfl ⟨rfl,rfl,af _,(λp hp=>by cases hp),(λp hp=>by cases hp),rfl,λv hv=>by rw[ay.1 hv];rfl⟩ ?_ (C:=C) (vs:=[.sl es t]) ⟨rfl,λi j hi=>by simp at hi,(λp hp=>by cases hp),λi hi=>by simp at hi,λi hi=>by simp at hi⟩;show Wp I _ 0 _ _ _ { H:=dW [],n:=0,log:=[] } (J.Leaves _ _ (aH 0 (.sl es true) []));have pZ:(EL []).P=Pg:=rfl;cases t<;>simp[pZ,b8,EE,JP,bounds,V5,fV]
 all_goals exact aH.fu rfl rfl rfl (by simp)
def ER:J.Spec:=dH (tZ λ(l:Z Entry) (n:Z Nat) (c:Scheme)=>if l.length<=1000 then some (l++[⟨n,c⟩])else none)
def zlM:Valid I Pg 126 ER:=v3 (fo Tryz.func126 JG.2) λa b c r h C=>by
 obtain⟨M,rfl⟩:=bF h;exact zm3 hρ (E:=EL [(201,dH XP)]) rfl (ag (ae (zlQ hρ) aG)) rfl M C
def zlS:Valid I Pg 254 (sj (Hg 272)):=Valid.DG (fo Tryz.func254 mY.2) λvs C D h=>by
 obtain⟨es,tg,rfl,hg,b4⟩:=PQ h;exact zcW hρ (E:=EL []) rfl (ag aG) b4
def IW:J.Spec:=dH (dC λ(l:Z Entry) (n:Z Nat)=>if l.length<=100000 then some (rD l n)else none)
def zt6:Valid I Pg 202 IW:=v2 (fo Tryz.func202 vz.2) λa b r h C=>by
 obtain⟨M,rfl⟩:=bF h;exact znK hρ (E:=EL [(254,sj (Hg 272))]) rfl (ag (ae (zlS hρ) aG)) rfl M C
end
def KZ:Z Ctor->Z Nat->Nat->Y Nat
 | [],_,_=>none
 |c::l,n,k=>if c.name=n then some k else KZ l n (k+1)
def zq:Z Decl->Z Nat->Nat->Y (Nat×Nat)
 | [],_,_=>none
 | d::l,n,i=>match KZ d.ctors n 0 with
   |some k=>some (i,k)
   |none=>zq l n (i+1)
def Dl(D:Z Decl)(n:Z Nat):T3 Int Int Bool:=match zq D n 0 with
 |some (i,k)=>⟨(i:Int),(k:Int),true⟩
 |none=>⟨0,0,false⟩
def findF(D:Z Decl)(n:Z Nat):Y (T3 Int Int Bool):=if D.length<=100000/\∀ d∈D,d.ctors.length<=100000 then some (Dl D n)else none
def BL:J.Spec:=dH (dC findF)
mutual
def G.fW(N:Z (Z Nat)):G->G
 |.mk k n i h l=>if k=5/\0<=Hz N n 0 then .mk 2 [] (Hz N n 0) 0 []else .mk k n i h (G.xq N l)
def G.xq(N:Z (Z Nat)):Z G->Z G
 | []=>[]
 |t::l=>G.fW N t::G.xq N l
end
def zcR(N:Z (Z Nat))(l:Z G):G.xq N l=l.map (G.fW N):=by
 induction l with
 |nil=>simp[G.xq]
 |cons t l ih=>simp[G.xq,ih]
def ztp{t:G}(h:t.kind=5/\0<=Hz N t.name 0):G.fW N t=.mk 2 [] (Hz N t.name 0) 0 []:=by
 cases t;rw[G.fW];exact if_pos h
def zyl{t:G}(h:¬ (t.kind=5/\0<=Hz N t.name 0)):G.fW N t=.mk t.kind t.name t.id t.home (t.args.map (G.fW N)):=by
 cases t;rw[G.fW,zcR];exact if_neg h
def U6(d:Nat)(t:G)(N:Z (Z Nat)):Y G:=if t.ok=true/\t.size<=d/\N.length<=100000 then some (G.fW N t)else none
section
variable {I:Nat->Value}(hρ:J.Good I)
include hρ
section
variable {E:Env}(U:E.P=Pg)(aq:bH I E)
include U aq
def ze0{cs:Z Ctor}(lx:cs.length<=100000)(hr:KZ cs n 0=r){sz:Nat}(b8:sz=34)
 (hT:aw 0 T C (dW [(0,.sl (D.map aP) false),(1,.str n),(4,.int .i64 0),(5,.int .i64 0),(6,.bool false),(7,.int .i64 (i:Int)),(11,.sl (D.map aP) false),(12,.int .i64 (D.length:Int)),(13,.int .i64 (i:Int)),(19,.sl (cs.map iD) false),(20,.int .i64 (cs.length:Int)),(21,.int .i64 ((0:Nat):Int))]) { H:=dW [],n:=0,log:=[] })
 (DP:r=none->Q (.exit 2) (dW [(0,.sl (D.map aP) false),(1,.str n),(4,.int .i64 0),(5,.int .i64 0),(6,.bool false),(11,.sl (D.map aP) false),(12,.int .i64 (D.length:Int)),(13,.int .i64 (i:Int))]) { H:=dW [],n:=0,log:=[] })
 (E1:∀ k,r=some k->Q .ret (dW [(4,.int .i64 (i:Int)),(5,.int .i64 (k:Int)),(6,.bool true)]) { H:=dW [],n:=0,log:=[] }) :
 Ls I E 0 sz (.loop sO) T C Q:=by
 subst b8
 refine vC hρ U aq cs.length (nn:=0) (λj (_:Unit)=>[(0,.sl (D.map aP) false),(1,.str n),(4,.int .i64 0),(5,.int .i64 0),(6,.bool false),(7,.int .i64 (i:Int)),(11,.sl (D.map aP) false),(12,.int .i64 (D.length:Int)),(13,.int .i64 (i:Int)),(19,.sl (cs.map iD) false),(20,.int .i64 (cs.length:Int)),(21,.int .i64 (j:Int))])
  (λj _=>[]) (λj _=>KZ (cs.drop j) n j=r) () hT (by simpa using hr) ?_ ?_
 . intro _ h K;rw[bz,KZ]at h;have cH:=DP h.symm;simp[sO,U];exact bO.mk (aw.auto) cH
 . intro j _ hj h K hK;have js:(j:Int)<cs.length:=by omega
   have cy:=bI (i:=j);have m1:j*3 / 3=j:=by omega
   rw[aK hj,KZ]at h;by_cases he:cs[j].name=n
   . rw[if_pos he]at h;have cH:=E1 j h.symm;simp[sO,U,hj,js,m1,iD,he];exact bO.mk (aw.auto) cH
   . rw[if_neg he]at h;have bc:=hK () h;simp[sO,U,hj,js,m1,iD,he,cy,-Int.natCast_add];exact bc _ _ (aw.auto)
def zoy(hD:D.length<=100000)(hC:∀ d∈D,d.ctors.length<=100000)(C:HS):aT I Pg 87 [enc D,enc n] C (enc (Dl D n)) C:=by
 refine fn hρ U aq Tryz.func87 yU.2 rfl (by simp) ?_ C;unfold Dl;generalize hr:zq D n 0=r;simp[U]
 refine vC hρ U aq D.length (nn:=0) (λi (_:Unit)=>[(0,.sl (D.map aP) false),(1,.str n),(4,.int .i64 0),(5,.int .i64 0),(6,.bool false),(11,.sl (D.map aP) false),(12,.int .i64 (D.length:Int)),(13,.int .i64 (i:Int))])
  (λi _=>[]) (λi _=>zq (D.drop i) n i=r) () (aw.auto) (by simpa using hr) ?_ ?_
 . intro _ h K;rw[bz,zq]at h;subst h;simp[Eo,U];refine bO.mk (aw.auto (TL:=[]) (HL:=[]) (n:=0)) ?_;simp[U]
 . intro i _ hi h K hK;have cj:(i:Int)<D.length:=by omega
   have cy:=bI (i:=i);have m1:i*4 / 4=i:=by omega
   rw[aK hi,zq]at h;have lx:=hC _ (az hi);simp[Eo,U,hi,cj,m1,aP];refine ze0 hρ U aq (cs:=D[i].ctors) (i:=i) (D:=D) (n:=n) lx rfl rfl (aw.auto) ?_ ?_
   . intro kq;rw[kq]at h;have bc:=hK () h;simp[U,cy,-Int.natCast_add];exact bc _ _ (aw.auto)
   . intro k hk;rw[hk]at h;subst h;refine bO.mk (aw.auto (TL:=[(4,.int .i64 (i:Int)),(5,.int .i64 (k:Int)),(6,.bool true)]) (HL:=[]) (n:=0)) ?_;simp[U]
theorem zpa  (hI:E.dE 171=Cg) (hc:E.dE 91=dH (dC (U6 d))) {t:G}  (ht:t.ok=true) (hd:t.size<=d+1) (hN:N.length<=100000) (C:HS) :
 aT I Pg 91 [enc t,enc N] C (enc (G.fW N t)) C:=by
 refine fn hρ U aq Tryz.func91 yV.2 rfl (by simp) ?_ C;have hlen:=G.wW ht;have zKj:N.length<=1000000:=by omega
 by_cases hk:t.kind=5/\0<=Hz N t.name 0
 . rw[ztp hk];have xo:=hk.2;have u9:=hk.1;obtain⟨x,hx⟩:∃ x,Hz N t.name 0=x:=⟨_,rfl⟩;rw[hx]at xo ⊢;obtain⟨tk,tn,ti,th,ta⟩:=t;simp only[G.fw,G.jC]at u9 hx;subst u9;simp[U,hI,Cg,zKj,hx,xo]
 . rw [zyl hk];obtain⟨x,hx⟩:∃ x,Hz N t.name 0=x:=⟨_,rfl⟩;rw[hx]at hk
   have B1:(decide (t.kind=5)&&decide (0<=x))=false:=by
    grind
   have k1:t.args.length*64<=1048576:=aO (aN 64 hlen) (by decide);have k2:t.args.length*5<=1048576:=aO (aN 5 hlen) (by decide);have We:(t.args.map (G.fW N)).length=t.args.length:=aL ..
   have Lw:∀ T C Q,aw 0 T C (dW [(1,.sl (N.map cF) false),(2,.ptr 0 0 0),(4,.ptr 1 0 0),(6,.own 2 0 0 t.args.length (some t.args.length)),(27,.sl (t.args.map au) false),(28,.int .i64 (t.args.length:Int)),(29,.int .i64 ((0:Nat):Int))]) { H:=dW [(0,box (au t)),(1,box Ya),(2,.arr 5 0 (List.replicate t.args.length Ya) true false true)],n:=3,log:=[] } ->
    (Q (.exit 0) (dW [(2,.ptr 0 0 0),(4,.ptr 1 0 0),(6,.own 2 0 0 t.args.length (some t.args.length))]) { H:=dW [(0,box (au t)),(1,box Ya),(2,.arr 5 0 ((t.args.map (G.fW N)).map au) true false true)],n:=3,log:=[] })->Ls I E 0 44 (.loop yO) T C Q:=by
    intro T C Q hT hQ
    refine vC hρ U aq t.args.length (nn:=3) (λi (_:Unit)=>[(1,.sl (N.map cF) false),(2,.ptr 0 0 0),(4,.ptr 1 0 0),(6,.own 2 0 0 t.args.length (some t.args.length)),(27,.sl (t.args.map au) false),(28,.int .i64 (t.args.length:Int)),(29,.int .i64 (i:Int))])
     (λi _=>[(0,box (au t)),(1,box Ya),(2,.arr 5 0 (nL (t.args.map (G.fW N)) t.args.length i) true false true)]) (λi _=>True) () (by rw[zR];exact hT) trivial ?_ ?_
    . intro _ _ K;rw[zT We];simp[yO,U];exact bO.mk (aw.auto) hQ
    . intro i _ hi _ K hK;have cj:(i:Int)<t.args.length:=by omega
      have cy:=bI (i:=i);have hm:=az hi;have hF:U6 d t.args[i] N=some (G.fW N t.args[i]):=if_pos ⟨G.EJ ht hm,by have:=G.Au hm;omega,hN⟩;have Xh:i<(nL (t.args.map (G.fW N)) t.args.length i).length:=by rw[Cy We (dN hi)];exact hi
      have m9:=zS We hi Xh;rw[ja]at m9;have bc:=hK () trivial;have zN:(i*5) / 5=i:=by omega
      have Ms:(i*5) % 5=0:=by omega
      generalize hy:G.fW N t.args[i]=y at hF m9;simp[kQ]at m9;simp[yO,U,hi,cj,hc,hF,cy,Xh,zN,Ms,m9,-Int.natCast_add];exact bc _ _ (aw.auto)
   have Ft:gT (t.args.map (au ∘ G.fW N))=t.args.map (au ∘ G.fW N):=by rw[<- iy];simp[-List.map_map]
   obtain⟨tk,tn,ti,th,ta⟩:=t;simp only[G.fC,G.fw,G.jC,G.o5,G.sJ]at B1 k1 k2 Lw hx Ft ⊢;by_cases h5:tk=5
   . subst h5;have h6:¬ 0<=x:=λh6=>hk ⟨rfl,h6⟩
     simp[U,hI,Cg,zKj,hx,h6,k1,k2];refine Lw _ _ _ (aw.auto (hH:=by simp[Ya])) ?_;simp[U,Ft]
   . simp[U,hI,Cg,zKj,hx,h5,k1,k2];refine Lw _ _ _ (aw.auto (hH:=by simp[Ya])) ?_;simp[U,Ft]
end
def zgi:Valid I Pg 87 BL:=v2 (fo Tryz.func87 yU.2) λa b r h C=>by
 unfold findF at h;obtain⟨⟨M,O⟩,rfl⟩:=bF h;exact zoy hρ (E:=EL []) rfl (ag aG) M O C
def Vo:∀ d,Valid I Pg 91 (dH (dC (U6 d)))
 | 0=>v2 (fo Tryz.func91 yV.2) λa b r h C=>by
   obtain⟨⟨_,O,_⟩,rfl⟩:=bF h;have:=G.size_pos a;omega
 | d+1=>v2 (fo Tryz.func91 yV.2) λa b r h C=>by
   obtain⟨⟨M,O,h3⟩,rfl⟩:=bF h;exact zpa hρ (E:=EL [(171,Cg),(91,dH (dC (U6 d)))]) rfl (ag (ae (zt7 hρ) (ae (Vo d) aG))) rfl rfl M O h3 C
def NT:J.Spec:=dH (dC (U6 100000))
def zt8:Valid I Pg 91 NT:=Vo hρ 100000
end
def Uv:Z Int->Int->Int->Int
 | [],_,_=>-1
 |y::l,x,i=>if x=y then i else Uv l x (i+1)
def zsq:∀ (l:Z Int) (x i:Int),0<=i->(decide (Uv l x i ≥ 0))=decide (x∈l):=by
 intro l
 induction l with
 |nil=>intro x i h;simp[Uv]
 | cons y l ih =>
   intro x i h;rw[Uv];split
   . rename_i e;simp[e,h]
   . rename_i e;rw[ih x (i+1) (by omega)];simp[e]
section
variable {I:Nat->Value}(hρ:J.Good I)
include hρ
section
variable {E:Env}(U:E.P=Pg)(aq:bH I E)
include U aq
def OH{x:Int}(hl:l.length<=1000000)(C:HS):aT I Pg 161 [enc l,enc x] C (enc (Uv l x 0)) C:=by
 refine fn hρ U aq Tryz.func161 q9.2 rfl (by simp) ?_ C;generalize hr:Uv l x 0=r;simp[U]
 refine vC hρ U aq l.length (nn:=0) (λi (_:Unit)=>[(0,.sl (l.map cW) false),(1,.int .i64 x),(7,.int .i64 (l.length:Int)),(8,.int .i64 (i:Int))]) (λi _=>[]) (λi _=>Uv (l.drop i) x i=r) ()
  (aw.auto) (by simpa using hr) ?_ ?_
 . intro _ h K;rw[bz,Uv]at h;simp[oI,U];refine bO.mk (aw.auto (TL:=[]) (HL:=[]) (n:=0)) ?_;simp[h]
 . intro i _ hi h K hK;have cj:(i:Int)<l.length:=by omega
   have cy:=bI (i:=i);rw[aK hi,Uv]at h;by_cases he:x=l[i]
   . rw[if_pos he]at h;simp[oI,U,hi,cj,<- he];refine bO.mk (aw.auto (TL:=[(4,.int .i64 (i:Int))]) (HL:=[]) (n:=0)) ?_;simp[h]
   . rw[if_neg he]at h;have bc:=hK () (by simpa using h);simp[oI,U,hi,cj,he,cy,-Int.natCast_add];exact bc _ _ (aw.auto)
def Kh(hI:E.dE 161=KU (dC λ(l:Z Int) (x:Int)=>if l.length<=1000000 then some (Uv l x 0)else none)){x:Int}(hl:l.length<=1000000)(C:HS):aT I Pg 75 [enc l,enc x] C (enc (decide (x∈l))) C:=by
 refine fn hρ U aq Tryz.func75 vJ.2 rfl (by simp) ?_ C;rw[<- zsq l x 0 (by omega)];simp[U,hI,hl]
end
def znW:J.Spec:=KU (dC λ(l:Z Int) (x:Int)=>if l.length<=1000000 then some (Uv l x 0)else none)
def zvM:Valid I Pg 161 znW:=c2 (fo Tryz.func161 q9.2) λa b r h C=>by
 obtain⟨M,rfl⟩:=bF h;exact OH hρ (E:=EL []) rfl (ag aG) M C
def Wx:Valid I Pg 75 Gv:=c2 (fo Tryz.func75 vJ.2) λa b r h C=>by
 obtain⟨M,rfl⟩:=bF h;exact Kh hρ (E:=EL [(161,znW)]) rfl (ag (ae (zvM hρ) aG)) rfl M C
end
def Le(vs:Z V):Y (Z (Z V)):=match vs with
 | [x,y]=>W (bo.dec x:Y ao) λs=>W (bo.dec y:Y (Z G)) λl=>if tO s l then some ((nR s l).map cW)else none
 |_=>none
@[simp] def zBG {x y:V}:Le [x,y]=W (bo.dec x:Y ao) λs=>W (bo.dec y:Y (Z G)) λl=>if tO s l then some ((nR s l).map cW)else none:=(rfl)
def zdt{es:Z (Z V)}(h:Le vs=some es):∃ (s:ao) (l:Z G),vs=[enc s,enc l]/\tO s l/\es=(nR s l).map cW:=by
 unfold Le at h;split at h
 . simp only[aA]at h;obtain⟨s,C,l,hl,h⟩:=h;obtain⟨M,rfl⟩:=bF h;exact⟨s,l,by rw[bo.bq _ _ C,bo.bq _ _ hl],M,rfl⟩
 . cases h
def Ie(s:ao)(args:Z V):Y V:=match args with
 | [tv]=>W (bo.dec tv:Y G) λt=>if s.a9.length<=1000000 then some (enc (s.w t))else none
 |_=>none
@[simp] def zFH  :Ie s [tv]=W (bo.dec tv:Y G) λt=>if s.a9.length<=1000000 then some (enc (s.w t))else none:=(rfl)
def zh4{args:Z V}{r:V}(h:Ie s args=some r):∃ t:G,args=[enc t]/\s.a9.length<=1000000/\r=enc (s.w t):=by
 unfold Ie at h;split at h
 . simp only[aA]at h;obtain⟨t,ht,h⟩:=h;obtain⟨M,rfl⟩:=bF h;exact⟨t,by rw[bo.bq _ _ ht],M,rfl⟩
 . cases h
section
variable {I:Nat->Value}(hρ:J.Good I)
include hρ
section
variable {E:Env}(U:E.P=Pg)(aq:bH I E)
include U aq
def Rf (hc:E.dE 284=sj (IH 284 (ao.D0 100000)))  {l:Z G} (hv:tO s l)  (rE:eM.H.get eM.n=none) :
 aT I Pg 281 [enc s,enc l] eM (oV eM.n ((nR s l).map cW)) (bi (Nat.beq (dA ((nR s l).map cW)) 0) eM { H:=eM.H.set eM.n (oO 1 ((nR s l).map cW)),n:=eM.n+1,log:=eM.n::eM.log }):=by
 refine row hρ U aq Tryz.func281 GX.2 rfl (by simp) (J4 _) ?_ rE;obtain⟨R,hR,hRv⟩:=ao.zmp hv;have hlen:=zmq hv;rw[<- hRv]at hlen ⊢;have hsO:=hv.1;have Ge:=G.lD.1 hv.2.1;have fX:=hv.2.2.1;simp[U]
 refine vC hρ U aq l.length (nn:=6) (λi (_:ao.Sv)=>[(5,.ptr 3 0 0),(7,.ptr 4 0 0),(12,.sl (l.map au) false),(13,.int .i64 (l.length:Int)),(14,.int .i64 (i:Int))])
  (λi st=>gM 284 s st.1 st.2) (λi st=>ao.A3 (ao.ux s 100000) (l.drop i) st=some R) ([],[])
  (aw.lit (λk=>if k=0 then 4 else if k=1 then 3 else if k=2 then 0 else if k=3 then 2 else if k=4 then 6 else k) 6 (by simp[gM]) (by simp[gM,lu]) rfl rfl) (by simpa using hR) ?_ ?_
 . rintro ⟨seen,out⟩ M K;rw[bz]at M;cases M;rcases out with _|⟨x,out⟩
   . simp[rM,U,gM,lu];refine bO.mk (aw.auto (TL:=[(5,.ptr 0 0 0)]) (HL:=[(0,jm .aE)]) (n:=1)) ?_;simp[aH.fu]
   . simp[rM,U,gM,lu];refine bO.mk (aw.auto (TL:=[(5,.ptr 0 0 0)]) (HL:=[(0,jm (.own 1 out.length 0 (out.length+1) none)),(1,.arr 1 out.length ((x::out).map cW) false false true)]) (n:=2)) ?_;simp[U];exact aH.Za (λk=>if k=0 then 1 else k) rfl rfl ⟨rfl,rfl⟩ (by simp)
 . rintro i ⟨seen,out⟩ cA M K hK;have Ch:(i:Int)<l.length:=by omega
   have hw:=bI (i:=i);rw[aK cA,ao.A3]at M;have rk:=Ge _ (az cA);obtain⟨x,hx⟩:∃ x,l[i]=x:=⟨_,rfl⟩;rw[hx]at M rk;split at M
   case h_2=>cases M
   rename_i hs h3;have eg:=ao.MP s _ _ _ _ h3;have jz:=ao.R3 (ao.MP s 100000) _ _ _ M;have hF:=ao.zdI hsO rk h3 (aO jz hlen);obtain⟨fR,c8⟩:=hs;simp only at eg;have bc:=hK (fR,c8) M;cases x;rcases out with _|⟨y,out⟩
   . rcases c8 with _|⟨z,c8⟩
     . simp[rM,U,cA,Ch,hx,hc,hF,hw,aJ,gM,lu,-Int.natCast_add];exact bc _ _ (aw.auto (by simp[gM,lu,-Int.natCast_add]) (by simp[gM,lu]) (by simp[gM]) (by simp[gM]))
     . simp[rM,U,cA,Ch,hx,hc,hF,hw,aJ,gM,lu,-Int.natCast_add];exact bc _ _ (aw.auto (by simp[gM,lu,-Int.natCast_add]) (by simp[gM,lu]) (by simp[gM]) (by simp[gM]))
   . rcases c8 with _|⟨z,c8⟩
     . simp at eg
     . have nF:out.length<=c8.length:=by simpa using eg
       simp[rM,U,cA,Ch,hx,hc,hF,hw,nF,aJ,gM,lu,-Int.natCast_add];exact bc _ _ (aw.auto (by simp[gM,lu,-Int.natCast_add]) (by simp[gM,lu]) (by simp[gM]) (by simp[gM]))
end
def zlG:Valid I Pg 253 (KU (dC λ(s:ao) (t:G)=>some (s.bound t))):=c2 (fo Tryz.func253 EZ.2) λa b r h C=>by
 cases h;exact G7 hρ (E:=EL [(271,dH (dC λ(s:ao) (i:Int)=>some (s.cg i).isSome))]) rfl (ag (ae (zt3 hρ) aG)) rfl C
def pR:J.Spec:=KU (tZ λ(s:ao) (t:G) (m:Int)=>if s.ll/\t.ok=true/\m<1000000 then some ((sz s.w t (max m 0).toNat:Nat):Int)else none)
def Yd:Valid I Pg 132 pR:=c3 (fo Tryz.func132 yS.2) λa b c r h C=>by
 obtain⟨⟨M,O,h3⟩,rfl⟩:=bF h;exact WN hρ (af _) (zvI hρ 1000000 (af _)) rfl M O (by omega) C
def zqL:Valid I Pg 281 (DH 1 Le):=Valid.DH (fo Tryz.func281 GX.2) (by omega) λvs es _ h _ C hv=>by
 obtain⟨s,l,rfl,M,rfl⟩:=zdt h;exact Rf hρ (E:=EL [(284,sj (IH 284 (ao.D0 100000)))]) rfl (ag (ae (zBM hρ 100000) aG)) rfl M hv
end
end Go.Proofs.YtfloillkpbhhhaaGreat
