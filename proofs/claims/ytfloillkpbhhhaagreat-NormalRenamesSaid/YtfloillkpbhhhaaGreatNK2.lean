import Derived.Test.YtfloillkpbhhhaaGreatNK1
import Derived.Test.YtfloillkpbhhhaaGreatNAL
import Derived.Test.YtfloillkpbhhhaaGreatJK9
import Derived.Test.YtfloillkpbhhhaaGreatJK8
import Derived.Test.YtfloillkpbhhhaaGreatJK11
import Derived.Test.YtfloillkpbhhhaaGreatJK10
set_option linter.all false
noncomputable section
namespace Go.Proofs.YtfloillkpbhhhaaGreat
open Go.J
open Go.J.bo (enc)
set_option maxRecDepth 100000
set_option maxHeartbeats 4000000
variable {b t tg:Bool}{r:Bool×Z Int}{Q:Ex->PT V->HS->Prop}{C eR:HS}{e h z:Int}{o:J.Obj}{A B S:J.Spec}{g:MG}{d f i j k:Nat}{I:Nat->Value}{H:PT J.Obj}{T:PT V}{P:Program}{sc:SC}{c:Scheme}{x:Slot}{s:ao}{I0:ao.Sv}{tv v:V}{q:V×Z Slot×Z Change}{N:Z (Z Nat)}{Cr Tm tr v7:Z Change}{D:Z Decl}{El l sn:Z Int}{a n:Z Nat}{Ic sl cW:Z Slot}{m vs:Z V}
section
variable (hρ:J.Good I)
include hρ
def XO(d:Nat)(hd:d<=1000)(hv:Valid I Pg 12 S){t:Tp}{Lv:Z G}{n:Int}(hS:0<n->S=IQ (Je (Ny d)))(M:t.ok)(O:zAA D)(h3:Lv.length<=100000)(h4:n<=d+1)(C:HS)(id:Nat)(hid:id<C.n)(hg:C.H.get id=some (box (iI.cells t))) :
 aS I Pg 12 [.ptr id 0 0,enc D,enc Lv,enc n] C (enc (jk n.toNat t D Lv).2) (C.wr id (box (iI.cells (jk n.toNat t D Lv).1))) :=
 MF hρ (E:=EL [(34,IQ (Jf Cn)),(38,zuJ),(15,dC (Jh Un)),(30,dC (cB λa b:G=>some (wo a b))),(12,S)]) rfl
  (aj (ae (zbN hρ) (ae (zxo hρ) (ae (zKo hρ) (ae (zxs hρ) (ae hv aH)))))) rfl rfl rfl rfl hS M O h3 h4 hd C id hid hg
def zPQ:J.Spec:=λ_ _=>none
omit hρ in
def zDE(hf:vM Pg f):Valid I Pg f zPQ where
 fn:=hf
 ok:=λ{_ _ _ _} h=>by cases h
 kept:=λ{_ _ _} h=>by cases h
def zDz(d:Nat)(hd:d<=1000):Valid I Pg 12 (IQ (Je (Ny d))):=by
 induction d with
 | zero =>refine s3 (fo Tryz.func12 qU.2) λs a b c q h C id hid hg=>?_;obtain⟨⟨M,O,h3,h4⟩,rfl⟩:=bF h;exact XO hρ 0 hd (zDE (fo Tryz.func12 qU.2)) (λh=>by omega) M O h3 (by omega) C id hid hg
 | succ d ih =>
   refine s3 (fo Tryz.func12 qU.2) λs a b c q h C id hid hg=>?_;obtain⟨⟨M,O,h3,h4⟩,rfl⟩:=bF h;exact XO hρ d (by omega) (ih (by omega)) (λ_=>rfl) M O h3 (by omega) C id hid hg
omit hρ in
def zlW{a9:HS}{r:V}(h:aS I Pg f vs C v a9)(e:ig v=r):aS I Pg f vs C r a9:=by
 intro X w F μ xs hR hD hO hA;refine CallsIn.mono (h X w F μ xs hR hD hO hA) λe' w' he=>?_
 cases e' with
 | returned x =>let⟨F1,μ1,g1,g2,g3⟩:=he;exact⟨F1,μ1,g1,by rw[<- e];exact g2.norm,g3⟩
 |panicked c=>exact he
 |outgrown=>exact he
def zKy:Valid I Pg 33 (dC (Jh La)):=v0 (zuk Tryz.func33 (by kernel_rfl)) λC=>zlW
 (Jr hρ (E:=EL [(151,X5 zhL)]) (aj (ae (ze4 hρ) aH)) follows named zvc rfl) (by kernel_rfl)
def zxn:Valid I Pg 9 (dC (cz λbits:Int=>some (bA bits))):=v1 (fo Tryz.func9 H5.2) λa r h C=>by
 cases h;exact Vj hρ (E:=EL [(33,dC (Jh La))]) rfl (aj (ae (zKy hρ) aH)) rfl C
def zh3:J.Spec:=UB 5 (λvs=>ob (cz (λn:Int=>if 0<=n/\n<=10000 then some (rR n.toNat)else none) vs) λv=>match v with|.sl es _=>some es|_=>none)
def zsb:Valid I Pg 13 zh3:=Valid.row (fo Tryz.func13 Kh.2) λvs es _ h C hv=>by
 rw[aC]at h;let⟨v,M,O⟩:=h;obtain⟨n,r,rfl,h3,rfl⟩:=PU M;obtain⟨⟨h4,h5⟩,rfl⟩:=bF h3;obtain⟨m,rfl⟩:=bE h4;cases O;exact Xv hρ (E:=EL [(14,dC (cz λi:Int=>some (fU i)))]) rfl (aj (ae (zKg hρ) aH)) rfl (by omega) hv
end
def zjg:J.Spec:=dC (Jh true)
section
variable (hρ:J.Good I)
include hρ
def zvC:Valid I Pg 162 (dC (cz λi:Int=>some (fU i))):=v1 (fo Tryz.func162 Sy.2) λa r h C=>by
 cases h;exact Xi hρ (E:=EL []) rfl (aj aH) C
def zvE:Valid I Pg 271 (dC (cB λ(s:ao) (i:Int)=>some (s.cE i).isSome)):=v2 (fo Tryz.func271 Sz.2) λa b r h C=>by
 cases h;exact Xj hρ (E:=EL []) rfl (aj aH) C
def zhm:Valid I Pg 253 (dC (cB λ(s:ao) (t:G)=>some (s.bound t))):=v2 (fo Tryz.func253 FE.2) λa b r h C=>by
 cases h;exact Ib hρ (E:=EL [(271,dC (cB λ(s:ao) (i:Int)=>some (s.cE i).isSome))]) rfl (aj (ae (zvE hρ) aH)) rfl C
def Ld:J.Spec:=dC (cB λ(s:ao) (t:G)=>if s.bc.length<=1000000 then some (s.w t)else none)
def zeF:Valid I Pg 199 Ld:=v2 (fo Tryz.func199 vJ.2) λa b r h C=>by
 obtain⟨M,rfl⟩:=bF h;exact Ur hρ (E:=EL [(253,dC (cB λ(s:ao) (t:G)=>some (s.bound t)))]) rfl (aj (ae (zhm hρ) aH)) rfl M C
def XV(hd:d<=1000000)(hv:Valid I Pg 132 S)(hS:S=dC (zN (X1 d))){t:G}{m:Int}(M:s.mF)(O:t.ok=true)(h3:m<d+1)(C:HS) :
 aS I Pg 132 [enc s,enc t,enc m] C (enc ((sz s.w t (max m 0).toNat:Nat):Int)) C:=by
 subst hS;exact Us hρ (E:=EL [(132,dC (zN (X1 d))),(199,Ld)]) rfl (aj (ae hv (ae (zeF hρ) aH))) rfl hd rfl M O h3 C
def zxe(d:Nat)(hd:d<=1000000):Valid I Pg 132 (dC (zN (X1 d))):=by
 induction d with
 | zero =>refine v3 (fo Tryz.func132 zC.2) λa b c r h C=>?_;obtain⟨⟨M,O,h3,h4⟩,rfl⟩:=bF h;omega
 | succ d ih =>
   refine v3 (fo Tryz.func132 zC.2) λa b c r h C=>?_;obtain⟨⟨M,O,h3,h4⟩,rfl⟩:=bF h;exact XV hρ (by omega) (ih (by omega)) rfl M O (by omega) C
end
section
variable (hρ:J.Good I){E:Env}(U:E.P=Pg)(aq:bK I E)
include hρ U aq
def sM  (hk:k=5\/k=6) (hc:E.dA 284=sI (LO 284 (ao.Fk d)))  (eR:s.mF) {l:Z G} (xj:∀ x∈l,x.ok=true) (fX:l.length<=10000) {R:ao.Sv} (hv:ao.B7 (ao.vx s d) l I0=some R) (hl:R.2.length<=100000) (mc:k=6->I0.2≠[])
    (hT:aw k T C (dP [(1,.ptr 0 0 0),(2,.ptr 2 0 0),(3,.ptr 3 0 0),(4,.ptr 4 0 0),(41,.sl (l.map aA) false),(42,.int .i64 (l.length:Int)),(43,.int .i64 ((0:Nat):Int))]) { H:=dP (gN 284 s I0.1 I0.2),n:=6,log:=[] })
 (hQ:Q (.exit 0) (dP []) { H:=dP (gN 284 s R.1 R.2),n:=6,log:=[] }):Ls I E k 51 (.loop ll) T C Q:=by
 refine rA hρ U aq l.length (nn:=6) (λi (_:ao.Sv)=>[(1,.ptr 0 0 0),(2,.ptr 2 0 0),(3,.ptr 3 0 0),(4,.ptr 4 0 0),(41,.sl (l.map aA) false),(42,.int .i64 (l.length:Int)),(43,.int .i64 (i:Int))])
  (λi st=>gN 284 s st.1 st.2) (λi st=>ao.B7 (ao.vx s d) (l.drop i) st=some R/\(k=6->st.2≠[])) I0 hT ⟨by simpa using hv,mc⟩ ?_ ?_
 rintro ⟨seen,out⟩ ⟨M,O⟩ K;rw[bz]at M;cases M;simp only at O hQ;rcases hk with rfl|rfl
 rcases out with _|⟨x,out⟩<;>simp[ll,U,gN,lL] <;>
 exact bM.mk (aw.auto (by simp[gN]) (by simp[gN,lL]) (by simp[gN]) (by simp[gN]<;>(intro x W;first|omega|exact⟨.inl W,by omega⟩))) hQ;rcases out with _|⟨x,out⟩;exact absurd rfl (O rfl);simp[ll,U,gN,lL];exact bM.mk (aw.auto (by simp[gN]) (by simp[gN,lL]) (by simp[gN]) (by simp[gN]<;>(intro x W;first|omega|exact⟨.inl W,by omega⟩))) hQ
 . rintro i ⟨seen,out⟩ cF ⟨M,O⟩ K hK;have CO:(i:Int)<l.length:=(by omega);have hw:=bG (i:=i);rw[aG cF,ao.B7]at M;have se:=xj _ (ax cF);obtain⟨x,W⟩:∃ x,l[i]=x:=⟨_,rfl⟩;rw[W]at M se;split at M
   case h_2=>cases M
   rename_i h2 h3;have ez:=ao.ND s _ _ _ _ h3;have kj:=ao.TK (ao.ND s d) _ _ _ M;have hF:=ao.zeM eR se h3 (aO kj hl);let⟨fN,c9⟩:=h2;simp only at ez O
   have aE:=hK (fN,c9) ⟨M,λh e=>O h (by
    simp only at e;rw[e]at ez
    exact bV (Nat.le_zero.1 ez))⟩
   cases x;rcases hk with rfl|rfl;rcases out with _|⟨y,out⟩;rcases c9 with _|⟨z,c9⟩;simp[ll,U,cF,CO,W,hc,hF,hw,aK,gN,lL,-Int.natCast_add];exact aE _ _ (aw.auto (by simp[gN,lL,-Int.natCast_add]) (by simp[gN,lL]) (by simp[gN]) (by simp[gN]<;>(intro x W;first|omega|exact⟨.inl W,by omega⟩)));simp[ll,U,cF,CO,W,hc,hF,hw,aK,gN,lL,-Int.natCast_add];exact aE _ _ (aw.auto (by simp[gN,lL,-Int.natCast_add]) (by simp[gN,lL]) (by simp[gN]) (by simp[gN]<;>(intro x W;first|omega|exact⟨.inl W,by omega⟩)));rcases c9 with _|⟨z,c9⟩;simp at ez;have ov:out.length<=c9.length:=(by simpa using ez);simp[ll,U,cF,CO,W,hc,hF,hw,ov,aK,gN,lL,-Int.natCast_add];exact aE _ _ (aw.auto (by simp[gN,lL,-Int.natCast_add]) (by simp[gN,lL]) (by simp[gN]) (by simp[gN]<;>(intro x W;first|omega|exact⟨.inl W,by omega⟩)));rcases out with _|⟨y,out⟩;exact absurd rfl (O rfl);rcases c9 with _|⟨z,c9⟩;simp at ez;have ov:out.length<=c9.length:=(by simpa using ez);simp[ll,U,cF,CO,W,hc,hF,hw,ov,aK,gN,lL,-Int.natCast_add];exact aE _ _ (aw.auto (by simp[gN,lL,-Int.natCast_add]) (by simp[gN,lL]) (by simp[gN]) (by simp[gN]<;>(intro x W;first|omega|exact⟨.inl W,by omega⟩)))
def PQ  (hc:E.dA 284=sI (LO 284 (ao.Fk d))) (tj:E.dA 253=dC (cB λ(s:ao) (t:G)=>some (s.bound t)))
  {t:G} {st R:ao.Sv} (hR:ao.Fk (d+1) s st t=some R) {a m c b e ro:Nat}   (b4:(Mi 284 s (enc t) a m c b e ro st R).Fits vs C) :
 aS I Pg 284 vs C ((Mi 284 s (enc t) a m c b e ro st R).val C) ((Mi 284 s (enc t) a m c b e ro st R).heap C):=by
 let⟨eR,ht,hv,hl⟩:=ao.zhA hR;have kf:=ao.ND s _ _ _ _ hv;refine em hρ U aq Tryz.func284 zB.2 rfl (zb2 kf) ?_ b4;rw[ao.vx]at hv;let⟨seen,out⟩:=st;simp only at hv kf;let⟨tk,tn,ti,th,ta⟩:=t;simp only[G.fH,G.wP,G.iT]at hv;by_cases hk:tk=1;subst hk;rw[if_pos rfl]at hv;by_cases hm:ti∈seen;rw[if_pos hm]at hv;cases hv;rcases out with _|⟨x,out⟩;simp[U,hm,Mi,gN,mM,nO,uE];exact aJ.fC rfl rfl rfl (by simp[lL]);simp[U,hm,Mi,gN,mM,nO,uE];exact aJ.fC rfl rfl rfl (by simp[lL]);rw[if_neg hm]at hv;have hz:zbH I4=some (V.bool false):=by rfl
 cases hb:s.bound (G.mk 1 tn ti th ta)with
 | false =>rw[if_pos hb]at hv;cases hv;rcases out with _|⟨x,out⟩;simp[U,hm,tj,hb,Mi,gN,mM,nO,uE,iw,hz];exact aJ.Mz (λk=>if k=5 then 25 else k) rfl rfl ⟨rfl,rfl⟩ (by simp[lL]);have qs:(out.length+1+1)*8<=1048576:=(by simp at hl;omega);simp[U,hm,tj,hb,qs,bf,Mi,gN,mM,nO,uE,iw,hz];exact aJ.fC rfl rfl rfl (by simp[lL])
 | true =>
   rw[if_neg (by rw[hb];simp)]at hv;let⟨_,i,x,hi,cF,W,A3,wc⟩:=ao.pY hb;simp only[G.wP]at hi;subst hi;rw[wc]at hv;have u1:s.bc[i]=x:=(aM.1 W).2;have sY:i*8 / 8=i:=(by omega);have HK:(i*8+1) / 8=i:=(by omega);have se:x.type.ok=true:=eR.2 x (u1 ▸ ax cF);clear W wc;let⟨xb,⟨ck,cn,ci,ch,ca⟩,xh,xg⟩:=x;simp only[G.fH,G.iT]at hv se A3;let⟨fN,c9⟩:=R;simp only at kf hl;by_cases As:ck=1;subst As;rw[if_pos rfl]at hv;have hF:ao.Fk d s (seen++[(i:Int)],out) (.mk 1 cn ci ch ca)=some (fN,c9):=ao.zeM eR se hv hl;rcases out with _|⟨y,out⟩;rcases c9 with _|⟨z,c9⟩;simp only[Mi,gN,lL];simp[U,hm,tj,hb,cF,u1,hc,hF,aK,mM,nO,uE,iw,hz,lL];exact aJ.fC rfl rfl rfl (by simp);simp only[Mi,gN,lL];simp[U,hm,tj,hb,cF,u1,hc,hF,aK,mM,nO,uE,iw,hz,lL];exact aJ.Mz (λk=>if k=5 then 35 else k) rfl rfl ⟨rfl,rfl⟩ (by simp);rcases c9 with _|⟨z,c9⟩;simp at kf;simp only[Mi,gN,lL];have ov:out.length<=c9.length:=(by simpa using kf);simp[U,hm,tj,hb,cF,u1,hc,hF,aK,mM,nO,uE,iw,hz,lL];exact⟨ov,aJ.fC rfl rfl rfl (by simp)⟩;rw [if_neg As]at hv;have hs:ao.B7 (ao.vx s d) ca (seen++[(i:Int)],out)=some (fN,c9):=hv;have oE:=(G.qH.1 se).2;have b7:=G.yJ se;simp only[G.iT]at oE b7;rcases out with _|⟨y,out⟩;simp only[Mi,gN,lL];simp[U,hm,tj,hb,cF,u1,As,mM,nO,uE,iw,hz];refine sM hρ U aq (.inl rfl) hc eR oE b7 hs hl (λh=>by cases h) (aw.auto (by simp[gN]) (by simp[gN,lL]) (by simp[gN]) (by simp[gN]<;>(intro x W;first|omega|exact⟨.inl W,by omega⟩))) ?_;rcases c9 with _|⟨z,c9⟩;simp[U,gN,lL];exact aJ.fC rfl rfl rfl (by simp);simp[U,gN,lL];exact aJ.fC rfl rfl rfl (by simp);simp only[Mi,gN,lL];simp[U,hm,tj,hb,cF,u1,As,mM,nO,uE,iw,hz];refine sM hρ U aq (.inr rfl) hc eR oE b7 hs hl (λ_=>by simp) (aw.auto (by simp[gN]) (by simp[gN,lL]) (by simp[gN]) (by simp[gN]<;>(intro x W;first|omega|exact⟨.inl W,by omega⟩))) ?_;rcases c9 with _|⟨z,c9⟩;simp at kf;simp[U,gN,lL];exact aJ.fC rfl rfl rfl (by simp)
 rw [if_neg hk]at hv;have oE:=(G.qH.1 ht).2;have b7:=G.yJ ht;simp only[G.iT]at oE b7;let⟨fN,c9⟩:=R;simp only at kf hl;rcases out with _|⟨y,out⟩;simp only[Mi,gN,lL];simp[U,hk];refine sM hρ U aq (.inl rfl) hc eR oE b7 hv hl (λh=>by cases h) (aw.auto (by simp[gN]) (by simp[gN,lL]) (by simp[gN]) (by simp[gN]<;>(intro x W;first|omega|exact⟨.inl W,by omega⟩))) ?_;rcases c9 with _|⟨z,c9⟩;simp[U,gN,lL];exact aJ.fC rfl rfl rfl (by simp);simp[U,gN,lL];exact aJ.fC rfl rfl rfl (by simp);simp only[Mi,gN,lL];simp[U,hk];refine sM hρ U aq (.inr rfl) hc eR oE b7 hv hl (λ_=>by simp) (aw.auto (by simp[gN]) (by simp[gN,lL]) (by simp[gN]) (by simp[gN]<;>(intro x W;first|omega|exact⟨.inl W,by omega⟩))) ?_;rcases c9 with _|⟨z,c9⟩;simp at kf;simp[U,gN,lL];exact aJ.fC rfl rfl rfl (by simp)
end
def znw{l:Z G}(h:yw s l):(qX s l).length<=100000:=by
 have M:=zmP (s:=s) (f:=100000) (λt st=>zeA s 100000 t st) l (([]:Z Int),List.replicate s.bc.length false);have O:=h.2.2.2;have h3:=M.2.2.2;unfold qX;simp only[ku]at h3;omega
section
variable (hρ:J.Good I)
include hρ
def zDB(d:Nat):Valid I Pg 284 (sI (LO 284 (ao.Fk d))):=by
 induction d with
 | zero =>refine Valid.Ft (fo Tryz.func284 zB.2) λvs C D h=>?_;obtain⟨s,t,st,r,a,m,c,b,e,ro,hR,rfl,_,_,b4⟩:=zhy h;have:=(ao.zhA hR).2.2.1;cases this
 | succ d ih =>
   refine Valid.Ft (fo Tryz.func284 zB.2) λvs C D h=>?_;obtain⟨s,t,st,r,a,m,c,b,e,ro,hR,rfl,_,_,b4⟩:=zhy h;exact PQ hρ (E:=EL [(284,sI (LO 284 (ao.Fk d))),(253,dC (cB λ(s:ao) (t:G)=>some (s.bound t)))]) rfl (aj (ae ih (ae (zhm hρ) aH))) rfl rfl hR b4
end
section
variable (hρ:J.Good I)
include hρ
section
variable {E:Env}(U:E.P=Pg)(aq:bK I E)
include U aq
def OP{a:Int}(C:HS):aS I Pg 269 [enc a] C (enc false) C:=by
 refine fn hρ U aq Tryz.func269 Iy.2 rfl (by simp) ?_ C;simp[U]
def JY(C:HS):aS I Pg 270 [enc a] C (enc false) C:=by
 refine fn hρ U aq Tryz.func270 Ei.2 rfl (by simp) ?_ C;simp[U]
def K5(M:E.dA 269=K4 (cz λ_:Int=>some false)){a b:Int}(C:HS):aS I Pg 246 [enc a,enc b] C (enc (QH a b)) C:=by
 refine fn hρ U aq Tryz.func246 EW.2 rfl (by simp) ?_ C;unfold QH;by_cases hl:a<b;simp[U,M,hl];by_cases hg:b<a;simp[U,M,hl,hg];simp[U,M,hl,hg]
def Hg(M:E.dA 270=K4 (cz λ_:Z Nat=>some false)){b:Z Nat}(C:HS):aS I Pg 247 [enc a,enc b] C (enc (Ys a b)) C:=by
 refine fn hρ U aq Tryz.func247 BI.2 rfl (by simp) ?_ C;unfold Ys;by_cases hl:KY a b=true;simp[U,M,hl];have vc:KY a b=false:=by simpa using hl
 by_cases hg:a=b;subst hg;simp[U,M,vc];simp[U,M,hl,hg]
def zgs(hl:l.length<=1000000)(C:HS):aS I Pg 245 [enc l] C (enc (vu l)) C:=by
 refine fn hρ U aq Tryz.func245 H6.2 rfl (by simp) ?_ C;generalize hr:vu l=r;simp[U]
 refine rA hρ U aq l.length (nn:=0) (λi (_:Unit)=>[(3,.int .i64 0),(6,.sl (l.map cY) false),(7,.int .i64 (l.length:Int)),(8,.int .i64 (i:Int))]) (λi _=>[]) (λi _=>vu (l.drop i)=r) ()
  (aw.auto) (by simpa using hr) ?_ ?_
 intro _ h K;rw[bz,vu]at h;simp[Cg,U];refine bM.mk (aw.auto (TL:=[(3,.int .i64 0)]) (HL:=[]) (n:=0)) ?_;simp[U,h];intro i _ hi h K hK;have cm:(i:Int)<l.length:=by omega
 have cr:=bG (i:=i);rw[aG hi,vu]at h;by_cases he:l[i]=0;rw[if_neg (by simpa using he)]at h;have aE:=hK () h;simp[Cg,U,hi,cm,he,cr,-Int.natCast_add];exact aE _ _ (aw.auto);rw[if_pos he]at h;simp[Cg,U,hi,cm,he];refine bM.mk (aw.auto (TL:=[(2,.int .i64 l[i])]) (HL:=[]) (n:=0)) ?_;simp[h]
end
def zdI:J.Spec:=K4 (cB λa b:Int=>some (QH a b))
def zdH:J.Spec:=K4 (cB λa b:Z Nat=>some (Ys a b))
def zEL:J.Spec:=dC (cz λl:Z Int=>if l.length<=1000000 then some (vu l)else none)
def zDG:Valid I Pg 269 (K4 (cz λ_:Int=>some false)):=c1 (fo Tryz.func269 Iy.2) λa r h C=>by
 cases h;exact OP hρ (E:=EL []) rfl (aj aH) C
def zDF:Valid I Pg 270 (K4 (cz λ_:Z Nat=>some false)):=c1 (fo Tryz.func270 Ei.2) λa r h C=>by
 cases h;exact JY hρ (E:=EL []) rfl (aj aH) C
def zDN:Valid I Pg 246 zdI:=c2 (fo Tryz.func246 EW.2) λa b r h C=>by
 cases h;exact K5 hρ (E:=EL [(269,K4 (cz λ_:Int=>some false))]) rfl (aj (ae (zDG hρ) aH)) rfl C
def zDM:Valid I Pg 247 zdH:=c2 (fo Tryz.func247 BI.2) λa b r h C=>by
 cases h;exact Hg hρ (E:=EL [(270,K4 (cz λ_:Z Nat=>some false))]) rfl (aj (ae (zDF hρ) aH)) rfl C
def zO4:Valid I Pg 245 zEL:=v1 (fo Tryz.func245 H6.2) λa r h C=>by
 obtain⟨M,rfl⟩:=bF h;exact zgs hρ (E:=EL []) rfl (aj aH) M C
def YZ(g d:Nat)(vs:Z V):Y V:=match vs with
 | [a,b,.func g' []]=>gd (Nat.beq g' g) (ob (bo.dec a:Y (Z G)) λl=>ob (bo.dec b:Y (Z G)) λm=>if l.length<=10000/\m.length<=10000/\G.fl l=true/\G.fl m=true/\G.bj l<=d then some (enc (Bv l m))else none)
 |_=>none
theorem zlG{g:Nat}(h:YZ g d vs=some v):∃ l m:Z G,vs=[enc l,enc m,.func g []]/\l.length<=10000/\m.length<=10000/\G.fl l=true/\G.fl m=true/\G.bj l<=d/\v=enc (Bv l m):=by
 unfold YZ at h;split at h;simp only[bI,aC,J.beq_true]at h;obtain⟨rfl,l,hl,m,hm,h⟩:=h;obtain⟨⟨M,O,h3,h4,h5⟩,rfl⟩:=bF h;exact⟨l,m,by rw[bo.bB _ _ hl,bo.bB _ _ hm],M,O,h3,h4,h5,rfl⟩;cases h
def X2(d:Nat)(a b:G):Y Int:=if a.ok=true/\b.ok=true/\a.size<=d then some (F8 a b)else none
section
variable {E:Env}(U:E.P=Pg)(aq:bK I E)
include U aq
def GA  (hc:E.dA 190=dC (cB (X2 d))) {l m:Z G} (hl:l.length<=10000) (hm:m.length<=10000) (eC:G.fl l=true) (hok2:G.fl m=true) (hd:G.bj l<=d) (C:HS) :
 aS I Pg 248 [enc l,enc m,.func 190 []] C (enc (Bv l m)) C:=by
 refine fn hρ U aq Tryz.func248 fP.2 rfl (by simp) ?_ C;generalize hr:Bv l m=r;simp[U]
 refine rA hρ U aq l.length (nn:=0) (λi (_:Unit)=>[(0,.sl (l.map aA) false),(1,.sl (m.map aA) false),(2,.func 190 []),(11,.sl (l.map aA) false),(12,.int .i64 (l.length:Int)),(13,.int .i64 (i:Int))]) (λi _=>[]) (λi _=>i<=m.length/\Bv (l.drop i) (m.drop i)=r) ()
  (aw.auto) ⟨aZ _,by simpa using hr⟩ ?_ ?_
 rintro _ ⟨hlm,h⟩ K;rw[bz]at h;simp[dY,U];refine bM.mk (aw.auto (TL:=[(0,.sl (l.map aA) false),(1,.sl (m.map aA) false)]) (HL:=[]) (n:=0)) ?_;by_cases cG:l.length<m.length;rw[aG cG,Bv]at h;have td:(l.length:Int)<m.length:=by omega
 simp[U,td,h];have e:m.drop l.length=[]:=List.drop_eq_nil_of_le (by omega);rw[e,Bv]at h;have td:¬ (l.length:Int)<m.length:=by omega
 simp[U,td,h];rintro i _ hi ⟨hle,h⟩ K hK;have cm:(i:Int)<l.length:=by omega
 have cr:=bG (i:=i);have eE:=ax hi;have Aj:(i*5) / 5=i:=by omega
 have Nl:(i*5) % 5=0:=by omega
 rw[aG hi]at h;by_cases cG:i<m.length;rw[aG cG,Bv]at h;have td:(i:Int)<m.length:=by omega
 have ztX:¬ (m.length:Int)<=i:=by omega
 have hle2:¬ m.length<=i:=by omega
 have hF:X2 d l[i] m[i]=some (F8 l[i] m[i]):=if_pos ⟨G.ny.1 eC _ eE,G.ny.1 hok2 _ (ax cG),by have:=G.FL eE;omega⟩;by_cases he:F8 l[i] m[i]=0;rw[if_neg (by simpa using he)]at h;have aE:=hK () ⟨by omega,h⟩;rw[he]at hF;simp[dY,U,hi,cm,cG,ztX,hc,hF,cr,-Int.natCast_add];exact aE _ _ (aw.auto);rw[if_pos he]at h;generalize F8 l[i] m[i]=c at hF he h;simp[dY,U,hi,cm,cG,ztX,hc,hF,he];refine bM.mk (aw.auto (TL:=[(6,.int .i64 c)]) (HL:=[]) (n:=0)) ?_;simp[h];have e:m.drop i=[]:=List.drop_eq_nil_of_le (by omega);rw[e,Bv]at h;have ztX:(m.length:Int)<=i:=by omega
 have hle2:m.length<=i:=by omega
 simp[dY,U,hi,cm,ztX];refine bM.mk (aw.auto (TL:=[(6,.int .i64 1)]) (HL:=[]) (n:=0)) ?_;simp[<- h]
def Nt(hi:E.dA 246=zdI)(eK:E.dA 247=zdH)(ho:E.dA 245=zEL)(hc:E.dA 248=dC (YZ 190 d)){a b:G}(ha:a.ok=true)(hb:b.ok=true)(hd:a.size<=d+1)(C:HS) :
 aS I Pg 190 [enc a,enc b] C (enc (F8 a b)) C:=by
 refine fn hρ U aq Tryz.func190 Ch.2 rfl (by simp) ?_ C;have s4:=G.yJ ha;have pH:=G.yJ hb;have cd:=G.size_eq a;have hk:G.fl a.args=true:=G.ny.2 (G.qH.1 ha).2;have Tb:G.fl b.args=true:=G.ny.2 (G.qH.1 hb).2;have ld:G.bj a.args<=d:=by omega
 have hq:vu [QH a.kind b.kind,Ys a.name b.name,QH a.id b.id,QH a.home b.home,QH (a.args.length:Int) (b.args.length:Int)]=vu (VE a b):=rfl;rw[zdG];generalize vu (VE a b)=q at hq;by_cases hz:q=0;rw[if_neg (by simpa using hz)];subst hz;generalize W:Bv a.args b.args=x;simp[U,hi,eK,ho,hc,zdI,zdH,zEL,YZ,hq,s4,pH,hk,Tb,ld,W];rw[if_pos hz];simp[U,hi,eK,ho,zdI,zdH,zEL,hq,hz]
def SL(hc:E.dA 190=dC (cB (X2 d))){a b:G}(ha:a.ok=true)(hb:b.ok=true)(hd:a.size<=d)(C:HS) :
 aS I Pg 110 [enc a,enc b] C (enc (decide (a=b))) C:=by
 refine fn hρ U aq Tryz.func110 LQ.2 rfl (by simp) ?_ C;have hF:X2 d a b=some (F8 a b):=if_pos ⟨ha,hb,hd⟩;have hz:decide (a=b)=decide (F8 a b=0):=by rw[dI];simp[zgt]
 rw[hz];generalize F8 a b=c at hF;cases a;cases b;simp[U,hc,hF]
end
def zm8(d:Nat):Valid I Pg 190 (dC (cB (X2 d))):=by
 induction d with
 | zero =>refine v2 (fo Tryz.func190 Ch.2) λa b r h C=>?_;obtain⟨⟨M,O,h3⟩,rfl⟩:=bF h;have:=G.size_eq a;omega
 | succ d ih =>
   refine v2 (fo Tryz.func190 Ch.2) λa b r h C=>?_;obtain⟨⟨M,O,h3⟩,rfl⟩:=bF h;have zQM:Valid I Pg 248 (dC (YZ 190 d)):=Valid.dC (fo Tryz.func248 fP.2) λvs v hv C=>by obtain⟨l,m,rfl,g1,g2,g3,g4,g5,rfl⟩:=zlG hρ hv;exact GA hρ (E:=EL [(190,dC (cB (X2 d)))]) rfl (aj (ae ih aH)) rfl g1 g2 g3 g4 g5 C
   exact Nt hρ (E:=EL [(246,zdI),(247,zdH),(245,zEL),(248,dC (YZ 190 d))]) rfl
    (aj (ae (zDN hρ) (ae (zDM hρ) (ae (zO4 hρ) (ae zQM aH))))) rfl rfl rfl rfl M O h3 C
def AR:J.Spec:=dC (cB λa b:G=>if a.ok=true/\b.ok=true then some (decide (a=b))else none)
def zr4:Valid I Pg 110 AR:=v2 (fo Tryz.func110 LQ.2) λa b r h C=>by
 obtain⟨⟨M,O⟩,rfl⟩:=bF h;exact SL hρ (E:=EL [(190,dC (cB (X2 a.size)))]) rfl (aj (ae (zm8 hρ a.size) aH)) rfl M O (af _) C
end
def II:Z (Z Nat)->Z Nat->Int->Int
 | [],_,_=>-1
 |y::l,x,i=>if x=y then i else II l x (i+1)
theorem ztS:∀ (l:Z (Z Nat)) (x:Z Nat) (i:Int),0<=i->(decide (II l x i ≥ 0))=decide (x∈l):=by
 intro l
 induction l with
 |nil=>intro x i h;simp[II]
 | cons y l ih =>
   intro x i h;rw[II];grind
def Y0(vs:Z V):Y V:=match vs with
 | [.sl es _]=>gd (bj 7 es) (some (.sl es true))
 |_=>none
@[simp] def zJN {es:Z (Z V)} :Y0 [.sl es t]=gd (bj 7 es) (some (.sl es true)):=(rfl)
theorem zlL(h:Y0 vs=some v):∃ es t,vs=[.sl es t]/\bj 7 es=true/\v=.sl es true:=by
 unfold Y0 at h;grind [bI]
theorem Vq (n:Z Nat):∀ l:Z Entry,(∃ (m:Nat) (h:m<l.length),FX l n=some l[m].scheme/\l[m].name=n/\∀ i (hi:i<l.length),m<i->l[i].name≠n)\/(FX l n=none/\∀ i (hi:i<l.length),l[i].name≠n):=by
 intro l;obtain⟨r,hr⟩:∃ r,l.reverse=r:=⟨_,rfl⟩
 induction r generalizing l with
 | nil =>obtain rfl:l=[]:=(by simpa using hr);exact .inr ⟨rfl,λi hi=>absurd hi (by simp)⟩
 | cons e r ih =>
   obtain⟨l0,rfl⟩:∃ l0,l=l0++[e]:=⟨r.reverse,by rw[<- List.reverse_cons,<- hr,qA]⟩;rw[q9]at hr;have ih:=ih l0 (List.cons.inj hr).2;rw[zfC];by_cases he:e.name=n;rw[if_pos he];refine .inl ⟨l0.length,by simp,by simp,by simpa using he,λi hi hm=>?_⟩;grind;rw[if_neg he];have dq:∀ i (hi:i<(l0++[e]).length),(∀ h:i<l0.length,l0[i].name≠n)->(l0++[e])[i].name≠n:=(by grind);grind
def zHr(n:Z Nat)(H:PT J.Obj):Prop:=H.get 0=some (.arr 1 0 [[.str n]] true false false)/\H.get 1=some (.arr 6 0 [[.int .i64 0,.int .i64 0,.str [],.int .i64 0,.int .i64 0,.a8]] true false false)/\H.get 2=some (.arr 1 0 [[.bool false]] true false false)
def zOY(n:Z Nat)(e:Z V)(T:PT V)(H:PT J.Obj)(N:Nat):Prop:=zHr n H/\T.get 3=some (.ptr 0 0 0)/\T.get 4=some (.ptr 1 0 0)/\T.get 5=some (.ptr 2 0 0)/\∃ id,T.get 7=some (.ptr id 0 0)/\4<id/\id<N/\H.get id=some (.arr 7 0 [e] true false false)
def T9(hi:2<i)(h:zHr n H):zHr n (H.set i o):=by
 let⟨M,O,h3⟩:=h;exact⟨by rw[PT.cZ,if_neg (by omega)];exact M,by rw[PT.cZ,if_neg (by omega)];exact O,by rw[PT.cZ,if_neg (by omega)];exact h3⟩
section
variable (hρ:J.Good I)
include hρ
section
variable {E:Env}(U:E.P=Pg)(aq:bK I E)
include U aq
def zo9{l:Z (Z Nat)}{x:Z Nat}(hl:l.length<=1000000)(C:HS):aS I Pg 171 [enc l,enc x] C (enc (II l x 0)) C:=by
 refine fn hρ U aq Tryz.func171 nJ.2 rfl (by simp) ?_ C;generalize hr:II l x 0=r;simp[U]
 refine rA hρ U aq l.length (nn:=0) (λi (_:Unit)=>[(0,.sl (l.map b5) false),(1,.str x),(7,.int .i64 (l.length:Int)),(8,.int .i64 (i:Int))]) (λi _=>[]) (λi _=>II (l.drop i) x i=r) ()
  (aw.auto) (by simpa using hr) ?_ ?_
 intro _ h K;rw[bz,II]at h;simp[lN,U];refine bM.mk (aw.auto (TL:=[]) (HL:=[]) (n:=0)) ?_;simp[h];intro i _ hi h K hK;have cm:(i:Int)<l.length:=by omega
 have cr:=bG (i:=i);rw[aG hi,II]at h;by_cases he:x=l[i];rw[if_pos he]at h;simp[lN,U,hi,cm,<- he];refine bM.mk (aw.auto (TL:=[(4,.int .i64 (i:Int))]) (HL:=[]) (n:=0)) ?_;simp[h];rw[if_neg he]at h;have aE:=hK () (by simpa using h);simp[lN,U,hi,cm,he,cr,-Int.natCast_add];exact aE _ _ (aw.auto)
def CL:J.Spec:=dC (cB λ(l:Z (Z Nat)) (x:Z Nat)=>if l.length<=1000000 then some (II l x 0)else none)
def rD:J.Spec:=dC (cB λ(l:Z (Z Nat)) (x:Z Nat)=>if l.length<=1000000 then some (decide (x∈l))else none)
def zfY(hI:E.dA 171=CL){l:Z (Z Nat)}{x:Z Nat}(hl:l.length<=1000000)(C:HS):aS I Pg 120 [enc l,enc x] C (enc (decide (x∈l))) C:=by
 refine fn hρ U aq Tryz.func120 qf.2 rfl (by simp) ?_ C;rw[<- ztS l x 0 (by omega)];simp[U,hI,CL,hl]
def zjI{t:G}(C:HS):aS I Pg 127 [enc t] C (enc (mono t)) C:=by
 refine fn hρ U aq Tryz.func127 LW.2 rfl (by simp) ?_ C;simp[U,mono]
theorem zn9(hC:E.dA 201=dC Y0){l:Z Entry}(hl:l.length<=1000)(C:HS):aS I Pg 126 [enc l,enc n,enc c] C (enc (l++[⟨n,c⟩])) C:=by
 refine fn hρ U aq Tryz.func126 Ki.2 rfl (by simp) ?_ C;have k2:(l.length+1)*88<=1048576:=aO (aQ 88 (Nat.succ_le_succ hl)) (by decide);simp_all
def zd4{es:Z (Z V)}(b4:(Bz 272 es tg).Fits vs C) :
 aS I Pg 254 vs C ((Bz 272 es tg).val C) ((Bz 272 es tg).heap C):=by
 refine em hρ U aq Tryz.func254 nC.2 rfl Nc ?_ b4;show Wp I E 0 _ _ _ { H:=dP [],n:=0,log:=[] } (J.Leaves E.P _ (aJ 0 (.func 272 [.ptr 0 0 0]) [(0,jw (.sl es tg))]));simp[U];exact aJ.bw
theorem zoQ (hB:E.dA 254=sI (Ip 272)) {l:Z Entry}  (hl:l.length<=100000) (C:HS):aS I Pg 202 [enc l,enc n] C (enc (uD l n)) C:=by
 refine fn hρ U aq Tryz.func202 vL.2 rfl (by simp) ?_ C;simp[U,hB,aK]
 have hA:∀ (i:Nat) (e:Z V),(l.map dV)[i]?=some e->∀ (H:PT J.Obj) (N:Nat) (log:Z Nat) (T0 T1:PT V),T0.get 3=some (.ptr 0 0 0)->T0.get 4=some (.ptr 1 0 0)->T0.get 5=some (.ptr 2 0 0)->4<N->(∀ i,N<=i->H.get i=none)->zHr n H->IV 19 [10,11] [.int .i64 (i:Int),.agg e] T0=some T1 ->
  Js E true 19 BD T1 { H:=H,n:=N,log:=log } λex T2 ea=>ex=.normal/\N<=ea.n/\ea.H.get 4=H.get 4/\ea.H.get 3=H.get 3/\(∀ i,ea.n<=i->ea.H.get i=none)/\zOY n e T2 ea.H ea.n:=by
  intro i e he H N log T0 T1 g3 g4 g5 hN hv hI hz;cases hz;have hs:∀ j,H.get (N+j)=none:=λj=>hv _ (by omega);have ka:=hv N (af _);have h4:¬ 4=N:=by omega
  have h3:¬ 3=N:=by omega
  obtain⟨c,rfl⟩:∃ c,e=dV c:=by grind
  refine Zh (I:=I) (k:=0) rfl ?_;simp[BD,U,hs,ka,h4,h3];refine⟨λj hj=>?_,T9 (by omega) (T9 (by omega) hI),by simp[PT.cZ,g3],by simp[PT.cZ,g4],by simp[PT.cZ,g5],N,by simp,by omega,by omega,by simp[dV]⟩;grind
 refine oJ (TZ (aw.auto (TL:=[(3,.ptr 0 0 0),(4,.ptr 1 0 0),(5,.ptr 2 0 0),(9,.func 272 [.ptr 3 0 0])])
  (HL:=[(0,.arr 1 0 [[.str n]] true false false),(1,.arr 6 0 [[.int .i64 0,.int .i64 0,.str [],.int .i64 0,.int .i64 0,.a8]] true false false),(2,.arr 1 0 [[.bool false]] true false false),(3,jw (.sl (l.map dV) false))]) (n:=4) (by simp) (by simp) (by simp) (by simp)) ?_)
 refine zei hρ aq (by rw[U];exact follows) (by rw[U];exact named) ?_;obtain⟨q,hq⟩:∃ q,uD l n=q:=⟨_,rfl⟩;rw[hq]
 have te:∀ m (hm:m<l.length),l[m].name=n->(∀ i (h:i<l.length),m+1<=i->l[i].name≠n)->q=(l[m].scheme,true):=by
  intro m hm M O;rw[<- hq];rcases Vq n l with⟨k,hk,e1,e2,e3⟩|⟨_,e2⟩;have:m=k:=by rcases Nat.lt_trichotomy m k with h|h|h;exact absurd e2 (O k hk h);exact h;exact absurd M (e3 m hm h)
  subst this;unfold uD;rw[e1];rfl;exact absurd M (e2 m hm)
 refine zbp (f:=272) (fn:=Tryz.f272) (tS:=30) (tE:=64) (tI:=3) (tB:=4) (IS:=zAt) (IE:=C5) (val:=λe=>.agg e) (bx:=3) (by rw[U];exact Tryz.func272) tZ.2 (by kernel_rfl) (by kernel_rfl) (by rw[U];simp) (by simp) (by rw[U];simp) (es:=l.map dV) (tg:=false) (by rw[zKB.2.1];exact znq _) ?_ ?_ (by simp) (by simp) (by omega) ?_ ?_
  (λj H=>zHr n H/\∀ i (h:i<l.length),j<=i->l[i].name≠n) (λj e T H N=>zOY n e T H N/\∀ i (h:i<l.length),j+1<=i->l[i].name≠n) (λj H o h=>⟨T9 (by omega) h.1,h.2⟩) ?_ ?_
  (JJ:=λH N=>4<N/\q.2=true/\H.get 1=some (.arr 6 0 [[.int .i64 q.1.count,.int .i64 q.1.type.kind,.str q.1.type.name,.int .i64 q.1.type.id,.int .i64 q.1.type.home,.sl (q.1.type.args.map aA) false]] true false false)/\H.get 2=some (.arr 1 0 [[.bool true]] true false false)) ?_ ?_ ?_ ?_ ?_ ?_
 intro e he;obtain⟨c,_,rfl⟩:=aF.1 he;simp;simp;omega;intro i hi;obtain⟨j,rfl⟩:∃ j,i=j+4:=⟨i-4,by omega⟩;simp;intro v1 v2;exact⟨_,rfl⟩;rintro j e T H N o ⟨⟨g1,g3,g4,g5,id,g7,i1,i2,gid⟩,g8⟩;exact⟨⟨T9 (by omega) g1,g3,g4,g5,id,g7,i1,i2,by rw[PT.cZ,if_neg (by omega)];exact gid⟩,g8⟩;exact⟨⟨by simp,by simp,by simp⟩,λi M O=>by simp at O;omega⟩;rintro H N o hN ⟨j0,j1,j2,j3⟩;exact⟨j0,j1,by rw[PT.cZ,if_neg (by omega)];exact j2,by rw[PT.cZ,if_neg (by omega)];exact j3⟩;rintro H N N' hNN ⟨j1,j2⟩;exact⟨by omega,j2⟩;intro i e he H N log T1 hN hv hI hz;refine zi5 (hA i e he H N log _ T1 (by simp) (by simp) (by simp) hN hv hI.1 hz) ?_;rintro ex T2 ea ⟨M,O,h3,h4,h5,h6⟩;exact⟨M,O,h3,h4,h5,h6,hI.2⟩;rintro i e he H N log T2 hN hv ⟨⟨hI,g3,g4,g5,id,g7,i1,i2,gid⟩,h8⟩;obtain⟨cF,rfl⟩:∃ h:i<l.length,e=dV l[i]:=by rw[bC,bH]at he;obtain⟨c,hc,rfl⟩:=he;obtain⟨h,rfl⟩:=aM.1 hc;exact⟨h,rfl⟩
 have hs:∀ j,H.get (N+j)=none:=λj=>hv _ (by omega);refine Zh (I:=I) (k:=0) rfl ?_;by_cases cg:l[i].name=n
 . obtain rfl:=te i cF cg h8;have n1:∀ j,¬ 1=N+j:=λj=>(by omega);have n2:∀ j,¬ 2=N+j:=λj=>(by omega);have n4:∀ j,¬ 4=N+j:=λj=>(by omega);have n5:¬ 1=id:=(by omega);have n6:¬ id=1:=(by omega);have n7:¬ 2=id:=(by omega);clear hq te h8 he;rcases hle:l[i]with⟨en,ec,⟨tk,tn,ti,th,tl⟩⟩;rw[hle]at cg gid;simp only at cg;subst cg;simp[BC,U,hs,g3,g4,g5,g7,gid,hI.1,hI.2.1,hI.2.2,n1,n2,n4,n5,n6,n7,dV,eH];intro j hj
   repeat rw[if_neg (by omega)]
   exact hv j (by omega)
 have h9:∀ j (h:j<l.length),i<=j->l[j].name≠n:=λj h hj=>(Nat.lt_or_eq_of_le hj).elim (λh'=>h8 j h h') λh'=>by subst h';exact cg
 simp[BC,U,hs,g3,g4,g5,g7,gid,hI.1,dV,cg,eH];exact⟨λj hj=>hv j (by omega),hI,h9⟩;rintro H N log hN hv ⟨⟨j1,j2,j3⟩,h8⟩;obtain rfl:q=(PZ,false):=by rw[<- hq];rcases Vq n l with⟨k,hk,e1,e2,e3⟩|⟨e1,_⟩;exact absurd e2 (h8 k hk (aZ _));unfold uD;rw[e1];rfl
 have hs:∀ j,H.get (N+j)=none:=λj=>hv _ (by omega);have n1:∀ j,¬ 1=N+j:=λj=>by omega
 have n2:∀ j,¬ 2=N+j:=λj=>by omega
 refine bM.mk (k:=0) (aw.bw N (TL:=[(4,.ptr 1 0 0),(5,.ptr 2 0 0)]) (HL:=[(1,.arr 6 0 [[.int .i64 0,.int .i64 0,.str [],.int .i64 0,.int .i64 0,.a8]] true false false),(2,.arr 1 0 [[.bool false]] true false false)]) (by simp) (by simp[j2,j3]) rfl rfl) ?_;have e0:¬ N=0:=by omega
 have e1:¬ N=1:=by omega
 have e2:¬ N=2:=by omega
 simp[U,PZ,wI,e0,e1,e2];rintro H N log hN hv ⟨_,j1,j2,j3⟩;obtain⟨⟨ec,⟨tk,tn,ti,th,tl⟩⟩,b⟩:=q;simp only at j1 j2;subst j1;refine bM.mk (k:=0) (aw.bw N (TL:=[(4,.ptr 1 0 0),(5,.ptr 2 0 0)]) (HL:=[(1,.arr 6 0 [[.int .i64 ec,.int .i64 tk,.str tn,.int .i64 ti,.int .i64 th,.sl (tl.map aA) false]] true false false),(2,.arr 1 0 [[.bool true]] true false false)]) (by simp) (by simp[j2,j3]) rfl rfl) ?_;simp[U]
end
def zvJ:Valid I Pg 171 CL:=v2 (fo Tryz.func171 nJ.2) λa b r h C=>by
 obtain⟨M,rfl⟩:=bF h;exact zo9 hρ (E:=EL []) rfl (aj aH) M C
def Zq:Valid I Pg 120 rD:=v2 (fo Tryz.func120 qf.2) λa b r h C=>by
 obtain⟨M,rfl⟩:=bF h;exact zfY hρ (E:=EL [(171,CL)]) rfl (aj (ae (zvJ hρ) aH)) rfl M C
def Fe:J.Spec:=dC (cz λt:G=>some (mono t))
def zm0:Valid I Pg 127 Fe:=v1 (fo Tryz.func127 LW.2) λa r h C=>by
 cases h;exact zjI hρ (E:=EL []) rfl (aj aH) C
def zna:Valid I Pg 201 (dC Y0):=Valid.dC (fo Tryz.func201 oQ.2) λvs v h C=>by
 obtain⟨es,t,rfl,cd,rfl⟩:=zlL h;refine zgg (D:=⟨0,0,λi=>i,[],[],[.sl es t],.sl es true⟩) hρ (E:=EL []) (aj aH) follows named Tryz.func201 oQ.2 rfl ⟨rfl,rfl,af _,(λp hp=>by cases hp),(λp hp=>by cases hp),rfl,λv hv=>by rw[ag.1 hv];rfl⟩ ?_ (C:=C) (vs:=[.sl es t]) ⟨rfl,λi j hi=>by simp at hi,(λp hp=>by cases hp),λi hi=>by simp at hi,λi hi=>by simp at hi⟩;show Wp I _ 0 _ _ _ { H:=dP [],n:=0,log:=[] } (J.Leaves _ _ (aJ 0 (.sl es true) []));have ri:(EL []).P=Pg:=rfl;cases t<;>simp[ri,cd,xE,Cy,bounds,NZ,fE]
 all_goals exact aJ.fC rfl rfl rfl (by simp)
def Fw:J.Spec:=dC (zN λ(l:Z Entry) (n:Z Nat) (c:Scheme)=>if l.length<=1000 then some (l++[⟨n,c⟩])else none)
def zm6:Valid I Pg 126 Fw:=v3 (fo Tryz.func126 Ki.2) λa b c r h C=>by
 obtain⟨M,rfl⟩:=bF h;exact zn9 hρ (E:=EL [(201,dC Y0)]) rfl (aj (ae (zna hρ) aH)) rfl M C
def znc:Valid I Pg 254 (sI (Ip 272)):=Valid.Ft (fo Tryz.func254 nC.2) λvs C D h=>by
 obtain⟨es,tg,rfl,hg,b4⟩:=QT h;exact zd4 hρ (E:=EL []) rfl (aj aH) b4
def JA:J.Spec:=dC (cB λ(l:Z Entry) (n:Z Nat)=>if l.length<=100000 then some (uD l n)else none)
def zvI:Valid I Pg 202 JA:=v2 (fo Tryz.func202 vL.2) λa b r h C=>by
 obtain⟨M,rfl⟩:=bF h;exact zoQ hρ (E:=EL [(254,sI (Ip 272))]) rfl (aj (ae (znc hρ) aH)) rfl M C
end
def LH:Z Ctor->Z Nat->Nat->Y Nat
 | [],_,_=>none
 |c::l,n,k=>if c.name=n then some k else LH l n (k+1)
def zQ:Z Decl->Z Nat->Nat->Y (Nat×Nat)
 | [],_,_=>none
 | d::l,n,i=>match LH d.ctors n 0 with
   |some k=>some (i,k)
   |none=>zQ l n (i+1)
def DU(D:Z Decl)(n:Z Nat):T3 Int Int Bool:=match zQ D n 0 with
 |some (i,k)=>⟨(i:Int),(k:Int),true⟩
 |none=>⟨0,0,false⟩
def findF(D:Z Decl)(n:Z Nat):Y (T3 Int Int Bool):=if D.length<=100000/\∀ d∈D,d.ctors.length<=100000 then some (DU D n)else none
def Cq:J.Spec:=dC (cB findF)
mutual
def G.ia(N:Z (Z Nat)):G->G
 |.mk k n i h l=>if k=5/\0<=II N n 0 then .mk 2 [] (II N n 0) 0 []else .mk k n i h (G.Sp N l)
def G.Sp(N:Z (Z Nat)):Z G->Z G
 | []=>[]
 |t::l=>G.ia N t::G.Sp N l
end
def zdY(N:Z (Z Nat))(l:Z G):G.Sp N l=l.map (G.ia N):=by
 induction l with
 |nil=>simp[G.Sp]
 |cons t l ih=>simp[G.Sp,ih]
def zuZ{t:G}(h:t.kind=5/\0<=II N t.name 0):G.ia N t=.mk 2 [] (II N t.name 0) 0 []:=by
 cases t;rw[G.ia];exact if_pos h
def zz6{t:G}(h:¬ (t.kind=5/\0<=II N t.name 0)):G.ia N t=.mk t.kind t.name t.id t.home (t.args.map (G.ia N)):=by
 cases t;rw[G.ia,zdY];exact if_neg h
def Wd(d:Nat)(t:G)(N:Z (Z Nat)):Y G:=if t.ok=true/\t.size<=d/\N.length<=100000 then some (G.ia N t)else none
section
variable (hρ:J.Good I)
include hρ
section
variable {E:Env}(U:E.P=Pg)(aq:bK I E)
include U aq
def zf5{cs:Z Ctor}{r:Y Nat}(lj:cs.length<=100000)(hr:LH cs n 0=r){sz:Nat}(cd:sz=34)
 (hT:aw 0 T C (dP [(0,.sl (D.map aT) false),(1,.str n),(4,.int .i64 0),(5,.int .i64 0),(6,.bool false),(7,.int .i64 (i:Int)),(11,.sl (D.map aT) false),(12,.int .i64 (D.length:Int)),(13,.int .i64 (i:Int)),(19,.sl (cs.map iK) false),(20,.int .i64 (cs.length:Int)),(21,.int .i64 ((0:Nat):Int))]) { H:=dP [],n:=0,log:=[] })
 (GB:r=none->Q (.exit 2) (dP [(0,.sl (D.map aT) false),(1,.str n),(4,.int .i64 0),(5,.int .i64 0),(6,.bool false),(11,.sl (D.map aT) false),(12,.int .i64 (D.length:Int)),(13,.int .i64 (i:Int))]) { H:=dP [],n:=0,log:=[] })
 (Hj:∀ k,r=some k->Q .ret (dP [(4,.int .i64 (i:Int)),(5,.int .i64 (k:Int)),(6,.bool true)]) { H:=dP [],n:=0,log:=[] }) :
 Ls I E 0 sz (.loop tu) T C Q:=by
 subst cd
 refine rA hρ U aq cs.length (nn:=0) (λj (_:Unit)=>[(0,.sl (D.map aT) false),(1,.str n),(4,.int .i64 0),(5,.int .i64 0),(6,.bool false),(7,.int .i64 (i:Int)),(11,.sl (D.map aT) false),(12,.int .i64 (D.length:Int)),(13,.int .i64 (i:Int)),(19,.sl (cs.map iK) false),(20,.int .i64 (cs.length:Int)),(21,.int .i64 (j:Int))])
  (λj _=>[]) (λj _=>LH (cs.drop j) n j=r) () hT (by simpa using hr) ?_ ?_
 intro _ h K;rw[bz,LH]at h;have cM:=GB h.symm;simp[tu,U];exact bM.mk (aw.auto) cM;intro j _ hj h K hK;have gO:(j:Int)<cs.length:=by omega
 have cr:=bG (i:=j);have m1:j*3 / 3=j:=by omega
 rw[aG hj,LH]at h;by_cases he:cs[j].name=n;rw[if_pos he]at h;have cM:=Hj j h.symm;simp[tu,U,hj,gO,m1,iK,he];exact bM.mk (aw.auto) cM;rw[if_neg he]at h;have aE:=hK () h;simp[tu,U,hj,gO,m1,iK,he,cr,-Int.natCast_add];exact aE _ _ (aw.auto)
def zpO(hD:D.length<=100000)(hC:∀ d∈D,d.ctors.length<=100000)(C:HS):aS I Pg 87 [enc D,enc n] C (enc (DU D n)) C:=by
 refine fn hρ U aq Tryz.func87 zF.2 rfl (by simp) ?_ C;unfold DU;generalize hr:zQ D n 0=r;simp[U]
 refine rA hρ U aq D.length (nn:=0) (λi (_:Unit)=>[(0,.sl (D.map aT) false),(1,.str n),(4,.int .i64 0),(5,.int .i64 0),(6,.bool false),(11,.sl (D.map aT) false),(12,.int .i64 (D.length:Int)),(13,.int .i64 (i:Int))])
  (λi _=>[]) (λi _=>zQ (D.drop i) n i=r) () (aw.auto) (by simpa using hr) ?_ ?_
 intro _ h K;rw[bz,zQ]at h;subst h;simp[EP,U];refine bM.mk (aw.auto (TL:=[]) (HL:=[]) (n:=0)) ?_;simp[U];intro i _ hi h K hK;have cm:(i:Int)<D.length:=by omega
 have cr:=bG (i:=i);have m1:i*4 / 4=i:=by omega
 rw[aG hi,zQ]at h;have lj:=hC _ (ax hi);simp[EP,U,hi,cm,m1,aT];refine zf5 hρ U aq (cs:=D[i].ctors) (i:=i) (D:=D) (n:=n) lj rfl rfl (aw.auto) ?_ ?_;intro js;rw[js]at h;have aE:=hK () h;simp[U,cr,-Int.natCast_add];exact aE _ _ (aw.auto);intro k hk;rw[hk]at h;subst h;refine bM.mk (aw.auto (TL:=[(4,.int .i64 (i:Int)),(5,.int .i64 (k:Int)),(6,.bool true)]) (HL:=[]) (n:=0)) ?_;simp[U]
theorem zqu  (hI:E.dA 171=CL) (hc:E.dA 91=dC (cB (Wd d))) {t:G}  (ht:t.ok=true) (hd:t.size<=d+1) (hN:N.length<=100000) (C:HS) :
 aS I Pg 91 [enc t,enc N] C (enc (G.ia N t)) C:=by
 refine fn hρ U aq Tryz.func91 zG.2 rfl (by simp) ?_ C;have hlen:=G.yJ ht;have zMp:N.length<=1000000:=by omega
 by_cases hk:t.kind=5/\0<=II N t.name 0;rw[zuZ hk];have As:=hk.2;have mw:=hk.1;obtain⟨x,W⟩:∃ x,II N t.name 0=x:=⟨_,rfl⟩;rw[W]at As ⊢;obtain⟨tk,tn,ti,th,ta⟩:=t;simp only[G.fH,G.j4]at mw W;subst mw;simp[U,hI,CL,zMp,W,As];rw [zz6 hk];obtain⟨x,W⟩:∃ x,II N t.name 0=x:=⟨_,rfl⟩;rw[W]at hk;have C1:(decide (t.kind=5)&&decide (0<=x))=false:=by grind
 have k1:t.args.length*64<=1048576:=aO (aQ 64 hlen) (by decide);have k2:t.args.length*5<=1048576:=aO (aQ 5 hlen) (by decide);have RJ:(t.args.map (G.ia N)).length=t.args.length:=aN ..
 have Pu:∀ T C Q,aw 0 T C (dP [(1,.sl (N.map b5) false),(2,.ptr 0 0 0),(4,.ptr 1 0 0),(6,.own 2 0 0 t.args.length (some t.args.length)),(27,.sl (t.args.map aA) false),(28,.int .i64 (t.args.length:Int)),(29,.int .i64 ((0:Nat):Int))]) { H:=dP [(0,box (aA t)),(1,box Zl),(2,.arr 5 0 (List.replicate t.args.length Zl) true false true)],n:=3,log:=[] } ->
  (Q (.exit 0) (dP [(2,.ptr 0 0 0),(4,.ptr 1 0 0),(6,.own 2 0 0 t.args.length (some t.args.length))]) { H:=dP [(0,box (aA t)),(1,box Zl),(2,.arr 5 0 ((t.args.map (G.ia N)).map aA) true false true)],n:=3,log:=[] })->Ls I E 0 44 (.loop zx) T C Q:=by
  intro T C Q hT hQ
  refine rA hρ U aq t.args.length (nn:=3) (λi (_:Unit)=>[(1,.sl (N.map b5) false),(2,.ptr 0 0 0),(4,.ptr 1 0 0),(6,.own 2 0 0 t.args.length (some t.args.length)),(27,.sl (t.args.map aA) false),(28,.int .i64 (t.args.length:Int)),(29,.int .i64 (i:Int))])
   (λi _=>[(0,box (aA t)),(1,box Zl),(2,.arr 5 0 (nX (t.args.map (G.ia N)) t.args.length i) true false true)]) (λi _=>True) () (by rw[Ao];exact hT) trivial ?_ ?_
  intro _ _ K;rw[Aq RJ];simp[zx,U];exact bM.mk (aw.auto) hQ;intro i _ hi _ K hK;have cm:(i:Int)<t.args.length:=by omega
  have cr:=bG (i:=i);have hm:=ax hi;have hF:Wd d t.args[i] N=some (G.ia N t.args[i]):=if_pos ⟨G.GL ht hm,by have:=G.Dr hm;omega,hN⟩;have Yq:i<(nX (t.args.map (G.ia N)) t.args.length i).length:=by rw[De RJ (dG hi)];exact hi
  have lO:=Ap RJ hi Yq;rw[iD]at lO;have aE:=hK () trivial;have Aj:(i*5) / 5=i:=by omega
  have Nl:(i*5) % 5=0:=by omega
  generalize hy:G.ia N t.args[i]=y at hF lO;simp[kZ]at lO;simp[zx,U,hi,cm,hc,hF,cr,Yq,Aj,Nl,lO,-Int.natCast_add];exact aE _ _ (aw.auto)
 have HE:gP (t.args.map (aA ∘ G.ia N))=t.args.map (aA ∘ G.ia N):=by rw[<- gI];simp[-List.map_map]
 obtain⟨tk,tn,ti,th,ta⟩:=t;simp only[G.iT,G.fH,G.j4,G.wP,G.Kv]at C1 k1 k2 Pu W HE ⊢;by_cases h5:tk=5;subst h5;have h6:¬ 0<=x:=λh6=>hk ⟨rfl,h6⟩;simp[U,hI,CL,zMp,W,h6,k1,k2];refine Pu _ _ _ (aw.auto (hH:=by simp[Zl])) ?_;simp[U,HE];simp[U,hI,CL,zMp,W,h5,k1,k2];refine Pu _ _ _ (aw.auto (hH:=by simp[Zl])) ?_;simp[U,HE]
end
def zhp:Valid I Pg 87 Cq:=v2 (fo Tryz.func87 zF.2) λa b r h C=>by
 unfold findF at h;obtain⟨⟨M,O⟩,rfl⟩:=bF h;exact zpO hρ (E:=EL []) rfl (aj aH) M O C
def WB:∀ d,Valid I Pg 91 (dC (cB (Wd d)))
 | 0=>v2 (fo Tryz.func91 zG.2) λa b r h C=>by obtain⟨⟨_,O,_⟩,rfl⟩:=bF h;have:=G.size_pos a;omega
 | d+1=>v2 (fo Tryz.func91 zG.2) λa b r h C=>by
   obtain⟨⟨M,O,h3⟩,rfl⟩:=bF h;exact zqu hρ (E:=EL [(171,CL),(91,dC (cB (Wd d)))]) rfl (aj (ae (zvJ hρ) (ae (WB d) aH))) rfl rfl M O h3 C
def OZ:J.Spec:=dC (cB (Wd 100000))
def zvK:Valid I Pg 91 OZ:=WB hρ 100000
end
def Vz:Z Int->Int->Int->Int
 | [],_,_=>-1
 |y::l,x,i=>if x=y then i else Vz l x (i+1)
def ztT:∀ (l:Z Int) (x i:Int),0<=i->(decide (Vz l x i ≥ 0))=decide (x∈l):=by
 intro l
 induction l with
 |nil=>intro x i h;simp[Vz]
 | cons y l ih =>
   intro x i h;rw[Vz];split;rename_i e;simp[e,h];rename_i e;rw[ih x (i+1) (by omega)];simp[e]
section
variable (hρ:J.Good I)
include hρ
section
variable {E:Env}(U:E.P=Pg)(aq:bK I E)
include U aq
def PV{x:Int}(hl:l.length<=1000000)(C:HS):aS I Pg 161 [enc l,enc x] C (enc (Vz l x 0)) C:=by
 refine fn hρ U aq Tryz.func161 rJ.2 rfl (by simp) ?_ C;generalize hr:Vz l x 0=r;simp[U]
 refine rA hρ U aq l.length (nn:=0) (λi (_:Unit)=>[(0,.sl (l.map cY) false),(1,.int .i64 x),(7,.int .i64 (l.length:Int)),(8,.int .i64 (i:Int))]) (λi _=>[]) (λi _=>Vz (l.drop i) x i=r) ()
  (aw.auto) (by simpa using hr) ?_ ?_
 intro _ h K;rw[bz,Vz]at h;simp[o5,U];refine bM.mk (aw.auto (TL:=[]) (HL:=[]) (n:=0)) ?_;simp[h];intro i _ hi h K hK;have cm:(i:Int)<l.length:=by omega
 have cr:=bG (i:=i);rw[aG hi,Vz]at h;by_cases he:x=l[i];rw[if_pos he]at h;simp[o5,U,hi,cm,<- he];refine bM.mk (aw.auto (TL:=[(4,.int .i64 (i:Int))]) (HL:=[]) (n:=0)) ?_;simp[h];rw[if_neg he]at h;have aE:=hK () (by simpa using h);simp[o5,U,hi,cm,he,cr,-Int.natCast_add];exact aE _ _ (aw.auto)
def KR(hI:E.dA 161=K4 (cB λ(l:Z Int) (x:Int)=>if l.length<=1000000 then some (Vz l x 0)else none)){x:Int}(hl:l.length<=1000000)(C:HS):aS I Pg 75 [enc l,enc x] C (enc (decide (x∈l))) C:=by
 refine fn hρ U aq Tryz.func75 vW.2 rfl (by simp) ?_ C;rw[<- ztT l x 0 (by omega)];simp[U,hI,hl]
end
def zo6:J.Spec:=K4 (cB λ(l:Z Int) (x:Int)=>if l.length<=1000000 then some (Vz l x 0)else none)
def zxl:Valid I Pg 161 zo6:=c2 (fo Tryz.func161 rJ.2) λa b r h C=>by
 obtain⟨M,rfl⟩:=bF h;exact PV hρ (E:=EL []) rfl (aj aH) M C
def XM:Valid I Pg 75 G6:=c2 (fo Tryz.func75 vW.2) λa b r h C=>by
 obtain⟨M,rfl⟩:=bF h;exact KR hρ (E:=EL [(161,zo6)]) rfl (aj (ae (zxl hρ) aH)) rfl M C
end
def Ma(vs:Z V):Y (Z (Z V)):=match vs with
 | [x,y]=>ob (bo.dec x:Y ao) λs=>ob (bo.dec y:Y (Z G)) λl=>if yw s l then some ((qX s l).map cY)else none
 |_=>none
@[simp] def zDv {x y:V}:Ma [x,y]=ob (bo.dec x:Y ao) λs=>ob (bo.dec y:Y (Z G)) λl=>if yw s l then some ((qX s l).map cY)else none:=(rfl)
def zeB{es:Z (Z V)}(h:Ma vs=some es):∃ (s:ao) (l:Z G),vs=[enc s,enc l]/\yw s l/\es=(qX s l).map cY:=by
 unfold Ma at h;split at h;simp only[aC]at h;let⟨s,C,l,hl,h⟩:=h;obtain⟨M,rfl⟩:=bF h;exact⟨s,l,by rw[bo.bB _ _ C,bo.bB _ _ hl],M,rfl⟩;cases h
def IZ(s:ao)(args:Z V):Y V:=match args with
 | [tv]=>ob (bo.dec tv:Y G) λt=>if s.bc.length<=1000000 then some (enc (s.w t))else none
 |_=>none
@[simp] def zHD  :IZ s [tv]=ob (bo.dec tv:Y G) λt=>if s.bc.length<=1000000 then some (enc (s.w t))else none:=(rfl)
def zjj{args:Z V}{r:V}(h:IZ s args=some r):∃ t:G,args=[enc t]/\s.bc.length<=1000000/\r=enc (s.w t):=by
 unfold IZ at h;split at h;simp only[aC]at h;let⟨t,ht,h⟩:=h;obtain⟨M,rfl⟩:=bF h;exact⟨t,by rw[bo.bB _ _ ht],M,rfl⟩;cases h
section
variable (hρ:J.Good I)
include hρ
section
variable {E:Env}(U:E.P=Pg)(aq:bK I E)
include U aq
def SQ (hc:E.dA 284=sI (LO 284 (ao.Fk 100000)))  {l:Z G} (hv:yw s l)  (nN:eR.H.get eR.n=none) :
 aS I Pg 281 [enc s,enc l] eR (oV eR.n ((qX s l).map cY)) (bi (Nat.beq (dB ((qX s l).map cY)) 0) eR { H:=eR.H.set eR.n (oO 1 ((qX s l).map cY)),n:=eR.n+1,log:=eR.n::eR.log }):=by
 refine row hρ U aq Tryz.func281 HY.2 rfl (by simp) (KE _) ?_ nN;let⟨R,hR,hRv⟩:=ao.znv hv;have hlen:=znw hv;rw[<- hRv]at hlen ⊢;have hsO:=hv.1;have xj:=G.ny.1 hv.2.1;have fX:=hv.2.2.1;simp[U]
 refine rA hρ U aq l.length (nn:=6) (λi (_:ao.Sv)=>[(5,.ptr 3 0 0),(7,.ptr 4 0 0),(12,.sl (l.map aA) false),(13,.int .i64 (l.length:Int)),(14,.int .i64 (i:Int))])
  (λi st=>gN 284 s st.1 st.2) (λi st=>ao.B7 (ao.vx s 100000) (l.drop i) st=some R) ([],[])
  (aw.lit (λk=>if k=0 then 4 else if k=1 then 3 else if k=2 then 0 else if k=3 then 2 else if k=4 then 6 else k) 6 (by simp[gN]) (by simp[gN,lL]) rfl rfl) (by simpa using hR) ?_ ?_
 rintro ⟨seen,out⟩ M K;rw[bz]at M;cases M;rcases out with _|⟨x,out⟩;simp[rX,U,gN,lL];refine bM.mk (aw.auto (TL:=[(5,.ptr 0 0 0)]) (HL:=[(0,jw .a8)]) (n:=1)) ?_;simp[aJ.fC];simp[rX,U,gN,lL];refine bM.mk (aw.auto (TL:=[(5,.ptr 0 0 0)]) (HL:=[(0,jw (.own 1 out.length 0 (out.length+1) none)),(1,.arr 1 out.length ((x::out).map cY) false false true)]) (n:=2)) ?_;simp[U];exact aJ.Mz (λk=>if k=0 then 1 else k) rfl rfl ⟨rfl,rfl⟩ (by simp)
 . rintro i ⟨seen,out⟩ cF M K hK;have CO:(i:Int)<l.length:=(by omega);have hw:=bG (i:=i);rw[aG cF,ao.B7]at M;have se:=xj _ (ax cF);obtain⟨x,W⟩:∃ x,l[i]=x:=⟨_,rfl⟩;rw[W]at M se;split at M
   case h_2=>cases M
   rename_i h2 h3;have ez:=ao.ND s _ _ _ _ h3;have kj:=ao.TK (ao.ND s 100000) _ _ _ M;have hF:=ao.zeM hsO se h3 (aO kj hlen);let⟨fN,c9⟩:=h2;simp only at ez;have aE:=hK (fN,c9) M;cases x;rcases out with _|⟨y,out⟩;rcases c9 with _|⟨z,c9⟩;simp[rX,U,cF,CO,W,hc,hF,hw,aK,gN,lL,-Int.natCast_add];exact aE _ _ (aw.auto (by simp[gN,lL,-Int.natCast_add]) (by simp[gN,lL]) (by simp[gN]) (by simp[gN]));simp[rX,U,cF,CO,W,hc,hF,hw,aK,gN,lL,-Int.natCast_add];exact aE _ _ (aw.auto (by simp[gN,lL,-Int.natCast_add]) (by simp[gN,lL]) (by simp[gN]) (by simp[gN]));rcases c9 with _|⟨z,c9⟩;simp at ez;have ov:out.length<=c9.length:=(by simpa using ez);simp[rX,U,cF,CO,W,hc,hF,hw,ov,aK,gN,lL,-Int.natCast_add];exact aE _ _ (aw.auto (by simp[gN,lL,-Int.natCast_add]) (by simp[gN,lL]) (by simp[gN]) (by simp[gN]))
end
def zm1:Valid I Pg 253 (K4 (cB λ(s:ao) (t:G)=>some (s.bound t))):=c2 (fo Tryz.func253 FE.2) λa b r h C=>by
 cases h;exact Ib hρ (E:=EL [(271,dC (cB λ(s:ao) (i:Int)=>some (s.cE i).isSome))]) rfl (aj (ae (zvE hρ) aH)) rfl C
def qd:J.Spec:=K4 (zN λ(s:ao) (t:G) (m:Int)=>if s.mF/\t.ok=true/\m<1000000 then some ((sz s.w t (max m 0).toNat:Nat):Int)else none)
def Zo:Valid I Pg 132 qd:=c3 (fo Tryz.func132 zC.2) λa b c r h C=>by
 obtain⟨⟨M,O,h3⟩,rfl⟩:=bF h;exact XV hρ (af _) (zxe hρ 1000000 (af _)) rfl M O (by omega) C
def zr6:Valid I Pg 281 (FF 1 Ma):=Valid.FF (fo Tryz.func281 HY.2) (by omega) λvs es _ h _ C hv=>by
 obtain⟨s,l,rfl,M,rfl⟩:=zeB h;exact SQ hρ (E:=EL [(284,sI (LO 284 (ao.Fk 100000)))]) rfl (aj (ae (zDB hρ 100000) aH)) rfl M hv
end
def AG(A B:J.Spec):J.Spec:=λvs C=>match vs with
 |.agg (.a8::m)::l=>A (.agg (.a8::m)::l) C
 |.agg (.own i g o n c::m)::l=>B (.agg (.own i g o n c::m)::l) C
 |_=>none
@[simp] def zIx  {l:Z V} :AG A B (.agg (.a8::m)::l) C=A (.agg (.a8::m)::l) C:=(rfl)
@[simp] def zIw  {g o n:Nat} {c:Y Nat} {l:Z V} :AG A B (.agg (.own i g o n c::m)::l) C=B (.agg (.own i g o n c::m)::l) C:=(rfl)
def Valid.AG(hA:Valid I P f A)(hB:Valid I P f B):Valid I P f (AG A B) where
 fn:=hA.fn
 ok:=by intro vs C v a9 hq;unfold Go.Proofs.YtfloillkpbhhhaaGreat.AG at hq;split at hq;exact hA.ok hq;exact hB.ok hq;cases hq
 kept:=by
  intro vs C q hq;unfold Go.Proofs.YtfloillkpbhhhaaGreat.AG at hq;split at hq;exact hA.kept hq;exact hB.kept hq;cases hq
section
variable (hρ:J.Good I)
include hρ
def sy{f:FuncId}{fn:Func}{D:oF}(hf:Pg.funcs[f]?=some fn)(hb:fn.body.bind aV=some sc)(he:jH fn.ntmps D.eb 0 .leaf=some T)(hg:D.Good)
 (h:∀ ρ',J.Good ρ'->∃ E,E.P=Pg/\bK ρ' E/\Wp ρ' E D.k fn.ntmps sc T { H:=dP D.OL,n:=D.k,log:=[] } (J.Leaves Pg fn (aJ D.k D.v0 D.cJ)))   (b4:D.Fits vs C) :
 aS I Pg f vs C (D.vl C) (D.hp C):=ZC hρ follows named hf hb he hg h b4
section
variable {E:Env}(U:E.P=Pg)(aq:bK I E)
include U aq
def Xk(hc:E.dA 253=K4 (cB λ(s:ao) (t:G)=>some (s.bound t)))(h:sl.length<=1000000){t r:G}(hr:ao.mE ⟨sl,tr⟩ sl.length t=r) :
 Wp I E 2 23 vJ.1 ((PT.leaf.set 0 (.agg [.own 0 g.a 0 sl.length none,.own 1 g.b 0 tr.length none])).set 1 (enc t)) { H:=dP (MD sl tr g),n:=2,log:=[] } (J.Leaves E.P Tryz.f199 (aJ 2 (enc r) (MD sl tr g))):=by
 let⟨ga,gb,gn,cX⟩:=g;simp[U,MD]
 refine rA hρ U aq sl.length (nn:=5) (λi (t:G)=>[(2,.ptr 2 0 0),(3,.ptr 3 0 0),(4,.ptr 4 0 0),(7,.int .i64 (sl.length:Int)),(8,.int .i64 (i:Int))])
  (λi t=>[(0,.arr 8 ga (sl.map dK) false false true),(1,.arr 10 gb (tr.map bW) false false true),(2,.arr 2 0 [[.own 0 ga 0 sl.length none,.own 1 gb 0 tr.length none]] true false false),(3,box (aA t)),(4,.arr 5 0 [[.int .i64 0,.str [],.int .i64 0,.int .i64 0,.a8]] true false false)])
  (λi t=>ao.mE ⟨sl,tr⟩ (sl.length-i) t=r) t (aw.auto) (by simpa using hr) ?_ ?_
 intro t M K;rw[iW]at M;cases M;simp[nH,U,ao.mE];refine bM.mk (aw.auto (TL:=[(3,.ptr 3 0 0),(4,.ptr 4 0 0)]) (HL:=[(0,.arr 8 ga (sl.map dK) false false true),(1,.arr 10 gb (tr.map bW) false false true),(2,.arr 2 0 [[.own 0 ga 0 sl.length none,.own 1 gb 0 tr.length none]] true false false),(3,box (aA t)),(4,.arr 5 0 [[.int .i64 0,.str [],.int .i64 0,.int .i64 0,.a8]] true false false)]) (n:=5)) ?_;simp[U];exact aJ.fC rfl rfl rfl (by simp);intro i t cF M K hK;have CO:(i:Int)<sl.length:=by omega
 have hw:=bG (i:=i);rw[show sl.length-i=(sl.length-(i+1))+1 by omega,ao.mE]at M;by_cases hb:ao.bound ⟨sl,tr⟩ t=true;rw[if_pos hb]at M;let⟨hk,x,W,A3⟩:=ao.D8 hb;let⟨j,ju,hj,hxj⟩:=ao.gj W;have po:ao.to ⟨sl,tr⟩ t=x.type:=by unfold ao.to;rw[W]
 rw[po]at M;have aE:=hK _ M;have d1:j*8 / 8=j:=by omega
 have d3:(j*8+1) / 8=j:=by omega
 have d4:(j*8+1) % 8=1:=by omega
 let⟨k,n,id,hm,l⟩:=t;simp only[G.wP]at hj;subst hj;have zL6:j<sl.length:=ju;have zLJ:sl[j]=x:=hxj;let⟨xb,⟨xk,xn,xi,xh,xl⟩,xm,xg⟩:=x;simp[nH,U,CO,hc,hb,hw,zL6,zLJ,d3,d4,-Int.natCast_add];exact aE _ _ (aw.auto);rw[if_neg hb]at M;subst M;simp[nH,U,CO,hc,hb];refine bM.mk (aw.auto (TL:=[(3,.ptr 3 0 0),(4,.ptr 4 0 0)]) (HL:=[(0,.arr 8 ga (sl.map dK) false false true),(1,.arr 10 gb (tr.map bW) false false true),(2,.arr 2 0 [[.own 0 ga 0 sl.length none,.own 1 gb 0 tr.length none]] true false false),(3,box (aA t)),(4,.arr 5 0 [[.int .i64 0,.str [],.int .i64 0,.int .i64 0,.a8]] true false false)]) (n:=5)) ?_;simp[U];exact aJ.fC rfl rfl rfl (by simp)
end
def zhl:Valid I Pg 199 (zp (Hn IZ)):=Valid.zp (fo Tryz.func199 vJ.2) λvs C D h hp=>by
 obtain⟨args,sl,tr,g,r,c,d,hF,rfl,_,hr,hg,b4⟩:=zto h;obtain⟨t,rfl,M,rfl⟩:=zjj hF;have VI:(EL [(253,K4 (cB λ(s:ao) (t:G)=>some (s.bound t)))]).P=Pg:=rfl;have cR:bK I (EL [(253,K4 (cB λ(s:ao) (t:G)=>some (s.bound t)))]):=aj (ae (zm1 hρ) aH);exact zsS hρ cR follows named Tryz.func199 vJ.2 rfl hg rfl hr (Xk hρ VI cR rfl M rfl) b4
end
def PX(sl:Z Slot)(tr:Z Change)(args:Z V):Y (V×Z Slot×Z Change):=match args with
 | [.int .i64 n,xv]=>ob (bo.dec xv:Y Slot) λx=>if 0<=n/\n<sl.length/\tr.length<=5000/\sl.length<=1000 then some (.tuple [],(ao.xG ⟨sl,tr⟩ n x).bc,(ao.xG ⟨sl,tr⟩ n x).b9.drop tr.length)else none
 |_=>none
def znR{args:Z V}(h:PX sl tr args=some q):∃ (i:Nat) (x:Slot),args=[.int .i64 (i:Int),enc x]/\i<sl.length/\tr.length<=5000/\sl.length<=1000/\q=(.tuple [],(ao.xG ⟨sl,tr⟩ (i:Int) x).bc,(ao.xG ⟨sl,tr⟩ (i:Int) x).b9.drop tr.length):=by
 unfold PX at h;split at h;simp only[aC]at h;let⟨x,W,h⟩:=h;split at h;rename_i hh;let⟨h0,M,O,h3⟩:=hh;obtain⟨i,rfl⟩:=bE h0;cases h;exact⟨i,x,by rw[bo.bB _ _ W],by omega,O,h3,rfl⟩;cases h;cases h
def zjT(hi:i<sl.length)(h:sl[i].bound=x.bound/\sl[i].home=x.home/\sl[i].base=x.base):ao.xG ⟨sl,tr⟩ (i:Int) x=⟨sl,tr⟩:=by
 unfold ao.xG;rw[if_pos (by rw[ao.pq (s:=⟨sl,tr⟩) hi];exact h)]
def znS(hi:i<sl.length)(h:¬ (sl[i].bound=x.bound/\sl[i].home=x.home/\sl[i].base=x.base)):ao.xG ⟨sl,tr⟩ (i:Int) x=⟨sl.set i x,tr++[⟨(i:Int),sl[i],false⟩]⟩:=by
 unfold ao.xG;rw[if_neg (by rw[ao.pq (s:=⟨sl,tr⟩) hi];exact h),ao.yC hi]
section
variable (hρ:J.Good I)
include hρ
section
variable {E:Env}(U:E.P=Pg)(aq:bK I E)
include U aq
theorem zbR      (hi:i<sl.length) (ht:tr.length<=5000) (hl:sl.length<=1000)  {ex:Z Change} (h:ao.xG ⟨sl,tr⟩ (i:Int) x=⟨cW,tr++ex⟩) :
 Wp I E (4) 64 AO.1 (((PT.leaf.set 0 (.ptr 0 0 0)).set 1 (.int .i64 (i:Int))).set 2 (enc x)) { H:=dP (fD sl tr g),n:=4,log:=[] } (J.Leaves E.P Tryz.f279 (aJ (4) (.tuple []) (fD cW (tr++ex) (g.add ex.length)))):=by
 have rh:i*8 / 8=i:=by omega
 have ld:i*8 % 8=0:=by omega
 have k1:(tr.length+1)*104<=1048576:=by omega
 by_cases c:sl[i].bound=x.bound/\sl[i].home=x.home/\sl[i].base=x.base;rw[zjT hi c]at h;let⟨M,O⟩:=ao.mk.inj h;subst M;have hex:ex=[]:=by simpa using O
 subst hex;obtain⟨y,hy⟩:∃ y,sl[i]=y:=⟨_,rfl⟩;rw[hy]at c;let⟨xb,⟨xk,xn,xi,xh,xl⟩,xm,xg⟩:=x;let⟨yb,⟨yk,yn,yi,yh,yl⟩,ym,yg⟩:=y;obtain⟨rfl,rfl,rfl⟩:=c;let⟨ga,gb,gn,cX⟩:=g
 cases yb<;>cases yg <;>
 simp[cX,U,fD,hi,rh,ld,hy] <;>
 exact aJ.fC rfl rfl rfl (by simp<;>exact jy);rw [znS hi c]at h;let⟨M,O⟩:=ao.mk.inj h;subst M;have hex:ex=[⟨(i:Int),sl[i],false⟩]:=by have:=O;simpa using this.symm
 subst hex;have hset:∀ z:Slot,(sl.map dK).set i (dK z)=(sl.set i z).map dK:=λz=>by rw[jX]
 obtain⟨y,hy⟩:∃ y,sl[i]=y:=⟨_,rfl⟩;rw[hy]at c ⊢;let⟨xb,⟨xk,xn,xi,xh,xl⟩,xm,xg⟩:=x;let⟨yb,⟨yk,yn,yi,yh,yl⟩,ym,yg⟩:=y;have zpc:=hset ⟨xb,.mk xk xn xi xh xl,xm,xg⟩;simp only[dK,G.fH,G.j4,G.wP,G.Kv,G.iT]at zpc;by_cases hm:ym=xm
 . subst hm;have c':¬ (yb=xb/\yg=xg):=λh=>c ⟨h.1,rfl,h.2⟩;let⟨ga,gb,gn,cX⟩:=g;cases yb<;>cases xb<;>cases yg<;>cases xg<;>first|(exact absurd ⟨rfl,rfl⟩ c')|skip
   all_goals
    simp[cX,U,fD,hi,rh,ld,hy,k1,bf,-List.map_set,zpc];exact aJ.fC rfl rfl rfl (by simp[-List.map_set]<;>exact jy)
 . let⟨ga,gb,gn,cX⟩:=g;cases yb<;>cases xb
   all_goals
    simp[cX,U,fD,hi,rh,ld,hy,hm,k1,bf,-List.map_set,zpc];exact aJ.fC rfl rfl rfl (by simp[-List.map_set]<;>exact jy)
end
end
def ZL(hi:i<sl.length)(ht:tr.length<=5000)(hl:sl.length<=1000){ex:Z Change}(h:ao.xG ⟨sl,tr⟩ (i:Int) x=⟨cW,tr++ex⟩):PX sl tr [.int .i64 (i:Int),enc x]=some (.tuple [],cW,ex):=by
 show ob (bo.dec (enc x):Y Slot) _=_;rw[bo.dD];show (if 0<=(i:Int)/\(i:Int)<sl.length/\tr.length<=5000/\sl.length<=1000 then _ else none)=_;rw[if_pos ⟨by omega,by omega,ht,hl⟩,h];simp
def LA(sl:Z Slot)(tr:Z Change)(args:Z V):Y (V×Z Slot×Z Change):=match args with
 | [.int .i64 n,tv]=>ob (bo.dec tv:Y G) λt=>if 0<=n/\n<sl.length/\tr.length<=5000/\sl.length<=1000 then some (.tuple [],(ao.vR ⟨sl,tr⟩ n t).bc,(ao.vR ⟨sl,tr⟩ n t).b9.drop tr.length)else none
 |_=>none
def zlg{args:Z V}(h:LA sl tr args=some q):∃ (i:Nat) (t:G),args=[.int .i64 (i:Int),enc t]/\i<sl.length/\tr.length<=5000/\sl.length<=1000/\q=(.tuple [],(ao.vR ⟨sl,tr⟩ (i:Int) t).bc,(ao.vR ⟨sl,tr⟩ (i:Int) t).b9.drop tr.length):=by
 unfold LA at h;split at h;simp only[aC]at h;let⟨x,W,h⟩:=h;split at h;rename_i hh;let⟨h0,M,O,h3⟩:=hh;obtain⟨i,rfl⟩:=bE h0;cases h;exact⟨i,x,by rw[bo.bB _ _ W],by omega,O,h3,rfl⟩;cases h;cases h
def VK{x:G}(hi:i<sl.length)(ht:tr.length<=5000)(hl:sl.length<=1000){ex:Z Change}(h:ao.vR ⟨sl,tr⟩ (i:Int) x=⟨cW,tr++ex⟩):LA sl tr [.int .i64 (i:Int),enc x]=some (.tuple [],cW,ex):=by
 show ob (bo.dec (enc x):Y G) _=_;rw[bo.dD];show (if 0<=(i:Int)/\(i:Int)<sl.length/\tr.length<=5000/\sl.length<=1000 then _ else none)=_;rw[if_pos ⟨by omega,by omega,ht,hl⟩,h];simp
section
variable (hρ:J.Good I)
include hρ
section
variable {E:Env}(U:E.P=Pg)(aq:bK I E)
include U aq
theorem Zw(hc:E.dA 279=fu (GN PX)){t:G}(hi:i<sl.length)(ht:tr.length<=5000)(hl:sl.length<=1000){ex:Z Change}(h:ao.vR ⟨sl,tr⟩ (i:Int) t=⟨cW,tr++ex⟩) :
 Wp I E (4) 24 zA.1 (((PT.leaf.set 0 (.ptr 0 0 0)).set 1 (.int .i64 (i:Int))).set 2 (enc t)) { H:=dP (fD sl tr g),n:=4,log:=[] } (J.Leaves E.P Tryz.f280 (aJ (4) (.tuple []) (fD cW (tr++ex) (g.add ex.length)))):=by
 have rh:i*8 / 8=i:=by omega
 have ld:i*8 % 8=0:=by omega
 unfold ao.vR at h;rw[ao.pq (s:=⟨sl,tr⟩) hi]at h;have hF:=ZL hi ht hl h;obtain⟨y,hy⟩:∃ y,sl[i]=y:=⟨_,rfl⟩;have Jx:(⟨sl,tr⟩:ao).bc[i]=y:=hy;rw[Jx]at hF;let⟨yb,⟨yk,yn,yi,yh,yl⟩,ym,yg⟩:=y;cases t;simp at hF;let⟨ga,gb,gn,cX⟩:=g;obtain⟨cC,ON⟩:∃ cC,tr++ex=cC:=⟨_,rfl⟩;simp[cX,ON,U,fD,hi,rh,ld,hy,hc,hF,aK];exact aJ.fC rfl rfl rfl (by simp<;>exact jy)
theorem Zu(lj:E.dA 279=fu (GN PX))(hcg:E.dA 280=fu (GN LA)){a b p q:G}(hp:p.id=i)(hq:q.id=j)(zJa:i<sl.length)(zI9:j<sl.length)
 (Kp:(a=p/\b=q/\i<=j)\/(a=q/\b=p/\i<j)) (ht:tr.length<=4999) (hl:sl.length<=1000) {dv cV:Z Slot}  (A4:Tm.length<=1) (jx:dv.length=sl.length)
 (M:ao.xG ⟨sl,tr⟩ (i:Int) (ao.uF ⟨sl,tr⟩ (i:Int) (j:Int))=⟨dv,tr++Tm⟩) (O:ao.vR ⟨dv,tr++Tm⟩ (j:Int) p=⟨cV,tr++Tm++Cr⟩) :
 Wp I E (4) 60 tH.1 (((PT.leaf.set 0 (.ptr 0 0 0)).set 1 (enc a)).set 2 (enc b)) { H:=dP (fD sl tr g),n:=4,log:=[] } (J.Leaves E.P Tryz.f274 (aJ (4) (.tuple []) (fD cV (tr++(Tm++Cr)) (g.add (Tm++Cr).length)))):=by
 have zGc:i*8 / 8=i:=by omega
 have zGb:i*8 % 8=0:=by omega
 have zGa:j*8 / 8=j:=by omega
 have zF9:j*8 % 8=0:=by omega
 unfold ao.uF at M;rw[ao.pq (s:=⟨sl,tr⟩) zJa,ao.pq (s:=⟨sl,tr⟩) zI9]at M;have my:=ZL zJa (by omega) hl M;have oy:=VK (x:=p) (by rw[jx];exact zI9) (by rw[aR];omega) (by rw[jx];exact hl) O;obtain⟨y,hy⟩:∃ y,sl[i]=y:=⟨_,rfl⟩;have Jx:(⟨sl,tr⟩:ao).bc[i]=y:=hy;obtain⟨z,hz⟩:∃ z,sl[j]=z:=⟨_,rfl⟩;have I2:(⟨sl,tr⟩:ao).bc[j]=z:=hz;rw[Jx,I2]at my;obtain⟨yb,⟨yk,yn,yi,yh,yl⟩,ym,yg⟩:=y;obtain⟨zb,⟨zk,zn,zi,zh,zl⟩,zm,zg⟩:=z;cases p;cases q;simp only[G.wP]at hp hq;subst hp hq;have IH:(if zm<ym then zm else ym)=min ym zm:=by split<;>omega
 clear Jx I2 M O;simp at my;simp at oy;generalize min ym zm=mm at IH my;rcases Kp with⟨rfl,rfl,rI⟩|⟨rfl,rfl,rI⟩
 . have zyZ:¬ (j:Int)<i:=(by omega);obtain⟨ga,gb,gn,cX⟩:=g;obtain⟨nR,zfK⟩:∃ nR,tr++Tm=nR:=⟨_,rfl⟩;obtain⟨cC,xN⟩:∃ cC,nR++Cr=cC:=⟨_,rfl⟩;have cM:tr++(Tm++Cr)=cC:=(by rw[<- xN,<- zfK];simp);cases yg
   all_goals
    simp[zfK]at my oy;simp[cX,zfK,xN,cM,eH,U,fD,zyZ,zJa,zI9,zGc,zGb,zGa,zF9,hy,hz,IH,lj,hcg,my,oy,jx,aK];exact aJ.fC rfl rfl rfl (by simp<;>exact jy)
 . have zyZ:(i:Int)<j:=(by omega);obtain⟨ga,gb,gn,cX⟩:=g;obtain⟨nR,zfK⟩:∃ nR,tr++Tm=nR:=⟨_,rfl⟩;obtain⟨cC,xN⟩:∃ cC,nR++Cr=cC:=⟨_,rfl⟩;have cM:tr++(Tm++Cr)=cC:=(by rw[<- xN,<- zfK];simp);cases yg
   all_goals
    simp[zfK]at my oy;simp[cX,zfK,xN,cM,eH,U,fD,zyZ,zJa,zI9,zGc,zGb,zGa,zF9,hy,hz,IH,lj,hcg,my,oy,jx,aK];exact aJ.fC rfl rfl rfl (by simp<;>exact jy)
end
end
def Vx(sl:Z Slot)(tr:Z Change)(args:Z V):Y (V×Z Slot×Z Change):=match args with
 | [av,bv]=>ob (bo.dec av:Y G) λa=>ob (bo.dec bv:Y G) λb=>if 0<=a.id/\a.id<sl.length/\0<=b.id/\b.id<sl.length/\a.id≠b.id/\tr.length<=4999/\sl.length<=1000 then some (.tuple [],(ao.Bp ⟨sl,tr⟩ a b).bc,(ao.Bp ⟨sl,tr⟩ a b).b9.drop tr.length)else none
 |_=>none
def zkS{args:Z V}(h:Vx sl tr args=some q):∃ (a b:G) (i j:Nat),args=[enc a,enc b]/\a.id=(i:Int)/\b.id=(j:Int)/\i<sl.length/\j<sl.length/\i≠j/\tr.length<=4999/\sl.length<=1000/\q=(.tuple [],(ao.Bp ⟨sl,tr⟩ a b).bc,(ao.Bp ⟨sl,tr⟩ a b).b9.drop tr.length):=by
 unfold Vx at h;split at h;simp only[aC]at h;let⟨a,ha,b,hb,h⟩:=h;split at h;rename_i hh;let⟨h0,M,O,h3,h4,h5,h6⟩:=hh;let⟨i,hi⟩:=bE h0;let⟨j,hj⟩:=bE O;cases h;exact⟨a,b,i,j,by rw[bo.bB _ _ ha,bo.bB _ _ hb],hi,hj,by omega,by omega,by omega,h5,h6,rfl⟩;cases h;cases h
theorem zo0{a b:G}(hi:a.id=(i:Int))(hj:b.id=(j:Int))(sY:i<sl.length)(rB:j<sl.length)(rI:i≠j)(ht:tr.length<=4999)(hl:sl.length<=1000){ex:Z Change}(h:ao.Bp ⟨sl,tr⟩ a b=⟨cW,tr++ex⟩):Vx sl tr [enc a,enc b]=some (.tuple [],cW,ex):=by
 show ob (bo.dec (enc a):Y G) (λa=>ob (bo.dec (enc b):Y G) _)=_;rw[bo.dD,bo.dD];show (if _ then _ else none)=_;grind
def Et:Slot:=⟨false,.mk 0 [] 0 0 [],0,false⟩
def Ji(sl:Z Slot)(tr:Z Change)(args:Z V):Y (V×Z Slot×Z Change):=match args with
 | [tv]=>ob (bo.dec tv:Y G) λt=>some (if ao.sU ⟨sl,tr⟩ t=true then .tuple [enc (ao.iH ⟨sl,tr⟩ t.id),.bool true]else .tuple [enc Et,.bool false],sl,[])
 |_=>none
def zjK{args:Z V}(h:Ji sl tr args=some q):∃ t:G,args=[enc t]/\q=(if ao.sU ⟨sl,tr⟩ t=true then .tuple [enc (ao.iH ⟨sl,tr⟩ t.id),.bool true]else .tuple [enc Et,.bool false],sl,[]):=by
 unfold Ji at h;split at h;simp only[aC]at h;let⟨t,ht,h⟩:=h;cases h;exact⟨t,by rw[bo.bB _ _ ht],rfl⟩;cases h
theorem Uv(sl:Z Slot)(tr:Z Change)(t:G):Ji sl tr [enc t]=some (if ao.sU ⟨sl,tr⟩ t=true then .tuple [enc (ao.iH ⟨sl,tr⟩ t.id),.bool true]else .tuple [enc Et,.bool false],sl,[]):=by
 show ob (bo.dec (enc t):Y G) _=_;simp_all
section
variable (hρ:J.Good I)
include hρ
section
variable {E:Env}(U:E.P=Pg)(aq:bK I E)
include U aq
theorem Zt    {t:G} :
 Wp I E (4) 53 zy.1 ((PT.leaf.set 0 (.ptr 0 0 0)).set 1 (enc t)) { H:=dP (fD sl tr g),n:=4,log:=[] } (J.Leaves E.P Tryz.f273 (aJ (4) (if ao.sU ⟨sl,tr⟩ t=true then .tuple [enc (ao.iH ⟨sl,tr⟩ t.id),.bool true]else .tuple [enc Et,.bool false]) (fD sl tr g))):=by
 by_cases hk:t.kind=1
 cases h:ao.cE ⟨sl,tr⟩ t.id with
 | none =>
   have hf:ao.sU ⟨sl,tr⟩ t=false:=(by unfold ao.sU ao.uG;rw[h];simp);rw[hf];have:=ao.nw h;by_cases h0:t.id<0;let⟨ga,gb,gn,cX⟩:=g;simp[cX,U,fD,hk,h0]<;>exact aJ.bw (hn:=by simp[Et]) (hH:=by simp<;>exact jy)
   have M:¬ t.id<(sl.length:Int):=(by grind);have O:(sl.length:Int)<=t.id:=(by omega);let⟨ga,gb,gn,cX⟩:=g;simp[cX,U,fD,hk,h0,O]<;>exact aJ.bw (hn:=by simp[Et]) (hH:=by simp<;>exact jy)
 | some x =>
   let⟨i,hl,hi,W⟩:=ao.gj h;have hd:ao.iH ⟨sl,tr⟩ t.id=x:=(by rw[hi,ao.pq (s:=⟨sl,tr⟩) hl,W]);have cF:i<sl.length:=hl;have HJ:sl[i]=x:=W;have rh:i*8 / 8=i:=(by omega);have ld:i*8 % 8=0:=(by omega);have BT:¬ (i:Int)<0:=(by omega);have h01:¬ sl.length<=i:=(by omega);have hf:ao.sU ⟨sl,tr⟩ t=!x.bound:=(by unfold ao.sU ao.uG;rw[h,hd,decide_eq_true hk];rfl);rw[hf,hd];let⟨xb,⟨xk,xn,xi,xh,xl⟩,xm,xg⟩:=x
   cases xb with
   |true=>let⟨ga,gb,gn,cX⟩:=g;simp[cX,U,fD,hk,hi,BT,h01,cF,HJ,rh,ld]<;>exact aJ.bw (hn:=by simp[Et]) (hH:=by simp<;>exact jy)
   |false=>let⟨ga,gb,gn,cX⟩:=g;simp[cX,U,fD,hk,hi,BT,h01,cF,HJ,rh,ld]<;>exact aJ.bw (hH:=by simp<;>exact jy)
 have hf:ao.sU ⟨sl,tr⟩ t=false:=by unfold ao.sU ao.uG;simp[hk]
 rw[hf];let⟨ga,gb,gn,cX⟩:=g;simp[cX,U,fD,hk]<;>exact aJ.bw (hn:=by simp[Et]) (hH:=by simp<;>exact jy)
end
def zmU:Valid I Pg 279 (fu (GN PX)):=by
 refine Valid.sym (fo Tryz.func279 AO.2) λvs C D h=>?_;obtain⟨args,sl,tr,g,r,cW,ex,ds,a,b,c,d,hF,rfl,_,hr,hg,b4⟩:=Kt h;obtain⟨i,x,rfl,M,O,h3,hq⟩:=znR hF;cases hq;exact sy hρ Tryz.func279 AO.2 rfl hg (λρ' fI=>⟨EL [],rfl,aj aH,zbR fI (E:=EL []) rfl (aj aH) M O h3 (ao.xW ⟨sl,tr⟩ i x).eq⟩) b4
def zmV:Valid I Pg 280 (fu (GN LA)):=by
 refine Valid.sym (fo Tryz.func280 zA.2) λvs C D h=>?_;obtain⟨args,sl,tr,g,r,cW,ex,ds,a,b,c,d,hF,rfl,_,hr,hg,b4⟩:=Kt h;obtain⟨i,x,rfl,M,O,h3,hq⟩:=zlg hF;cases hq;have cR:∀ ρ',J.Good ρ'->bK ρ' (EL [(279,fu (GN PX))]):=λρ' fI=>aj (ae (zmU fI) aH);exact sy hρ Tryz.func280 zA.2 rfl hg (λρ' fI=>⟨_,rfl,cR ρ' fI,Zw fI rfl (cR ρ' fI) rfl M O h3 (ao.Al ⟨sl,tr⟩ i x).eq⟩) b4
theorem zxa:Valid I Pg 274 (fu (GN Vx)):=by
 refine Valid.sym (fo Tryz.func274 tH.2) λvs C D h=>?_;obtain⟨args,sl,tr,g,r,cW,ex,ds,a,b,c,d,hF,rfl,_,hr,hg,b4⟩:=Kt h;obtain⟨x,y,i,j,rfl,M,O,h3,h4,h5,h6,h7,hq⟩:=zkS hF;cases hq;have cR:∀ ρ',J.Good ρ'->bK ρ' (EL [(279,fu (GN PX)),(280,fu (GN LA))]):=λρ' fI=>aj (ae (zmU fI) (ae (zmV fI) aH));refine sy hρ Tryz.func274 tH.2 rfl hg (λρ' fI=>⟨_,rfl,cR ρ' fI,?_⟩) b4
 have key:∀ (p q:G) (i j:Nat),p.id=i->q.id=j->i<sl.length->j<sl.length->((x=p/\y=q/\i<=j)\/(x=q/\y=p/\i<j))->ao.Bp ⟨sl,tr⟩ x y=(ao.xG ⟨sl,tr⟩ i (ao.uF ⟨sl,tr⟩ i j)).vR j p ->
  Wp ρ' (EL [(279,fu (GN PX)),(280,fu (GN LA))]) (4) 60 tH.1 (((PT.leaf.set 0 (.ptr 0 0 0)).set 1 (enc x)).set 2 (enc y)) { H:=dP (fD sl tr g),n:=4,log:=[] } (J.Leaves Pg Tryz.f274 (aJ (4) (.tuple []) (fD (ao.Bp ⟨sl,tr⟩ x y).bc (tr++(ao.Bp ⟨sl,tr⟩ x y).b9.drop tr.length) (g.add ((ao.Bp ⟨sl,tr⟩ x y).b9.drop tr.length).length)))):=by
  intro p q i j hp hq hi hj Kp e;have g1:=ao.xW ⟨sl,tr⟩ i (ao.uF ⟨sl,tr⟩ i j);have g2:=ao.Al (ao.xG ⟨sl,tr⟩ i (ao.uF ⟨sl,tr⟩ i j)) j p;let⟨Tm,t1,t2⟩:=g1.b9;let⟨Cr,t3,t4⟩:=g2.b9;have e3:(ao.Bp ⟨sl,tr⟩ x y).b9.drop tr.length=Tm++Cr:=by grind
  rw[e3];have s1:ao.xG ⟨sl,tr⟩ i (ao.uF ⟨sl,tr⟩ i j)=⟨(ao.xG ⟨sl,tr⟩ i (ao.uF ⟨sl,tr⟩ i j)).bc,tr++Tm⟩:=by rw[<- t1]
  refine Zu fI rfl (cR ρ' fI) rfl rfl hp hq hi hj Kp h6 h7 t2 g1.len s1 ?_;rw[<- s1,e];rw[t1]at t3;rw[<- t3]
 by_cases hc:j<i;exact key y x j i O M h4 h3 (.inr ⟨rfl,rfl,hc⟩) (by unfold ao.Bp;rw[if_pos (by rw[M,O];omega),M,O]);exact key x y i j M O h3 h4 (.inl ⟨rfl,rfl,by omega⟩) (by unfold ao.Bp;rw[if_neg (by rw[M,O];omega),M,O])
def zmT:Valid I Pg 273 (zr (GN Ji)):=Valid.zr (fo Tryz.func273 zy.2) λvs C D h hp=>by
 obtain⟨args,sl,tr,g,r,cW,ex,ds,a,b,c,d,hF,rfl,_,hr,hg,b4⟩:=Kt h;obtain⟨t,rfl,hq⟩:=zjK hF;cases hq
 exact znt hρ follows named Tryz.func273 zy.2 rfl hg (by show fD sl (tr++[]) (g.add 0)=fD sl tr g;rw[fq];rfl) hp (λρ' fI=>⟨EL [],rfl,aj aH,by
  show Wp _ _ _ _ _ _ _ (J.Leaves _ _ (aJ _ _ (fD sl (tr++[]) (g.add 0))));rw[fq]
  exact Zt fI (E:=EL []) rfl (aj aH)⟩) b4
end
def Uy(sl:Z Slot):Prop:=∀ x∈sl,x.type.ok=true
open Classical in
def Yp(d:Nat)(sl:Z Slot)(h:Int)(sn:Z Int)(t:G):Y (Bool×Z Int):=if Uy sl/\t.ok=true then ao.gC ⟨sl,[]⟩ h d t sn else none
theorem ziv{t:G}(hh:Yp d sl h sn t=some r):Uy sl/\t.ok=true/\ao.gC ⟨sl,[]⟩ h d t sn=some r:=by
 unfold Yp at hh;grind
def zfR{t:G}(M:Uy sl)(O:t.ok=true)(hh:ao.gC ⟨sl,[]⟩ h d t sn=some r):Yp d sl h sn t=some r:=by
 unfold Yp;rw[if_pos ⟨M,O⟩,hh]
def W7(d:Nat)(sl:Z Slot)(h:Int)(sn:Z Int)(x:V):Y (V×Z Int):=ob (bo.dec x:Y G) λt=>ob (Yp d sl h sn t) λr=>some (.bool r.1,r.2)
def HU (rec:G->Z Int->Y (Bool×Z Int)):Z G->Int->Z Int->Y (Int×Z Int)
 | [],_,sn=>some (-1,sn)
 | t::l,i,sn=>match rec t sn with
   |none=>none
   |some (true,El)=>some (i,El)
   |some (false,El)=>HU rec l (i+1) El
def ztJ{rec:G->Z Int->Y (Bool×Z Int)}:∀ (l:Z G) (i:Int) (sn:Z Int) (b:Bool) (El:Z Int),0<=i->ao.DS rec l sn=some (b,El)->∃ z,HU rec l i sn=some (z,El)/\decide (0<=z)=b:=by
 intro l
 induction l with
 |nil=>intro i sn b El h hh;cases hh;exact⟨-1,rfl,by decide⟩
 | cons t l ih =>
   intro i sn b El h hh;rw[ao.DS]at hh;rw[HU]
   cases hp:rec t sn with
   |none=>rw[hp]at hh;cases hh
   | some w =>
     rw[hp]at hh;let⟨c,zKQ⟩:=w
     cases c with
     |true=>cases hh;exact⟨i,rfl,by simpa using h⟩
     |false=>exact ih (i+1) zKQ b El (by omega) hh
open Classical in
def zfS(d:Nat)(sl:Z Slot)(h:Int)(sn:Z Int)(x:V):Y (V×Z Int):=ob (bo.dec x:Y (Z G)) λl=>if Uy sl/\G.fl l=true/\l.length<=10000 then ob (HU (ao.gC ⟨sl,[]⟩ h d) l 0 sn) λr=>some (.int .i64 r.1,r.2)else none
open Classical in
def So(d:Nat)(sl:Z Slot)(h:Int)(sn:Z Int)(x:V):Y (V×Z Int):=ob (bo.dec x:Y (Z G)) λl=>if Uy sl/\G.fl l=true/\l.length<=10000 then ob (ao.DS (ao.gC ⟨sl,[]⟩ h d) l sn) λr=>some (.bool r.1,r.2)else none
def zt0{x:V}{q:V×Z Int}(hh:W7 d sl h sn x=some q):∃ (t:G) (r:Bool×Z Int),x=enc t/\Yp d sl h sn t=some r/\q=(.bool r.1,r.2):=by
 unfold W7 at hh;simp only[aC]at hh;let⟨t,ht,r,hr,hh⟩:=hh;cases hh;exact⟨t,r,by rw[bo.bB _ _ ht],hr,rfl⟩
def zpp{x:V}{q:V×Z Int}(hh:zfS d sl h sn x=some q):∃ (l:Z G) (r:Int×Z Int),x=enc l/\Uy sl/\G.fl l=true/\l.length<=10000/\HU (ao.gC ⟨sl,[]⟩ h d) l 0 sn=some r/\q=(.int .i64 r.1,r.2):=by
 unfold zfS at hh;simp only[aC]at hh;let⟨t,ht,hh⟩:=hh;split at hh;rename_i M;simp only[aC]at hh;let⟨r,hr,hh⟩:=hh;cases hh;exact⟨t,r,by rw[bo.bB _ _ ht],M.1,M.2.1,M.2.2,hr,rfl⟩;cases hh
def zpq{x:V}{q:V×Z Int}(hh:So d sl h sn x=some q):∃ (l:Z G) (r:Bool×Z Int),x=enc l/\Uy sl/\G.fl l=true/\l.length<=10000/\ao.DS (ao.gC ⟨sl,[]⟩ h d) l sn=some r/\q=(.bool r.1,r.2):=by
 unfold So at hh;simp only[aC]at hh;let⟨t,ht,hh⟩:=hh;split at hh;rename_i M;simp only[aC]at hh;let⟨r,hr,hh⟩:=hh;cases hh;exact⟨t,r,by rw[bo.bB _ _ ht],M.1,M.2.1,M.2.2,hr,rfl⟩;cases hh
theorem zy5{t:G}(hr:Yp d sl h sn t=some r):W7 d sl h sn (enc t)=some (.bool r.1,r.2):=by
 unfold W7;rw[bo.dD];simp_all
open Classical in
theorem zt1{l:Z G}{r:Int×Z Int}(M:Uy sl)(O:G.fl l=true)(h3:l.length<=10000)(hr:HU (ao.gC ⟨sl,[]⟩ h d) l 0 sn=some r):zfS d sl h sn (enc l)=some (.int .i64 r.1,r.2):=by
 unfold zfS;rw[bo.dD];simp_all
open Classical in
theorem zt2{l:Z G}(M:Uy sl)(O:G.fl l=true)(h3:l.length<=10000)(hr:ao.DS (ao.gC ⟨sl,[]⟩ h d) l sn=some r):So d sl h sn (enc l)=some (.bool r.1,r.2):=by
 unfold So;rw[bo.dD];simp_all
section
variable (hρ:J.Good I)
include hρ
section
variable {E:Env}(U:E.P=Pg)(aq:bK I E)
include U aq
theorem Xh(hc:E.dA 282=fu (Cl (Yp d))){t:G}(hF:Yp d sl h sn t=some (b,El)) :
 Wp I E (8) 11 wF.1 ((((PT.leaf.set 0 (enc t)).set 1 (.ptr 4 0 0)).set 2 (.ptr 5 0 0)).set 3 (.ptr 6 0 0)) { H:=dP (qj sl tr g sn h),n:=8,log:=[] } (J.Leaves E.P Tryz.f285 (aJ (8) (.bool b) (qj sl tr g El h))):=by
 cases t;let⟨ga,gb,gn,cX⟩:=g;simp[cX,U,qj,hc,hF,aK];exact aJ.fC rfl rfl rfl (by simp<;>exact jy)
def Xg  (hc:E.dA 285=fu (DM none (W7 d)))      {l:Z G}  (iv:Uy sl) (xj:G.fl l=true) (fX:l.length<=10000) (hr:HU (ao.gC ⟨sl,[]⟩ h d) l 0 sn=some (z,El)) :
 Wp I E (8) 19 bL.1 ((PT.leaf.set 0 (enc l)).set 1 (.func 285 [.ptr 4 0 0,.ptr 5 0 0,.ptr 6 0 0])) { H:=dP (qj sl tr g sn h),n:=8,log:=[] } (J.Leaves E.P Tryz.f205 (aJ (8) (.int .i64 z) (qj sl tr g El h))):=by
 let⟨ga,gb,gn,cX⟩:=g;simp[cX,U,qj]
 refine rA hρ U aq l.length (nn:=8) (λi (_:Z Int)=>[(0,.sl (l.map aA) false),(1,.func 285 [.ptr 4 0 0,.ptr 5 0 0,.ptr 6 0 0]),(7,.int .i64 (l.length:Int)),(8,.int .i64 (i:Int))])
  (λi sn=>qj sl tr ⟨ga,gb,gn,cX⟩ sn h) (λi sn=>HU (ao.gC ⟨sl,[]⟩ h d) (l.drop i) (i:Int) sn=some (z,El)) sn
  (aw.auto (by simp[qj]) (by simp[qj]) (by simp[qj]) (by simp[qj]<;>(intro x W;first|omega|exact⟨.inl W,by omega⟩))) (by simpa using hr) ?_ ?_
 intro sn hh K;rw[bz,HU]at hh;cases hh;simp[cX,bD,U,qj];refine bM.mk (aw.auto (TL:=[]) (HL:=qj sl tr ⟨ga,gb,gn,cX⟩ El h) (n:=8) (by simp[qj]) (by simp[qj]) (by simp[qj]) (by simp[qj]<;>(intro x W;first|omega|exact⟨.inl W,by omega⟩))) ?_;simp[cX,qj];exact aJ.fC rfl rfl rfl (by simp<;>exact jy);intro i sn hi hh K hK;have cm:(i:Int)<l.length:=by omega
 have cr:=bG (i:=i);have Aj:(i*5) / 5=i:=by omega
 have se:=G.ny.1 xj _ (ax hi);rw[aG hi,HU]at hh;obtain⟨x,W⟩:∃ x,l[i]=x:=⟨_,rfl⟩;rw[W]at hh se
 cases hq:ao.gC ⟨sl,[]⟩ h d x sn with
 |none=>rw[hq]at hh;cases hh
 | some w =>
   rw[hq]at hh;let⟨c,zKQ⟩:=w;have hF:=zy5 (zfR iv se hq);cases x;simp at hF
   cases c with
   | true =>
     cases hh;simp[cX,bD,U,qj,hi,cm,W,hc,hF,aK];refine bM.mk (aw.auto (TL:=[(4,.int .i64 (i:Int))]) (HL:=qj sl tr ⟨ga,gb,gn,cX⟩ El h) (n:=8) (by simp[qj]) (by simp[qj]) (by simp[qj]) (by simp[qj]<;>(intro x W;first|omega|exact⟨.inl W,by omega⟩))) ?_;simp[cX,qj];exact aJ.fC rfl rfl rfl (by simp<;>exact jy)
   | false =>
     have aE:=hK zKQ hh;simp[cX,bD,U,qj,hi,cm,W,hc,hF,cr,aK,-Int.natCast_add];exact aE _ _ (aw.auto (by simp[qj,-Int.natCast_add]) (by simp[qj]) (by simp[qj]) (by simp[qj]<;>(intro x W;first|omega|exact⟨.inl W,by omega⟩)))
theorem PL(hc:E.dA 205=fu (DM (some 285) (zfS d))){l:Z G}(iv:Uy sl)(xj:G.fl l=true)(fX:l.length<=10000)(hr:ao.DS (ao.gC ⟨sl,[]⟩ h d) l sn=some (b,El)) :
 Wp I E (8) 9 bY.1 ((PT.leaf.set 0 (enc l)).set 1 (.func 285 [.ptr 4 0 0,.ptr 5 0 0,.ptr 6 0 0])) { H:=dP (qj sl tr g sn h),n:=8,log:=[] } (J.Leaves E.P Tryz.f130 (aJ (8) (.bool b) (qj sl tr g El h))):=by
 obtain⟨z,hz,rfl⟩:=ztJ l 0 sn b El (fM _) hr;have hF:=zt1 iv xj fX hz;simp at hF;let⟨ga,gb,gn,cX⟩:=g;simp[cX,U,qj,hc,hF,aK];exact aJ.fC rfl rfl rfl (by simp<;>exact jy)
theorem Zv  (hc:E.dA 282=fu (Cl (Yp d))) (hC:E.dA 130=fu (DM (some 285) (So d)))      {t:G}  (zJo:Yp (d+1) sl h sn t=some (b,El)) :
 Wp I E (5) 78 tJ.1 ((((PT.leaf.set 0 (.ptr 0 0 0)).set 1 (enc t)).set 2 (.int .i64 h)).set 3 (.map 3)) { H:=dP (IC sl tr g sn),n:=5,log:=[] } (J.Leaves E.P Tryz.f282 (aJ (5) (.bool b) (IC sl tr g El))):=by
 let⟨iv,wc,hh⟩:=ziv zJo;have hz:zbH I4=some (V.bool false):=by rfl
 rw[ao.gC]at hh;let⟨tk,tn,ti,th,ta⟩:=t;simp only[G.fH,G.wP,G.Kv,G.iT]at hh;let⟨ga,gb,gn,cX⟩:=g;by_cases hk:tk=1;subst hk;rw[if_pos rfl]at hh;by_cases hm:ti∈sn;rw[if_pos hm]at hh;cases hh;simp[cX,U,IC,hm,mM,nO,uE,hz];exact aJ.fC rfl rfl rfl (by simp<;>exact jy);rw[if_neg hm]at hh
 cases e:ao.cE ⟨sl,[]⟩ ti with
 | none =>rw[e]at hh;cases hh;have:=ao.nw e;by_cases h0:ti<0;simp[cX,U,IC,hm,mM,nO,uE,iw,hz,h0];exact aJ.fC rfl rfl rfl (by simp<;>exact jy);have O:(sl.length:Int)<=ti:=(by grind);simp[cX,U,IC,hm,mM,nO,uE,iw,hz,h0,O];exact aJ.fC rfl rfl rfl (by simp<;>exact jy)
 | some x =>
   rw[e]at hh;simp only at hh;let⟨i,hl,hi,W⟩:=ao.gj e;have cF:i<sl.length:=hl;have HJ:sl[i]=x:=W;have rh:i*8 / 8=i:=(by omega);have ld:i*8 % 8=0:=(by omega);have HO:(i*8+1) / 8=i:=(by omega);have hd4:(i*8+1) % 8=1:=(by omega);have BT:¬ (i:Int)<0:=(by omega);have h01:¬ sl.length<=i:=(by omega);have se:x.type.ok=true:=iv x (HJ ▸ ax cF);clear e W;subst hi;let⟨xb,xt,xm,xg⟩:=x
   cases xb with
   | true =>rw[if_pos rfl]at hh;have hF:=zfR iv se hh;cases xt;simp only at hF;simp[cX,U,IC,hm,mM,nO,uE,iw,hz,BT,h01,cF,HJ,rh,ld,HO,hd4,hc,hF,aK];exact aJ.fC rfl rfl rfl (by simp<;>exact jy)
   | false =>rw[if_neg (by simp)]at hh;cases hh;cases xt;simp[cX,U,IC,hm,mM,nO,uE,iw,hz,BT,h01,cF,HJ,rh,ld];exact aJ.fC rfl rfl rfl (by simp<;>exact jy)
 rw[if_neg hk]at hh;by_cases h3:tk=3;rw[if_pos h3]at hh;cases hh;simp[cX,U,IC,h3];exact aJ.fC rfl rfl rfl (by simp<;>exact jy);rw[if_neg h3]at hh;have hF:=zt2 iv (G.ny.2 λu hu=>G.GL wc hu) (G.yJ wc) hh;simp at hF;simp[cX,U,IC,hk,h3,hC,hF,aK];exact aJ.fC rfl rfl rfl (by simp<;>exact jy)
end
end
theorem zse(d:Nat):∀ {I:Nat->Value},J.Good I->Valid I Pg 282 (fu (Cl (Yp d)))/\Valid I Pg 130 (fu (DM (some 285) (So d))):=by
 have key:∀ d,(∀ {I:Nat->Value},J.Good I->Valid I Pg 282 (fu (Cl (Yp d))))->∀ {I:Nat->Value},J.Good I->Valid I Pg 130 (fu (DM (some 285) (So d))):=by
  intro d ih;have M:∀ {I:Nat->Value},J.Good I->Valid I Pg 285 (fu (DM none (W7 d))):=by intro I hρ;refine Valid.sym (fo Tryz.func285 wF.2) λvs C D h=>?_;obtain⟨x,hm,sl,tr,g,sn,r,ds,a,b,c,m,p,q,w,e,hF,rfl,_,_,hg,b4⟩:=zam h;obtain⟨t,r,rfl,hr,rfl⟩:=zt0 hF;cases r;have cR:∀ ρ',J.Good ρ'->bK ρ' (EL [(282,fu (Cl (Yp d)))]):=λρ' fI=>aj (ae (ih fI) aH);exact sy hρ Tryz.func285 wF.2 rfl hg (λρ' fI=>⟨_,rfl,cR ρ' fI,Xh fI rfl (cR ρ' fI) rfl hr⟩) b4
  have O:∀ {I:Nat->Value},J.Good I->Valid I Pg 205 (fu (DM (some 285) (zfS d))):=by intro I hρ;refine Valid.sym (fo Tryz.func205 bL.2) λvs C D h=>?_;obtain⟨x,hm,sl,tr,g,sn,r,ds,a,b,c,m,p,q,w,e,hF,rfl,_,_,hg,b4⟩:=zam h;obtain⟨t,r,rfl,g1,g2,g3,hr,rfl⟩:=zpp hF;cases r;have cR:∀ ρ',J.Good ρ'->bK ρ' (EL [(285,fu (DM none (W7 d)))]):=λρ' fI=>aj (ae (M fI) aH);exact sy hρ Tryz.func205 bL.2 rfl hg (λρ' fI=>⟨_,rfl,cR ρ' fI,Xg fI rfl (cR ρ' fI) rfl g1 g2 g3 hr⟩) b4
  intro I hρ;refine Valid.sym (fo Tryz.func130 bY.2) λvs C D h=>?_;obtain⟨x,hm,sl,tr,g,sn,r,ds,a,b,c,m,p,q,w,e,hF,rfl,_,_,hg,b4⟩:=zam h;obtain⟨t,r,rfl,g1,g2,g3,hr,rfl⟩:=zpq hF;cases r;have cR:∀ ρ',J.Good ρ'->bK ρ' (EL [(205,fu (DM (some 285) (zfS d)))]):=λρ' fI=>aj (ae (O fI) aH);exact sy hρ Tryz.func130 bY.2 rfl hg (λρ' fI=>⟨_,rfl,cR ρ' fI,PL fI rfl (cR ρ' fI) rfl g1 g2 g3 hr⟩) b4
 have base:∀ {I:Nat->Value},J.Good I->Valid I Pg 282 (fu (Cl (Yp 0))):=by intro I hρ;refine Valid.sym (fo Tryz.func282 tJ.2) λvs C D h=>?_;obtain⟨ty,hm,sl,tr,g,sn,r,ds,a,b,c,m,e,hF,rfl,hg,b4⟩:=zh8 h;have:=(ziv hF).2.2;cases this
 induction d with
 |zero=>intro I hρ;exact⟨base hρ,key 0 base hρ⟩
 | succ d ih =>
   have h3:∀ {I:Nat->Value},J.Good I->Valid I Pg 282 (fu (Cl (Yp (d+1)))):=(by intro I hρ;refine Valid.sym (fo Tryz.func282 tJ.2) λvs C D h=>?_;obtain⟨ty,hm,sl,tr,g,sn,r,ds,a,b,c,m,e,hF,rfl,hg,b4⟩:=zh8 h;cases r;have cR:∀ ρ',J.Good ρ'->bK ρ' (EL [(282,fu (Cl (Yp d))),(130,fu (DM (some 285) (So d)))]):=λρ' fI=>aj (ae (ih fI).1 (ae (ih fI).2 aH));exact sy hρ Tryz.func282 tJ.2 rfl hg (λρ' fI=>⟨_,rfl,cR ρ' fI,Zv fI rfl (cR ρ' fI) rfl rfl hF⟩) b4);grind
open Classical in
def WC(d:Nat)(sl:Z Slot)(tr:Z Change)(args:Z V):Y (V×Z Slot×Z Change):=match args with
 | [vv,tv]=>ob (bo.dec vv:Y G) λv=>ob (bo.dec tv:Y G) λt=>if 0<=v.id/\v.id<sl.length/\(⟨sl,tr⟩:ao).mF/\t.ok=true/\yw ⟨sl,tr⟩ [t]/\(ao.gC ⟨sl,[]⟩ (ao.iH ⟨sl,tr⟩ v.id).home d t []).isSome=true/\tr.length+(qX ⟨sl,tr⟩ [t]).length<=4990/\sl.length<=1000 then some (.int .i64 (ao.vT ⟨sl,tr⟩ v.id t).2,(ao.vT ⟨sl,tr⟩ v.id t).1.bc,(ao.vT ⟨sl,tr⟩ v.id t).1.b9.drop tr.length)else none
 |_=>none
def zl3{args:Z V}(h:WC d sl tr args=some q):∃ (v t:G) (i:Nat),args=[enc v,enc t]/\v.id=(i:Int)/\i<sl.length/\(⟨sl,tr⟩:ao).mF/\t.ok=true/\yw ⟨sl,tr⟩ [t]/\(ao.gC ⟨sl,[]⟩ (ao.iH ⟨sl,tr⟩ (i:Int)).home d t []).isSome=true/\tr.length+(qX ⟨sl,tr⟩ [t]).length<=4990/\sl.length<=1000 /\
 q=(.int .i64 (ao.vT ⟨sl,tr⟩ (i:Int) t).2,(ao.vT ⟨sl,tr⟩ (i:Int) t).1.bc,(ao.vT ⟨sl,tr⟩ (i:Int) t).1.b9.drop tr.length):=by
 unfold WC at h;split at h;simp only[aC]at h;let⟨v,hv,t,ht,h⟩:=h;split at h;rename_i hh;let⟨h0,M,O,h3,h4,h5,h6,h7⟩:=hh;let⟨i,hi⟩:=bE h0;cases h;rw[hi]at h5 M;exact⟨v,t,i,by rw[bo.bB _ _ hv,bo.bB _ _ ht],hi,by omega,O,h3,h4,h5,h6,h7,by rw[hi]⟩;cases h;cases h
open Classical in
theorem zd2{v t:G}(hi:v.id=(i:Int))(hl:i<sl.length)(O:(⟨sl,tr⟩:ao).mF)(h3:t.ok=true)(h4:yw ⟨sl,tr⟩ [t])(h5:(ao.gC ⟨sl,[]⟩ (ao.iH ⟨sl,tr⟩ (i:Int)).home d t []).isSome=true)(h6:tr.length+(qX ⟨sl,tr⟩ [t]).length<=4990)(h7:sl.length<=1000) :
 WC d sl tr [enc v,enc t]=some (.int .i64 (ao.vT ⟨sl,tr⟩ (i:Int) t).2,(ao.vT ⟨sl,tr⟩ (i:Int) t).1.bc,(ao.vT ⟨sl,tr⟩ (i:Int) t).1.b9.drop tr.length):=by
 show ob (bo.dec (enc v):Y G) (λv=>ob (bo.dec (enc t):Y G) _)=_;simp_all
section
variable (hρ:J.Good I)
include hρ
section
variable {E:Env}(U:E.P=Pg)(aq:bK I E)
include U aq
theorem Ns{t:G}(C:HS):aS I Pg 40 [enc t] C (enc (isArrow t)) C:=by
 refine fn hρ U aq Tryz.func40 Ir.2 rfl (by simp) ?_ C;let⟨k,n,i,h,l⟩:=t
 rcases l with _|⟨a,_|⟨b,_|⟨c,l⟩⟩⟩<;>simp[U] <;>
 repeat' (refine Fz (λh=>?_) (λh=>?_)<;>simp[h,U])
 all_goals first|omega|simp_all [isArrow,wI]
def H9(hV:E.dA 162=dC (cz λi:Int=>some (fU i)))(Tj:E.dA 273=zr (GN Ji))(Dd:E.dA 279=fu (GN PX))(cF:i<sl.length){vs:Z Int}(hlen:tr.length+vs.length<=4990)(rn:sl.length<=1000)
 {vk vh tk ti th xk xi xh xm:Int} {vn tn xn:Z Nat} {va ta xl:Z G} {xb xg:Bool}  (hk:k=4) {sz:Nat} (cd:sz=90)   
 (hT:aw k T C (dP [(0,.ptr 0 0 0),(4,.ptr 4 0 0),(5,.ptr 5 0 0),(7,.ptr 6 0 0),(60,.sl (vs.map cY) false),(61,.int .i64 (vs.length:Int)),(62,.int .i64 ((0:Nat):Int))]) { H:=dP (fD sl tr g++[(4,.arr 5 0 [[.int .i64 vk,.str vn,.int .i64 (i:Int),.int .i64 vh,.sl (va.map aA) false]] true false false),(5,.arr 5 0 [[.int .i64 tk,.str tn,.int .i64 ti,.int .i64 th,.sl (ta.map aA) false]] true false false),(6,.arr 8 0 [[.bool xb,.int .i64 xk,.str xn,.int .i64 xi,.int .i64 xh,.sl (xl.map aA) false,.int .i64 xm,.bool xg]] true false false)]),n:=8,log:=[] })
 (hQ:∀ (dv:Z Slot) (nR:Z Change) (cN:MG) (ex:Z Change),nR=tr++ex->cN=g.add ex.length->dv.length=sl.length->ex.length<=vs.length->(⟨dv,nR⟩:ao)=vs.foldl (ao.ML xm) ⟨sl,tr⟩->Q (.exit 1) (dP [(0,.ptr 0 0 0),(4,.ptr 4 0 0),(5,.ptr 5 0 0)]) { H:=dP (fD dv nR cN++[(4,.arr 5 0 [[.int .i64 vk,.str vn,.int .i64 (i:Int),.int .i64 vh,.sl (va.map aA) false]] true false false),(5,.arr 5 0 [[.int .i64 tk,.str tn,.int .i64 ti,.int .i64 th,.sl (ta.map aA) false]] true false false),(6,.arr 8 0 [[.bool xb,.int .i64 xk,.str xn,.int .i64 xi,.int .i64 xh,.sl (xl.map aA) false,.int .i64 xm,.bool xg]] true false false)]),n:=8,log:=[] }) :
 Ls I E k sz (.loop pJ) T C Q:=by
 subst hk cd;let⟨ga,gb,gn,cX⟩:=g
 refine rA hρ U aq vs.length (nn:=8) (λj (_:Z Slot×Z Change×MG)=>[(0,.ptr 0 0 0),(4,.ptr 4 0 0),(5,.ptr 5 0 0),(7,.ptr 6 0 0),(60,.sl (vs.map cY) false),(61,.int .i64 (vs.length:Int)),(62,.int .i64 (j:Int))])
  (λj st=>fD st.1 st.2.1 st.2.2++[(4,.arr 5 0 [[.int .i64 vk,.str vn,.int .i64 (i:Int),.int .i64 vh,.sl (va.map aA) false]] true false false),(5,.arr 5 0 [[.int .i64 tk,.str tn,.int .i64 ti,.int .i64 th,.sl (ta.map aA) false]] true false false),(6,.arr 8 0 [[.bool xb,.int .i64 xk,.str xn,.int .i64 xi,.int .i64 xh,.sl (xl.map aA) false,.int .i64 xm,.bool xg]] true false false)]) (λj st=>∃ ex,st.2.1=tr++ex/\st.2.2=MG.add ⟨ga,gb,gn,cX⟩ ex.length/\st.1.length=sl.length/\ex.length<=j/\(vs.drop j).foldl (ao.ML xm) ⟨st.1,st.2.1⟩=vs.foldl (ao.ML xm) ⟨sl,tr⟩) (sl,tr,⟨ga,gb,gn,cX⟩) hT
  ⟨[],by simp,by simp,rfl,aZ _,by simp⟩ ?_ ?_
 rintro ⟨dv,nR,cN⟩ ⟨ex,e1,e2,jx,A4,vQ⟩ K;simp only at e1 e2 jx vQ;rw[bz]at vQ;have cM:=hQ dv nR cN ex e1 e2 jx A4 vQ;clear e1 vQ hQ;let⟨Ga,Gb,Gn,cX⟩:=cN;simp[cX,pJ,U,fD];exact bM.mk (aw.auto (by simp[fD]) (by simp[fD]) (by simp[fD]) (by simp[fD]<;>(intro x W;first|omega|exact⟨.inl W,by omega⟩))) cM;rintro j ⟨dv,nR,cN⟩ hj ⟨ex,e1,e2,jx,A4,vQ⟩ K hK;simp only at e1 e2 jx vQ;have gO:(j:Int)<vs.length:=by omega
 have hw:=bG (i:=j);rw[aG hj,ky]at vQ;obtain⟨v,hv⟩:∃ v,vs[j]=v:=⟨_,rfl⟩;rw[hv]at vQ;have hU:=Uv dv nR (fU v);have sf:nR.length<=tr.length+j:=by rw[e1,aR];omega
 by_cases pB:ao.sU ⟨dv,nR⟩ (fU v)=true;have zt4:=pB;unfold ao.sU ao.uG at zt4;rw[aW,aW]at zt4;let⟨m,hm⟩:=bQ.1 zt4.1.2;let⟨q,we,hq,nj⟩:=ao.gj hm;have hq:v=(q:Int):=hq;subst hq;have zc:q<dv.length:=we;rw[if_pos pB]at hU;rw[show ao.ML xm ⟨dv,nR⟩ (q:Int)=_ from by unfold ao.ML;rw[if_pos pB]]at vQ;have OR:ao.iH ⟨dv,nR⟩ (fU (q:Int)).id=m:=by rw[show (fU (q:Int)).id=(q:Int) from rfl,ao.pq (s:=⟨dv,nR⟩) we,nj]
 rw[OR]at hU;rw[show ao.iH ⟨dv,nR⟩ (q:Int)=m from OR]at vQ;let⟨Cr,t3,t4⟩:=(ao.xW ⟨dv,nR⟩ (q:Int) { m with home:=min m.home xm }).b9;have Lu:=(ao.xW ⟨dv,nR⟩ (q:Int) { m with home:=min m.home xm }).len;obtain⟨S2,hS2⟩:∃ S2,ao.xG ⟨dv,nR⟩ (q:Int) { m with home:=min m.home xm }=S2:=⟨_,rfl⟩;rw[hS2]at t3 Lu vQ;let⟨cV,cC⟩:=S2;simp only at t3 Lu;subst t3;have hF:=ZL zc (by omega) (by omega) hS2;have aE:=hK (cV,nR++Cr,cN.add Cr.length) ⟨ex++Cr,by simp[e1],by simp only;rw[e2,MG.add_add,aR],by simp only;omega,by rw[aR];omega,vQ⟩;clear vQ hK hS2 zt4 OR nj hm;let⟨mb,⟨mk,mn,mi,mh,ml⟩,mm,mg⟩:=m;have IH:(if xm<mm then xm else mm)=min mm xm:=by split<;>omega
 simp[fU]at hU;simp at hF;generalize min mm xm=mz at IH hF;let⟨Ga,Gb,Gn,cX⟩:=cN;obtain⟨cC,xN⟩:∃ cC,nR++Cr=cC:=⟨_,rfl⟩;rw[xN]at aE;simp[cX,xN,pJ,U,fD,hj,gO,hv,hV,Tj,hU,Dd,hF,IH,hw,aK,fU,-Int.natCast_add];exact aE _ _ (aw.auto (by simp[fD,-Int.natCast_add]) (by simp[fD]) (by simp[fD]) (by simp[fD]<;>(intro x W;first|omega|exact⟨.inl W,by omega⟩)));rw[if_neg pB]at hU;rw[show ao.ML xm ⟨dv,nR⟩ v=_ from by unfold ao.ML;rw[if_neg pB]]at vQ;have aE:=hK (dv,nR,cN) ⟨ex,e1,e2,jx,by omega,vQ⟩;clear vQ hK;simp[fU,Et]at hU;let⟨Ga,Gb,Gn,cX⟩:=cN;simp[cX,pJ,U,fD,hj,gO,hv,hV,Tj,hU,hw,aK,fU,-Int.natCast_add];exact aE _ _ (aw.auto (by simp[fD,-Int.natCast_add]) (by simp[fD]) (by simp[fD]) (by simp[fD]<;>(intro x W;first|omega|exact⟨.inl W,by omega⟩)))
end
def XL:Valid I Pg 40 (dC (cz λt:G=>some (isArrow t))):=v1 (fo Tryz.func40 Ir.2) λa r h C=>by
 cases h;exact Ns hρ (E:=EL []) rfl (aj aH) C
end
section
variable (hρ:J.Good I)
include hρ
section
variable {E:Env}(U:E.P=Pg)(aq:bK I E)
include U aq
def Zx  (hW:E.dA 281=FF 1 Ma) (hC:E.dA 75=G6) (hA:E.dA 40=dC (cz λt:G=>some (isArrow t))) (hH:E.dA 282=fu (Cl (Yp d))) (hV:E.dA 162=dC (cz λi:Int=>some (fU i)))
 (Tj:E.dA 273=zr (GN Ji)) (Dd:E.dA 279=fu (GN PX)) (hG:E.dA 280=fu (GN LA))    {v t:G}  (hi:v.id=(i:Int)) (cF:i<sl.length) (iv:(⟨sl,tr⟩:ao).mF) (wc:t.ok=true) (zBV:yw ⟨sl,tr⟩ [t])
 (hhi:(ao.gC ⟨sl,[]⟩ (ao.iH ⟨sl,tr⟩ (i:Int)).home d t []).isSome=true) (zFZ:tr.length+(qX ⟨sl,tr⟩ [t]).length<=4990) (rn:sl.length<=1000)    (h:ao.vT ⟨sl,tr⟩ (i:Int) t=(⟨Ic,tr++v7⟩,e)) :
 Wp I E (4) 90 tK.1 (((PT.leaf.set 0 (.ptr 0 0 0)).set 1 (enc v)).set 2 (enc t)) { H:=dP (fD sl tr g),n:=4,log:=[] } (J.Leaves E.P Tryz.f275 (aJ (4) (.int .i64 e) (fD Ic (tr++v7) (g.add v7.length)))):=by
 have hdi:i*8 / 8=i:=by omega
 have VG:i*8 % 8=0:=by omega
 have u1:ao.iH ⟨sl,tr⟩ (i:Int)=sl[i]:=ao.pq (s:=⟨sl,tr⟩) cF;obtain⟨x,W⟩:∃ x,sl[i]=x:=⟨_,rfl⟩;rw[W]at u1;rw[u1]at hhi;let⟨⟨b,sn⟩,hq⟩:=bQ.1 hhi;have hF:=zfR iv.2 wc hq;have hB:ao.zit ⟨sl,tr⟩ x.home t=b:=by have:=ao.zpl (s:=⟨sl,tr⟩) (f:=d) (q:=(b,sn)) (by rw[<- hq];exact(ao.Tw.gC (s:=⟨sl,tr⟩) (p:=⟨sl,[]⟩) ⟨rfl,by simp⟩ x.home d t []).symm);exact this
 unfold ao.vT at h;rw[u1,hB]at h;obtain⟨vs,fy⟩:∃ vs,qX ⟨sl,tr⟩ [t]=vs:=⟨_,rfl⟩;obtain⟨ar,j7⟩:∃ ar,isArrow t=ar:=⟨_,rfl⟩;rw[fy]at h zFZ;rw[j7]at h;have hlen:vs.length<=1000000:=by omega
 let⟨aa,ab,ac⟩:=ar;simp only at h
 have h0:∀ {n:Int},((⟨sl,tr⟩:ao),n)=(⟨Ic,tr++v7⟩,e)->(n,Ic,v7)=(e,sl,([]:Z Change)):=by
  intro n hh;let⟨M,O⟩:=cO hh;let⟨h3,h4⟩:=ao.mk.inj M;have h5:v7=[]:=by simpa using h4
  rw[O,h3,h5]
 let⟨vk,vn,vi,vh,va⟩:=v;let⟨tk,tn,ti,th,ta⟩:=t;let⟨xb,⟨xk,xn,xi,xh,xl⟩,xm,xg⟩:=x;simp only[G.wP]at hi;subst hi;simp only at h hF;have zAY:∀ (k:IntKind) (n:Int),(V.int k n).Jj=true:=λ_ _=>rfl;let⟨ga,gb,gn,cX⟩:=g;by_cases c1:(i:Int)∈vs;rw[if_pos c1]at h;cases h0 h;simp[cX,U,zAY,fD,hdi,VG,cF,W,hW,zBV,hC,hA,j7,fy,hlen,c1,G6];exact aJ.fC rfl rfl rfl (by simp<;>exact jy);rw[if_neg c1]at h;by_cases c2:xg=true/\ac=true;rw[if_pos c2]at h;cases h0 h;obtain⟨rfl,rfl⟩:=c2;simp[cX,U,zAY,fD,hdi,VG,cF,W,hW,zBV,hC,hA,j7,fy,hlen,c1,G6];exact aJ.fC rfl rfl rfl (by simp<;>exact jy);rw[if_neg c2]at h
 cases b with
 | true =>
   rw[if_pos rfl]at h;cases h0 h
   cases xg with
   | false =>simp[cX,U,zAY,fD,hdi,VG,cF,W,hW,zBV,hC,hA,j7,fy,hlen,c1,G6,hH,hF,aK];exact aJ.fC rfl rfl rfl (by simp<;>exact jy)
   | true =>
     cases ac with
     |true=>exact absurd ⟨rfl,rfl⟩ c2
     | false =>simp[cX,U,zAY,fD,hdi,VG,cF,W,hW,zBV,hC,hA,j7,fy,hlen,c1,G6,hH,hF,aK];exact aJ.fC rfl rfl rfl (by simp<;>exact jy)
 | false =>
   rw[if_neg (by simp)]at h;have M:(vs.foldl (ao.ML xm) ⟨sl,tr⟩).vR (i:Int) (.mk tk tn ti th ta)=⟨Ic,tr++v7⟩:=(cO h).1;have O:e=0:=(cO h).2.symm;subst O;obtain⟨Gz,N1⟩:∃ Gz,tr++v7=Gz:=⟨_,rfl⟩;obtain⟨G3,Ks⟩:∃ G3,MG.add ⟨ga,gb,gn,cX⟩ v7.length=G3:=⟨_,rfl⟩;rw[N1,Ks]
   cases xg with
   | false =>
     simp[cX,U,zAY,fD,hdi,VG,cF,W,hW,zBV,hC,hA,j7,fy,hlen,c1,G6,hH,hF,aK];refine H9 hρ U aq (g:=⟨ga,gb,gn,cX⟩) (vk:=vk) (vn:=vn) (vh:=vh) (va:=va) (tk:=tk) (tn:=tn) (ti:=ti) (th:=th) (ta:=ta) (xb:=xb) (xk:=xk) (xn:=xn) (xi:=xi) (xh:=xh) (xl:=xl) (xm:=xm) (xg:=false) hV Tj Dd cF (by omega) rn rfl rfl (aw.auto (by simp[fD]) (by simp[fD]) (by simp[fD]) (by simp[fD]<;>(intro x W;first|omega|exact⟨.inl W,by omega⟩))) λdv nR cN Tm e1 e2 jx A4 vQ=>?_;let⟨Cr,t3,t4⟩:=(ao.Al ⟨dv,nR⟩ (i:Int) (.mk tk tn ti th ta)).b9;have O:=M;rw[<- vQ]at O;rw[O]at t3;simp only at t3;have e3:v7=Tm++Cr:=(by rw[e1,fA]at t3;exact oo t3);have eG:G3=cN.add Cr.length:=(by rw[<- Ks,e2,MG.add_add,e3,aR]);rw[t3]at N1 O;have OA:=VK (by rw[jx];exact cF) (by rw[e1,aR];omega) (by rw[jx];exact rn) O;subst N1 eG;simp at OA;let⟨Ga,Gb,Gn,cX⟩:=cN;obtain⟨cC,xN⟩:∃ cC,nR++Cr=cC:=⟨_,rfl⟩;simp[cX,xN,U,fD,hG,OA,aK];exact aJ.fC rfl rfl rfl (by simp<;>exact jy)
   | true =>
     cases ac with
     |true=>exact absurd ⟨rfl,rfl⟩ c2
     | false =>
       simp[cX,U,zAY,fD,hdi,VG,cF,W,hW,zBV,hC,hA,j7,fy,hlen,c1,G6,hH,hF,aK];refine H9 hρ U aq (g:=⟨ga,gb,gn,cX⟩) (vk:=vk) (vn:=vn) (vh:=vh) (va:=va) (tk:=tk) (tn:=tn) (ti:=ti) (th:=th) (ta:=ta) (xb:=xb) (xk:=xk) (xn:=xn) (xi:=xi) (xh:=xh) (xl:=xl) (xm:=xm) (xg:=true) hV Tj Dd cF (by omega) rn rfl rfl (aw.auto (by simp[fD]) (by simp[fD]) (by simp[fD]) (by simp[fD]<;>(intro x W;first|omega|exact⟨.inl W,by omega⟩))) λdv nR cN Tm e1 e2 jx A4 vQ=>?_;let⟨Cr,t3,t4⟩:=(ao.Al ⟨dv,nR⟩ (i:Int) (.mk tk tn ti th ta)).b9;have O:=M;rw[<- vQ]at O;rw[O]at t3;simp only at t3;have e3:v7=Tm++Cr:=(by rw[e1,fA]at t3;exact oo t3);have eG:G3=cN.add Cr.length:=(by rw[<- Ks,e2,MG.add_add,e3,aR]);rw[t3]at N1 O;have OA:=VK (by rw[jx];exact cF) (by rw[e1,aR];omega) (by rw[jx];exact rn) O;subst N1 eG;simp at OA;let⟨Ga,Gb,Gn,cX⟩:=cN;obtain⟨cC,xN⟩:∃ cC,nR++Cr=cC:=⟨_,rfl⟩;simp[cX,xN,U,fD,hG,OA,aK];exact aJ.fC rfl rfl rfl (by simp<;>exact jy)
end
def zxb(d:Nat):Valid I Pg 275 (fu (GN (WC d))):=by
 refine Valid.sym (fo Tryz.func275 tK.2) λvs C D h=>?_;obtain⟨args,sl,tr,g,r,cW,ex,ds,a,b,c,e,hF,rfl,_,hr,hg,b4⟩:=Kt h;obtain⟨v,t,i,rfl,M,O,h3,h4,h5,h6,h7,h8,hq⟩:=zl3 hF;cases hq;have VI:(EL [(281,FF 1 Ma),(75,G6),(40,dC (cz λt:G=>some (isArrow t))),(282,fu (Cl (Yp d))),(162,dC (cz λi:Int=>some (fU i))),(273,zr (GN Ji)),(279,fu (GN PX)),(280,fu (GN LA))]).P=Pg:=rfl
 have cR:∀ ρ',J.Good ρ'->bK ρ' (EL [(281,FF 1 Ma),(75,G6),(40,dC (cz λt:G=>some (isArrow t))),(282,fu (Cl (Yp d))),(162,dC (cz λi:Int=>some (fU i))),(273,zr (GN Ji)),(279,fu (GN PX)),(280,fu (GN LA))]):=λρ' fI =>
  aj (ae (zr6 fI) (ae (XM fI) (ae (XL fI) (ae (zse d fI).1 (ae (zvC fI) (ae (zmT fI) (ae (zmU fI) (ae (zmV fI) aH))))))))
 exact sy hρ Tryz.func275 tK.2 rfl hg (λρ' fI=>⟨_,VI,cR ρ' fI,Zx fI VI (cR ρ' fI) rfl rfl rfl rfl rfl rfl rfl rfl M O h3 h4 h5 h6 h7 h8 (uf (ao.FZ ⟨sl,tr⟩ i t).eq rfl)⟩) b4
end
end Go.Proofs.YtfloillkpbhhhaaGreat
