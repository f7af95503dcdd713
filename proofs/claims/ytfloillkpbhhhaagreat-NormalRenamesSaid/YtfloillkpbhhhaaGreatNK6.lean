import Derived.Test.YtfloillkpbhhhaaGreatNK5
import Derived.Test.YtfloillkpbhhhaaGreatJK12
import Derived.Test.YtfloillkpbhhhaaGreatJK10
import Derived.Test.YtfloillkpbhhhaaGreatNK4
import Derived.Test.YtfloillkpbhhhaaGreatJK11
import Derived.Test.YtfloillkpbhhhaaGreatJK13
import Derived.Test.YtfloillkpbhhhaaGreatNK1
set_option linter.all false
noncomputable section
namespace Go.Proofs.YtfloillkpbhhhaaGreat
open Go.J
open Go.J.bo (enc)
set_option maxRecDepth 100000
set_option maxHeartbeats 4000000
variable {c0:Bool}{r:Bool×CS}{s':CS}{dd:Decl}{F:Entry->Y Bool}{E:Env}{Q:Ex->PT V->HS->Prop}{g t:G}{zEu:G->Xp->CS->Y (Bool×CS)}{C:HS}{v:Int}{s:MS}{a b d f i k m n n':Nat}{P:Nat->Nat->Prop}{c:Scheme}{α:Type}{e:Xp}{N T:Z (Z Nat)}{D:Z Decl}{l:Z Entry}{tl:Z G}{b6:Z Int}{x:Z Nat}{ks:Z Xp}
abbrev GY(d f m:Nat):J.Spec:=fu (Xa (Fp d f m))
abbrev zAj(d f m:Nat):J.Spec:=fu (Xa (Sf d f m))
section
variable {I:Nat->Value}(hρ:J.Good I)
include hρ
def zbQ  (zLG:∀ I,J.Good I->Valid I Pg 60 (GY d f m)) (zPZ:∀ I,J.Good I->Valid I Pg 128 (zAj d f m)):Valid I Pg 60 (GY d f (m+1)):=by
 refine Valid.sym (fo Tryz.func60 lF.2) λvs C D h=>?_;obtain⟨args,n,Ds,s,s',l,l',rv,ds,b,c,dd,e0,hF,hz,zt3,Co,rfl,_,zBW,hg,b4⟩:=KI h;obtain⟨ctx,g,e,r,rfl,hR,hq⟩:=VB hF;cases hq
 have cR:∀ ρ',J.Good ρ'->bK ρ' (EL [(125,fu (DC 0 (jG d f))),(127,Fe),(126,Fw),(128,zAj d f m),(118,dC (cz Fb)),(129,Mx),(81,fu (Xa (Ij d f))),(60,GY d f m)]):=λρ' fI =>
  aj (ae (Rh fI d f) (ae (zm0 fI) (ae (zm6 fI) (ae (zPZ ρ' fI) (ae (zmY fI) (ae (zxk fI) (ae (zsi fI d f) (ae (zLG ρ' fI) aH))))))))
 refine sy hρ Tryz.func60 lF.2 rfl hg (λρ' fI=>⟨_,rfl,cR ρ' fI,?_⟩) b4;have cR:=cR ρ' fI;have GP:=mZ hR;clear h hF zt3 b4 hg;rw[gZ]at hR;split at hR;rename_i hp;have zQc:=hp;obtain⟨hD,zGf,Nm,hax,Wk,rn⟩:=hp;have tG:Fb e=some ((dE e).1,(dE e).2):=if_pos Nm;have S7:MB Ds ctx (dE e).1=some (ED Ds ctx (dE e).1):=if_pos ⟨hD,by omega⟩;split at hR;rename_i hk;split at hR;cases hR;rename_i k0 ks rp;simp only[aC]at hR;obtain⟨⟨qv,s1⟩,M,hR⟩:=hR;simp only at hR;split at hR;simp only[aC]at hR;obtain⟨x,W,y,hy,hR⟩:=hR;obtain rfl:=bo.bB _ _ W;obtain rfl:=bo.bB _ _ hy;exact zk3 fI rfl cR rfl rfl rfl rfl rfl rfl rfl rfl Co hz hk zGf rp M (Kw hR) (mZ hR);cases hR;rename_i av bv;obtain⟨x,y,_,e0⟩:∃ (x y:G) (r:Bool),(V.tuple [av,bv,.bool false])=.tuple [enc x,enc y,.bool r]:=by obtain⟨x,w,_,hw,hl,hh⟩:=A8 M;rcases hh with⟨_,hq⟩|⟨_,a0,b0,a1,b1,a2,b2,a3,b3,dv,cV,Ic,nR,cC,Gz,v,u,r,_,_,_,_,hq⟩<;>exact⟨_,_,_,congrArg Prod.fst hq⟩
 cases e0;exact zfM fI rfl cR rfl rfl rfl rfl rfl rfl rfl rfl Co hz hk M;cases hR;split at hR;rename_i An v9;exact zk4 fI rfl cR rfl rfl rfl rfl rfl rfl rfl rfl Co hz v9 (zvb zQc hR) GP;rename_i An v9;obtain⟨sc,uv⟩:∃ sc,(ED Ds ctx (dE e).1).1=sc:=⟨_,rfl⟩;rw[uv]at hR;split at hR;rename_i zfV;have zFU:MB Ds ctx (dE e).1=some (sc,true):=by rw[S7];exact congrArg some (uf uv zfV)
 simp only[aC]at hR;obtain⟨⟨hv,s1,l1⟩,M,hR⟩:=hR;simp only at hR;split at hR;rename_i lv is;simp only[aC]at hR;obtain⟨acc,hacc,hR⟩:=hR;obtain rfl:=bo.bB _ _ hacc;split at hR;cases hR;rename_i hlen;obtain⟨hg1,hg2,hg3⟩:=MU M;obtain⟨t1,zPX,rfl⟩:=cK hg2
 cases is with
 | false =>
   have hr:r=(false,s1,t1::zPX):=by
    cases W:(dE e).2 with
    |nil=>rw[W,AB]at hR;exact(bT hR).symm
    |cons x xs=>rw[W,uM]at hR;exact(bT hR).symm
   subst hr;exact zdb fI rfl cR rfl rfl rfl rfl rfl rfl rfl rfl Co hz An v9 tG rn zFU M hg1
 | true =>obtain⟨a1,b1,e1⟩:=hg3 _ rfl;cases s1;cases e1;have NX:=Hy (λg x s q h=>mZ h) hR;obtain⟨a2,b2,e2⟩:=NX.1 _ _ rfl;obtain⟨t2,l3,e3⟩:=cK (NX.2 (by simp));obtain⟨r,⟨z2,cV,cC⟩,l2⟩:=r;cases e2;cases e3;exact zfN fI rfl cR rfl rfl rfl rfl rfl rfl rfl rfl Co hz An v9 tG rn (aY λhh=>hlen ⟨rfl,hh⟩) zFU M hR
 cases hR;rename_i zfV;cases hR;exact zaF fI rfl cR rfl rfl rfl rfl rfl rfl rfl rfl Co hz An v9 tG (by rw[S7];exact congrArg some (uf uv (Bool.eq_false_iff.2 zfV)));cases hR
def zKx  (zLG:∀ I,J.Good I->Valid I Pg 60 (GY d f m)):Valid I Pg 128 (zAj d f m):=by
 refine Valid.sym (fo Tryz.func128 jM.2) λvs C D h=>?_;obtain⟨args,n,Ds,s,s',l,l',rv,ds,b,c,dd,e0,hF,hz,zt3,Co,rfl,_,zBW,hg,b4⟩:=KI h;obtain⟨ctx,g,e,r,rfl,hp,hR,hq⟩:=zqI hF;cases hq
 have cR:∀ ρ',J.Good ρ'->bK ρ' (EL [(202,JA),(196,J6),(166,fu (DC 0 (Bw d f))),(203,fu (Xa (yZ d f))),(204,EE),(120,rD),(127,Fe),(126,Fw),(60,GY d f m)]):=λρ' fI =>
  aj (ae (zvI fI) (ae (zvL fI) (ae (zhr fI d f) (ae (zeG fI d f) (ae (zsf fI) (ae (Zq fI) (ae (zm0 fI) (ae (zm6 fI) (ae (zLG ρ' fI) aH)))))))))
 refine sy hρ Tryz.func128 jM.2 rfl hg (λρ' fI=>⟨_,rfl,cR ρ' fI,?_⟩) b4;have cR:=cR ρ' fI;clear h hF zt3 b4 hg;obtain⟨hD,zGf,Nm,hax,Wk,rn⟩:=hp;have ew:ctx.length<=100000:=by omega
 unfold QW at hR;split at hR;cases hR;rename_i k0 ks rp;have j7:zd6 Ds e.b8=some (Cs Ds e.b8):=if_pos hD;obtain⟨sc,fd,te⟩:∃ sc fd,uD ctx k0.name=(sc,fd):=⟨_,_,rfl⟩;obtain⟨ki,kb,lR⟩:∃ ki kb,Cs Ds e.b8=(ki,kb):=⟨_,_,rfl⟩;rw[lR]at j7 hR;rw[te]at hR;simp only at hR;split at hR;rename_i js;cases hR;exact zAh fI rfl cR rfl rfl rfl rfl rfl rfl rfl rfl rfl Co hz rp ew te j7 js;rename_i zyR;have uv:fd=true:=by cases fd with|true=>rfl|false=>exact absurd (.inl rfl) zyR
 have Tb:kb=true:=by cases kb with|true=>rfl|false=>exact absurd (.inr (.inl rfl)) zyR
 have tf:sc.count=0:=aY λhh=>zyR (.inr (.inr hh));simp only[aC]at hR;obtain⟨⟨qv,s1⟩,M,hR⟩:=hR;obtain⟨be,a1,b1,dv,nR,e1⟩:=KP M;obtain⟨rfl,rfl⟩:=cO e1
 cases be with
 | false =>cases hR;exact zqH fI rfl cR rfl rfl rfl rfl rfl rfl rfl rfl rfl Co hz rp ew te j7 uv Tb tf M
 | true =>
   simp only[aC]at hR;obtain⟨⟨av,s2,l2⟩,O,hR⟩:=hR;simp only at hR;split at hR;rename_i av is;simp only[aC]at hR;obtain⟨aa,zQv,hR⟩:=hR;obtain rfl:=bo.bB _ _ zQv;obtain⟨t,i,hi,a0,b0,a2,b2,cV,cC,e,_,_,_,sR,_,_,_,_,hq⟩:=Hz O;obtain⟨we,nj⟩:=cO hq;obtain⟨rfl,rfl⟩:=cO nj;have s4:aa.length<=100000:=(by have pr:(enc aa:V)=enc (dJ dv.length Ds[i].params.length):=(by have:=V.tuple.inj we;exact(List.cons.inj this).1);have:aa=dJ dv.length Ds[i].params.length:=(by have e1:=congrArg (λv=>(bo.dec v:Y (Z G))) pr;simp only[bo.dD]at e1;exact bT e1);rw[this,Bj];omega);obtain⟨t2,l3,e3⟩:∃ t2 l3,l++[t]=t2::l3:=cK (by simp);rw[e3]at hR O;have NX:=Hw (λc g x s q h=>mZ h) hR;obtain⟨a3,b3,e2⟩:=NX.1 _ _ rfl;obtain⟨t3,l4,e4⟩:=cK (NX.2 (by simp));obtain⟨r,⟨z3,Ic,Gz⟩,l5⟩:=r;cases e2;cases e4;exact zAi fI rfl cR rfl rfl rfl rfl rfl rfl rfl rfl rfl Co hz rp ew te j7 uv Tb tf hD zGf hax Wk s4 M O hR;cases hR
theorem zbP:Valid I Pg 60 (GY d f 0):=by
 refine Valid.sym (fo Tryz.func60 lF.2) λvs C D h=>?_;obtain⟨args,n,Ds,s,s',l,l',rv,ds,b,c,dd,e0,hF,hz,zt3,Co,rfl,_,zBW,hg,b4⟩:=KI h;obtain⟨ctx,g,e,r,rfl,hR,hq⟩:=VB hF;cases hR
end
def Zp(d f:Nat):∀ (m:Nat) {I:Nat->Value},J.Good I->Valid I Pg 60 (GY d f m)
 | 0,_,hρ=>zbP hρ
 |m+1,_,hρ=>zbQ hρ (λ_ h=>Zp d f m h) (λ_ h=>zKx h λ_ h=>Zp d f m h)
def Hq(d:Nat)(t:G)(b:Bool):Y Bool:=if t.size<=d/\t.ok=true then some (!t.closed b)else none
def AD(d:Nat)(t:G)(b:Bool):Y Bool:=if t.size<=d/\t.ok=true then some (t.closed b)else none
section
variable {I:Nat->Value}(hρ:J.Good I)
include hρ
def zKw(hv:Valid I Pg 103 (dC (cB (AD d)))):Valid I Pg 187 (Qb 5 none (CB (Hq d))):=Valid.rd (fo Tryz.func187 ET.2) λX cs r h hp x X0 RL hX C q hq hc eV W=>by
 obtain⟨a,p,b,rfl,rfl,hF,rfl⟩:=Jn h;obtain⟨⟨g1,g2⟩,rfl⟩:=bF hF;have VI:(EL [(103,dC (cB (AD d)))]).P=Pg:=rfl;have cR:bK I (EL [(103,dC (cB (AD d)))]):=aj (ae hv aH);have ua:(EL [(103,dC (cB (AD d)))]).dA 103=dC (cB (AD d)):=rfl;have ew:AD d a p=some (a.closed p):=if_pos ⟨g1,g2⟩;generalize a.closed p=w at ew hp ⊢;rcases W with⟨rfl,rfl,Bk,wa⟩|⟨es,i,rfl,cg,rfl,rfl,h5,h6,h7⟩;rcases hX with⟨rfl,_,_⟩|⟨es,e1,_⟩;refine UN (sz:=5) (g:=none) (RL:=[]) (cs:=[[.bool p]]) hρ cR follows named Tryz.func187 ET.2 rfl hp ?_ hq hc eV (.inl ⟨rfl,rfl,Bk,wa⟩);rw[show Tryz.f187.ntmps=8 from rfl];simp[VI,ua,ew];exact aJ.bw;cases e1;rcases hX with⟨e1,e2,_⟩|⟨Hb,e1,_⟩;rw[jA cg]at e2;cases e2;cases e1
end
def zkY(d:Nat)(l:Z G)(c0:Bool):Y Int:=if l.length<=100000/\∀ x∈l,((Hq d) x c0).isSome=true then some (gY (λx=>((Hq d) x c0).getD false) l 0)else none
def Ym(d:Nat)(l:Z G)(c0:Bool):Y Bool:=if l.length<=100000/\∀ x∈l,((Hq d) x c0).isSome=true then some (l.any λx=>((Hq d) x c0).getD false)else none
section
variable {I:Nat->Value}(hρ:J.Good I)
include hρ
section
variable (U:E.P=Pg)(aq:bK I E)
include U aq
def tQ(hc:E.dA 187=Qb 5 none (CB (Hq d))){l:Z G}(hl:l.length<=100000)(b7:∀ x∈l,((Hq d) x c0).isSome=true)  {r:Int}(hr:gY (λx=>((Hq d) x c0).getD false) l 0=r) :
 Wp I E 1 Tryz.f205.ntmps bL.1 ((PT.leaf.set 0 (.sl (l.map aA) false)).set 1 (.func 187 [.ptr 0 0 0])) { H:=dP [(0,box ([.bool c0]))],n:=1,log:=[] } (J.Leaves E.P Tryz.f205 (aJ 1 (enc r) [(0,box ([.bool c0]))])):=by
 rw[show Tryz.f205.ntmps=19 from rfl];simp[U]
 refine rA hρ U aq l.length (nn:=1) (λi (_:Unit)=>[(0,.sl (l.map aA) false),(1,.func 187 [.ptr 0 0 0]),(7,.int .i64 (l.length:Int)),(8,.int .i64 (i:Int))])
  (λi _=>[(0,box ([.bool c0]))]) (λi _=>gY (λx=>((Hq d) x c0).getD false) (l.drop i) (i:Int)=r) ()
  (aw.auto) (by simpa using hr) ?_ ?_
 intro _ h K;rw[bz,gY]at h;simp[bD,U];refine bM.mk (aw.auto (TL:=[]) (HL:=[(0,box ([.bool c0]))]) (n:=1)) ?_;simp[U,<- h];exact aJ.bw;intro i _ hi h K hK;have cm:(i:Int)<l.length:=by omega
 have cr:=bG (i:=i);have Aj:(i*5) / 5=i:=by omega
 let⟨q,hq⟩:=bQ.1 (b7 l[i] (ax hi));rw[aG hi,gY,hq]at h;simp only[eD]at h
 cases q with
 | true =>rw[if_pos rfl]at h;simp[bD,U,hi,cm,Aj,hc,hq];refine bM.mk (aw.auto (TL:=[(4,.int .i64 (i:Int))]) (HL:=[(0,box ([.bool c0]))]) (n:=1)) ?_;simp[U,<- h];exact aJ.bw
 | false =>
   rw[if_neg (by decide)]at h;have aE:=hK () h;simp[bD,U,hi,cm,Aj,hc,hq,cr,-Int.natCast_add];exact aE _ _ (aw.auto)
def tL(hc:E.dA 187=Qb 5 none (CB (Hq d))){l:Z G}(hl:l.length<=100000)(b7:∀ x∈l,((Hq d) x c0).isSome=true)(cg:l≠[]){r:Int}(hr:gY (λx=>((Hq d) x c0).getD false) l 0=r) :
 Wp I E 2 Tryz.f205.ntmps bL.1 ((PT.leaf.set 0 (.own 1 (l.length-1) 0 l.length none)).set 1 (.func 187 [.ptr 0 0 0])) { H:=dP [(0,box ([.bool c0])),(1,.arr 5 (l.length-1) (l.map aA) false false true)],n:=2,log:=[] } (J.Leaves E.P Tryz.f205 (aJ 2 (enc r) [(0,box ([.bool c0])),(1,.arr 5 (l.length-1) (l.map aA) false false true)])):=by
 rw[show Tryz.f205.ntmps=19 from rfl];have py:0<l.length:=bR.2 cg;simp[U]
 refine rA hρ U aq l.length (nn:=2) (λi (_:Unit)=>[(0,.own 1 (l.length-1) 0 l.length none),(1,.func 187 [.ptr 0 0 0]),(7,.int .i64 (l.length:Int)),(8,.int .i64 (i:Int))])
  (λi _=>[(0,box ([.bool c0])),(1,.arr 5 (l.length-1) (l.map aA) false false true)]) (λi _=>gY (λx=>((Hq d) x c0).getD false) (l.drop i) (i:Int)=r) ()
  (aw.auto) (by simpa using hr) ?_ ?_
 intro _ h K;rw[bz,gY]at h;simp[bD,U];refine bM.mk (aw.auto (TL:=[]) (HL:=[(0,box ([.bool c0])),(1,.arr 5 (l.length-1) (l.map aA) false false true)]) (n:=2)) ?_;simp[U,<- h];exact aJ.bw;intro i _ hi h K hK;have cm:(i:Int)<l.length:=by omega
 have cr:=bG (i:=i);have Aj:(i*5) / 5=i:=by omega
 have Nl:(i*5) % 5=0:=by omega
 let⟨q,hq⟩:=bQ.1 (b7 l[i] (ax hi));rw[aG hi,gY,hq]at h;simp only[eD]at h
 cases q with
 | true =>rw[if_pos rfl]at h;simp[bD,U,hi,cm,Aj,Nl,hc,hq];refine bM.mk (aw.auto (TL:=[(4,.int .i64 (i:Int))]) (HL:=[(0,box ([.bool c0])),(1,.arr 5 (l.length-1) (l.map aA) false false true)]) (n:=2)) ?_;simp[U,<- h];exact aJ.bw
 | false =>
   rw[if_neg (by decide)]at h;have aE:=hK () h;simp[bD,U,hi,cm,Aj,Nl,hc,hq,cr,-Int.natCast_add];exact aE _ _ (aw.auto)
def tO :
 Wp I E 1 Tryz.f205.ntmps bL.1 ((PT.leaf.set 0 .a8).set 1 (.func 187 [.ptr 0 0 0])) { H:=dP [(0,box ([.bool c0]))],n:=1,log:=[] } (J.Leaves E.P Tryz.f205 (aJ 1 (enc (-1:Int)) [(0,box ([.bool c0]))])):=by
 rw[show Tryz.f205.ntmps=19 from rfl];simp[U]
 refine rA hρ U aq 0 (nn:=1) (λi (_:Unit)=>[(7,.int .i64 0),(8,.int .i64 0)]) (λi _=>[(0,box ([.bool c0]))]) (λi _=>True) ()
  (aw.auto) trivial ?_ ?_
 intro _ h K;simp[bD,U];refine bM.mk (aw.auto (TL:=[]) (HL:=[(0,box ([.bool c0]))]) (n:=1)) ?_;simp[U];exact aJ.bw;omega
end
def uU  (hv:Valid I Pg 103 (dC (cB (AD d)))):Valid I Pg 205 (Qb 5 (some 187) (CB (zkY d))):=Valid.rd (fo Tryz.func205 bL.2) λX cs r h hp x X0 RL hX C q hq hc eV W=>by
 obtain⟨l,c0,b,rfl,rfl,hF,rfl⟩:=Jn h;obtain⟨⟨M,O⟩,rfl⟩:=bF hF;have VI:(EL [(187,Qb 5 none (CB (Hq d)))]).P=Pg:=rfl;have cR:bK I (EL [(187,Qb 5 none (CB (Hq d)))]):=aj (ae (zKw hρ hv) aH);have cM:=λ(k:V) (RL:Z (Nat×J.Obj)) (T:PT V) (he) (hw) (W)=>UN (sz:=5) (g:=some 187) (X0:=k) (RL:=RL) (T:=T) (cs:=[[.bool c0]]) (x:=x) (C:=C) (q:=q) hρ cR follows named Tryz.func205 bL.2 he hp hw hq hc eV W;rcases W with⟨rfl,rfl,Bk,wa⟩|⟨es,i,rfl,cg,rfl,rfl,h5,h6,h7⟩;rcases hX with⟨rfl,_,_⟩|⟨es,e1,e2,e3,_⟩;exact cM _ [] _ rfl (tQ hρ VI cR rfl M O rfl) (.inl ⟨rfl,rfl,Bk,wa⟩)
 cases es with
 | nil =>have e0:l=[]:=(by have e4:l.map aA=[]:=(by injection e1);exact kU.1 e4);subst e0;have e5:X0=V.a8:=e2;subst e5;exact cM _ [] _ rfl (tO hρ VI cR) (.inl ⟨rfl,rfl,Bk,wa⟩)
 |cons e es=>rw[xu]at e3;cases e3
 have hne2:∃ e l,es=e::l:=cK cg;rcases hX with⟨e1,e2,_⟩|⟨Hb,e1,e2,e3,_⟩;rw[jA cg]at e2;cases e2
 have e4:es=l.map aA:=by
  have e6:l.map aA=Hb:=by injection e1
  rw[jA cg]at e3
  cases Hb with
  |nil=>cases e3
  | cons y m =>rw[jA (by simp)]at e3;have e7:(J.oO 5 es)=J.oO 5 (y::m):=(by injection e3 with e8;injection e8);have e9:es=y::m:=(by unfold oO at e7;injection e7);rw[e9,<- e6]
 have oB:l≠[]:=λe=>cg (by rw[e4,e];rfl);have hV:∀ i,oV i (l.map aA)=.own i (l.length-1) 0 l.length none:=λi=>by rw[uA (by rw[<- e4];exact cg)];simp
 have hO:oH 1 5 (l.map aA)=[(1,.arr 5 (l.length-1) (l.map aA) false false true)]:=by rw[jA (by rw[<- e4];exact cg)];simp[J.oO]
 have hw:=tL hρ VI cR rfl M O oB rfl;refine cM (oV 1 es) (oH 1 5 es) _ rfl ?_ (.inr ⟨es,i,rfl,cg,rfl,rfl,h5,h6,h7⟩);subst e4;rw[hV];show Wp I _ ((1)+(oH 1 5 (l.map aA)).length) _ _ _ { H:=dP ([(0,box ([.bool c0]))]++oH 1 5 (l.map aA)),n:=1+(oH 1 5 (l.map aA)).length,log:=[] } (J.Leaves _ _ (aJ (1+(oH 1 5 (l.map aA)).length) _ ([(0,box ([.bool c0]))]++oH 1 5 (l.map aA))));rw[hO];exact hw
def sj  (hv:Valid I Pg 103 (dC (cB (AD d)))):Valid I Pg 130 (Qb 5 (some 187) (CB (Ym d))):=Valid.rd (fo Tryz.func130 bY.2) λX cs r h hp x X0 RL hX C q hq hc eV W=>by
 obtain⟨l,c0,b,rfl,rfl,hF,rfl⟩:=Jn h;obtain⟨⟨M,O⟩,rfl⟩:=bF hF;have VI:(EL [(205,Qb 5 (some 187) (CB (zkY d)))]).P=Pg:=rfl;have cR:bK I (EL [(205,Qb 5 (some 187) (CB (zkY d)))]):=aj (ae (uU hρ hv) aH);have HJ:zkY d l c0=some (gY (λx=>((Hq d) x c0).getD false) l 0):=if_pos ⟨M,O⟩;have rK:=AZ (λx=>((Hq d) x c0).getD false) l 0 (fM _);generalize gY (λx=>((Hq d) x c0).getD false) l 0=ix at HJ rK;rw[<- rK]at hp ⊢;have aq:(EL [(205,Qb 5 (some 187) (CB (zkY d)))]).dA 205=Qb 5 (some 187) (CB (zkY d)):=rfl;have cM:=λ(k:V) (RL:Z (Nat×J.Obj)) (T:PT V) (he) (hw) (W)=>UN (sz:=5) (g:=some 187) (X0:=k) (RL:=RL) (T:=T) (cs:=[[.bool c0]]) (x:=x) (C:=C) (q:=q) hρ cR follows named Tryz.func130 bY.2 he hp hw hq hc eV W;rcases W with⟨rfl,rfl,Bk,wa⟩|⟨es,i,rfl,cg,rfl,rfl,h5,h6,h7⟩;rcases hX with⟨rfl,_,_⟩|⟨es,e1,e2,e3,_⟩;refine cM _ [] _ rfl ?_ (.inl ⟨rfl,rfl,Bk,wa⟩);rw[show Tryz.f130.ntmps=9 from rfl];simp[VI,aq,HJ];exact aJ.bw
 cases es with
 | nil =>have e0:l=[]:=(by have e4:l.map aA=[]:=(by injection e1);exact kU.1 e4);subst e0;have e5:X0=V.a8:=e2;subst e5;refine cM _ [] _ rfl ?_ (.inl ⟨rfl,rfl,Bk,wa⟩);rw[show Tryz.f130.ntmps=9 from rfl];simp[VI,aq,HJ];exact aJ.bw
 |cons e es=>rw[xu]at e3;cases e3
 rcases hX with⟨e1,e2,_⟩|⟨Hb,e1,e2,e3,_⟩;rw[jA cg]at e2;cases e2
 have e4:es=l.map aA:=by
  have e6:l.map aA=Hb:=by injection e1
  rw[jA cg]at e3
  cases Hb with
  |nil=>cases e3
  | cons y m =>rw[jA (by simp)]at e3;have e7:(J.oO 5 es)=J.oO 5 (y::m):=(by injection e3 with e8;injection e8);have e9:es=y::m:=(by unfold oO at e7;injection e7);rw[e9,<- e6]
 obtain⟨y,m,rfl⟩:=cK (λe=>cg (by rw[e4,e];rfl):l≠[]);refine cM (oV 1 es) (oH 1 5 es) _ rfl ?_ (.inr ⟨es,i,rfl,cg,rfl,rfl,h5,h6,h7⟩);subst e4;rw[show Tryz.f130.ntmps=9 from rfl];simp[VI,aq,HJ];exact aJ.bw
end
theorem zo1{l:Z G}{b:Bool}(hl:l.length<=100000)(C:G.bj l<=d)(ho:∀ t∈l,t.ok=true):Ym d l b=some (!G.Bb b l):=by
 have hm:∀ x∈l,Hq d x b=some (!x.closed b):=λx W=>if_pos ⟨aO (G.FL W) C,ho x W⟩;unfold Ym;rw[if_pos ⟨hl,λx W=>by rw[hm x W];rfl⟩,G.JZ];grind
section
variable {I:Nat->Value}(hρ:J.Good I)
include hρ
theorem N9(U:E.P=Pg)(aq:bK I E)(hC:E.dA 130=Qb 5 (some 187) (CB (Ym d))){b:Bool}(ht:t.size<=d+1)(eC:t.ok=true)(C:HS) :
 aS I Pg 103 [enc t,enc b] C (enc (t.closed b)) C:=by
 refine fn hρ U aq Tryz.func103 Ck.2 rfl (by simp) ?_ C;have cd:=G.size_eq t;have hlen:=G.yJ eC;have eg:=(G.qH.1 eC).2;let⟨tk,tn,ti,th,tl⟩:=t;simp only[G.iT]at hlen cd eg;have hF:Ym d tl b=some (!G.Bb b tl):=zo1 (by omega) (by omega) eg;rw[G.closed];generalize G.Bb b tl=w at hF;by_cases k4:tk=4;simp_all;by_cases k3:tk=3;simp_all;by_cases k2:tk=2;subst k2;cases b<;>cases w<;>simp[U,hC,hF]
 cases b<;>simp[U,k2,k3,k4]
def zbO(d:Nat):Valid I Pg 103 (dC (cB (AD d))):=by
 induction d with
 | zero =>refine v2 (fo Tryz.func103 Ck.2) λa b r h C=>?_;obtain⟨⟨M,O⟩,rfl⟩:=bF h;have:=G.size_pos a;omega
 | succ d ih =>
   refine v2 (fo Tryz.func103 Ck.2) λa b r h C=>?_;obtain⟨⟨M,O⟩,rfl⟩:=bF h;exact N9 hρ (E:=EL [(130,Qb 5 (some 187) (CB (Ym d)))]) rfl (aj (ae (sj hρ ih) aH)) rfl M O C
end
mutual
theorem Wy:∀ (t:G) (b:Z Int),t.En=some b->b.length<=t.size
 | .mk k n i h l=>λb hb=>by
   rw[G.En]at hb;rw[G.size_eq,G.iT];split at hb;cases hb;simp;split at hb;cases hb;have:=Y7 l [] b hb;simp at this;omega
theorem Y7:∀ (l:Z G) (o b:Z Int),G.xY l o=some b->b.length<=o.length+G.bj l
 | []=>λo b hb=>by rw[G.xY]at hb;cases hb;simp
 | t :: l=>λo b hb=>by
   rw[G.xY]at hb;rw[G.bj]
   cases ht:t.En with
   |none=>rw[ht]at hb;cases hb
   | some c =>
     rw[ht]at hb;have M:=Wy t c ht;have O:=Y7 l (pR o c) b hb;have h3:=zbS o c;omega
end
def QQ(o:Y (Z Int)):Z Int×Bool:=match o with
 |some b=>(b,true)
 |none=>([],false)
def Z2(d:Nat)(t:G):Y (Z Int×Bool):=if t.size<=d/\t.ok=true/\d<=10000 then some (QQ t.En)else none
def tok(t:G):Bool:=decide (t.size<=10000)&&t.ok&&t.short
def TH:tok t=true↔t.size<=10000/\t.ok=true/\t.short=true:=by simp[tok,and_assoc]
section
variable {I:Nat->Value}(hρ:J.Good I)
include hρ
section
variable (U:E.P=Pg)(aq:bK I E)
include U aq
def FN (hC:E.dA 75=G6)   {b O0:Z Int} (hb:b.length<=10000) (hO0:O0.length<=10000) {T:PT V}  
 (h0:aw 0 T C (dP [(4,oV 0 (O0.map cY)),(21,.sl (tl.map aA) false),(22,.int .i64 (tl.length:Int)),(23,.int .i64 (i:Int)),(34,.sl (b.map cY) false),(35,.int .i64 (b.length:Int)),(36,.int .i64 ((0:Nat):Int))]) { H:=dP (oH 0 1 (O0.map cY)),n:=1,log:=[] })
 (hQ:Q (.exit 3) (dP [(4,oV 0 ((pR O0 b).map cY)),(21,.sl (tl.map aA) false),(22,.int .i64 (tl.length:Int)),(23,.int .i64 (i:Int))]) { H:=dP (oH 0 1 ((pR O0 b).map cY)),n:=1,log:=[] }) :
 Ls I E 0 51 (.loop oI) T C Q:=by
 refine rA hρ U aq b.length (nn:=1) (λj (db:Z Int)=>[(4,oV 0 (db.map cY)),(21,.sl (tl.map aA) false),(22,.int .i64 (tl.length:Int)),(23,.int .i64 (i:Int)),(34,.sl (b.map cY) false),(35,.int .i64 (b.length:Int)),(36,.int .i64 (j:Int))]) (λj db=>oH 0 1 (db.map cY))
  (λj db=>pR db (b.drop j)=pR O0 b/\db.length<=10000+j) O0 h0 ⟨by simp,by omega⟩ ?_ ?_
 . intro db hO K;have Oy:=hO.1;rw[bz,pR]at Oy;rw[<- Oy]at hQ;rcases db with _|⟨x,db⟩<;>simp[oI,U]
   all_goals exact bM.mk (aw.auto) hQ
 intro j db hj hO K hK;have gO:(j:Int)<b.length:=by omega
 have cr:=bG (i:=j);let⟨Oy,hO2⟩:=hO;rw[aG hj,pR]at Oy;by_cases hm:b[j]∈db;rw[if_pos hm]at Oy;have aE:=hK db ⟨Oy,by omega⟩;have k1:db.length<=1000000:=by omega
 rcases db with _|⟨x,db⟩;cases hm;have k2:db.length+1<=1000000:=by simpa using k1
 simp[oI,U,hj,gO,hC,G6,hm,k2,cr,-Int.natCast_add,-List.mem_cons];exact aE _ _ (aw.auto);rw[if_neg hm]at Oy;have aE:=hK (db++[b[j]]) ⟨Oy,by simp;omega⟩;have k1:db.length<=1000000:=by omega
 rcases db with _|⟨x,db⟩;simp[oI,U,hj,gO,hC,G6,cr,-Int.natCast_add];exact aE _ _ (aw.auto);have k2:db.length+1<=1000000:=by simpa using k1
 have k3:(db.length+1+1)*8<=1048576:=aO (aQ 8 (show db.length+1+1<=20002 by simp at hO2;omega)) (by decide);simp[oI,U,hj,gO,hC,G6,hm,k2,k3,cr,bf,-Int.natCast_add,-List.mem_cons];exact aE _ _ (aw.auto)
def NH  (hc:E.dA 188=dC (cz (Z2 d))) (hC:E.dA 75=G6) (ld:d+1<=10000)  (ht:t.ok=true) (hd:t.size<=d+1) (C:HS):aS I Pg 188 [enc t] C (enc (QQ t.En)) C:=by
 refine fn hρ U aq Tryz.func188 rZ.2 rfl (by simp) ?_ C;have hlen:=G.yJ ht;have cd:=G.size_eq t;have eg:=(G.qH.1 ht).2;let⟨tk,tn,ti,th,tl⟩:=t;simp only[G.iT]at hlen cd eg;have rn:G.bj tl<=d:=by omega
 clear cd hd;rw[G.En];by_cases k2:tk=2;subst k2;simp[U,QQ];by_cases k5:tk=5;subst k5;simp[U,QQ];rw[if_neg k2,if_neg k5];generalize hR:G.xY tl []=R;simp[U,k2,k5]
 refine rA hρ U aq tl.length (nn:=1) (λi (db:Z Int)=>[(4,oV 0 (db.map cY)),(21,.sl (tl.map aA) false),(22,.int .i64 (tl.length:Int)),(23,.int .i64 (i:Int))]) (λi db=>oH 0 1 (db.map cY))
  (λi db=>G.xY (tl.drop i) db=R/\db.length+G.bj (tl.drop i)<=d) []
  (aw.auto) ⟨by simpa using hR,by simpa using rn⟩ ?_ ?_
 intro db hO K;have Oy:=hO.1;rw[bz,G.xY]at Oy;subst Oy;rcases db with _|⟨x,db⟩<;>simp[rH,U]
 refine bM.mk (aw.auto (TL:=[(4,.a8)]) (HL:=[]) (n:=1)) ?_;simp[U,QQ];refine bM.mk (aw.auto (TL:=[(4,oV 0 ((x::db).map cY))]) (HL:=oH 0 1 ((x::db).map cY)) (n:=1)) ?_;simp[U,QQ]
 . intro i db hi hO K hK;have cm:(i:Int)<tl.length:=(by omega);have cr:=bG (i:=i);let⟨Oy,hO2⟩:=hO;rw[aG hi,G.xY]at Oy;rw[aG hi,G.bj]at hO2;have se:=eg _ (ax hi);obtain⟨x,W⟩:∃ x,tl[i]=x:=⟨_,rfl⟩;rw[W]at Oy hO2 se;have hF:Z2 d x=some (QQ x.En):=if_pos ⟨by omega,se,by omega⟩;have pH:=Wy x;generalize x.En=q at hF Oy pH;have hol:db.length<=10000:=(by omega);generalize x.size=z at hO2 pH;cases x
   cases q with
   | none =>
     rw[show QQ none=([],false) from rfl]at hF;have Oy:none=R:=Oy;subst Oy;rcases db with _|⟨y,db⟩<;>simp[rH,U,hi,cm,W,hc,hF]
     all_goals
      refine bM.mk (aw.auto (TL:=[(2,.a8),(3,.bool false)]) (HL:=[]) (n:=1)) ?_;simp[U,QQ]
   | some b =>
     rw[show QQ (some b)=(b,true) from rfl]at hF;have Oy:G.xY (tl.drop (i+1)) (pR db b)=R:=Oy;have pH:=pH b rfl;have hul:=zbS db b;have aE:=hK (pR db b) ⟨Oy,by omega⟩;rcases db with _|⟨y,db⟩
     . simp[rH,U,hi,cm,W,hc,hF];refine FN hρ U aq hC (tl:=tl) (i:=i) (b:=b) (O0:=[]) (by omega) hol (aw.auto) ?_;generalize pR [] b=yaf at aE;rcases yaf with _|⟨u,yaf⟩<;>simp[U,cr,-Int.natCast_add]
       all_goals exact aE _ _ (aw.auto)
     . simp[rH,U,hi,cm,W,hc,hF];refine FN hρ U aq hC (tl:=tl) (i:=i) (b:=b) (O0:=y::db) (by omega) hol (aw.auto) ?_;generalize pR (y::db) b=yaf at aE;rcases yaf with _|⟨u,yaf⟩<;>simp[U,cr,-Int.natCast_add]
       all_goals exact aE _ _ (aw.auto)
def PY (hc:E.dA 188=dC (cz (Z2 10000))) (hV:E.dA 102=oM 10000)  (ht:tok c.type=true) (C:HS):aS I Pg 106 [enc c] C (enc (kW c)) C:=by
 refine fn hρ U aq Tryz.func106 Ee.2 rfl (by simp) ?_ C;let⟨M,O,h3⟩:=TH.1 ht;rw[<- zcj,ZN];let⟨n,t⟩:=c;simp only[]at M O h3 ⊢;have hF:Z2 10000 t=some (QQ t.En):=if_pos ⟨M,O,af _⟩;have pH:=Wy t;generalize t.En=q at hF pH;generalize hv:t.valid=v;cases t
 cases q with
 | none =>rw[show QQ none=([],false) from rfl]at hF;simp[U,hc,hF]
 | some b =>
   rw[show QQ (some b)=(b,true) from rfl]at hF;have pH:=pH b rfl;have pH:b.length<=10000:=by omega
   cases v with
   |false=>simp[U,hc,hF,hV,oM,M,h3,hv]
   | true =>
     by_cases hn:(b.length:Int)=n
     case neg=>simp[U,hc,hF,hV,oM,M,h3,hv,hn]
     subst hn;simp only[decide_true,gG];generalize hr:Ow b 0=r;simp[U,hc,hF,hV,oM,M,h3,hv]
     refine rA hρ U aq b.length (nn:=0) (λi (_:Unit)=>[(28,.sl (b.map cY) false),(29,.int .i64 (b.length:Int)),(30,.int .i64 (i:Int))]) (λ_ _=>[]) (λi _=>Ow (b.drop i) (i:Int)=r) ()
      (aw.auto) (by simpa using hr) ?_ ?_
     intro _ h K;rw[bz,Ow]at h;simp[zq,U];refine bM.mk (aw.auto (TL:=[]) (HL:=[]) (n:=0)) ?_;simp[U,<- h];intro i _ hi h K hK;have cm:(i:Int)<b.length:=(by omega);have cr:=bG (i:=i);rw[aG hi,Ow]at h;by_cases he:b[i]=(i:Int);rw[he,decide_eq_true rfl,gG]at h;have aE:=hK () h;simp[zq,U,hi,cm,he,cr,-Int.natCast_add];exact aE _ _ (aw.auto);have At:¬ (i:Int)=b[i]:=λe=>he e.symm;rw[decide_eq_false he,sK]at h;simp[zq,U,hi,cm,At];refine bM.mk (aw.auto (TL:=[(2,.bool false)]) (HL:=[]) (n:=0)) ?_;simp[U,<- h]
end
def zsj(d:Nat)(hd:d<=10000):Valid I Pg 188 (dC (cz (Z2 d))):=by
 induction d with
 | zero =>refine v1 (fo Tryz.func188 rZ.2) λa r h C=>?_;obtain⟨⟨M,O,h3⟩,rfl⟩:=bF h;have:=G.size_pos a;omega
 | succ d ih =>
   refine v1 (fo Tryz.func188 rZ.2) λa r h C=>?_;obtain⟨⟨M,O,h3⟩,rfl⟩:=bF h;exact NH hρ (E:=EL [(188,dC (cz (Z2 d))),(75,G6)]) rfl (aj (ae (ih (by omega)) (ae (XM hρ) aH))) rfl rfl h3 O M C
def zsG:J.Spec:=dC (cz λc:Scheme=>if tok c.type=true then some (kW c)else none)
def zr7:Valid I Pg 106 zsG:=v1 (fo Tryz.func106 Ee.2) λa r h C=>by
 obtain⟨M,rfl⟩:=bF h;exact PY hρ (E:=EL [(188,dC (cz (Z2 10000))),(102,oM 10000)]) rfl (aj (ae (zsj hρ 10000 (by omega)) (ae (TG hρ 10000 (by omega)) aH))) rfl rfl M C
end
def ZS(e:Entry):Y Bool:=if tok e.scheme.type=true then some (!(kW e.scheme&&e.scheme.type.closed true&&decide (e.scheme.type.size<=200)))else none
def zkW(g:Nat)(F:Entry->Y Bool)(vs:Z V):Y V:=match vs with
 | [a,.func g' []]=>gd (Nat.beq g' g) (ob (bo.dec a:Y (Z Entry)) λl=>if l.length<=100000/\∀ x∈l,(F x).isSome=true then some (enc (gY (λx=>(F x).getD false) l 0))else none)
 |_=>none
def zlD(g:Nat)(F:Entry->Y Bool)(vs:Z V):Y V:=match vs with
 | [a,.func g' []]=>gd (Nat.beq g' g) (ob (bo.dec a:Y (Z Entry)) λl=>if l.length<=100000/\∀ x∈l,(F x).isSome=true then some (enc (l.any λx=>(F x).getD false))else none)
 |_=>none
section
variable {I:Nat->Value}(hρ:J.Good I)
include hρ
section
variable (U:E.P=Pg)(aq:bK I E)
include U aq
def ztL(hc:E.dA 105=dC (cz F))(hl:l.length<=100000)(b7:∀ x∈l,(F x).isSome=true)(C:HS) :
 aS I Pg 169 [enc l,.func 105 []] C (enc (gY (λx=>(F x).getD false) l 0)) C:=by
 refine fn hρ U aq Tryz.func169 jD.2 rfl (by simp) ?_ C;generalize hr:gY (λx=>(F x).getD false) l 0=r;simp[U]
 refine rA hρ U aq l.length (nn:=0) (λi (_:Unit)=>[(0,.sl (l.map dV) false),(1,.func 105 []),(7,.int .i64 (l.length:Int)),(8,.int .i64 (i:Int))]) (λi _=>[]) (λi _=>gY (λx=>(F x).getD false) (l.drop i) (i:Int)=r) ()
  (aw.auto) (by simpa using hr) ?_ ?_
 intro _ h K;rw[bz,gY]at h;simp[ja,U];refine bM.mk (aw.auto (TL:=[]) (HL:=[]) (n:=0)) ?_;simp[U,<- h];intro i _ hi h K hK;have cm:(i:Int)<l.length:=by omega
 have cr:=bG (i:=i);have Aj:(i*7) / 7=i:=by omega
 let⟨q,hq⟩:=bQ.1 (b7 l[i] (ax hi));rw[aG hi,gY,hq]at h;simp only[eD]at h
 cases q with
 | true =>rw[if_pos rfl]at h;simp[ja,U,hi,cm,Aj,hc,hq];refine bM.mk (aw.auto (TL:=[(4,.int .i64 (i:Int))]) (HL:=[]) (n:=0)) ?_;simp[U,<- h]
 | false =>
   rw[if_neg (by decide)]at h;have aE:=hK () h;simp[ja,U,hi,cm,Aj,hc,hq,cr,-Int.natCast_add];exact aE _ _ (aw.auto)
theorem zuE(hc:E.dA 169=dC (zkW 105 F))(hl:l.length<=100000)(b7:∀ x∈l,(F x).isSome=true)(C:HS) :
 aS I Pg 85 [enc l,.func 105 []] C (enc (l.any λx=>(F x).getD false)) C:=by
 refine fn hρ U aq Tryz.func85 lK.2 rfl (by simp) ?_ C;have rK:=AZ (λx=>(F x).getD false) l 0 (fM _);have hv:zkW 105 F [enc l,.func 105 []]=some (enc (gY (λx=>(F x).getD false) l 0)):=by unfold zkW;simp_all
 simp_all
end
def zKm(hv:Valid I Pg 105 (dC (cz F))):Valid I Pg 169 (dC (zkW 105 F)):=Valid.dC (fo Tryz.func169 jD.2) λvs v h C=>by
 unfold zkW at h;split at h;simp only[bI,J.beq_true,aC]at h;obtain⟨rfl,l,hl,h⟩:=h;obtain⟨⟨M,O⟩,rfl⟩:=bF h;rw[bo.bB _ _ hl];exact ztL hρ (E:=EL [(105,dC (cz F))]) rfl (aj (ae hv aH)) rfl M O C;cases h
def zKu(hv:Valid I Pg 105 (dC (cz F))):Valid I Pg 85 (dC (zlD 105 F)):=Valid.dC (fo Tryz.func85 lK.2) λvs v h C=>by
 unfold zlD at h;split at h;simp only[bI,J.beq_true,aC]at h;obtain⟨rfl,l,hl,h⟩:=h;obtain⟨⟨M,O⟩,rfl⟩:=bF h;rw[bo.bB _ _ hl];exact zuE hρ (E:=EL [(169,dC (zkW 105 F))]) rfl (aj (ae (zKm hρ hv) aH)) rfl M O C;cases h
end
def Ek(l:Z Entry)(g:G):Bool:=decide (l.length<=100000)&&tok g&&l.all λe=>tok e.scheme.type
def zbV:Ek l g=true↔l.length<=100000/\tok g=true/\∀ e∈l,tok e.scheme.type=true:=by simp[Ek,and_assoc]
theorem zu7(h:∀ e∈l,tok e.scheme.type=true):(l.any λe=>(ZS e).getD false)=!(l.all λe=>kW e.scheme&&e.scheme.type.closed true&&decide (e.scheme.type.size<=200)):=by
 induction l with
 |nil=>rfl
 | cons a l ih =>
   have e1:ZS a=some (!(kW a.scheme&&a.scheme.type.closed true&&decide (a.scheme.type.size<=200))):=if_pos (h a aB);simp_all
def OQ:J.Spec:=dC (cB λ(l:Z Entry) (g:G)=>if Ek l g=true then some (EM l g)else none)
section
variable {I:Nat->Value}(hρ:J.Good I)
include hρ
section
variable (U:E.P=Pg)(aq:bK I E)
include U aq
def KW(hS:E.dA 106=zsG)(hC:E.dA 103=dC (cB (AD 10000)))(hN:E.dA 104=dC (cz (xJ 10000))){e:Entry}(ht:tok e.scheme.type=true)(C:HS) :
 aS I Pg 105 [enc e] C (enc (!(kW e.scheme&&e.scheme.type.closed true&&decide (e.scheme.type.size<=200)))) C:=by
 refine fn hρ U aq Tryz.func105 EU.2 rfl (by simp) ?_ C;let⟨M,O,h3⟩:=TH.1 ht;let⟨nm,c,t⟩:=e;simp only[]at M O h3 ht ⊢;have my:AD 10000 t true=some (t.closed true):=if_pos ⟨M,O⟩;have oy:xJ 10000 t=some (t.size:Int):=if_pos ⟨O,M,by omega⟩;generalize hsv:kW ⟨c,t⟩=v;generalize t.closed true=w at my;have hz:(200<(t.size:Int))=¬ t.size<=200:=by simp;omega
 generalize hq:t.size=z at oy hz;cases t;cases v<;>cases w<;>by_cases zzj:z<=200<;>simp[U,hS,zsG,ht,hsv,hC,my,hN,oy,hz,zzj]
def Oc(hV:E.dA 102=oM 10000)(hC:E.dA 103=dC (cB (AD 10000)))(hN:E.dA 104=dC (cz (xJ 10000)))(hX:E.dA 85=dC (zlD 105 ZS))
   (ht:Ek l g=true) (C:HS):aS I Pg 56 [enc l,enc g] C (enc (EM l g)) C:=by
 refine fn hρ U aq Tryz.func56 Iw.2 rfl (by simp) ?_ C;let⟨hl,hg,b7⟩:=zbV.1 ht;let⟨M,O,h3⟩:=TH.1 hg;have my:AD 10000 g false=some (g.closed false):=if_pos ⟨M,O⟩;have oy:xJ 10000 g=some (g.size:Int):=if_pos ⟨O,M,by omega⟩;have lz:zlD 105 ZS [enc l,.func 105 []]=some (enc (!(l.all λe=>kW e.scheme&&e.scheme.type.closed true&&decide (e.scheme.type.size<=200)))):=by unfold zlD;show gd (Nat.beq _ _) (ob (bo.dec (enc l)) _)=_;rw[bo.dD,J.beq_true.2 rfl];show (if _ then _ else _)=_;rw[if_pos ⟨hl,λx W=>by unfold ZS;rw[if_pos (b7 x W)];rfl⟩,zu7 b7]
 unfold EM;generalize (l.all λe=>kW e.scheme&&e.scheme.type.closed true&&decide (e.scheme.type.size<=200))=A at lz;have hz:(200<(g.size:Int))=¬ g.size<=200:=by simp;omega
 generalize hv:g.valid=v;generalize g.closed false=w at my;simp at lz;cases v<;>cases w<;>by_cases zzj:g.size<=200<;>cases A<;>simp[U,hV,oM,M,h3,hv,hC,my,hN,oy,hz,zzj,hX,lz]
end
def zjo:Valid I Pg 105 (dC (cz ZS)):=v1 (fo Tryz.func105 EU.2) λa r h C=>by
 obtain⟨M,rfl⟩:=bF h;exact KW hρ (E:=EL [(106,zsG),(103,dC (cB (AD 10000))),(104,dC (cz (xJ 10000)))]) rfl (aj (ae (zr7 hρ) (ae (zbO hρ 10000) (ae (Zn hρ 10000) aH)))) rfl rfl rfl M C
def zsg:Valid I Pg 56 OQ:=v2 (fo Tryz.func56 Iw.2) λa b r h C=>by
 obtain⟨M,rfl⟩:=bF h
 exact Oc hρ (E:=EL [(102,oM 10000),(103,dC (cB (AD 10000))),(104,dC (cz (xJ 10000))),(85,dC (zlD 105 ZS))]) rfl
  (aj (ae (TG hρ 10000 (by omega)) (ae (zbO hρ 10000) (ae (Zn hρ 10000) (ae (zKu hρ (zjo hρ)) aH))))) rfl rfl rfl rfl M C
end
def RI  :∀ {n:Nat} {ctx:Z Entry} {g:G} {e:Xp} {s:CS} {q:CS},gZ d f D n ctx g e s=some (true,q)->(∃ a b,q.1.z=some (a,b))/\q.2≠[]
 | 0,ctx,g,e,s,q,h=>by cases h
 | n + 1, ctx, g,e,s,q,h=>by
   rw[gZ]at h;split at h;split at h;split at h;cases h;simp only[aC]at h;let⟨p,hp,h⟩:=h;split at h;simp only[aC]at h;let⟨a,_,b,_,h⟩:=h;exact RI h;cases h;cases h;split at h;unfold QW at h;split at h;cases h;split at h;cases h;simp only[aC]at h;let⟨p,hp,h⟩:=h;split at h;simp only[aC]at h;let⟨r,qS,h⟩:=h;split at h;simp only[aC]at h;let⟨args,_,h⟩:=h;let⟨_,⟨a2,b2,e2⟩,cg⟩:=LP qS;have hg:=Hw (λc g x s q h=>mZ h) h;exact⟨hg.1 _ _ e2,hg.2 cg⟩;cases h;cases h;cases h;split at h;simp only[aC]at h;let⟨r,qS,h⟩:=h;split at h;rename_i lv is zBW;simp only[aC]at h;let⟨l,_,h⟩:=h;split at h;cases h;let⟨_,cg,h3⟩:=MU qS;have hg:=Hy (λg x s q h=>mZ h) h
   cases is with
   | false =>
     exfalso
     cases W:(dE e).2 with
     |nil=>rw[W,AB]at h;cases h
     |cons x xs=>rw[W,uM]at h;cases h
   | true =>let⟨a2,b2,e2⟩:=h3 _ zBW;exact⟨hg.1 _ _ e2,hg.2 cg⟩
   cases h;cases h;cases h
def zuq(r:Bool×CS):Int:=if r.1=true/\(r.2.2.any (AA r.2.1.sl r.2.1.tr))=false then 0 else 21
structure SE(d f m:Nat)(D:List Decl)(ctx:List Entry)(g:G)(e:Xp)(r:Bool×CS):Prop where
 pD:Gu D
 pc:ctx.length<=600
 pt:Ek ctx g=true
 zPI:EM ctx g=true
 pd:e.depth<=50
 pw:Wf D e
 pf:e.fit 1000
 ps:iL e=true
 ph:Cz 50 (ctx.map (·.name)) e=true->gZ d f D m ctx g e (⟨none,[],[]⟩,[])=some r
 pz:r.1=true->(⟨r.2.1.sl,r.2.1.tr⟩:ao).mF/\(∀ u∈r.2.2,u.ok=true)/\r.2.2.length<=20000
def Hr(ctx:Z Entry)(e:Xp)(r:Bool×CS):Int:=if Cz 50 (ctx.map (·.name)) e=true then zuq r else 9
section
variable {I:Nat->Value}(hρ:J.Good I)
include hρ
section
variable (U:E.P=Pg)(aq:bK I E)
include U aq
theorem zlQ  (W9:E.dA 56=OQ) (zQy:E.dA 57=dC (cz (W8 100))) (zQz:E.dA 58=ZK) (zJi:E.dA 59=dC (Fh 50)) (zJn:E.dA 60=GY d f m) (zJh:E.dA 61=fu (Xa Mm))  {ctx:Z Entry}    (hp:SE d f m D ctx g e r) (C:HS) :
 aS I Pg 26 [enc D,enc ctx,enc g,enc e] C (.int .i64 (Hr ctx e r)) C:=by
 refine fn hρ U aq Tryz.func26 Eh.2 rfl (by simp) ?_ C;let⟨hD,ew,gE,zMg,Nm,hwf,b4,oT,hho,hsm⟩:=hp;have D1:W8 100 e=some true:=if_pos ⟨by omega,hwf.vl⟩;have w6:=XY (d:=50) (cI:=ctx.map (·.name)) hD (by rw[aN];omega) Nm hwf;have fL:(ctx.map (·.name)).length=ctx.length:=aN ..;have zpr:=λh=>Kw (hho h);have GP:Cz 50 (ctx.map (·.name)) e=true->r.1=true->(∃ a b,r.2.1.z=some (a,b))/\r.2.2≠[]:=λM O=>by have:=hho M;let⟨rb,rs⟩:=r;simp only at O;subst O;exact RI this
 clear hho hwf;unfold Hr;obtain⟨sb,hsb⟩:∃ sb,Cz 50 (ctx.map (·.name)) e=sb:=⟨_,rfl⟩;rw[hsb]at w6 zpr GP ⊢;obtain⟨Hc,M1⟩:∃ Hc,(if sb=true then zuq r else (9:Int))=Hc:=⟨_,rfl⟩;rw[M1];let⟨gk,gn,gi,gh,gl⟩:=g;let⟨ek,ep,en,em,cS,cq,⟨m8,mL,m9,nq,m7⟩⟩:=e;simp[U,bq,W9,OQ,gE,zMg,zQy,D1,zQz,ZK,b4,oT];refine rA hρ U aq ctx.length (nn:=3) (λi (_:Unit)=>[(0,.sl (D.map aT) false),(1,.sl (ctx.map dV) false),(6,.ptr 0 0 0),(7,.ptr 1 0 0),(9,oV 2 (((ctx.map (·.name)).take i).map b5)),(28,.sl (ctx.map dV) false),(29,.int .i64 (ctx.length:Int)),(30,.int .i64 (i:Int))]) (λi _=>[(0,.arr 5 0 [[.int .i64 gk,.str gn,.int .i64 gi,.int .i64 gh,.sl (gl.map aA) false]] true false false),(1,.arr 11 0 [[.int .i64 ek,.int .i64 ep,.str en,.int .i64 em,.sl (cS.map bP) false,.sl (cq.map dW) false,.int .i64 m8,.str mL,.int .i64 m9,.int .i64 nq,.sl (m7.map aA) false]] true false false)]++oH 2 1 (((ctx.map (·.name)).take i).map b5)) (λi _=>True) () (aw.auto) trivial ?_ ?_;intro _ _ K;have sx:(ctx.map (·.name)).take ctx.length=ctx.map (·.name):=aP (by simp);rw[sx];generalize ctx.map (·.name)=NM at w6 hsb
 cases NM with
 | nil =>
   simp[tq,U];refine bM.mk (aw.auto (TL:=[(0,.sl (D.map aT) false),(1,.sl (ctx.map dV) false),(6,.ptr 0 0 0),(7,.ptr 1 0 0),(9,.a8)]) (HL:=[(0,.arr 5 0 [[.int .i64 gk,.str gn,.int .i64 gi,.int .i64 gh,.sl (gl.map aA) false]] true false false),(1,.arr 11 0 [[.int .i64 ek,.int .i64 ep,.str en,.int .i64 em,.sl (cS.map bP) false,.sl (cq.map dW) false,.int .i64 m8,.str mL,.int .i64 m9,.int .i64 nq,.sl (m7.map aA) false]] true false false)]) (n:=3)) ?_;simp[bq]at w6
   cases sb with
   | false =>obtain rfl:Hc=9:=(by rw[<- M1];rfl);simp_all
   | true =>
     have O:=zpr rfl;have NX:=GP rfl;clear zpr GP;let⟨rb,⟨z,sl,tr⟩,l⟩:=r;simp at w6;simp[bq]at O
     cases rb with
     | false =>
       obtain rfl:Hc=21:=by rw[<- M1];rfl
       cases z with
       | none =>
         cases l with
         | nil =>simp_all [bq,aK]
         | cons t l =>let⟨tk,tn,ti,th,tl⟩:=t;simp_all [bq,aK]
       | some z =>
         let⟨za,zb⟩:=z
         cases l with
         | nil =>simp_all [bq,aK]
         | cons t l =>let⟨tk,tn,ti,th,tl⟩:=t;simp_all [bq,aK]
     | true =>
       let⟨⟨za,zb,e1⟩,cg⟩:=NX rfl;simp only at e1 cg;subst e1;obtain⟨t,l,rfl⟩:=cK cg;let⟨CC,HB,hz3⟩:=hsm rfl;have hz:Mm D ⟨some (za,zb),sl,tr⟩ (t::l) []=some (.bool (!(t::l).any (AA sl tr)),⟨some (za,zb),sl,tr⟩,t::l):=if_pos ⟨CC,HB,by simp only[aL]at hz3;omega⟩;have VH:(if ((t::l).any (AA sl tr))=false then (0:Int)else 21)=Hc:=(by rw[<- M1];simp[zuq]);clear M1 CC HB hz3 hsm;generalize (t::l).any (AA sl tr)=bb at hz VH;let⟨tk,tn,ti,th,tl⟩:=t
       cases bb with
       | true =>obtain rfl:Hc=21:=VH.symm;simp at hz;simp[U,bq,zJi,w6,zJn,O,zJh,hz,aK]
       | false =>obtain rfl:Hc=0:=VH.symm;simp at hz;simp[U,bq,zJi,w6,zJn,O,zJh,hz,aK]
 | cons nm NM =>
   simp[tq,U];refine bM.mk (aw.auto (TL:=[(0,.sl (D.map aT) false),(1,.sl (ctx.map dV) false),(6,.ptr 0 0 0),(7,.ptr 1 0 0),(9,oV 2 ((nm::NM).map b5))]) (HL:=[(0,.arr 5 0 [[.int .i64 gk,.str gn,.int .i64 gi,.int .i64 gh,.sl (gl.map aA) false]] true false false),(1,.arr 11 0 [[.int .i64 ek,.int .i64 ep,.str en,.int .i64 em,.sl (cS.map bP) false,.sl (cq.map dW) false,.int .i64 m8,.str mL,.int .i64 m9,.int .i64 nq,.sl (m7.map aA) false]] true false false)]++oH 2 1 ((nm::NM).map b5)) (n:=3)) ?_;simp[bq]at w6
   cases sb with
   | false =>obtain rfl:Hc=9:=(by rw[<- M1];rfl);simp_all
   | true =>
     have O:=zpr rfl;have NX:=GP rfl;clear zpr GP;let⟨rb,⟨z,sl,tr⟩,l⟩:=r;simp at w6;simp[bq]at O
     cases rb with
     | false =>
       obtain rfl:Hc=21:=by rw[<- M1];rfl
       cases z with
       | none =>
         cases l with
         | nil =>simp_all [bq,aK]
         | cons t l =>let⟨tk,tn,ti,th,tl⟩:=t;simp_all [bq,aK]
       | some z =>
         let⟨za,zb⟩:=z
         cases l with
         | nil =>simp_all [bq,aK]
         | cons t l =>let⟨tk,tn,ti,th,tl⟩:=t;simp_all [bq,aK]
     | true =>
       let⟨⟨za,zb,e1⟩,cg⟩:=NX rfl;simp only at e1 cg;subst e1;obtain⟨t,l,rfl⟩:=cK cg;let⟨CC,HB,hz3⟩:=hsm rfl;have hz:Mm D ⟨some (za,zb),sl,tr⟩ (t::l) []=some (.bool (!(t::l).any (AA sl tr)),⟨some (za,zb),sl,tr⟩,t::l):=if_pos ⟨CC,HB,by simp only[aL]at hz3;omega⟩;have VH:(if ((t::l).any (AA sl tr))=false then (0:Int)else 21)=Hc:=(by rw[<- M1];simp[zuq]);clear M1 CC HB hz3 hsm;generalize (t::l).any (AA sl tr)=bb at hz VH;let⟨tk,tn,ti,th,tl⟩:=t
       cases bb with
       | true =>obtain rfl:Hc=21:=VH.symm;simp at hz;simp[U,bq,zJi,w6,zJn,O,zJh,hz,aK]
       | false =>obtain rfl:Hc=0:=VH.symm;simp at hz;simp[U,bq,zJi,w6,zJn,O,zJh,hz,aK]
 intro i _ hi _ K hK;have cm:(i:Int)<ctx.length:=by omega
 have cr:=bG (i:=i);have m1:i*7 / 7=i:=by omega
 have aE:=hK () trivial;have S6:(ctx.map (·.name)).take (i+1)=(ctx.map (·.name)).take i++[ctx[i].name]:=by rw[df (by omega),iD]
 have hlen:((ctx.map (·.name)).take i).length=i:=by rw[dR,fL];omega
 rw[S6]at aE;generalize (ctx.map (·.name)).take i=out at hlen aE;rcases hent:ctx[i]with⟨zMN,⟨sc,⟨tk,tn,ti,th,tl⟩⟩⟩;rw[hent]at aE;have k1:(i+1)*16<=1048576:=by omega
 cases out with
 | nil =>simp[tq,U,hi,cm,m1,hent,dV,cr,-Int.natCast_add];exact aE _ _ (aw.auto)
 | cons o out =>
   rw[aL]at hlen;rw[<- hlen]at k1;simp[tq,U,hi,cm,m1,hent,dV,cr,k1,bf,-Int.natCast_add];exact aE _ _ (aw.auto)
end
end
open Classical in
def D7(d f m:Nat)(D:Z Decl)(ctx:Z Entry)(g:G)(e:Xp):Y Int:=if h:∃ r,SE d f m D ctx g e r then some (Hr ctx e h.choose)else none
def Y1{ctx:Z Entry}(h:SE d f m D ctx g e r):D7 d f m D ctx g e=some (Hr ctx e r):=by
 have W:∃ r,SE d f m D ctx g e r:=⟨r,h⟩;unfold D7;rw[dif_pos W];have hc:=W.choose_spec;unfold Hr;by_cases C:Cz 50 (ctx.map (·.name)) e=true;have e1:=hc.ph C;rw[h.ph C]at e1;rw[<- bT e1];rw[if_neg C,if_neg C]
def zgy{ctx:Z Entry}(h:D7 d f m D ctx g e=some v):∃ r,SE d f m D ctx g e r/\v=Hr ctx e r:=by
 unfold D7 at h;split at h;rename_i W;cases h;exact⟨_,W.choose_spec,rfl⟩;cases h
section
variable {I:Nat->Value}(hρ:J.Good I)
include hρ
def Wo(d f m:Nat):J.Spec:=dC (Jg (D7 d f m))
def zxq(d f m:Nat):Valid I Pg 26 (Wo d f m):=v4 (fo Tryz.func26 Eh.2) λD ctx g e v h C=>by
 obtain⟨r,hr,rfl⟩:=zgy h
 exact zlQ hρ (E:=EL [(56,OQ),(57,dC (cz (W8 100))),(58,ZK),(59,dC (Fh 50)),(60,GY d f m),(61,fu (Xa Mm))]) rfl
  (aj (ae (zsg hρ) (ae (zbT hρ 100) (ae (zxc hρ) (ae (Ru hρ 50) (ae (Zp d f m hρ) (ae (znb hρ) aH))))))) rfl rfl rfl rfl rfl rfl hr C
end
section
variable {F:Nat->Z Nat}{cb:Z (Z Nat)}{sL r ctx ctx':Z Entry}{l:Z Am}
def Zd:∀ (cs:Z Ctor) (l:Z Am),pI cs (l.map (Am.can F cb))=pI cs l
 | [],[]=>rfl
 | [],_::_=>rfl
 |_::_,[]=>rfl
 |c::cs,a::l=>by rw[aX,pI,pI,Zd cs l];rfl
theorem Zb:Gh D (l.map (Am.can F cb))=Gh D l:=by
 unfold Gh;congr 1;funext d;exact Zd _ _
theorem zjE{P:Xp->Prop}(hP:∀ e,P e->e.isApp=true->P e.fn/\P e.arg)(h:P e):P (dE e).1/\∀ a∈(dE e).2,P a:=by
 generalize hd:e.depth=d
 induction d using Nat.strongRecOn generalizing e with
 | _ d ih =>
   by_cases ha:e.isApp=true;let⟨M,O⟩:=ih _ (by rw[<- hd];exact Xp.lH (Xp.G9 ha)) (hP e h ha).1 rfl;rw[uq ha];refine⟨M,λa W=>?_⟩;rcases bu.1 W with W|W;exact O a W;rw[ag]at W;subst W;exact(hP e h ha).2;rw[rz ha];exact⟨h,λa W=>by cases W⟩
def Hs(vs:Z (Z Nat))(fs:Z G):Z Entry:=List.zipWith (λv f=>⟨v,mono f⟩) vs fs
def Qc:∀ (vs dn:Z (Z Nat)) (fs:Z G) (c:Z Entry),fs.length=vs.length->vs.Nodup->(∀ v∈vs,v ∉ dn)->Dv dn vs fs c=some (c++Hs vs fs)
 | [],dn,fs,c,h,_,_=>by simp[Dv,Hs]
 |v::vs,dn,[],c,h,_,_=>by cases h
 | v :: vs,dn,x::fs,c,h,hn,hd=>by
   rw[gK]at hn;show (if v∈dn then none else Dv (dn++[v]) vs fs (c++[⟨v,mono x⟩]))=_;rw[if_neg (hd v (aB ..)),Qc vs _ fs _ (by simpa using h) hn.2 λu hu hm=>?_];simp[Hs];rcases bu.1 hm with hm|hm;exact hd u (aD _ hu) hm;rw[ag]at hm;subst hm;exact hn.1 hu
def XG:∀ (vs:Z (Z Nat)) (fs:Z G),fs.length=vs.length->(Hs vs fs).map (·.name)=vs
 | [],fs,h=>rfl
 |v::vs,[],h=>by cases h
 | v::vs,x::fs,h=>by
   show v::(Hs vs fs).map (·.name)=_;rw[XG vs fs (by simpa using h)]
def ziD:∀ (i:Nat) (vs:Z (Z Nat)) (fs:Z G),fs.length=vs.length->KB F i (Hs vs fs)=Hs (nT F i vs.length) fs
 |i,[],fs,h=>rfl
 |i,v::vs,[],h=>by cases h
 | i,v::vs,x::fs,h=>by
   rw[aL,Ye];show (⟨F i,mono x⟩:Entry)::KB F (i+1) (Hs vs fs)=_;rw[ziD _ vs fs (by simpa using h)];rfl
def Zf {f:Xp->Xp} {rec:G->Xp->CS->Y (Bool×CS)}:∀ (xs:Z Xp) (is:Bool) (gs:Z G) (s:CS),(∀ x∈xs,∀ g s,zEu g (f x) s=rec g x s)->Ct zEu is gs (xs.map f) s=Ct rec is gs xs s
 | [],is,gs,s,h=>by rw[iF,AB,AB]
 | x :: xs,is,gs,s,h=>by
   rw[aX]
   cases is with
   |false=>rw[uM,uM]
   | true =>
     cases gs with
     |nil=>rw[Ng,Ng]
     | cons g gs =>
       rw[Ea,Ea,h x (aB ..)];congr 1;funext q;exact Zf xs _ _ _ λy hy=>h y (aD _ hy)
variable (hF:zHp F T)
include hF
theorem zuQ(h:W0 D l)(hr:∀ a∈l,cb.length+a.vars.length<=60):W0 D (l.map (Am.can F cb)):=by
 let⟨k,d,M,O,h3,h4,h5⟩:=h;refine⟨k,d,M,by rw[Zb];exact O,by rw[aN];exact h3,λi a c ha hc=>?_,λa ha=>?_⟩;rw[bC,bH]at ha;obtain⟨b,hb,rfl⟩:=ha;exact⟨by show (nT _ _ _).length=_;rw[oC];exact(h4 i b c hb hc).1,Ve hF (hr b (aI hb))⟩;obtain⟨b,hb,rfl⟩:=aF.1 ha;exact h5 b hb
theorem zz3 (h:Wf D e):∀ {cb:Z (Z Nat)},Rm cb e->Wf D (e.can F cb):=by
 induction h with
 | @mk e hv hd ox ih =>
   intro cb hR;have M:=Xp.iY e;have O:cb.length+4*e.depth<=60:=hR;refine .mk (ziL hF hv hR) ⟨λk=>?_,λk=>?_⟩ λx W=>?_;rw[Xp.wT]at k;rw[Xp.Gc,if_neg (by omega),if_neg (by omega)];exact hd.1 k;rw[Xp.wT]at k;rw[Xp.wU];exact zuQ hF (hd.2 k) λa ha=>(by have:=(hv.2.2.2.2 a ha).2.2.1;omega);unfold BX at W;rw[Xp.qM,Xp.wU,gI]at W;rcases bu.1 W with W|W;obtain⟨y,hy,rfl⟩:=aF.1 W;exact ih y (dQ _ hy) (hR.kid hy);obtain⟨a,ha,rfl⟩:=aF.1 W;exact ih a.body (eY _ (aF.2 ⟨a,ha,rfl⟩)) (hR.arm hv ha)
theorem TY:∀ (d:Nat) {e:Xp} {r ctx ctx':Z Entry},Wf D e->Rm (iJ r) e->e.AE T (iJ r)->CR F sL r ctx ctx'->Cz d (ctx'.map (·.name)) (e.can F (iJ r))=Cz d (ctx.map (·.name)) e
 | 0,e,r,ctx,ctx',hw,hR,E3,hc=>rfl
 | d + 1,e,r,ctx,ctx',hw,hR,E3,hc=>by
   have hv:=hw.L5;have O:(iJ r).length+4*e.depth<=60:=hR;rw[Qe]at O;let⟨c1,c2,c3⟩:=Xp.OO.1 E3;rw[zhK (ziL hF hv hR),zhK hv,Xp.wT,Xp.qM,Xp.wU,w9,w9];have e1:(if e.kind=1 then decide ((e.can F (iJ r)).name∈ctx'.map (·.name))else true)=if e.kind=1 then decide (e.name∈ctx.map (·.name))else true:=by split;rename_i k;rw[Xp.Gc,if_pos k];exact ztt hF hc (by omega) (c1 k);rfl
   rw[e1];congr 2;refine uN λx W=>?_;have hwx:=hw.ch x (dQ _ W);have w5:=hR.kid W;have qq:=c2 x W;show Cz d (TQ (e.can F (iJ r)) (ctx'.map (·.name))) (x.can F (TQ e (iJ r)))=_;unfold TQ at w5 qq ⊢;rw[Xp.wT];by_cases k:e.kind=4;rw[if_pos k]at w5 qq;rw[if_pos k,if_pos k,if_pos k,Xp.Gc,if_neg (by omega),if_pos k];rw[<- Mt e.name PZ]at w5 qq ⊢;have:=TY d hwx w5 qq (hc.push e.name PZ);rw[fe,fe]at this;exact this;rw[if_neg k]at w5 qq;rw[if_neg k,if_neg k,if_neg k];exact TY d hwx w5 qq hc;refine uN λa ha=>?_;have hwx:=hw.ch a.body (eY _ (aF.2 ⟨a,ha,rfl⟩));have w5:=hR.arm hv ha;have qq:=c3 a ha;have fY:(a.vars.map λv=>(⟨v,PZ⟩:Entry)).map (·.name)=a.vars:=(by rw[gI];exact List.map_id _);have ho:=Yb (r:=r) (a.vars.map λv=>(⟨v,PZ⟩:Entry));rw[fY]at ho;rw[<- ho]at w5 qq;have:=TY d hwx w5 qq (hc.AW (a.vars.map λv=>(⟨v,PZ⟩:Entry)));rw[fe,fe,fY,Yx,aN,ho]at this;exact this
def Za{rec:Z Entry->G->Xp->CS->Y (Bool×CS)}{args:Z G}:∀ (l:Z Am) (is:Bool) (s:CS),(∀ a∈l,a.vars.Nodup/\(iJ r).length+a.vars.length<=60/\∀ fs:Z G,fs.length=a.vars.length->∀ s,rec (ctx'++KB F (iJ r).length (Hs a.vars fs)) g (a.body.can F (iJ r++a.vars)) s=rec (ctx++Hs a.vars fs) g a.body s)->yX rec D args ctx' g is (l.map (Am.can F (iJ r))) s=yX rec D args ctx g is l s
 | [],is,s,h=>rfl
 | a :: l,is,s,h=>by
   let⟨M,O,h3⟩:=h a (aB ..);rw[aX,yX,yX]
   show (if is=false\/(pG D a.dA args).1.length≠(nT F (iJ r).length a.vars.length).length then _ else match Dv [] (nT F (iJ r).length a.vars.length) (pG D a.dA args).1 ctx' with
    |none=>_
    |some c=>ob (rec c g (a.body.can F (iJ r++a.vars)) s) _)=_
   rw[oC];split;rfl;rename_i W;have hl:(pG D a.dA args).1.length=a.vars.length:=aY λq=>W (.inr q);rw[Qc _ _ _ _ (by rw[oC];exact hl) (Ve hF O) (λv _ q=>by cases q),Qc _ _ _ _ hl M (λv _ q=>by cases q),<- ziD _ _ _ hl];dsimp only;rw[h3 _ hl];congr 1;funext q;exact Za l _ _ λb hb=>h b (aD _ hb)
theorem KN :∀ (n:Nat) {e:Xp} {r ctx ctx':Z Entry} (g:G) (s:CS),Wf D e->iL e=true->Rm (iJ r) e->e.AE T (iJ r)->CR F sL r ctx ctx'->gZ d f D n ctx' g (e.can F (iJ r)) s=gZ d f D n ctx g e s
 | 0,e,r,ctx,ctx',g,s,hw,oT,hR,E3,hc=>rfl
 | n + 1, e, r,ctx,ctx',g,s,hw,oT,hR,E3,hc=>by
   have hv:=hw.L5;have O:(iJ r).length+4*e.depth<=60:=hR;have zOD:r.length<=60:=(by rw[Qe]at O;omega);let⟨c1,c2,c3⟩:=Xp.OO.1 E3
   have hp:WX D ctx' (e.can F (iJ r))=WX D ctx e:=by
    unfold WX;rw[hc.len,Xp.KO,Xp.wU,aN,QP,aN]
    have:(∀ a∈e.b8.map (Am.can F (iJ r)),a.vars.length<=90)=∀ a∈e.b8,a.vars.length<=90:=propext ⟨λh a ha=>by
     have:=h _ (aF.2 ⟨a,ha,rfl⟩);rw[<- oC (F:=F) (i:=(iJ r).length) (k:=a.vars.length)]
     exact this,λh a ha=>by
     obtain⟨b,hb,rfl⟩:=aF.1 ha;show (nT _ _ _).length<=90;rw[oC]
     exact h b hb⟩
    rw[this]
   rw[gZ,gZ,hp,Xp.wT];by_cases hP:WX D ctx e
   case neg=>rw[if_neg hP,if_neg hP]
   rw[if_pos hP,if_pos hP];rw[zV]at oT;by_cases k4:e.kind=4;rw[if_pos k4,if_pos k4];rw[if_neg (by omega),if_pos k4,aW,decide_eq_true_eq]at oT;have hb:=Xp.N8 oT.1;obtain⟨b,hbb⟩:∃ b,e.fn=b:=⟨_,rfl⟩;rw[hbb]at hb oT;have hm:b∈e.kids:=(by rw[hb];exact ag.2 rfl);have hk:(e.can F (iJ r)).kids=[b.can F (iJ r++[e.name])]:=(by rw[Xp.qM,hb,TQ,if_pos k4];rfl);have w5:=hR.kid hm;have qq:=c2 b hm;unfold TQ at w5 qq;rw[if_pos k4]at w5 qq;have ih:∀ a g s,gZ d f D n (ctx'++[⟨(e.can F (iJ r)).name,mono a⟩]) g (b.can F (iJ r++[e.name])) s=gZ d f D n (ctx++[⟨e.name,mono a⟩]) g b s:=λa g s=>(by rw[Xp.Gc,if_neg (by omega),if_pos k4];rw[<- Mt e.name (mono a)]at w5 qq ⊢;exact KN n g s (hw.ch b (dQ _ hm)) oT.2 w5 qq (hc.push _ _));rw[hk,hb];simp only[ih];rw [if_neg k4,if_neg k4];by_cases k8:e.kind=8;rw[if_pos k8,if_pos k8];rw[if_neg (by omega),if_neg k4,if_pos k8,aW,aW,decide_eq_true_eq,decide_eq_true_eq]at oT;have hb:=Xp.N8 oT.1.1;have mw:=oT.1.2;obtain⟨b,hbb⟩:∃ b,e.fn=b:=⟨_,rfl⟩;rw[hbb]at hb mw;have hm:b∈e.kids:=(by rw[hb];exact ag.2 rfl);have hk:(e.can F (iJ r)).kids=[b.can F (iJ r)]:=(by rw[Xp.qM,hb,TQ,if_neg k4];rfl);have qq:=c2 b hm;unfold TQ at qq;rw[if_neg k4]at qq;have te:uD ctx' (b.can F (iJ r)).name=uD ctx b.name:=(by rw[Xp.Gc,if_pos mw];exact Yk hF hc zOD ((Xp.OO.1 qq).1 mw));have j7:Cs D (e.b8.map (Am.can F (iJ r)))=Cs D e.b8:=(by unfold Cs;rw[Zb]);let⟨dk,dd,_,_,dl,dn,_⟩:=hw.dw.2 k8;have ih:∀ args is s,yX (gZ d f D n) D args ctx' g is (e.b8.map (Am.can F (iJ r))) s=yX (gZ d f D n) D args ctx g is e.b8 s:=λargs is s=>Za hF e.b8 is s λa ha=>(by have hv4:=(hv.2.2.2.2 a ha).2.2.1;have hd:=Xp.iY e;let⟨j,hj⟩:=jf.1 ha;have ju:=(aM.1 hj).1;refine⟨(dn j a dd.ctors[j] hj (az (by omega))).2,by omega,λfs HN s=>?_⟩;have w5:=hR.arm hv ha;have qq:=c3 a ha;have ho:=Yb (r:=r) (Hs a.vars fs);rw[XG _ _ HN]at ho;rw[<- ho]at w5 qq ⊢;exact KN n g s (hw.ch a.body (eY _ (aF.2 ⟨a,ha,rfl⟩))) (au.1 oT.2 a ha) w5 qq (hc.AW _));unfold QW;rw[hk,hb,Xp.wU];dsimp only;rw[te,j7];simp only[ih];rw [if_neg k8,if_neg k8,QP];dsimp only
   have tG:=zjE (P:=λx=>Wf D x/\x.AE T (iJ r)/\Rm (iJ r) x) (λx W ha=>by
    have k:=(Xp.xV.1 ha).1;let⟨_,q2,_⟩:=Xp.OO.1 W.2.1;have hRk:∀ y,y∈x.kids->Wf D y/\y.AE T (iJ r)/\Rm (iJ r) y:=λy hy=>by have a1:=q2 y hy;have a2:=W.2.2.kid hy;unfold TQ at a1 a2;rw[if_neg (by omega)]at a1 a2;exact⟨W.1.ch y (dQ _ hy),a1,a2⟩
    exact⟨hRk _ (Xp.G9 ha),hRk _ (Xp.zbd ha)⟩) (e:=e) ⟨hw,E3,hR⟩
   have eg:∀ a∈(dE e).2,iL a=true:=λa ha=>(by by_cases k12:e.kind=1\/e.kind=2;rw[rz λq=>by have:=(Xp.xV.1 q).1;omega]at ha;cases ha;rw[if_neg k12,if_neg k4,if_neg k8]at oT;split at oT;rw[aW]at oT;exact au.1 oT.2 a ha;cases oT);have hhd:ED D ctx' ((dE e).1.can F (iJ r))=ED D ctx (dE e).1:=(by unfold ED;rw[Xp.wT,Xp.Gc];by_cases k1:(dE e).1.kind=1;rw[if_pos k1,if_pos k1,if_pos k1];exact Yk hF hc zOD ((Xp.OO.1 tG.1.2.1).1 k1);rw[if_neg k1,if_neg k1];by_cases k2:(dE e).1.kind=2;rw[if_pos k2,if_pos k2,if_neg k1,if_neg (by omega)];rw[if_neg k2,if_neg k1,if_neg k2]);have ih:∀ is l s,Ct (gZ d f D n ctx') is l ((dE e).2.map (Xp.can F (iJ r))) s=Ct (gZ d f D n ctx) is l (dE e).2 s:=λis l s=>Zf _ _ _ _ λx W g s=>(by let⟨a1,a2,a3⟩:=tG.2 x W;exact KN n g s a1 (eg x W) a3 a2 hc);rw[hhd,aN];simp only[ih]
theorem zlT{R:Bool×CS}(h:SE d f m D ctx g e R)(hR:Rm [] e)(E3:e.AE T []):SE d f m D ctx g (e.can F []) R/\Hr ctx (e.can F []) R=Hr ctx e R:=by
 have hc:=CR.nil (F:=F) ctx;have M:=TY hF (D:=D) 50 (r:=[]) h.pw hR E3 hc;have O:=λs=>KN hF (d:=d) (f:=f) m (r:=[]) g s h.pw h.ps hR E3 hc;have e0:iJ []=[]:=rfl;rw[e0]at M O;refine⟨⟨h.pD,h.pc,h.pt,h.zPI,by rw[Xp.KO];exact h.pd,zz3 hF h.pw hR,?_,by rw[zlS];exact h.ps,λq=>?_,h.pz⟩,?_⟩;let⟨a,b,c⟩:=h.pf;exact⟨by rw[Xp.KO];exact a,by rw[Xp.KO];exact b,by rw[Xp.zqg];exact c⟩;rw[O];exact h.ph (by rw[<- M];exact q);unfold Hr;rw[M]
end
def We  {n:Z Nat}  {c:Ctor} (h:JS D n=some (dd,c)):dd∈D/\c∈dd.ctors:=by
 unfold JS at h;split at h;cases h;split at h;cases h;rename_i hd;split at h;cases h;rename_i hc;cases h;exact⟨aI hd,aI hc⟩
def Ev(P:Nat->Nat->Prop):Prop:=∃ N,∀ d f,N<=d->N<=f->P d f
def Ev.and{Q:Nat->Nat->Prop}(h:Ev P)(k:Ev Q):Ev λd f=>P d f/\Q d f:=by
 let⟨a,h⟩:=h;let⟨b,k⟩:=k;exact⟨max a b,λd f hd hf=>⟨h d f (by omega) (by omega),k d f (by omega) (by omega)⟩⟩
theorem Ev.mono{Q:Nat->Nat->Prop}(h:Ev P)(hq:∀ d f,P d f->Q d f):Ev Q:=by
 let⟨a,h⟩:=h;exact⟨a,λd f hd hf=>hq d f (h d f hd hf)⟩
def Ev.all(h:∀ d f,P d f):Ev P:=⟨0,λd f _ _=>h d f⟩
abbrev TO(s:MS)(t:G):Prop:=iA s.sl.length 7 t
structure C6(s:MS):Prop where
 ia:ao.ub s.sl.length 7 ⟨s.sl,s.tr⟩
 zIa:s.tr.length+2*ao.Lg ⟨s.sl,s.tr⟩<=3*s.sl.length
 row:s.z=none->s.sl=[]
 T7:s.sl.length<=900
structure Nx(k:Nat)(s s':MS):Prop where
 ok:C6 s'
 lo:s.sl.length<=s'.sl.length
 hi:s'.sl.length<=s.sl.length+k
 rows:s.z.isSome=true->s'.z.isSome=true
theorem Nx.refl(h:C6 s)(k:Nat):Nx k s s:=⟨h,af _,fG _ _,id⟩
def Nx.trans{s' s2:MS}(h:Nx a s s')(k:Nx b s' s2):Nx (a+b) s s2:=⟨k.ok,aO h.lo k.lo,by have:=h.hi;have:=k.hi;omega,λe=>k.rows (h.rows e)⟩
def Nx.le{s':MS}(h:Nx a s s')(Kp:a<=b):Nx b s s':=⟨h.ok,h.lo,by have:=h.hi;omega,h.rows⟩
def Nx.to{k:Nat}{s s':MS}(h:Nx k s s'){t:G}(ht:TO s t):TO s' t:=ht.up h.lo
theorem zbi(h:C6 s)(hn:s.sl.length+1<=900)(b:Bool):zo s [.int .i64 1000000,.bool b]=some (enc (fU (s.sl.length:Int)),uO s 1000000 b)/\Nx 1 s (uO s 1000000 b)/\(uO s 1000000 b).sl.length=s.sl.length+1/\(uO s 1000000 b).z.isSome=true/\TO (uO s 1000000 b) (fU (s.sl.length:Int)):=by
 have hp:=h.zIa;have hl:(uO s 1000000 b).sl.length=s.sl.length+1:=by show (s.sl++[_]).length=_;simp
 let⟨M,O⟩:=ao.zu1 h.ia (b:=b) (tr:=s.tr++[⟨s.sl.length,⟨false,wI,0,false⟩,true⟩]);refine⟨O7 (by omega) (by omega),⟨⟨?_,?_,(λe=>by cases e),by omega⟩,by omega,by omega,λ_=>rfl⟩,hl,rfl,?_⟩;rw[hl];exact M;rw[hl];show (s.tr++[_]).length+2*ao.Lg ⟨s.sl++[⟨false,wI,1000000,b⟩],s.tr++[_]⟩<=_;grind;simp_all [iA.var,ji]
def Qi(h:C6 s):∀ k,s.sl.length+k<=900->Nx k s (jB s k)/\(jB s k).sl.length=s.sl.length+k/\(0<k->(jB s k).z.isSome=true)
 | 0,_=>⟨.refl h 0,rfl,λe=>by omega⟩
 | k+1,hk=>by
   let⟨M,O,h3⟩:=Qi h k (by omega);let⟨_,g2,g3,g4,_⟩:=zbi M.ok (by omega) false;exact⟨M.trans g2,by rw[jB,g3,O];rfl,λ_=>g4⟩
def Vd(h:i+k<=n):∀ x∈dJ i k,iA n 1 x:=λx W=>by
 unfold dJ at W;obtain⟨j,hj,rfl⟩:=aF.1 W;rw[dh]at hj;exact iA.var (by omega) (af _)
def zcL(hn:n<=n'){l:Z G}(hl:∀ x∈l,iA n' 1 x)(x:G)(_:x.args=[])(h:iA n 1 x):iA n' 1 (nu l x):=by
 unfold nu;split;rename_i hc;rw[List.getD_eq_getElem?_getD]
 cases e:l[x.id.toNat]? with
 |none=>exact h.up hn
 |some y=>exact hl y (aI e)
 exact h.up hn
def Hd(h:C6 s)(hz:s.z.isSome=true){x y:G}(W:TO s x)(hy:TO s y):∃ b s',Ev (λd f=>kQ d f s [enc x,enc y]=some (.bool b,s'))/\Nx 0 s s':=by
 have hp:=h.zIa;have hf:=h.T7;let⟨d1,f1,r,hr⟩:=ao.zjh (by decide) (by decide) (by omega) (by omega) (by omega) h.ia W hy (by show s.tr.length+2*ao.Lg ⟨s.sl,s.tr⟩<=_;omega);let⟨z,sl,tr⟩:=s;let⟨⟨a,b⟩,hz⟩:=bQ.1 hz;simp only at hz;subst hz;let⟨m,hm⟩:=ao.JI d1 (0+f1) (hr.run d1 (af _) 0);let⟨ex,hex,_⟩:=hm.b9;have hlen:=hm.len;let⟨⟨cW,xZ⟩,e⟩:=r;simp only at hex hlen;subst hex;refine⟨decide (e=0),⟨some (a,b+ex.length),cW,tr++ex⟩,⟨max d1 f1,λd f hd hf=>?_⟩,⟨⟨?_,?_,(λe=>by cases e),?_⟩,?_,?_,λ_=>rfl⟩⟩;have:=hr.run d (by omega) (f-f1);rw[show f-f1+f1=f by omega]at this;exact zlv this;have:=hr.ia;rw[<- hlen]at this;exact this;have:=hr.b9;show (tr++ex).length+2*ao.Lg ⟨cW,tr++ex⟩<=3*cW.length;rw[hlen];exact aO this hp;show cW.length<=900;rw[hlen];exact hf;show sl.length<=cW.length;rw[hlen];exact af _;show cW.length<=sl.length+0;rw[hlen];exact af _
theorem QS(h:C6 s)(hn:s.sl.length+1<=900){x:G}(W:TO s x):∃ b s',Ev (λd f=>Bw d f s [enc x]=some (.bool b,s'))/\Nx 1 s s'/\s'.z.isSome=true:=by
 let⟨M,O,h3,h4,h5⟩:=zbi h hn true;let⟨b,s',e1,e2⟩:=Hd O.ok h4 (O.to W) h5;refine⟨b,s',e1.mono λd f hq=>?_,O.trans e2,e2.rows h4⟩;show (ob (bo.dec (enc x):Y G) λ_=>ob (zo s [.int .i64 1000000,.bool true]) λq=>kQ d f q.2 [enc x,q.1])=_;simp_all
theorem zqy{w:G}(h:iA n 7 w)(hc:(isArrow w).c=true):iA n 7 (isArrow w).a/\iA n 7 (isArrow w).b:=by
 let⟨k,nm,i,hm,l⟩:=w;unfold isArrow at hc ⊢;by_cases hk:k=4/\nm=[45,62];simp only[G.fH,G.j4,G.iT,if_pos hk]at hc ⊢
 match l,hc,h with
 | [],hc,h=>cases hc
 | [a],hc,h=>cases hc
 | [a,b],hc,h=>exact⟨h.arg (by simp),h.arg (by simp)⟩
 |a::b::c::m,hc,h=>cases hc
 simp_all
theorem LB  (h:C6 s) (hn:s.sl.length+2<=900)  (ht:TO s t):∃ a b r s',Ev (λd f=>jG d f s [enc t]=some (.tuple [enc a,enc b,.bool r],s'))/\Nx 2 s s'/\(r=true->TO s' a/\TO s' b):=by
 obtain⟨w,hw⟩:∃ w,ao.w ⟨s.sl,s.tr⟩ t=w:=⟨_,rfl⟩;have zyT:TO s w:=by rw[<- hw];exact h.ia.E8.mE (af 7) s.sl.length ht
 by_cases hk:w.kind=1
 have hz:s.z.isSome=true:=by
  cases hz:s.z with
  |some _=>rfl
  | none =>have e:=h.row hz;have:=zyT.vars w (.self hk);grind
 let⟨⟨z0,z1⟩,HB⟩:=bQ.1 hz;let⟨M,O,h3,h4,h5⟩:=zbi h (by omega) false;let⟨g1,g2,g3,g4,g5⟩:=zbi O.ok (by omega) false;have rm:=g2.to h5
 have hA:iA (uO (uO s 1000000 false) 1000000 false).sl.length 7 (arr (fU (s.sl.length:Int)) (fU ((uO s 1000000 false).sl.length:Int))):=by
  refine iA.node (show (4:Int)≠1 by decide) (G.qH.2 ⟨show 2<=10000 by decide,λx W=>?_⟩) ?_ λx W=>?_;simp only[arr,G.iT,ay,aU,or_false]at W;rcases W with rfl|rfl<;>rfl
  show G.size (.mk 4 _ 0 0 [fU _,fU _])<=7;simp[G.size,G.bj,fU];simp only[arr,G.iT,ay,aU,or_false]at W;grind
 let⟨r,s',e1,e2⟩:=Hd g2.ok g4 (g2.to (O.to zyT)) hA;refine⟨_,_,r,s',e1.mono λd f hq=>?_,((O.trans g2).trans e2).le (by omega),λ_=>⟨e2.to rm,e2.to g5⟩⟩;show (ob (bo.dec (enc t):Y G) _)=_;rw[bo.dD,eQ,if_pos (by omega),hw,if_pos hk,HB];simp_all;refine⟨(isArrow w).a,(isArrow w).b,(isArrow w).c,s,.all λd f=>?_,.refl h 2,λhc=>zqy zyT hc⟩;show (ob (bo.dec (enc t):Y G) _)=_;rw[bo.dD,eQ,if_pos (by omega),hw,if_neg hk]
def VD:∀ (k:Nat) {s:MS} {r:G} {acc:Z G},C6 s->s.sl.length+2*k<=900->TO s r->(∀ x∈acc,TO s x)->∃ R,Ev (λd f=>yO d f k s r acc=some R)/\Nx (2*k) s R.2/\∀ p,R.1=some p->p.1.length=acc.length+k/\(∀ x∈p.1,TO R.2 x)/\TO R.2 p.2
 | 0,s,r,acc,h,hn,hr,ha=>⟨_,.all λd f=>rfl,.refl h 0,λp hp=>by cases hp;exact⟨rfl,ha,hr⟩⟩
 | k + 1,s,r,acc,h,hn,hr,ha=>by
   let⟨a,b,t,s1,e1,n1,o1⟩:=LB h (by omega) hr
   cases t with
   | false =>refine⟨(none,s1),e1.mono λd f hq=>?_,n1.le (by omega),λp hp=>by cases hp⟩;rw[yO,hq,eQ]
   | true =>
     let⟨oa,zK7⟩:=o1 rfl
     let⟨R,e2,n2,o2⟩:=VD k (s:=s1) (r:=b) (acc:=acc++[a]) n1.ok (by have:=n1.hi;omega) zK7 (λx W=>by
      rcases bu.1 W with W|W;exact n1.to (ha x W)
      rw[ag]at W;subst W;exact oa)
     refine⟨R,(e1.and e2).mono λd f hq=>?_,(n1.trans n2).le (by omega),λp hp=>?_⟩;rw[yO,hq.1,eQ];simp only[bo.dD,eQ];exact hq.2;let⟨q1,q2,q3⟩:=o2 p hp;exact⟨by rw[q1,aR];simp;omega,q2,q3⟩
def zpP  (h:C6 s) (hn:s.sl.length+2<=900)  (hg:TO s g) {R:Y (Z G×G)} (hR:∀ p,R=some p->(∀ x∈p.1,TO s x)/\TO s p.2):∃ acc e s',Ev (λd f=>Qw d f g (R,s)=some (acc,e,s'))/\Nx 2 s s'/\(e=true->(∃ r,R=some (acc,r))/\∀ x∈acc,TO s' x):=by
 cases R with
 |none=>exact⟨[],false,s,.all λd f=>rfl,.refl h 2,λe=>by cases e⟩
 | some p =>
   let⟨acc,r⟩:=p;let⟨ha,hr⟩:=hR _ rfl;let⟨b1,s1,e1,n1,z1⟩:=QS h (by omega) hg
   cases b1 with
   |false=>exact⟨acc,false,s1,e1.mono λd f hq=>by unfold Qw;simp only;rw[hq,eQ],n1.le (by omega),λe=>by cases e⟩
   | true =>
     let⟨b2,s2,e2,n2,z2⟩:=QS n1.ok (by have:=n1.hi;omega) (n1.to hr)
     cases b2 with
     |false=>exact⟨acc,false,s2,(e1.and e2).mono λd f hq=>by unfold Qw;simp only;rw[hq.1,eQ];simp only;rw[hq.2,eQ],n1.trans n2,λe=>by cases e⟩
     | true =>
       let⟨b3,s3,e3,n3⟩:=Hd n2.ok z2 (n2.to (n1.to hr)) (n2.to (n1.to hg));exact⟨acc,b3,s3,((e1.and e2).and e3).mono λd f hq=>by unfold Qw;simp only;rw[hq.1.1,eQ];simp only;rw[hq.1.2,eQ];simp only;rw[hq.2,eQ],(n1.trans n2).trans n3,λ_=>⟨⟨r,rfl⟩,λx W=>n3.to (n2.to (n1.to (ha x W)))⟩⟩
structure SO(n:Nat)(c:Scheme):Prop where
 ty:iA n 7 c.type
 T7:sO c<=2
def SO.up(h:SO n c)(hn:n<=n'):SO n' c:=⟨h.ty.up hn,h.T7⟩
def zkv(h:C6 s)(hn:s.sl.length+2<=900)(hc:SO s.sl.length c):∃ r s',Ih s [enc c]=some (enc r,s')/\Nx 2 s s'/\TO s' r:=by
 have hp:=h.zIa;have hf:=hc.T7;have C:=hc.ty.size;let⟨M,O,h3⟩:=Qi h (sO c) (by omega);refine⟨N7 s.sl.length c,jB s (sO c),?_,M.le hf,?_⟩;show (ob (bo.dec (enc c):Y Scheme) _)=_;rw[bo.dD,eQ,if_pos ⟨hc.ty.ok,by omega,by omega,by omega⟩];show iA _ 7 (c.type.GH (nu (dJ s.sl.length (sO c))));rw[O];exact(zcv (zcL (fG _ _) (Vd (af _))) c.type hc.ty).1
theorem zk8(h:C6 s)(hn:s.sl.length+(2*k+4)<=900){l:Z G}(hl:l.length<=10000)(hc:SO s.sl.length c)(hg:TO s g)(fX:∀ x∈l,TO s x):∃ acc e s' r0,Ev (λd f=>Ij d f D s l [enc c,.int .i64 (k:Int),enc g]=some (.tuple [enc (acc:Z G),.bool e],s',l++[r0]))/\Nx (2*k+4) s s'/\(e=true->acc.length=k/\∀ x∈acc,TO s' x)/\∀ x∈l++[r0],TO s' x:=by
 let⟨r0,s1,o1,n1,t1⟩:=zkv h (by omega) hc;let⟨⟨R,s2⟩,e2,n2,o2⟩:=VD k (acc:=[]) n1.ok (by have:=n1.hi;omega) t1 (λx W=>by cases W);let⟨acc,e,s3,e3,n3,o3⟩:=zpP (R:=R) n2.ok (by have:=n1.hi;have:=n2.hi;omega) (n2.to (n1.to hg)) (λp hp=>(o2 p hp).2);refine⟨acc,e,s3,r0,(e2.and e3).mono λd f hq=>?_,((n1.trans n2).trans n3).le (by omega),λhe=>?_,λx W=>?_⟩;exact zpw (by omega) hl o1 hq.1 hq.2;grind;rcases bu.1 W with W|W;exact n3.to (n2.to (n1.to (fX x W)));rw[ag]at W;subst W;exact n3.to (n2.to t1)
theorem zbg  (hD:D.length<=1000)  (h:C6 s) (hz:s.z.isSome=true)  (hi:i<D.length) (zFS:D[i].params.length<=2) (hn:s.sl.length+2<=900) {l:Z G} (hl:l.length<=10000)  (ht:TO s t) (fX:∀ x∈l,TO s x):∃ e s',Ev (λd f=>yZ d f D s l [enc t,.int .i64 (i:Int)]=some (.tuple [enc (dJ s.sl.length D[i].params.length),.bool e],s',l++[t]))/\Nx 2 s s'/\s'.z.isSome=true/\(∀ x∈dJ s.sl.length D[i].params.length,iA s'.sl.length 1 x)/\∀ x∈l++[t],TO s' x:=by
 have hp:=h.zIa;let⟨⟨z0,z1⟩,HB⟩:=bQ.1 hz;let⟨M,O,h3⟩:=Qi h D[i].params.length (by omega);have zFT:=Vd (i:=s.sl.length) (k:=D[i].params.length) (n:=(jB s D[i].params.length).sl.length) (by omega)
 have hA:iA (jB s D[i].params.length).sl.length 7 (G.mk 4 D[i].name 0 0 (dJ s.sl.length D[i].params.length)):=by
  have cd:∀ k i:Nat,G.bj (dJ i k)=k:=λk i=>by
   unfold dJ
   have:∀ m:Z Nat,G.bj (m.map λj=>fU ((i+j:Nat):Int))=m.length:=by
    intro m
    induction m with
    |nil=>rfl
    |cons x m ih=>rw[aX,G.bj,ih];simp[fU,G.size,G.bj];omega
   rw[this];simp
  refine iA.node (show (4:Int)≠1 by decide) (G.qH.2 ⟨by show (dJ _ _).length<=_;rw[Bj];omega,λx W=>(zFT x W).ok⟩) ?_ λx W=>(zFT x W).le (by decide);rw[G.size_eq];show G.bj (dJ _ _)+1<=7;grind
 let⟨e,s',e1,n1⟩:=Hd M.ok (M.rows hz) (M.to ht) hA;refine⟨e,s',e1.mono λd f hq=>?_,(M.trans n1).le (by omega),n1.rows (M.rows hz),λx W=>(zFT x W).up n1.lo,λx W=>?_⟩;show (ob (bo.dec (enc t):Y G) λt=>ob D[((i:Nat):Int).toNat]? _)=_;rw[bo.dD,eQ,bO,az hi,eQ,HB];simp only;rw[if_pos ⟨by omega,hD,by omega,hl,by omega,by omega⟩,hq,eQ];rfl;rcases bu.1 W with W|W;exact n1.to (M.to (fX x W));rw[ag]at W;subst W;exact n1.to (M.to ht)
structure R1(s:CS):Prop where
 ok:C6 s.1
 AM:∀ x∈s.2,TO s.1 x
structure yp(k:Nat)(s s':CS):Prop where
 nx:Nx k s.1 s'.1
 AM:∀ x∈s'.2,TO s'.1 x
 len:s'.2.length<=s.2.length+k
def yp.ok{s:CS}(h:yp k s s'):R1 s':=⟨h.nx.ok,h.AM⟩
theorem yp.refl{s:CS}(h:R1 s)(k:Nat):yp k s s:=⟨.refl h.ok k,h.AM,fG _ _⟩
def yp.trans{s s2:CS}(h:yp a s s')(k:yp b s' s2):yp (a+b) s s2:=⟨h.nx.trans k.nx,k.AM,by have:=h.len;have:=k.len;omega⟩
def yp.le{s:CS}(h:yp a s s')(Kp:a<=b):yp b s s':=⟨h.nx.le Kp,h.AM,by have:=h.len;omega⟩
structure DE(D:List Decl):Prop where
 pre:Gu D
 par:∀ d∈D,d.params.length<=2
 ctor:∀ n,(Im D n).2=true->SO 0 (Im D n).1
 zQO:∀ d∈D,∀ c∈d.ctors,∀ x∈c.fields,iA 0 7 (G.ia d.params x)
def C4(n:Nat)(ctx:Z Entry):Prop:=∀ e∈ctx,SO n e.scheme
def C4.up{ctx:Z Entry}(h:C4 n ctx)(hn:n<=n'):C4 n' ctx:=λe he=>(h e he).up hn
theorem zaj(h:iA n 7 t):SO n (mono t):=⟨h,by show (min (max (0:Int) 0) (t.size:Int)).toNat<=2;omega⟩
def C4.snoc{ctx:Z Entry}(h:C4 n ctx)(ht:iA n 7 t)(v:Z Nat):C4 n (ctx++[⟨v,mono t⟩]):=λe he=>by
 rcases bu.1 he with he|he;exact h e he;rw[ag]at he;subst he;exact zaj ht
def zcE:∀ (dn vs:Z (Z Nat)) (fs:Z G) (c c':Z Entry),Dv dn vs fs c=some c'->(∀ x∈fs,iA n 7 x)->C4 n c->C4 n c'/\c'.length<=c.length+vs.length
 |dn,[],fs,c,c',h,hf,hc=>by rw[Dv]at h;cases h;exact⟨hc,af _⟩
 | dn,v::vs,[],c,c',h,hf,hc=>by replace h:(if v∈dn then none else some c)=some c':=h;split at h;cases h;cases h;exact⟨hc,fG _ _⟩
 | dn,v::vs,x::fs,c,c',h,hf,hc=>by
   replace h:(if v∈dn then none else Dv (dn++[v]) vs fs (c++[⟨v,mono x⟩]))=some c':=h;split at h;cases h;let⟨M,O⟩:=zcE (dn++[v]) vs fs _ c' h (λy hy=>hf y (aD _ hy)) (hc.snoc (hf x (aB ..)) v);refine⟨M,?_⟩;rw[aR]at O;simp only[aL,ku]at O ⊢;omega
def Yj{n:Z Nat}:∀ {l:Z Entry} {c:Scheme},DJ n l=some c->∃ e∈l,e.scheme=c
 | [],c,h=>by cases h
 | e :: l,c,h=>by
   rw[DJ]at h;split at h;cases h;exact⟨e,aB ..,rfl⟩;let⟨x,W,h⟩:=Yj h;exact⟨x,aD _ W,h⟩
def CA{ctx:Z Entry}(h:C4 m ctx){n:Z Nat}(hf:(uD ctx n).2=true):SO m (uD ctx n).1:=by
 unfold uD at hf ⊢;let⟨c,hc⟩:=bQ.1 hf;simp only[hc,eD];obtain⟨e,he,rfl⟩:=Yj hc;exact h e (by simpa using he)
def zpv(hD:DE D){ctx:Z Entry}(h:C4 m ctx){x:Xp}(hf:(ED D ctx x).2=true):SO m (ED D ctx x).1:=by
 unfold ED at hf ⊢;split at hf;rename_i hk;rw[if_pos hk];exact CA h hf;rename_i hk;rw[if_neg hk];split at hf;rename_i As;rw[if_pos As];exact(hD.ctor _ hf).up (aZ _);cases hf
theorem zls(hD:DE D){args:Z G}(ha:∀ x∈args,iA m 1 x)(n:Z Nat):∀ x∈(pG D n args).1,iA m 7 x:=by
 unfold pG;split;grind;rename_i dd c e;let⟨M,O⟩:=We e;split;intro x W;obtain⟨y,hy,rfl⟩:=aF.1 W;exact(zcv (zcL (aZ _) ha) _ (hD.zQO dd M c O y hy)).1;grind
def zim(p:α->Bool):∀ (l:Z α) (i:Int),0<=i->Go.J.gY p l i<i+l.length
 | [],i,h=>by show (-1:Int)<i+0;omega
 | x::l,i,h=>by
   rw[Go.J.gY,aL];split;omega;have:=zim p l (i+1) (by omega);omega
def zHm(n0 k:Nat)(rec:Nat->Nat->G->Xp->CS->Y (Bool×CS))(x:Xp):Prop:=∀ g s,n0<=s.1.sl.length->TO s.1 g->R1 s->s.1.sl.length+k<=900->s.2.length+k<=5000->∃ b s',Ev (λd f=>rec d f g x s=some (b,s'))/\yp k s s'
def Ze{n0:Nat}{rec:Nat->Nat->G->Xp->CS->Y (Bool×CS)}:∀ {xs:Z Xp} {is:Bool} {gs:Z G} {s:CS},(∀ x∈xs,zHm n0 k rec x)->n0<=s.1.sl.length->(is=true->gs.length=xs.length/\∀ g∈gs,TO s.1 g)->R1 s->s.1.sl.length+k*xs.length<=900->s.2.length+k*xs.length<=5000->∃ b s',Ev (λd f=>Ct (rec d f) is gs xs s=some (b,s'))/\yp (k*xs.length) s s'
 | [],is,gs,s,hr,h0,hg,C,M,O=>⟨is,s,.all λd f=>AB,.refl C _⟩
 |x::xs,false,gs,s,hr,h0,hg,C,M,O=>⟨false,s,.all λd f=>uM,.refl C _⟩
 |x::xs,true,[],s,hr,h0,hg,C,M,O=>by have:=(hg rfl).1;simp at this
 | x::xs,true,g::gs,s,hr,h0,hg,C,M,O=>by
   let⟨g1,g2⟩:=hg rfl;rw[aL,wZ]at M O;let⟨b,s1,e1,n1⟩:=hr x (aB ..) g s h0 (g2 g (aB ..)) C (by omega) (by omega);have hi:=n1.nx.hi;have hl:=n1.len;let⟨b2,s2,e2,n2⟩:=Ze (xs:=xs) (is:=b) (gs:=gs) (s:=s1) (λy hy=>hr y (aD _ hy)) (aO h0 n1.nx.lo) (λ_=>⟨by simpa using g1,λy hy=>n1.nx.to (g2 y (aD _ hy))⟩) n1.ok (by omega) (by omega);refine⟨b2,s2,(e1.and e2).mono λd f hq=>?_,(n1.trans n2).le (by rw[aL,wZ];omega)⟩;rw[Ea,hq.1,eQ];exact hq.2
def zgR(m k:Nat)(rec:Nat->Nat->Z Entry->G->Xp->CS->Y (Bool×CS))(x:Xp):Prop:=∀ ctx g s,ctx.length<=m->C4 s.1.sl.length ctx->TO s.1 g->R1 s->s.1.sl.length+k<=900->s.2.length+k<=5000->∃ b s',Ev (λd f=>rec d f ctx g x s=some (b,s'))/\yp k s s'
def Y9  (hD:DE D)  {rec:Nat->Nat->Z Entry->G->Xp->CS->Y (Bool×CS)} {ctx:Z Entry}  {args:Z G} (hc:ctx.length+2<=m):∀ {l:Z Am} {is:Bool} {s:CS},(∀ a∈l,zgR m k rec a.body/\a.vars.length<=2)->C4 s.1.sl.length ctx->(∀ x∈args,iA s.1.sl.length 1 x)->TO s.1 g->R1 s->s.1.sl.length+k*l.length<=900->s.2.length+k*l.length<=5000->∃ b s',Ev (λd f=>yX (rec d f) D args ctx g is l s=some (b,s'))/\yp (k*l.length) s s'
 | [],is,s,hr,W,ha,hg,C,M,O=>⟨is,s,.all λd f=>rfl,.refl C _⟩
 | a :: l,is,s,hr,W,ha,hg,C,M,O=>by
   by_cases c1:is=false\/(pG D a.dA args).1.length≠a.vars.length;exact⟨false,s,.all λd f=>by rw[yX,if_pos c1],.refl C _⟩
   cases hp:Dv [] a.vars (pG D a.dA args).1 ctx with
   |none=>exact⟨false,s,.all λd f=>by rw[yX,if_neg c1,hp],.refl C _⟩
   | some c =>
     rw[aL,wZ]at M O;let⟨r1,r2⟩:=hr a (aB ..);let⟨p1,p2⟩:=zcE _ _ _ _ _ hp (zls hD ha a.dA) W;let⟨b,s1,e1,n1⟩:=r1 c g s (by omega) p1 hg C (by omega) (by omega);have hi:=n1.nx.hi;have hl:=n1.len;let⟨b2,s2,e2,n2⟩:=Y9 hD hc (l:=l) (is:=b) (s:=s1) (λy hy=>hr y (aD _ hy)) (W.up n1.nx.lo) (λy hy=>(ha y hy).up n1.nx.lo) (n1.nx.to hg) n1.ok (by omega) (by omega);refine⟨b2,s2,(e1.and e2).mono λd f hq=>?_,(n1.trans n2).le (by rw[aL,wZ];omega)⟩;rw[yX,if_neg c1,hp];simp only;rw[hq.1,eQ];exact hq.2
theorem zqG  (hD:DE D)  {rec:Nat->Nat->Z Entry->G->Xp->CS->Y (Bool×CS)} {ctx:Z Entry}  {k0:Xp}  {s:CS} (hk:e.kids=k0::ks) (hc:ctx.length+2<=m) (s4:e.b8.length<=2) (hr:∀ a∈e.b8,zgR m k rec a.body/\a.vars.length<=2) (W:C4 s.1.sl.length ctx) (hg:TO s.1 g) (C:R1 s) (M:s.1.sl.length+(2*k+3)<=900) (O:s.2.length+(2*k+3)<=5000):∃ b s',Ev (λd f=>QW d f D (rec d f) ctx g e s=some (b,s'))/\yp (2*k+3) s s':=by
 by_cases c1:(uD ctx k0.name).2=false\/(Cs D e.b8).2=false\/(uD ctx k0.name).1.count≠0;exact⟨false,s,.all λd f=>by unfold QW;rw[hk];simp only;rw[if_pos c1],.refl C _⟩;have c2:=c1;simp only[not_or,Bool.not_eq_false]at c2;let⟨c3,c4,_⟩:=c2;have zLP:=CA W c3;let⟨b1,s1,e1,n1,z1⟩:=QS C.ok (by omega) hg;have sY:=n1.hi
 cases b1 with
 | false =>refine⟨false,(s1,s.2),e1.mono λd f hq=>?_,⟨n1.le (by omega),λx W=>n1.to (C.AM x W),fG _ _⟩⟩;unfold QW;rw[hk];simp only;rw[if_neg c1,hq,eQ]
 | true =>
   have kc:0<=Gh D e.b8:=(by unfold Cs at c4;simpa using c4);have cG:=zim (λd:Decl=>pI d.ctors e.b8) D 0 (fM _);have cG:Gh D e.b8<0+D.length:=cG;let⟨i,hi⟩:=bE kc;have hai:(Cs D e.b8).1=(i:Int):=(by unfold Cs;omega);have zOl:i<D.length:=(by omega);let⟨b2,s2,e2,n2,z2,v2,t2⟩:=zbg (D:=D) hD.pre.1 n1.ok z1 zOl (hD.par _ (ax zOl)) (by omega) (l:=s.2) (by omega) (n1.to zLP.ty) (λx W=>n1.to (C.AM x W));have ra:=n2.hi;have hmul:k*e.b8.length<=k*2:=kT _ s4;let⟨b3,s3,e3,n3⟩:=Y9 hD (rec:=rec) (ctx:=ctx) (g:=g) (args:=dJ s1.sl.length D[i].params.length) hc (l:=e.b8) (is:=b2) (s:=(s2,s.2++[(uD ctx k0.name).1.type])) hr (W.up (aO n1.lo n2.lo)) v2 (n2.to (n1.to hg)) ⟨n2.ok,t2⟩ (by show s2.sl.length+_<=_;omega) (by show (s.2++[_]).length+_<=_;rw[aR];show s.2.length+1+_<=_;omega);refine⟨b3,s3,((e1.and e2).and e3).mono λd f hq=>?_,⟨((n1.trans n2).trans n3.nx).le (by omega),n3.AM,?_⟩⟩;unfold QW;rw[hk];simp only;rw[if_neg c1,hq.1.1,eQ];simp_all;have:=n3.len;grind
def zfr(e:Xp):Prop:=e.depth<=1000/\e.b8.length<=1000/\(∀ a∈e.b8,a.vars.length<=2)/\(dE e).2.length<=1000
inductive B1:Nat->Nat->Xp->Prop
 |lam {m k k':Nat} {e k0:Xp} {ks:List Xp}:zfr e->e.kind=4->e.kids=k0::ks->B1 m k k0->k+2<=k'->B1 (m+1) k' e
 |ana {m k k':Nat} {e k0:Xp} {ks:List Xp}:zfr e->e.kind=8->e.kids=k0::ks->e.b8.length<=2->(∀ a∈e.b8,B1 m k a.body)->2*k+3<=k'->B1 (m+1) k' e
 |head {m k k':Nat} {e:Xp}:zfr e->e.kind≠4->e.kind≠8->(dE e).2.length<=2->(∀ x∈(dE e).2,B1 m k x)->2*k+8<=k'->B1 (m+1) k' e
theorem zfO  (hD:DE D)   (h:B1 m k e):m<=60->zgR (900-2*m) k (λd f=>gZ d f D m) e:=by
 induction h with
 | @lam m k k' e k0 ks hn hk rp _ lR ih =>
   intro hm ctx g s hc W hg C M O;have mu:WX D ctx e:=⟨hD.pre,by omega,hn.1,hn.2.1,λa ha=>by have:=hn.2.2.1 a ha;omega,hn.2.2.2⟩;let⟨a,b,r,s1,e1,n1,o1⟩:=LB C.ok (by omega) hg;have sY:=n1.hi
   cases r with
   | false =>refine⟨false,(s1,s.2),e1.mono λd f hq=>?_,⟨n1.le (by omega),λx W=>n1.to (C.AM x W),fG _ _⟩⟩;show gZ d f D (m+1) ctx g e s=_;rw[gZ,if_pos mu,if_pos hk,rp];simp_all
   | true =>let⟨oa,zK7⟩:=o1 rfl;let⟨b3,s3,e3,n3⟩:=ih (by omega) (ctx++[⟨e.name,mono a⟩]) b (s1,s.2) (by rw[aR];show ctx.length+1<=_;omega) ((W.up n1.lo).snoc oa _) zK7 ⟨n1.ok,λx W=>n1.to (C.AM x W)⟩ (by show s1.sl.length+_<=_;omega) (by show s.2.length+_<=_;omega);refine⟨b3,s3,(e1.and e3).mono λd f hq=>?_,⟨(n1.trans n3.nx).le (by omega),n3.AM,?_⟩⟩;show gZ d f D (m+1) ctx g e s=_;rw[gZ,if_pos mu,if_pos hk,rp];simp_all;have:s3.2.length<=s.2.length+k:=n3.len;omega
 | @ana m k k' e k0 ks hn hk rp s4 _ lR ih =>intro hm ctx g s hc W hg C M O;have mu:WX D ctx e:=⟨hD.pre,by omega,hn.1,hn.2.1,λa ha=>by have:=hn.2.2.1 a ha;omega,hn.2.2.2⟩;let⟨b3,s3,e3,n3⟩:=zqG hD (m:=900-2*m) (k:=k) (rec:=λd f=>gZ d f D m) (g:=g) rp (by omega) s4 (λa ha=>⟨ih a ha (by omega),hn.2.2.1 a ha⟩) W hg C (by omega) (by omega);refine⟨b3,s3,e3.mono λd f hq=>?_,n3.le lR⟩;show gZ d f D (m+1) ctx g e s=_;rw[gZ,if_pos mu,if_neg (by omega),if_pos hk];exact hq
 | @head m k k' e hn An v9 rn _ lR ih =>
   intro hm ctx g s hc W hg C M O;have mu:WX D ctx e:=⟨hD.pre,by omega,hn.1,hn.2.1,λa ha=>by have:=hn.2.2.1 a ha;omega,hn.2.2.2⟩;by_cases hh:(ED D ctx (dE e).1).2=true;have hmul:k*(dE e).2.length<=k*2:=kT _ rn;let⟨acc,e0,s1,r0,e1,n1,o1,t1⟩:=zk8 (D:=D) C.ok (k:=(dE e).2.length) (by omega) (l:=s.2) (by omega) (zpv hD W hh) hg C.AM;have sY:=n1.hi;let⟨b3,s3,e3,n3⟩:=Ze (k:=k) (rec:=λd f=>gZ d f D m ctx) (xs:=(dE e).2) (is:=e0) (gs:=acc) (s:=(s1,s.2++[r0])) (λx u3 g s' h0' hg' a9 wx PF=>ih x u3 (by omega) ctx g s' (by omega) (W.up h0') hg' a9 wx PF) n1.lo o1 ⟨n1.ok,t1⟩ (by show s1.sl.length+_<=_;omega) (by show (s.2++[_]).length+_<=_;rw[aR];show s.2.length+1+_<=_;omega);refine⟨b3,s3,(e1.and e3).mono λd f hq=>?_,⟨(n1.trans n3.nx).le (by omega),n3.AM,?_⟩⟩;show gZ d f D (m+1) ctx g e s=_;rw[gZ,if_pos mu,if_neg An,if_neg v9,if_pos hh,hq.1,eQ];simp_all;have:=n3.len;grind;refine⟨false,s,.all λd f=>?_,.refl C _⟩;show gZ d f D (m+1) ctx g e s=_;rw[gZ,if_pos mu,if_neg An,if_neg v9,if_neg hh]
def AL:∀ d∈La,d.params.length<=2/\d.ctors.length<=2/\d.ctors≠[]/\∀ c∈d.ctors,c.fields.length<=2/\Hp c.name=true/\(Ay d c.fields).ok=true/\(Ay d c.fields).closed true=true/\(Ay d c.fields).size<=7 /\
 ∀ x∈c.fields,x.ok=true/\x.size<=7/\(G.ia d.params x).ok=true/\(G.ia d.params x).closed true=true/\(G.ia d.params x).size<=7/\(G.ia d.params x).rU 3=false:=by decide
def zpY(bits:Int):DE (bA bits):=by
 have C:=λd (hd:d∈bA bits)=>AL d (kH hd);refine⟨⟨by have:=R9 bits;omega,λd hd=>?_⟩,λd hd=>(C d hd).1,λn hn=>?_,λd hd c hc x W=>?_⟩;let⟨M,O,_,h3⟩:=C d hd
 exact⟨by omega,by omega,λc hc=>⟨by have:=(h3 c hc).1;omega,λx W=>by
  let⟨g1,g2,_⟩:=(h3 c hc).2.2.2.2.2 x W
  exact⟨g1,by omega⟩⟩⟩
 unfold Im at hn ⊢;split at hn;cases hn;rename_i dd c e;let⟨M,O⟩:=We e;let⟨p1,_,_,p2⟩:=C dd M;let⟨_,_,q1,q2,q3,_⟩:=p2 c O;exact⟨(J2 _ q1 q2).le q3,by show (min (max ((dd.params.length:Nat):Int) 0) _).toNat<=2;omega⟩;let⟨_,_,q1,q2,q3,_⟩:=((C d hd).2.2.2 c hc).2.2.2.2.2 x W;exact(J2 _ q1 q2).le q3
def yr:Nat->Nat
 | 0=>8
 |d+1=>2*yr d+8
def Uu{k p m:Int}{n:Z Nat}:dE (.mk k p n m [] [] t)=(.mk k p n m [] [] t,[]):=rz (λh=>by have:=(Xp.xV.1 h).2;simp at this)
def zeX(f a:Xp):dE (Ue f a)=((dE f).1,(dE f).2++[a]):=uq (e:=Ue f a) rfl
def WH{P:Xp->Prop}(ih:∀ t,P (gp d t D N).2)(t:Tp)(he:(dE e).2=[]/\e.b8=[]/\(e.kind=1\/e.kind=2)):∀ i,(dE (lJ d t D N e i).2).2.length=i/\(∀ x∈(dE (lJ d t D N e i).2).2,P x)/\(lJ d t D N e i).2.b8=[]/\((lJ d t D N e i).2.kind=1\/(lJ d t D N e i).2.kind=2\/(lJ d t D N e i).2.kind=5)
 | 0=>by rw[lJ];simp only;rw[he.1];exact⟨rfl,λx W=>(by cases W),he.2.1,by have:=he.2.2;omega⟩
 | i+1=>by
   let⟨M,O,h3,h4⟩:=WH ih t he i;rw[lJ];simp only;rw[zeX];refine⟨by simp only[aR,M];rfl,λx W=>?_,rfl,.inr (.inr rfl)⟩;rcases bu.1 W with W|W;exact O x W;rw[ag]at W;subst W;exact ih _
theorem zjA  (hD2:Se D) (hD:∀ d∈D,d.ctors.length<=2/\d.ctors≠[]/\∀ c∈d.ctors,c.fields.length<=2):∀ (d:Nat) (t:Tp) (N:Z (Z Nat)),d<=100->B1 (d+1) (yr d) (gp d t D N).2:=by
 intro d
 induction d using Nat.strongRecOn with
 | _ d ih =>
   intro t N hd;have sA:=Mh hD2 d t N;let⟨_,Nm,_⟩:=sA;have zLN:(dE (gp d t D N).2).2.length<(gp d t D N).2.depth:=(nS _).2.2
   have key:(gp d t D N).2.depth<=1000->B1 (d+1) (yr d) (gp d t D N).2:=by
    clear Nm zLN;refine PN (P:=λe=>e.depth<=1000->B1 (d+1) (yr d) e) d t N (λd' t' e W=>?_) (λd' t' e hN dd jz n hn W=>?_) λt'=>?_;subst e;refine .lam ⟨W,by show 0<=1000;omega,λa ha=>(by cases ha),by have:=(nS (Xd [119] (gp d' t' D (N++[[119]])).2)).2.2;omega⟩ rfl rfl (ih d' (by omega) _ _ (by omega)) ?_;show yr d'+2<=2*yr d'+8;omega;subst e;let⟨M,O,h3⟩:=hD dd jz;have s4:(zM (zH n) (kI d' t' D N dd.ctors dd.ctors.length).2).b8=(kI d' t' D N dd.ctors dd.ctors.length).2:=rfl
    have ya:∀ a∈(kI d' t' D N dd.ctors dd.ctors.length).2,a.vars.length<=2/\B1 (d'+1) (yr d') a.body:=λa ha=>by
     let⟨j,hj⟩:=jf.1 ha;obtain⟨t2,rfl⟩:=O3 _ _ _ _ _ _ _ _ hj;refine⟨?_,ih d' (by omega) _ _ (by omega)⟩;show (j6 _).length<=2;rw[BA]
     cases hc:dd.ctors[j]? with
     |none=>show 0<=2;omega
     |some c=>exact h3 c (aI hc)
    refine .ana (k:=yr d') ⟨W,by rw[s4,D9];omega,λa ha=>(ya a ha).1,by have:=(nS (zM (zH n) (kI d' t' D N dd.ctors dd.ctors.length).2)).2.2;omega⟩ rfl rfl (by rw[s4,D9];exact M) (λa ha=>(ya a ha).2) ?_;show 2*yr d'+3<=2*yr d'+8;omega;refine MR (Q:=λe=>(dE e).2=[]/\e.b8=[]/\(e.kind=1\/e.kind=2)) (P:=λe=>e.depth<=1000->B1 (d+1) (yr d) e) (λdd jz=>(hD dd jz).2.1) d (λn _=>⟨by unfold zH;rw[Uu],rfl,.inl rfl⟩) (λdd _ c _=>⟨by unfold SG;rw[Uu],rfl,.inr rfl⟩) (λe he W=>?_) (λd' e t2 e2 i hi he W=>?_) t';refine .head (k:=0) ⟨W,by rw[he.2.1];show 0<=1000;omega,(λa ha=>by rw[he.2.1]at ha;cases ha),by rw[he.1];show 0<=1000;omega⟩ (by omega) (by omega) (by rw[he.1];show 0<=2;omega) (λx W=>by rw[he.1]at W;cases W) ?_
    cases d with
    |zero=>exact af _
    |succ d=>show 8<=2*yr d+8;omega
    subst e;let⟨M,O,h3,h4⟩:=WH (P:=B1 (d'+1) (yr d')) (D:=D) (N:=N) (λt=>ih d' (by omega) t N (by omega)) t2 he i;exact .head (k:=yr d') ⟨W,by rw[h3];show 0<=1000;omega,(λa ha=>by rw[h3]at ha;cases ha),by rw[M];omega⟩ (by omega) (by omega) (by rw[M];exact hi) O (af _)
   grind
def YV:∀ {cs:Z Ctor} {n:Z Nat} {k:Nat},(∃ c∈cs,c.name=n)->(LH cs n k).isSome=true
 | [],n,k,h=>by let⟨c,hc,_⟩:=h;cases hc
 | c :: l,n,k,h=>by
   rw[LH];split;rfl;rename_i cg;let⟨x,W,hn⟩:=h;rcases ay.1 W with rfl|W;exact absurd (by simpa using hn) cg;exact YV ⟨x,W,hn⟩
def Qv:∀ {D:Z Decl} {n:Z Nat} {i:Nat},(∃ d∈D,∃ c∈d.ctors,c.name=n)->(zQ D n i).isSome=true
 | [],n,i,h=>by let⟨d,hd,_⟩:=h;cases hd
 | d :: l,n,i,h=>by
   rw[zQ];split;rfl;rename_i cg;let⟨x,W,c,hc,hn⟩:=h;rcases ay.1 W with rfl|W;have:=YV (k:=0) ⟨c,hc,hn⟩;rw[cg]at this;cases this;exact Qv ⟨x,W,c,hc,hn⟩
def QU:∀ {cs:Z Ctor} {l:Z Am},pI cs l=true↔cs.map (·.name)=l.map (·.dA)
 | [],[]=>by simp[pI]
 | [],a::l=>by simp[pI]
 |c::cs,[]=>by simp[pI]
 |c::cs,a::l=>by simp[pI,QU (cs:=cs) (l:=l)]
def zin(p:α->Bool):∀ (l:Z α) (i:Int),0<=i->0<=Go.J.gY p l i->∃ (j:Nat) (x:α),Go.J.gY p l i=i+j/\l[j]?=some x/\p x=true
 | [],i,hi,h=>by have h:(0:Int)<=-1:=h;omega
 | x :: l,i,hi,h=>by
   rw[Go.J.gY]at h ⊢;split;rename_i W;exact⟨0,x,by simp,rfl,W⟩;rename_i W;rw[if_neg W]at h;let⟨j,y,M,O,h3⟩:=zin p l (i+1) (by omega) h;exact⟨j+1,y,by rw[M];omega,by simpa using O,h3⟩
def zmd:∀ d∈La,∀ d'∈La,d.ctors.map (·.name)=d'.ctors.map (·.name)->d.ctors.map (·.fields.length)=d'.ctors.map (·.fields.length):=by decide
def FB(h:n<=2):(j6 n).Nodup/\∀ v∈j6 n,jC v=true:=by
 match n,h with
 | 0,_=>exact⟨by decide,by decide⟩
 | 1,_=>exact⟨by decide,by decide⟩
 | 2,_=>exact⟨by decide,by decide⟩
theorem zqA {bits:Int}  {t:Tp}   (hd:dd∈bA bits):W0 (bA bits) (kI d t (bA bits) N dd.ctors dd.ctors.length).2:=by
 obtain⟨l,hl⟩:∃ l,(kI d t (bA bits) N dd.ctors dd.ctors.length).2=l:=⟨_,rfl⟩;have hat:=O3 d t (bA bits) N dd.ctors dd.ctors.length;have hlen:=D9 d t (bA bits) N dd.ctors dd.ctors.length;rw[hl]at hat hlen ⊢
 have HH:dd.ctors.map (·.name)=l.map (·.dA):=by
  refine o8 λj=>?_;rw[bC,bC]
  cases hj:l[j]? with
  | none =>grind
  | some a =>have ju:j<dd.ctors.length:=(by grind);obtain⟨t',rfl⟩:=hat j a hj;simp_all
 have h0:0<=Gh (bA bits) l:=by have M:(bA bits).any (λd:Decl=>pI d.ctors l)=true:=dN.2 ⟨dd,hd,QU.2 HH⟩;have O:=Go.J.AZ (λd:Decl=>pI d.ctors l) (bA bits) 0 (fM _);rw[M]at O;exact of_decide_eq_true O
 let⟨k,d',M,O,h3⟩:=zin (λd:Decl=>pI d.ctors l) (bA bits) 0 (fM _) h0;have Ax:=aI O;have kj:=QU.1 h3;have hfl:=zmd _ (kH hd) _ (kH Ax) (HH.trans kj.symm);have zMb:=(AL dd (kH hd)).2.2.2;refine⟨k,d',O,by show Gh _ _=_;unfold Gh;rw[M];omega,?_,λi a c ha hc=>?_,λa ha=>?_⟩;have:=congrArg List.length kj;grind;obtain⟨t',rfl⟩:=hat i a ha;have e:=congrArg (λl:Z Nat=>l[i]?) hfl;simp only[bC,hc,kr]at e
 cases hci:dd.ctors[i]? with
 |none=>rw[hci]at e;cases e
 | some c2 =>rw[hci]at e;have e:c2.fields.length=c.fields.length:=(by simpa using e);have wj:=(zMb c2 (aI hci)).1;simp only[Am.AQ,eD,BA];exact⟨e,(FB wj).1⟩
 let⟨j,hj⟩:=jf.1 ha;have ju:j<dd.ctors.length:=by grind
 obtain⟨t',rfl⟩:=hat j a hj;rw[az ju];exact Qv ⟨dd,hd,_,ax ju,rfl⟩
section
variable {bits:Int}
def zez{n:Z Nat}(h:jC n=true):Wf (bA bits) (zH n) :=
 .mk ⟨rfl,rfl,rfl,.inl ⟨rfl,h,rfl,rfl⟩,λa ha=>(by cases ha)⟩ ⟨λe=>(by cases e),λe=>(by cases e)⟩ λx W=>(by cases W)
def zw5(hd:dd∈bA bits){c:Ctor}(hc:c∈dd.ctors):Wf (bA bits) (SG c.name) :=
 .mk ⟨rfl,rfl,rfl,.inr (.inl ⟨rfl,(((AL dd (kH hd)).2.2.2) c hc).2.1,rfl,rfl⟩),λa ha=>(by cases ha)⟩ ⟨λ_=>Qv ⟨dd,hd,c,hc,rfl⟩,λe=>(by cases e)⟩ λx W=>(by cases W)
def zw6{f a:Xp}(hf:Wf (bA bits) f)(ha:Wf (bA bits) a):Wf (bA bits) (Ue f a) :=
 .mk ⟨rfl,rfl,rfl,.inr (.inr (.inr (.inl ⟨rfl,rfl,rfl,rfl⟩))),λa ha=>(by cases ha)⟩ ⟨λe=>(by cases e),λe=>(by cases e)⟩ λx W=>by
  have W:x∈[f,a]:=W;simp only[ay,aU,or_false]at W;rcases W with rfl|rfl;exact hf;exact ha
def ziU(ih:∀ t,Wf (bA bits) (gp d t (bA bits) N).2)(t:Tp)(he:Wf (bA bits) e):∀ i,Wf (bA bits) (lJ d t (bA bits) N e i).2
 | 0=>by rw[lJ];exact he
 |i+1=>by rw[lJ];exact zw6 (ziU ih t he i) (ih _)
theorem znk:∀ (d:Nat) (t:Tp) (N:Z (Z Nat)),(∀ n∈N,jC n=true)->Wf (bA bits) (gp d t (bA bits) N).2:=by
 intro d
 induction d using Nat.strongRecOn with
 | _ d ih =>
   intro t N hN;have W:jC [120]=true:=(by decide);have hw:jC [119]=true:=(by decide);refine PN (P:=Wf (bA bits)) d t N (λd' t' e=>?_) (λd' t' e cg dd jz n hn=>?_) λt'=>?_;refine .mk ⟨rfl,rfl,rfl,.inr (.inr (.inl ⟨rfl,hw,rfl,rfl⟩)),λa ha=>(by cases ha)⟩ ⟨λe=>(by cases e),λe=>(by cases e)⟩ λx W=>?_;have W:x∈[(gp d' t' (bA bits) (N++[[119]])).2]:=W;grind;let⟨M,O,h3,h4⟩:=AL dd (kH jz);have hlen:=D9 d' t' (bA bits) N dd.ctors dd.ctors.length;have hdw:=zqA (d:=d') (t:=t') (N:=N) jz;have ya:∀ a∈(kI d' t' (bA bits) N dd.ctors dd.ctors.length).2,(a.pos=0/\Hp a.dA=true/\a.vars.length<=4/\∀ v∈a.vars,jC v=true)/\Wf (bA bits) a.body:=λa ha=>(by let⟨j,hj⟩:=jf.1 ha;have ju:j<dd.ctors.length:=(by grind);obtain⟨t2,rfl⟩:=O3 _ _ _ _ _ _ _ _ hj;rw[az ju,eD];let⟨g1,g2,_⟩:=h4 _ (ax ju);refine⟨⟨rfl,g2,?_,(FB g1).2⟩,ih d' (by omega) _ _ λn hn=>?_⟩;show (j6 _).length<=4;rw[BA];omega;rcases bu.1 hn with hn|hn;exact hN n hn;exact(FB g1).2 n hn);refine .mk ⟨rfl,rfl,rfl,.inr (.inr (.inr (.inr ⟨rfl,rfl,rfl,λe=>?_,?_⟩))),λa ha=>(ya a ha).1⟩ ⟨λe=>(by cases e),λ_=>hdw⟩ λx W=>?_;have e:(kI d' t' (bA bits) N dd.ctors dd.ctors.length).2=[]:=e;grind;show (kI d' t' (bA bits) N dd.ctors dd.ctors.length).2.length<=100;omega;rcases bu.1 W with W|W;have W:x∈[zH n]:=W;rw[ag]at W;subst W;exact zez (hN n hn);obtain⟨a,ha,rfl⟩:=aF.1 W;exact(ya a ha).2;refine MR (Q:=Wf (bA bits)) (P:=Wf (bA bits)) (λdd jz=>(AL dd (kH jz)).2.2.1) d (λn hn=>?_) (λdd jz c hc=>zw5 jz hc) (λe he=>he) (λd' e t2 e2 i hi he=>?_) t';rcases hn with hn|rfl;exact zez (hN n hn);exact zez W;subst e;exact ziU (λt=>ih d' (by omega) t N hN) t2 he i
def QG(t:Tp):∀ (n:Nat),∀ e∈(Fx (bA bits) t n).2,jC e.name=true
 | 0,e,he=>by cases he
 | n + 1,e,he=>by
   have key:∀ u:Tp,jC (varName u)=true:=λu=>(by have M:=yL u 8;have O:=AV u (n:=8) (by decide);have b7:∀ x∈varNames,jC x=true:=(by decide);unfold varName;let⟨j,hj⟩:=bE M;have ju:j<varNames.length:=(by show j<8;omega);rw[hj,bO,az ju];exact b7 _ (ax ju));rw[Fx]at he;unfold Hf at he;dsimp only at he;split at he;rcases bu.1 he with he|he;exact QG t n e he;rw[ag]at he;subst he;exact key _;rcases bu.1 he with he|he;exact QG t n e he;rw[ag]at he;subst he;exact key _
end
theorem Rv(h:kW c=true):c.type.valid=true:=by
 unfold kW at h;grind
def zht(h:t.valid=true)(C:t.size<=10000):tok t=true:=TH.2 ⟨C,zbL t h,Rc t h⟩
def zzF(bits:Int)(t:Tp)(n:Nat):∀ e∈(Fx (bA bits) t n).2,SO 0 e.scheme/\kW e.scheme=true/\e.scheme.type.closed true=true/\e.scheme.type.size<=7:=λe he=>by
 have h:=Sa (R8 bits) (EI bits) t n e he;unfold zdv at h;simp only[aW,decide_eq_true_eq]at h;let⟨⟨⟨M,O⟩,h3⟩,h4⟩:=h;exact⟨⟨(J2 _ (zbL _ (Rv M)) O).le h3,by unfold sO;omega⟩,M,O,h3⟩
def zpZ(hl:l.length<=3)(h:∀ e∈l,kW e.scheme=true/\e.scheme.type.size<=7)(hg:g.valid=true)(C:g.size<=7):Ek l g=true :=
 zbV.2 ⟨by omega,zht hg (by omega),λe he=>zht (Rv (h e he).1) (by have:=(h e he).2;omega)⟩
theorem ztu{bits:Int}(hc:b6.length<=60):∃ d f r,SE d f 4 (bA bits) (gX b6 (bA bits)).1 (gX b6 (bA bits)).2.1 (gX b6 (bA bits)).2.2.1 r:=by
 obtain⟨t,ht⟩:∃ t:Tp,t=⟨b6,0⟩:=⟨_,rfl⟩;have zLK:t.ok:=by rw[ht];exact⟨fM _,by show b6.length<=100000;omega⟩
 have ew:=Xw (R8 bits) (EI bits) b6;have hlen:=(EK (D:=bA bits) zLK).2;unfold gX at ew ⊢;dsimp only at ew ⊢;rw[<- ht]at ew ⊢;have zpz:∀ e∈(lW t (bA bits)).2.1,SO 0 e.scheme/\kW e.scheme=true/\e.scheme.type.closed true=true/\e.scheme.type.size<=7:=zzF bits _ _;have zL2:∀ e∈(lW t (bA bits)).2.1,jC e.name=true:=QG _ _;have zwz:iA 0 7 (lW t (bA bits)).2.2:=zua (EI bits) _;have hgv:(lW t (bA bits)).2.2.valid=true:=by unfold EM at ew;grind
 generalize (lW t (bA bits)).2.1=ctx at *;generalize (lW t (bA bits)).2.2=g at *;generalize (lW t (bA bits)).1=u at *;have hD:=λd (hd:d∈bA bits)=>AL d (kH hd);have zMh:B1 4 (yr 3) (gp 3 u (bA bits) (ctx.map (·.name))).2:=zjA (EJ bits) (λd hd=>⟨(hD d hd).2.1,(hD d hd).2.2.1,λc hc=>((hD d hd).2.2.2 c hc).1⟩) 3 u _ (by decide);have sA:=Mh (EJ bits) 3 u (ctx.map (·.name));have hwf:Wf (bA bits) (gp 3 u (bA bits) (ctx.map (·.name))).2:=znk 3 u _ λn hn=>by obtain⟨e,he,rfl⟩:=aF.1 hn;exact zL2 e he
 have A5:=zbY (D:=bA bits) 3 u (ctx.map (·.name));have hde:=zpY bits;generalize (gp 3 u (bA bits) (ctx.map (·.name))).2=e at *;have eR:R1 ((⟨none,[],[]⟩:MS),[]):=⟨⟨ao.zu0,af _,λ_=>rfl,aZ _⟩,λx W=>(by cases W)⟩;have hb:yr 3=120:=rfl;let⟨b,s',⟨N,hN⟩,hn⟩:=zfO hde zMh (by decide) ctx g ((⟨none,[],[]⟩:MS),[]) (by omega) (λe he=>(zpz e he).1) zwz eR (by rw[hb];decide) (by rw[hb];decide);refine⟨N,N,(b,s'),⟨hde.pre,by omega,zpZ hlen (λe he=>⟨(zpz e he).2.1,(zpz e he).2.2.2⟩) hgv zwz.size,ew,by have:=sA.2.1;omega,hwf,sA.fit (by decide),A5,λ_=>hN N N (af _) (af _),λ_=>⟨?_,λx W=>(hn.AM x W).ok,?_⟩⟩⟩;exact hn.nx.ok.ia.E8.mF (by have:=hn.nx.ok.T7;omega);have:=hn.len;rw[hb]at this;show s'.2.length<=20000;have h0:((⟨none,[],[]⟩:MS),([]:Z G)).2.length=0:=rfl;omega
def LR(o:Y Nat):Int:=match o with
 |none=>-1
 |some i=>(i:Int)
def Km{i:Int}(h:-9223372036854775808<i:=by omega)(O:i<9223372036854775808:=by omega):IntKind.i64.wrap (i-1)=i-1:=wrap_i64 (by omega) (by omega)
section
variable {I:Nat->Value}(hρ:J.Good I)
include hρ
section
variable (U:E.P=Pg)(aq:bK I E)
include U aq
def zoW{l:Z (Z Nat)}(hl:l.length<=1000000)(C:HS):aS I Pg 223 [enc l,enc x] C (enc (decide (x∈l))) C:=by
 refine fn hρ U aq Tryz.func223 SB.2 rfl (by simp) ?_ C;generalize hr:decide (x∈l)=r;simp[U];refine rA hρ U aq l.length (nn:=0) (λi (_:Unit)=>[(0,.sl (l.map b5) false),(1,.str x),(5,.int .i64 (i:Int))]) (λi _=>[]) (λi _=>decide (x∈l.drop i)=r) () (aw.auto) (by simpa using hr) ?_ ?_;intro _ h K;rw[bz]at h;simp at h;simp[U];refine bM.mk (aw.auto (TL:=[]) (HL:=[]) (n:=0)) ?_;simp[h];intro i _ hi h K hK;have cm:(i:Int)<l.length:=by omega
 have cr:=bG (i:=i);rw[aG hi]at h;by_cases he:l[i]=x;simp[he]at h;simp[U,hi,cm,he];refine bM.mk (aw.auto (TL:=[(4,.bool true)]) (HL:=[]) (n:=0)) ?_;simp[h];have he2:¬ x=l[i]:=λe=>he e.symm;simp only[ay,he2,false_or]at h;have aE:=hK () h;simp[U,hi,cm,he,cr,-Int.natCast_add];exact aE _ _ (aw.auto)
def ztz{l:Z (Z Nat)}(hl:l.length<=1000000)(C:HS):aS I Pg 147 [enc l,enc x] C (enc (LR (GK l x))) C:=by
 refine fn hρ U aq Tryz.func147 LY.2 rfl (by simp) ?_ C;generalize hr:LR (GK l x)=r;have On:=Km (i:=(l.length:Int));simp[U,On];refine rA hρ U aq l.length (nn:=0) (λj (_:Unit)=>[(0,.sl (l.map b5) false),(1,.str x),(5,.int .i64 ((l.length:Int)-1-(j:Int)))]) (λi _=>[]) (λj _=>LR (AH x (l.take (l.length-j)).reverse)=r) () (aw.auto) (by simpa [GK]using hr) ?_ ?_;intro _ h K;rw[iW]at h;simp[AH,LR]at h;have h0:(l.length:Int)-1-(l.length:Int)=-1:=by omega
 simp[U,h0];refine bM.mk (aw.auto (TL:=[]) (HL:=[]) (n:=0)) ?_;simp[h];intro j _ hj h K hK;obtain⟨m,hm⟩:∃ m,l.length-j=m+1:=⟨l.length-j-1,by omega⟩;have RJ:m<l.length:=by omega
 have hme:(l.length:Int)-1-(j:Int)=(m:Int):=by omega
 have yW:(m:Int)<l.length:=by omega
 have cr:=Km (i:=(m:Int));rw[hm,df RJ,q9,List.reverse_singleton,mH,AH]at h;rw[hme];have aE:=hK ();rw[show l.length-(j+1)=m by omega,show (l.length:Int)-1-((j+1:Nat):Int)=(m:Int)-1 by omega]at aE;by_cases he:l[m]=x;rw[if_pos he]at h;simp[LR,Nat.min_eq_left (dG RJ)]at h;simp[U,RJ,yW,he];refine bM.mk (aw.auto (TL:=[(4,.int .i64 (m:Int))]) (HL:=[]) (n:=0)) ?_;simp[h];rw[if_neg he]at h;have aE:=aE h;simp[U,RJ,yW,he,cr];exact aE _ _ (aw.auto)
theorem zoU(h0:1<=k)(h9:k<100)(C:HS):aS I Pg 222 [enc (k:Int)] C (enc (Te k)) C:=by
 refine fn hρ U aq Tryz.func222 LX.2 rfl (by simp) ?_ C;have M:¬ k=0:=by omega
 have O:¬ (k:Int)<0:=by omega
 simp[U,M,O];refine rA hρ U aq (if k<10 then 1 else 2) (nn:=0) (λi (q:Nat×Z Nat)=>[(0,.int .i64 (k:Int)),(3,.str q.2),(4,.int .i64 (q.1:Int))]) (λi _=>[]) (λi q=>(i=0/\q=(k,[]))\/(i=1/\q=(k / 10,[48+k % 10]))\/(i=2/\q=(0,[48+k / 10,48+k % 10]))) (k,[]) (aw.auto) (by simp) ?_ ?_;rintro ⟨v,s⟩ h K;obtain⟨rfl,rfl⟩:v=0/\s=Te k:=by unfold Te;split at h<;>rcases h with⟨h,e⟩|⟨h,e⟩|⟨h,e⟩<;>cases e<;>first|omega|simp[*]<;>omega
 simp[U];refine bM.mk (aw.auto (TL:=[(0,.int .i64 (k:Int)),(3,.str (Te k))]) (HL:=[]) (n:=0)) ?_;simp[U,O];rintro i ⟨v,s⟩ hi h K hK;obtain⟨h3,h4⟩:¬ v=0/\v<100:=by split at hi<;>rcases h with⟨h,e⟩|⟨h,e⟩|⟨h,e⟩<;>cases e<;>omega
 have aE:=hK (v / 10,(48+v % 10)::s) (by
  split at hi<;>rcases h with⟨h,e⟩|⟨h,e⟩|⟨h,e⟩<;>cases e<;>simp[*]<;>omega)
 have kx:s.length<=2:=by rcases h with⟨h,e⟩|⟨h,e⟩|⟨h,e⟩<;>cases e<;>simp
 have ht:(v:Int).tmod 10=((v % 10:Nat):Int):=rfl;have hq:(v:Int).tdiv 10=((v / 10:Nat):Int):=rfl;have hd:v % 10<10:=by omega
 have hu:v / 10<10:=by omega
 generalize v % 10=d at ht hd aE;generalize v / 10=u at hq hu aE;have W6:IntKind.i64.wrap (u:Int)=u:=wrap_i64 (by omega) (by omega);have hd0:¬ (d:Int)<0:=by omega
 have hw:=bG (i:=d);have rn:List.take 1 (List.drop d [48,49,50,51,52,53,54,55,56,57])=[48+d]:=(by decide:∀ d,d<10->List.take 1 (List.drop d [48,49,50,51,52,53,54,55,56,57])=[48+d]) d hd;simp[U,h3,ht,hq,hd0,hw,W6,xE,Ux,bounds,NZ,fE,Ab,hd,(show d<=9 by omega),rn,Ia,(show 1+s.length<=1048576 by omega),-Int.natCast_add];exact aE _ _ (aw.auto)
def FO:J.Spec:=K4 (cB λ(l:Z (Z Nat)) (x:Z Nat)=>if l.length<=1000000 then some (decide (x∈l))else none)
def zcq(k:Int):Y (Z Nat):=if 1<=k/\k<100 then some (Te k.toNat)else none
def ztA (hN:E.dA 222=dC (cz zcq)) (hH:E.dA 223=FO)   {r:Z Nat} (hT:T.length<=1000000) (hn:n<=100000) (h:DQ T 90 1 n=some r) (C:HS):aS I Pg 148 [enc (n:Int),enc T] C (enc r) C:=by
 refine fn hρ U aq Tryz.func148 LZ.2 rfl (by simp) ?_ C;have hn0:¬ (n:Int)<0:=by omega
 simp[U,hn0];refine rA hρ U aq 90 (nn:=0) (λi (n:Nat)=>[(0,.int .i64 (n:Int)),(1,.sl (T.map b5) false),(5,.int .i64 ((i+1:Nat):Int))]) (λi _=>[]) (λi n=>DQ T (90-i) (i+1) n=some r/\n<=100000) n (aw.auto) ⟨h,hn⟩ ?_ ?_;rintro n ⟨h,_⟩ K;cases h;rintro i n hi ⟨h,hn⟩ K hK;obtain⟨f,hf⟩:∃ f,90-i=f+1:=⟨89-i,by omega⟩;rw[hf,DQ]at h;have hk:zcq ((i+1:Nat):Int)=some (Te (i+1)):=by unfold zcq;rw[if_pos (by omega),bO]
 have hw:=bG (i:=i+1);have ot:(Te (i+1)).length<=2:=by unfold Te;split<;>simp
 have oA:Yd (i+1)=118::Te (i+1):=rfl;rw[oA]at h;generalize Te (i+1)=s at h hk ot;have hl:1+s.length<=1048576:=by omega
 have aE:=λn' h'=>hK n' h';rw[show 90-(i+1)=f by omega]at aE;split at h;rename_i hc;have aE:=aE n ⟨h,hn⟩;simp[U,hN,hH,FO,hk,Ia,hl,hT,hc,hw,-Int.natCast_add];exact aE _ _ (aw.auto);rename_i hc;split at h;rename_i h0;cases h;subst h0;simp[U,hN,hH,FO,hk,Ia,hl,hT,hc,hw,-Int.natCast_add];refine bM.mk (aw.auto (TL:=[(4,.str (118::s))]) (HL:=[]) (n:=0)) ?_;simp;rename_i h0;have aE:=aE (n-1) ⟨h,by omega⟩;have BT:¬ (n:Int)=0:=by omega
 have hwp:IntKind.i64.wrap ((n:Int)-1)=((n-1:Nat):Int):=by rw[Km];omega
 simp[U,hN,hH,FO,hk,Ia,hl,hT,hc,hw,BT,h0,hwp,-Int.natCast_add];exact aE _ _ (aw.auto)
def ztD(hv:E5 e)(hi:i<e.kids.length+e.b8.length)(C:HS):aS I Pg 144 [enc e,.int .i64 (i:Int)] C (enc (fO e i)) C:=by
 refine fn hρ U aq Tryz.func144 L6.2 rfl (by simp) ?_ C;have hn:=yu hv;let⟨ek,ep,en,em,ks,cq,⟨m8,mL,m9,nq,m7⟩⟩:=e;let⟨_,_,_,h,_⟩:=hv;simp only[Xp.fH,Xp.kL,Xp.lh]at hi h hn;rcases h with⟨rfl,_,rfl,rfl⟩|⟨rfl,_,rfl,rfl⟩|⟨rfl,_,_,rfl⟩|⟨rfl,_,_,rfl⟩|⟨rfl,_,O,_⟩;simp at hi;simp at hi;simp[fO,U,bq];simp[fO,U,bq]
 cases i with
 |zero=>simp[fO,U,bq,O]
 | succ j =>
   have hj:j<cq.length:=(by omega);have wi:(j:Int)<cq.length:=(by omega);have hw:IntKind.i64.wrap (((j+1:Nat):Int)-1)=(j:Int):=(by rw[Km];omega);have m1:j*14 / 14=j:=(by omega);have m3:(j*14+2) / 14=j:=(by omega);have m4:(j*14+2) % 14=2:=(by omega);obtain⟨a,ha⟩:∃ a,cq[j]=a:=⟨_,rfl⟩;let⟨ap,ac,av,⟨bk,bp,bn,bm,bl,ba,⟨tk,tn,ti,th,tl⟩⟩⟩:=a;rw[show fO (.mk 8 ep en em ks cq (.mk m8 mL m9 nq m7)) (j+1)=av by simp[fO,O,hj,ha]];have h0:(0:Int)<((j+1:Nat):Int):=(by omega);generalize hq:((j+1:Nat):Int)=q at hw h0;simp[U,bq,h0,hw,hj,wi,m1,m3,m4,ha,ik]
end
def zsM(l:Z (Z Nat))(x:Z Nat):Y Int:=if l.length<=1000000 then some (LR (GK l x))else none
def UD(n:Int)(T:Z (Z Nat)):Y (Z Nat):=if 0<=n/\n<=100000/\T.length<=1000000 then DQ T 90 1 n.toNat else none
open Classical in
def SR(e:Xp)(i:Int):Y (Z (Z Nat)):=if E5 e/\0<=i/\i<(e.kids.length:Int)+e.b8.length then some (fO e i.toNat)else none
def zvG:Valid I Pg 223 FO:=c2 (fo Tryz.func223 SB.2) λa b r h C=>by
 obtain⟨M,rfl⟩:=bF h;exact zoW hρ (E:=EL []) rfl (aj aH) M C
def zr8:Valid I Pg 147 (dC (cB zsM)):=v2 (fo Tryz.func147 LY.2) λa b r h C=>by
 obtain⟨M,rfl⟩:=bF h;exact ztz hρ (E:=EL []) rfl (aj aH) M C
def zDC:Valid I Pg 222 (dC (cz zcq)):=v1 (fo Tryz.func222 LX.2) λa r h C=>by
 obtain⟨⟨M,O⟩,rfl⟩:=bF h;obtain⟨k,rfl⟩:=bE (show 0<=a by omega);exact zoU hρ (E:=EL []) rfl (aj aH) (by omega) (by omega) C
def zr9:Valid I Pg 148 (dC (cB UD)):=v2 (fo Tryz.func148 LZ.2) λa b r h C=>by
 unfold UD at h;split at h;rename_i hh;obtain⟨n,rfl⟩:=bE hh.1;exact ztA hρ (E:=EL [(222,dC (cz zcq)),(223,FO)]) rfl (aj (ae (zDC hρ) (ae (zvG hρ) aH))) rfl rfl hh.2.2 (by omega) h C;cases h
def zho:Valid I Pg 144 (dC (cB SR)):=v2 (fo Tryz.func144 L6.2) λa b r h C=>by
 obtain⟨⟨M,O,h3⟩,rfl⟩:=bF h;obtain⟨i,rfl⟩:=bE O;exact ztD hρ (E:=EL []) rfl (aj aH) M (by omega) C
end
end Go.Proofs.YtfloillkpbhhhaaGreat
