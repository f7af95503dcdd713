import Derived.Test.YtfloillkpbhhhaaGreatNK9
import Derived.Test.YtfloillkpbhhhaaGreatJK12
import Derived.Test.YtfloillkpbhhhaaGreatNK11
import Derived.Test.YtfloillkpbhhhaaGreatNK8
import Derived.Test.YtfloillkpbhhhaaGreatNK10
import Derived.Test.YtfloillkpbhhhaaGreatNK7
import Derived.Test.YtfloillkpbhhhaaGreatJK11
set_option linter.all false
noncomputable section
namespace Go.Proofs.YtfloillkpbhhhaaGreat
open Go.J
open Go.J.bo (enc)
set_option maxRecDepth 100000
set_option maxHeartbeats 4000000
variable {b:Bool}{r:Bool×CS}{dd:Decl}{g t x y:G}{h v:Int}{s s':MS}{a d f i k m n n':Nat}{P Q:Nat->Nat->Prop}{c:Scheme}{α:Type}{av lv:V}{q:V×MS}{e:Xp}{D:Z Decl}{TX:Z Entry->G->Xp->CS->Y (Bool×CS)}{l l':Z G}
def Qv  :∀ {n:Nat} {ctx:Z Entry} {g:G} {e:Xp} {s:CS} {q:CS},iR d f D n ctx g e s=some (true,q)->(∃ a b,q.1.z=some (a,b))/\q.2≠[]
 | 0,ctx,g,e,s,q,h=>by cases h
 | n + 1, ctx, g,e,s,q,h=>by
   rw[iR]at h;split at h
   . split at h
     . split at h
       . cases h
       . simp only[aA]at h;obtain⟨p,hp,h⟩:=h;split at h
         . simp only[aA]at h;obtain⟨a,_,b,_,h⟩:=h;exact Qv h
         . cases h
         . cases h
     . split at h
       . unfold Mj at h;split at h
         . cases h
         . split at h
           . cases h
           . simp only[aA]at h;obtain⟨p,hp,h⟩:=h;split at h
             . simp only[aA]at h;obtain⟨r,sg,h⟩:=h;split at h
               . simp only[aA]at h;obtain⟨args,_,h⟩:=h;obtain⟨_,⟨a2,b2,e2⟩,cb⟩:=K7 sg;have hg:=GQ (λc g x s q h=>mO h) h;exact⟨hg.1 _ _ e2,hg.2 cb⟩
               . cases h
             . cases h
             . cases h
       . split at h
         . simp only[aA]at h;obtain⟨r,sg,h⟩:=h;split at h
           . rename_i lv is zz9;simp only[aA]at h;obtain⟨l,_,h⟩:=h;split at h
             . cases h
             . obtain⟨_,cb,h3⟩:=LV sg;have hg:=GR (λg x s q h=>mO h) h
               cases is with
               | false =>
                 exfalso
                 cases hx:(dQ e).2 with
                 |nil=>rw[hx,xG]at h;cases h
                 |cons x xs=>rw[hx,xH]at h;cases h
               | true =>
                 obtain⟨a2,b2,e2⟩:=h3 _ zz9;exact⟨hg.1 _ _ e2,hg.2 cb⟩
           . cases h
         . cases h
   . cases h
def MY(r:Bool×CS):Int:=if r.1=true/\(r.2.2.any (wF r.2.1.sl r.2.1.tr))=false then 0 else 21
structure Q6(d f m:Nat)(D:List Decl)(ctx:List Entry)(g:G)(e:Xp)(r:Bool×CS):Prop where
 pD:FZ D
 pc:ctx.length<=600
 pt:zd ctx g=true
 pcl:yB ctx g=true
 pd:e.depth<=50
 pw:Wf D e
 pf:e.fit 1000
 ps:jk e=true
 ph:Hu 50 (ctx.map (·.name)) e=true->iR d f D m ctx g e (⟨none,[],[]⟩,[])=some r
 pz:r.1=true->(⟨r.2.1.sl,r.2.1.tr⟩:ao).ll/\(∀ u∈r.2.2,u.ok=true)/\r.2.2.length<=20000
def GM(ctx:Z Entry)(e:Xp)(r:Bool×CS):Int:=if Hu 50 (ctx.map (·.name)) e=true then MY r else 9
section
variable {I:Nat->Value}(hρ:J.Good I)
include hρ
section
variable {E:Env}(U:E.P=Pg)(aq:bH I E)
include U aq
theorem zkB  (zHo:E.dE 56=NK) (zOa:E.dE 57=dH (cO (R1 100))) (zOb:E.dE 58=YB) (zHh:E.dE 59=dH (EH 50)) (zHl:E.dE 60=Gs d f m) (zHg:E.dE 61=eY (VL Lr))  {ctx:Z Entry}    (hp:Q6 d f m D ctx g e r) (C:HS) :
 aT I Pg 26 [enc D,enc ctx,enc g,enc e] C (.int .i64 (GM ctx e r)) C:=by
 refine fn hρ U aq Tryz.func26 DR.2 rfl (by simp) ?_ C;obtain⟨hD,eb,mA,zKb,Zr,V0,b4,D2,hho,hsm⟩:=hp;have CM:R1 100 e=some true:=if_pos ⟨by omega,V0.vl⟩;have vu:=WR (d:=50) (cJ:=ctx.map (·.name)) hD (by rw[aL];omega) Zr V0;have ka:(ctx.map (·.name)).length=ctx.length:=aL ..;have zog:=λh=>JW (hho h)
 have BW:Hu 50 (ctx.map (·.name)) e=true->r.1=true->(∃ a b,r.2.1.z=some (a,b))/\r.2.2≠[]:=λM O=>by
  have:=hho M;obtain⟨rb,rs⟩:=r;simp only at O;subst O;exact Qv this
 clear hho V0;unfold GM;obtain⟨sb,hsb⟩:∃ sb,Hu 50 (ctx.map (·.name)) e=sb:=⟨_,rfl⟩;rw[hsb]at vu zog BW ⊢;obtain⟨E0,Zu⟩:∃ E0,(if sb=true then MY r else (9:Int))=E0:=⟨_,rfl⟩;rw[Zu];obtain⟨gk,gn,gi,gh,gl⟩:=g;obtain⟨ek,ep,en,em,cM,eo,⟨mw,mj,my,xL,mu⟩⟩:=e;simp[U,bL,zHo,NK,mA,zKb,zOa,CM,zOb,YB,b4,D2];refine vC hρ U aq ctx.length (nn:=3) (λi (_:Unit)=>[(0,.sl (D.map aP) false),(1,.sl (ctx.map df) false),(6,.ptr 0 0 0),(7,.ptr 1 0 0),(9,oV 2 (((ctx.map (·.name)).take i).map cF)),(28,.sl (ctx.map df) false),(29,.int .i64 (ctx.length:Int)),(30,.int .i64 (i:Int))]) (λi _=>[(0,.arr 5 0 [[.int .i64 gk,.str gn,.int .i64 gi,.int .i64 gh,.sl (gl.map au) false]] true false false),(1,.arr 11 0 [[.int .i64 ek,.int .i64 ep,.str en,.int .i64 em,.sl (cM.map dL) false,.sl (eo.map gL) false,.int .i64 mw,.str mj,.int .i64 my,.int .i64 xL,.sl (mu.map au) false]] true false false)]++oH 2 1 (((ctx.map (·.name)).take i).map cF)) (λi _=>True) () (aw.auto) trivial ?_ ?_
 . intro _ _ K;have wa:(ctx.map (·.name)).take ctx.length=ctx.map (·.name):=aZ (by simp);rw[wa];generalize ctx.map (·.name)=NM at vu hsb
   cases NM with
   | nil =>
     simp[sN,U];refine bO.mk (aw.auto (TL:=[(0,.sl (D.map aP) false),(1,.sl (ctx.map df) false),(6,.ptr 0 0 0),(7,.ptr 1 0 0),(9,.aE)]) (HL:=[(0,.arr 5 0 [[.int .i64 gk,.str gn,.int .i64 gi,.int .i64 gh,.sl (gl.map au) false]] true false false),(1,.arr 11 0 [[.int .i64 ek,.int .i64 ep,.str en,.int .i64 em,.sl (cM.map dL) false,.sl (eo.map gL) false,.int .i64 mw,.str mj,.int .i64 my,.int .i64 xL,.sl (mu.map au) false]] true false false)]) (n:=3)) ?_;simp[bL]at vu
     cases sb with
     | false =>
       obtain rfl:E0=9:=by rw[<- Zu];rfl
       simp_all
     | true =>
       have O:=zog rfl;have Zn:=BW rfl;clear zog BW;obtain⟨rb,⟨z,sl,tr⟩,l⟩:=r;simp at vu;simp[bL]at O
       cases rb with
       | false =>
         obtain rfl:E0=21:=by rw[<- Zu];rfl
         cases z with
         | none =>
           cases l with
           | nil =>
             simp_all [bL,aJ]
           | cons t l =>
             obtain⟨tk,tn,ti,th,tl⟩:=t
             simp_all [bL,aJ]
         | some z =>
           obtain⟨za,zb⟩:=z
           cases l with
           | nil =>
             simp_all [bL,aJ]
           | cons t l =>
             obtain⟨tk,tn,ti,th,tl⟩:=t
             simp_all [bL,aJ]
       | true =>
         obtain⟨⟨za,zb,e1⟩,cb⟩:=Zn rfl;simp only at e1 cb;subst e1;obtain⟨t,l,rfl⟩:=dh cb;obtain⟨Bm,zE,hz3⟩:=hsm rfl;have hz:Lr D ⟨some (za,zb),sl,tr⟩ (t::l) []=some (.bool (!(t::l).any (wF sl tr)),⟨some (za,zb),sl,tr⟩,t::l):=if_pos ⟨Bm,zE,by simp only[aX]at hz3;omega⟩;have UF:(if ((t::l).any (wF sl tr))=false then (0:Int)else 21)=E0:=by rw[<- Zu];simp[MY]
         clear Zu Bm zE hz3 hsm;generalize (t::l).any (wF sl tr)=bb at hz UF;obtain⟨tk,tn,ti,th,tl⟩:=t
         cases bb with
         | true =>
           obtain rfl:E0=21:=UF.symm;simp at hz;simp[U,bL,zHh,vu,zHl,O,zHg,hz,aJ]
         | false =>
           obtain rfl:E0=0:=UF.symm;simp at hz;simp[U,bL,zHh,vu,zHl,O,zHg,hz,aJ]
   | cons nm NM =>
     simp[sN,U];refine bO.mk (aw.auto (TL:=[(0,.sl (D.map aP) false),(1,.sl (ctx.map df) false),(6,.ptr 0 0 0),(7,.ptr 1 0 0),(9,oV 2 ((nm::NM).map cF))]) (HL:=[(0,.arr 5 0 [[.int .i64 gk,.str gn,.int .i64 gi,.int .i64 gh,.sl (gl.map au) false]] true false false),(1,.arr 11 0 [[.int .i64 ek,.int .i64 ep,.str en,.int .i64 em,.sl (cM.map dL) false,.sl (eo.map gL) false,.int .i64 mw,.str mj,.int .i64 my,.int .i64 xL,.sl (mu.map au) false]] true false false)]++oH 2 1 ((nm::NM).map cF)) (n:=3)) ?_;simp[bL]at vu
     cases sb with
     | false =>
       obtain rfl:E0=9:=by rw[<- Zu];rfl
       simp_all
     | true =>
       have O:=zog rfl;have Zn:=BW rfl;clear zog BW;obtain⟨rb,⟨z,sl,tr⟩,l⟩:=r;simp at vu;simp[bL]at O
       cases rb with
       | false =>
         obtain rfl:E0=21:=by rw[<- Zu];rfl
         cases z with
         | none =>
           cases l with
           | nil =>
             simp_all [bL,aJ]
           | cons t l =>
             obtain⟨tk,tn,ti,th,tl⟩:=t
             simp_all [bL,aJ]
         | some z =>
           obtain⟨za,zb⟩:=z
           cases l with
           | nil =>
             simp_all [bL,aJ]
           | cons t l =>
             obtain⟨tk,tn,ti,th,tl⟩:=t
             simp_all [bL,aJ]
       | true =>
         obtain⟨⟨za,zb,e1⟩,cb⟩:=Zn rfl;simp only at e1 cb;subst e1;obtain⟨t,l,rfl⟩:=dh cb;obtain⟨Bm,zE,hz3⟩:=hsm rfl;have hz:Lr D ⟨some (za,zb),sl,tr⟩ (t::l) []=some (.bool (!(t::l).any (wF sl tr)),⟨some (za,zb),sl,tr⟩,t::l):=if_pos ⟨Bm,zE,by simp only[aX]at hz3;omega⟩;have UF:(if ((t::l).any (wF sl tr))=false then (0:Int)else 21)=E0:=by rw[<- Zu];simp[MY]
         clear Zu Bm zE hz3 hsm;generalize (t::l).any (wF sl tr)=bb at hz UF;obtain⟨tk,tn,ti,th,tl⟩:=t
         cases bb with
         | true =>
           obtain rfl:E0=21:=UF.symm;simp at hz;simp[U,bL,zHh,vu,zHl,O,zHg,hz,aJ]
         | false =>
           obtain rfl:E0=0:=UF.symm;simp at hz;simp[U,bL,zHh,vu,zHl,O,zHg,hz,aJ]
 . intro i _ hi _ K hK;have cj:(i:Int)<ctx.length:=by omega
   have cy:=bI (i:=i);have m1:i*7 / 7=i:=by omega
   have bc:=hK () trivial;have hnx:(ctx.map (·.name)).take (i+1)=(ctx.map (·.name)).take i++[ctx[i].name]:=by rw[gq (by omega),ja]
   have hlen:((ctx.map (·.name)).take i).length=i:=by rw[eB,ka];omega
   rw[hnx]at bc;generalize (ctx.map (·.name)).take i=out at hlen bc;rcases X1:ctx[i]with⟨en2,⟨sc,⟨tk,tn,ti,th,tl⟩⟩⟩;rw[X1]at bc;have k1:(i+1)*16<=1048576:=by omega
   cases out with
   | nil =>
     simp[sN,U,hi,cj,m1,X1,df,cy,-Int.natCast_add];exact bc _ _ (aw.auto)
   | cons o out =>
     rw[aX]at hlen;rw[<- hlen]at k1;simp[sN,U,hi,cj,m1,X1,df,cy,k1,aY,-Int.natCast_add];exact bc _ _ (aw.auto)
end
end
open Classical in
def Dx(d f m:Nat)(D:Z Decl)(ctx:Z Entry)(g:G)(e:Xp):Y Int:=if h:∃ r,Q6 d f m D ctx g e r then some (GM ctx e h.choose)else none
def XQ{ctx:Z Entry}(h:Q6 d f m D ctx g e r):Dx d f m D ctx g e=some (GM ctx e r):=by
 have hx:∃ r,Q6 d f m D ctx g e r:=⟨r,h⟩;unfold Dx;rw[dif_pos hx];have hc:=hx.choose_spec;unfold GM;by_cases C:Hu 50 (ctx.map (·.name)) e=true
 . have e1:=hc.ph C;rw[h.ph C]at e1;rw[<- bS e1]
 . rw[if_neg C,if_neg C]
def zfs{ctx:Z Entry}(h:Dx d f m D ctx g e=some v):∃ r,Q6 d f m D ctx g e r/\v=GM ctx e r:=by
 unfold Dx at h;split at h
 . rename_i hx;cases h;exact⟨_,hx.choose_spec,rfl⟩
 . cases h
section
variable {I:Nat->Value}(hρ:J.Good I)
include hρ
def ES(d f m:Nat):J.Spec:=dH (za4 (Dx d f m))
def zvQ(d f m:Nat):Valid I Pg 26 (ES d f m):=v4 (fo Tryz.func26 DR.2) λD ctx g e v h C=>by
 obtain⟨r,hr,rfl⟩:=zfs h
 exact zkB hρ (E:=EL [(56,NK),(57,dH (cO (R1 100))),(58,YB),(59,dH (EH 50)),(60,Gs d f m),(61,eY (VL Lr))]) rfl
  (ag (ae (zqS hρ) (ae (zaA hρ 100) (ae (zvG hρ) (ae (Ql hρ 50) (ae (Ye d f m hρ) (ae (zlR hρ) aG))))))) rfl rfl rfl rfl rfl rfl hr C
end
theorem nD [bo α]{a b:α}(h:enc a=enc b):a=b:=by
 have:=congrArg (bo.dec (α:=α)) h;rw[bo.bZ,bo.bZ]at this
 grind
def Fb(fr to:G)(s:MS):MS:=⟨s.z,s.sl.map (Slot.th fr to),s.tr.map (Change.th fr to)⟩
def Sk(s:MS):Prop:=ao.Hp ⟨s.sl,s.tr⟩
def yW(fr to:G)(c:Scheme):Scheme:=⟨c.count,c.type.th fr to⟩
def xL(fr to:G)(e:Entry):Entry:=⟨e.name,yW fr to e.scheme⟩
section
variable {fr to:G}(H:Rep0 fr to)
include H
theorem zgr(hh:0<=h)(hp:Sk s):o7 (Fb fr to s) h b=Fb fr to (o7 s h b)/\Sk (o7 s h b):=by
 constructor
 . cases s;simp[o7,Fb,Slot.th,Change.th,Oz H]
 . intro x hx;rcases bA.1 hx with hx|hx
   . exact hp x hx
   grind
def OA(hp:Sk s):∀ k,iK (Fb fr to s) k=Fb fr to (iK s k)/\Sk (iK s k)
 | 0=>⟨rfl,hp⟩
 | k+1=>by
   obtain⟨M,O⟩:=OA hp k;rw[iK,M];exact zgr H (by decide) O
theorem Yr{v:V}(hh:0<=h)(hp:Sk s)(hq:uY s [.int .i64 h,.bool b]=some (v,s')):v=enc (fq (s.sl.length:Int))/\uY (Fb fr to s) [.int .i64 h,.bool b]=some (v,Fb fr to s')/\Sk s'/\s'=o7 s h b:=by
 obtain⟨h',b',e,M,O,hq⟩:=JA hq;cases e;simp only[gG]at hq;obtain⟨rfl,rfl⟩:=hq;obtain⟨a1,a2⟩:=zgr H (b:=b) hh hp;change enc (fq (s.sl.length:Int))=_/\uY (Fb fr to s) [.int .i64 h,.bool b]=some (enc (fq (s.sl.length:Int)),Fb fr to (o7 s h b))/\Sk (o7 s h b)/\o7 s h b=o7 s h b;refine⟨rfl,?_,a2,rfl⟩;rw[Kg (by show (s.sl.map _).length<=_;rw[aL];exact M) (by show (s.tr.map _).length<=_;rw[aL];exact O),a1];show some (enc (fq ((s.sl.map _).length:Int)),_)=_
 grind
def JN(hp:Sk s)(h:jD d f s [enc x,enc y]=some (.bool true,s')):jD d f (Fb fr to s) [enc (x.th fr to),enc (y.th fr to)]=some (.bool true,Fb fr to s')/\Sk s':=by
 obtain⟨a,b,x',y',cS,ex,e,hz,ha,hw,hq⟩:=Gz h;simp only[fT,and_true]at ha;obtain⟨e1,e2⟩:=ha;obtain rfl:=nD e1;obtain rfl:=nD e2;simp only[gG,V.bool.injEq]at hq;obtain⟨h0,rfl⟩:=hq;obtain rfl:e=0:=by simpa using h0.symm
 obtain⟨w1,w2⟩:=ao.WB H f hp hw;obtain⟨z,sl,tr⟩:=s;simp only at hz;subst hz;refine⟨?_,w2⟩
 have w1:ao.jq d f ⟨sl.map (Slot.th fr to),tr.map (Change.th fr to)⟩ [⟨x.th fr to,y.th fr to⟩]=some (⟨cS.map (Slot.th fr to),tr.map (Change.th fr to)++ex.map (Change.th fr to)⟩,0):=by
  rw[<- dz];exact w1
 have:=Xo (a:=a) (b:=b) w1;rw[<- dz,aL]at this;exact this
theorem SS(hp:Sk s)(h:yE d f s [enc t]=some (.bool true,s')):yE d f (Fb fr to s) [enc (t.th fr to)]=some (.bool true,Fb fr to s')/\Sk s':=by
 have h':(W (bo.dec (enc t):Y G) λ_=>W (uY s [.int .i64 1000000,.bool true]) λq=>jD d f q.2 [enc t,q.1])=some (.bool true,s'):=h;rw[bo.bZ,bU]at h';simp only[aA]at h';obtain⟨⟨v,s1⟩,M,O⟩:=h';obtain⟨rfl,h3,h4,_⟩:=Yr H (by decide) hp M;obtain⟨h5,h6⟩:=JN H h4 O;refine⟨?_,h6⟩;show (W (bo.dec (enc (t.th fr to)):Y G) λ_=>W (uY (Fb fr to s) [.int .i64 1000000,.bool true]) λq=>jD d f q.2 [enc (t.th fr to),q.1])=_
 simp_all [bU,MK]
theorem ML{a b:G}(hp:Sk s)(h:iE d f s [enc t]=some (.tuple [enc a,enc b,.bool true],s')):iE d f (Fb fr to s) [enc (t.th fr to)]=some (.tuple [enc (a.th fr to),enc (b.th fr to),.bool true],Fb fr to s')/\Sk s':=by
 obtain⟨x,w,ha,hw,hl,hh⟩:=rR h;simp only[fT,and_true]at ha;obtain rfl:=nD ha;have cy:ao.w ⟨(Fb fr to s).sl,(Fb fr to s).tr⟩ (t.th fr to)=w.th fr to:=by rw[<- hw];exact ao.zlZ H (s:=⟨s.sl,s.tr⟩) t
 have xf:(Fb fr to s).sl.length<=10000:=by show (s.sl.map _).length<=_;rw[aL];exact hl
 show (W (bo.dec (enc (t.th fr to)):Y G) _=_)/\_;rw[bo.bZ,bU,if_pos xf,cy];rcases hh with⟨hk,hq⟩|⟨hk,a0,b0,a1,b1,a2,b2,a3,b3,cY,cR,F4,mR,cw,Ff,v,u,r,hz,M,O,h3,hq⟩
 . simp only[gG,V.tuple.injEq,fT,V.bool.injEq,and_true]at hq;obtain⟨⟨e1,e2,e3⟩,rfl⟩:=hq;obtain rfl:=nD e1;obtain rfl:=nD e2;obtain⟨q1,q2⟩:=zaO H w
   grind [tV]
 . simp only[gG,V.tuple.injEq,fT,V.bool.injEq,and_true]at hq;obtain⟨⟨e1,e2,rfl⟩,rfl⟩:=hq;obtain rfl:=nD e1;obtain rfl:=nD e2;obtain⟨v1,g1,p1,_⟩:=Yr H (by decide) hp M;obtain⟨v2,g2,p2,_⟩:=Yr H (by decide) p1 O;obtain rfl:=nD v1;obtain rfl:=nD v2;obtain⟨g3,p3⟩:=JN H p2 h3;rw[if_pos (by rw[tV H];exact hk)];refine⟨?_,p3⟩;have zE:(Fb fr to s).z=some (a0,b0):=hz;rw[zE];simp only;rw[g1,bU];simp only;rw[g2,bU]
   have ea:(arr (fq (s.sl.length:Int)) (fq (cY.length:Int))).th fr to=arr (fq (s.sl.length:Int)) (fq (cY.length:Int)):=by
    rw[xz H (λe=>by have:=H.fk;rw[<- e]at this;cases this)]
    simp_all [aR,iP,MK]
   rw[ea]at g3;have e5:(Fb fr to s).sl.length=s.sl.length:=aL ..;have e6:(Fb fr to ⟨some (a1,b1),cY,mR⟩).sl.length=cY.length:=aL ..
   grind [bU,MK]
theorem zaI (l:Z G) (t:G):(t.D8 (j4 l)).th fr to=(t.th fr to).D8 (j4 (l.map (G.th · fr to))):=by
 induction t using G.ind with
 | h t ih =>
   by_cases ha:t.args=[]
   . rw [Fv ha,Fv (by rw[BS H,ha];rfl)];by_cases he:t=fr
     . subst he;have e1:j4 l t=t:=by unfold j4;rw[if_neg (λh=>by have:=h.1;rw[H.fk]at this;cases this)]
       rw[e1,SQ H];unfold j4;rw[if_neg (λh=>H.zLl h.1)]
     . have e2:t.th fr to=t:=by
        rw[xz H he,ha];cases t
        simp_all
       rw[e2];unfold j4
       grind
   . have he:t≠fr:=λe=>ha (by rw[e];exact H.fa)
     have hn:(t.th fr to).args≠[]:=by rw[BS H];simpa using ha
     rw[Av ha,Av hn]
     have hx:G.mk t.kind t.name t.id t.home (t.args.map (G.D8 (j4 l)))≠fr:=λe=>by
      have:=H.fa;rw[<- e]at this;simp at this;exact ha this
     rw[xz H hx,BS H,xz H he]
     simp_all
theorem SL(i k:Nat):(cz i k).map (G.th · fr to)=cz i k:=by
 unfold cz
 grind [List.map_map,List.map_congr_left,MK]
def zl3(i:Nat)(c:Scheme):(G9 i c).th fr to=G9 i (yW fr to c):=by
 unfold G9 oU;rw[zaI H,SL H];show _=(c.type.th fr to).D8 (j4 (cz i (min (max c.count 0) ((c.type.th fr to).size:Int)).toNat));rw[F8 H]
def SK(c:Scheme):oU (yW fr to c)=oU c:=by
 unfold oU;show (min (max c.count 0) ((c.type.th fr to).size:Int)).toNat=_;rw[F8 H]
def zl4{r:G}(hp:Sk s)(h:Ea s [enc c]=some (enc r,s')):Ea (Fb fr to s) [enc (yW fr to c)]=some (enc (r.th fr to),Fb fr to s')/\Sk s':=by
 obtain⟨c',e,M,O,h3,h4,hq⟩:=OY h;simp only[fT,and_true]at e;obtain rfl:=nD e;simp only[gG]at hq;obtain⟨e1,rfl⟩:=hq;obtain rfl:=nD e1;obtain⟨f1,f2⟩:=OA H hp (oU c);refine⟨?_,f2⟩;show (W (bo.dec (enc (yW fr to c)):Y Scheme) _)=_;have e5:(Fb fr to s).sl.length=s.sl.length:=aL ..;have e6:(Fb fr to s).tr.length=s.tr.length:=aL ..;rw[bo.bZ,bU,if_pos ⟨WC H M,by show (c.type.th fr to).size<=_;rw[F8 H];exact O,by rw[e5,SK H];exact h3,by rw[e6,SK H];exact h4⟩,SK H,f1,e5,zl3 H]
end
def Jb{args:Z V}(h:iE d f s args=some q):∃ (a b:G) (r:Bool),q.1=.tuple [enc a,enc b,.bool r]:=by
 obtain⟨x,w,_,_,_,⟨_,rfl⟩|⟨_,_,_,_,_,_,_,_,_,_,_,_,_,_,_,_,_,_,_,_,_,_,rfl⟩⟩:=rR h
 . exact⟨_,_,_,rfl⟩
 . exact⟨_,_,_,rfl⟩
def U8(fr to:G)(s:CS):CS:=(Fb fr to s.1,s.2.map (G.th · fr to))
def L4(fr to:G)(D:Z Decl):Prop:=∀ d∈D,∀ c∈d.ctors,∀ x∈c.fields,(G.fW d.params x).th fr to=G.fW d.params x
section
variable {fr to:G}(H:Rep0 fr to)
include H
def zaJ:∀ {k:Nat} {s s':MS} {r r':G} {acc kA:Z G},Sk s->uy d f k s r acc=some (some (kA,r'),s')->uy d f k (Fb fr to s) (r.th fr to) (acc.map (G.th · fr to))=some (some (kA.map (G.th · fr to),r'.th fr to),Fb fr to s')/\Sk s'
 | 0,s,s',r,r',acc,kA,hp,h=>by cases h;exact⟨rfl,hp⟩
 | k + 1,s,s',r,r',acc,kA,hp,h=>by
   rw[uy]at h;simp only[aA]at h;obtain⟨⟨v,s1⟩,hq,h⟩:=h;obtain⟨a,b,t,e⟩:=Jb hq;simp only at e;subst e
   cases t with
   |false=>cases h
   | true =>
     simp only[bo.bZ,bU]at h;obtain⟨f1,f2⟩:=ML H hp hq;obtain⟨i1,i2⟩:=zaJ f2 h;rw[uy,f1,bU];simp only[bo.bZ,bU];rw[dz]at i1;exact⟨i1,i2⟩
def zq6{r:G}{acc kA:Z G}(hp:Sk s)(h:Ko d f g (some (acc,r),s)=some (kA,true,s')):Ko d f (g.th fr to) (some (acc.map (G.th · fr to),r.th fr to),Fb fr to s)=some (kA.map (G.th · fr to),true,Fb fr to s')/\Sk s':=by
 obtain⟨rfl,e1,a1,b1,cY,mR,M,⟨_,hf,_⟩|⟨rfl,e2,a2,b2,cR,cw,O,⟨_,hf,_⟩|⟨rfl,a3,b3,F4,Ff,h3,rfl⟩⟩⟩:=Dm h
 . cases hf
 . cases hf
 . obtain⟨g1,p1⟩:=SS H hp M;obtain⟨g2,p2⟩:=SS H p1 O;obtain⟨g3,p3⟩:=JN H p2 h3;refine⟨?_,p3⟩;unfold Ko;simp only;rw[g1,bU];simp only;rw[g2,bU];simp only;rw[g3,bU]
def zl9(hp:Sk s)(h:Dk d f D s l [enc c,.int .i64 (k:Int),enc g]=some (.tuple [lv,.bool true],s',l')) :
 ∃ acc:Z G,lv=enc acc/\Dk d f D (Fb fr to s) (l.map (G.th · fr to)) [enc (yW fr to c),.int .i64 (k:Int),enc (g.th fr to)]=some (.tuple [enc (acc.map (G.th · fr to)),.bool true],Fb fr to s',l'.map (G.th · fr to))/\Sk s':=by
 obtain⟨c',k',g',r0,s1,s2,⟨R,s3⟩,acc,e,ha,hk,hl,M,O,h3,hq⟩:=JY h;simp only[fT,V.int.injEq,and_true,true_and]at ha;obtain⟨e1,e2,e3⟩:=ha;obtain rfl:=nD e1;obtain rfl:=nD e3;obtain rfl:k=k':=by omega
 simp only[gG,V.tuple.injEq,fT,V.bool.injEq,and_true]at hq;obtain⟨⟨rfl,rfl⟩,rfl,rfl⟩:=hq
 cases R with
 | none =>
   obtain⟨_,hf,_⟩:=FE h3;cases hf
 | some p =>
   cases p;obtain⟨g1,p1⟩:=zl4 H hp M;obtain⟨g2,p2⟩:=zaJ H p1 O;obtain⟨g3,p3⟩:=zq6 H p2 h3;refine⟨acc,rfl,?_,p3⟩;have:=zb8 (D:=D) (l:=l.map (G.th · fr to)) hk (by rw[aL];exact hl) g1 g2 g3;rw[dz];exact this
def zaR{i:Int}(hp:Sk s)(h:rJ d f D s l [enc t,.int .i64 i]=some (.tuple [av,.bool true],s',l')) :
 ∃ args:Z G,av=enc args/\rJ d f D (Fb fr to s) (l.map (G.th · fr to)) [enc (t.th fr to),.int .i64 i]=some (.tuple [enc (args.map (G.th · fr to)),.bool true],Fb fr to s',l'.map (G.th · fr to))/\Sk s':=by
 obtain⟨t',i',hi,a0,b0,a2,b2,cR,cw,e,ha,hz,M,O,h3,h4,h5,h6,hq⟩:=yI h;simp only[fT,V.int.injEq,and_true,true_and]at ha;obtain⟨e1,rfl⟩:=ha;obtain rfl:=nD e1;simp only[gG,V.tuple.injEq,fT,V.bool.injEq,and_true]at hq;obtain⟨⟨rfl,rfl⟩,rfl,rfl⟩:=hq;obtain⟨m1,m2⟩:=OA H hp D[i'].params.length;obtain⟨g1,p1⟩:=JN H m2 h6;have e5:(Fb fr to s).sl.length=s.sl.length:=aL ..;have e6:(Fb fr to s).tr.length=s.tr.length:=aL ..;have hn:=SL H s.sl.length D[i'].params.length
 have en:(G.mk 4 D[i'].name 0 0 (cz s.sl.length D[i'].params.length)).th fr to=G.mk 4 D[i'].name 0 0 (cz s.sl.length D[i'].params.length):=by
  rw[xz H (λe=>by have:=H.fk;rw[<- e]at this;cases this)];simp only[G.fw,G.jC,G.o5,G.sJ,G.fC,hn]
 rw[en]at g1;refine⟨cz s.sl.length D[i'].params.length,rfl,?_,p1⟩;rw[hn,dz];show (W (bo.dec (enc (t.th fr to)):Y G) λt=>W D[((i':Nat):Int).toNat]? _)=_;have zE:(Fb fr to s).z=some (a0,b0):=hz;rw[bo.bZ,bU,bP,ax hi,bU,zE];simp only;rw[if_pos ⟨by omega,M,O,by rw[aL];exact h3,by rw[e5];exact h4,by rw[e6];exact h5⟩,m1,e5,g1,bU];rfl
theorem zl5(n:Z Nat):∀ l:Z Entry,IX (l.map (xL fr to)) n=(IX l n).map (yW fr to):=by
 intro l;unfold IX;rw[<- List.map_reverse]
 induction l.reverse with
 |nil=>rfl
 | cons e l ih =>
   rw[aR,Un,Un,ih];show (if e.name=n then some (yW fr to e.scheme)else _)=_;split<;>rfl
def zgq(l:Z Entry)(n:Z Nat):rD (l.map (xL fr to)) n=(yW fr to (rD l n).1,(rD l n).2):=by
 unfold rD;rw[zl5 H]
 cases IX l n with
 | none =>
   show (Rj,false)=(yW fr to Rj,false)
   congr 1
   unfold yW;show Rj=⟨0,tT.th fr to⟩;rw[Oz H];rfl
 |some c=>rfl
def zdF(k:Nat):(nJ k).map (G.th · fr to)=nJ k:=by
 unfold nJ;rw[iy];refine gm λx _=>?_
 show (zyr _).th fr to=_;rw[xz H (λe=>by have:=H.fk;rw[<- e]at this;cases this)];rfl
def WE:∀ {fs:Z G},(∀ x∈fs,(G.fW dd.params x).th fr to=G.fW dd.params x)->(su dd fs).th fr to=su dd fs
 | [],_=>by
   show (G.mk 4 dd.name 0 0 (nJ dd.params.length)).th fr to=_;rw[xz H (λe=>by have:=H.fk;rw[<- e]at this;cases this)];simp only[G.fw,G.jC,G.o5,G.sJ,G.fC,zdF H];rfl
 | x::fs,h=>by
   show (arr (G.fW dd.params x) (su dd fs)).th fr to=arr (G.fW dd.params x) (su dd fs);rw[xz H (λe=>by have:=H.fk;rw[<- e]at this;cases this)];simp only[arr,G.fw,G.jC,G.o5,G.sJ,G.fC,aR,iP,h x (aD ..),WE λy hy=>h y (aF _ hy)]
omit H in
def GG  {n:Z Nat}  {c:Ctor} (h:Jl D n=some (dd,c)):dd∈D/\c∈dd.ctors:=by
 unfold Jl at h;split at h
 . cases h
 . split at h
   . cases h
   . rename_i hd;split at h
     . cases h
     . rename_i hc;cases h;exact⟨aC hd,aC hc⟩
def zmb(hD:L4 fr to D)(n:Z Nat):yW fr to (Dt D n).1=(Dt D n).1:=by
 unfold Dt;split
 . show (⟨0,tT.th fr to⟩:Scheme)=_;rw[Oz H];rfl
 . rename_i dd c e;obtain⟨M,O⟩:=GG e;show (⟨_,(su dd c.fields).th fr to⟩:Scheme)=_;rw[WE H (hD dd M c O)]
def zl8(hD:L4 fr to D)(ctx:Z Entry)(x:Xp):BK D (ctx.map (xL fr to)) x=(yW fr to (BK D ctx x).1,(BK D ctx x).2):=by
 unfold BK;split
 . exact zgq H _ _
 . split
   . rw[zmb H hD]
   . show (Rj,false)=((⟨0,tT.th fr to⟩:Scheme),false);rw[Oz H];rfl
def zdE(hD:L4 fr to D)(n:Z Nat)(args:Z G):mV D n (args.map (G.th · fr to))=((mV D n args).1.map (G.th · fr to),(mV D n args).2):=by
 unfold mV;split
 . rfl
 . rename_i dd c e;obtain⟨M,O⟩:=GG e;rw[aL];split
   . simp only[iy,gG,and_true];refine gm λx hx=>?_
     show _=(pY dd.params args x).th fr to;unfold pY;rw[zaI H,hD dd M c O x hx]
   . rfl
omit H in
def zaH:∀ (dn vs:Z (Z Nat)) (fs:Z G) (c:Z Entry),Aw dn vs (fs.map (G.th · fr to)) (c.map (xL fr to))=(Aw dn vs fs c).map (List.map (xL fr to))
 |dn,[],fs,c=>by rw[Aw,Aw];rfl
 | dn,v::vs,[],c=>by
   show (if v∈dn then none else some (c.map (xL fr to)))=(if v∈dn then none else some c).map (List.map (xL fr to));split<;>rfl
 | dn,v::vs,x::fs,c=>by
   have ih:=zaH (dn++[v]) vs fs (c++[⟨v,mono x⟩]);rw[dz]at ih;show (if v∈dn then none else Aw (dn++[v]) vs (fs.map (G.th · fr to)) (c.map (xL fr to)++[⟨v,mono (x.th fr to)⟩]))=(if v∈dn then none else Aw (dn++[v]) vs fs (c++[⟨v,mono x⟩])).map (List.map (xL fr to));split
   . rfl
   . exact ih
end
def yd(s:CS):Prop:=Sk s.1
section
variable {fr to:G}(H:Rep0 fr to)
include H
omit H in
def zc0{rec:G->Xp->CS->Y (Bool×CS)}{is:Bool}{gs:Z G}{xs:Z Xp}{s s':CS}(h:DD rec is gs xs s=some (true,s')):is=true:=by
 cases is with
 |true=>rfl
 | false =>
   cases xs with
   |nil=>rw[xG]at h;cases h
   |cons x xs=>rw[xH]at h;cases h
theorem zaQ{rec TX:G->Xp->CS->Y (Bool×CS)}(hr:∀ g x s s',yd s->rec g x s=some (true,s')->TX (g.th fr to) x (U8 fr to s)=some (true,U8 fr to s')/\yd s'):∀ {xs:Z Xp} {gs:Z G} {s s':CS},yd s->DD rec true gs xs s=some (true,s')->DD TX true (gs.map (G.th · fr to)) xs (U8 fr to s)=some (true,U8 fr to s')/\yd s'
 | [],gs,s,s',hp,h=>by rw[xG]at h;cases h;exact⟨xG,hp⟩
 |x::xs,[],s,s',hp,h=>by rw[Vs]at h;cases h
 | x::xs,g::gs,s,s',hp,h=>by
   rw[DC]at h;simp only[aA]at h;obtain⟨⟨b,s1⟩,M,O⟩:=h;have hb:=zc0 O;simp only at hb O;subst hb;obtain⟨g1,p1⟩:=hr _ _ _ _ hp M;obtain⟨g2,p2⟩:=zaQ hr p1 O;rw[aR,DC,g1,bU];exact⟨g2,p2⟩
omit H in
def zcY{rec:Z Entry->G->Xp->CS->Y (Bool×CS)}{args:Z G}{ctx:Z Entry}{is:Bool}{l:Z Am}{s s':CS}(h:yG rec D args ctx g is l s=some (true,s')):is=true:=by
 cases is with
 |true=>rfl
 | false =>
   cases l with
   |nil=>cases h
   | cons a l =>
     rw[yG,if_pos (.inl rfl)]at h;cases h
def zaP(hD:L4 fr to D){rec:Z Entry->G->Xp->CS->Y (Bool×CS)}(hr:∀ c g x s s',yd s->rec c g x s=some (true,s')->TX (c.map (xL fr to)) (g.th fr to) x (U8 fr to s)=some (true,U8 fr to s')/\yd s'){args:Z G}{ctx:Z Entry}:∀ {l:Z Am} {s s':CS},yd s->yG rec D args ctx g true l s=some (true,s')->yG TX D (args.map (G.th · fr to)) (ctx.map (xL fr to)) (g.th fr to) true l (U8 fr to s)=some (true,U8 fr to s')/\yd s'
 | [],s,s',hp,h=>by cases h;exact⟨rfl,hp⟩
 | a::l,s,s',hp,h=>by
   rw[yG]at h;split at h
   . cases h
   rename_i hc;split at h
   . cases h
   rename_i c ya;simp only[aA]at h;obtain⟨⟨b,s1⟩,M,O⟩:=h;have hb:=zcY O;simp only at hb O;subst hb;obtain⟨g1,p1⟩:=hr _ _ _ _ _ hp M;obtain⟨g2,p2⟩:=zaP hD hr p1 O;have e1:mV D a.dE (args.map (G.th · fr to))=_:=zdE H hD a.dE args;have e2:=zaH (fr:=fr) (to:=to) [] a.vars (mV D a.dE args).1 ctx;rw[ya]at e2;rw[yG,e1,if_neg (by simp only[aL];exact hc)];simp only[e2,jv];rw[g1,bU];exact⟨g2,p2⟩
def zq9(hD:L4 fr to D){rec:Z Entry->G->Xp->CS->Y (Bool×CS)}(hr:∀ c g x s s',yd s->rec c g x s=some (true,s')->TX (c.map (xL fr to)) (g.th fr to) x (U8 fr to s)=some (true,U8 fr to s')/\yd s'){ctx:Z Entry}{s s':CS}(hp:yd s)(h:Mj d f D rec ctx g e s=some (true,s')):Mj d f D TX (ctx.map (xL fr to)) (g.th fr to) e (U8 fr to s)=some (true,U8 fr to s')/\yd s':=by
 unfold Mj at h ⊢
 cases hk:e.kids with
 |nil=>rw[hk]at h;cases h
 | cons k0 ks =>
   rw[hk]at h;simp only at h ⊢;have el:=zgq H ctx k0.name;rw[el];split at h
   . cases h
   rename_i hc;rw[if_neg (show ¬ ((rD ctx k0.name).2=false\/_\/(yW fr to (rD ctx k0.name).1).count≠0) from hc)];simp only[aA]at h;obtain⟨⟨v,s1⟩,M,O⟩:=h;obtain⟨b,a1,b1,cY,mR,e1⟩:=FO M;simp only[gG]at e1;obtain⟨rfl,rfl⟩:=e1
   cases b with
   |false=>cases O
   | true =>
     simp only[aA]at O;obtain⟨⟨v2,s2,l2⟩,h3,h4⟩:=O;obtain⟨g1,p1⟩:=SS H hp M;obtain⟨t',i',hi,a0,b0,a2,b2,cR,cw,e9,_,_,_,_,_,_,_,_,hq⟩:=yI h3;simp only[gG]at hq;obtain⟨rfl,lR,oj⟩:=hq;simp only at h4;have ed:(bo.dec (.sl ((cz cY.length D[i'].params.length).map au) false):Y (Z G))=some (cz cY.length D[i'].params.length):=bo.bZ (cz cY.length D[i'].params.length);rw[ed,bU]at h4;obtain rfl:=zcY h4;obtain⟨args,ea,g2,p2⟩:=zaR H (s:=⟨some (a1,b1),cY,mR⟩) p1 h3;have ea:cz cY.length D[i'].params.length=args:=nD ea;obtain⟨g3,p3⟩:=zaP H hD hr (s:=(s2,l2)) p2 h4;rw[show (U8 fr to s).1=Fb fr to s.1 from rfl,g1,bU];simp only;rw[show (U8 fr to s).2=s.2.map (G.th · fr to) from rfl];refine⟨?_,p3⟩;show W (rJ d f D (Fb fr to ⟨some (a1,b1),cY,mR⟩) (s.2.map (G.th · fr to)) [enc ((rD ctx k0.name).1.type.th fr to),.int .i64 (En D e.cf).1]) _=_;rw[g2,bU];simp only[bo.bZ,bU];rw[<- ea];exact g3
def JM  (hD:L4 fr to D):∀ {n:Nat} {ctx:Z Entry} {g:G} {e:Xp} {s s':CS},yd s->iR d f D n ctx g e s=some (true,s')->iR d f D n (ctx.map (xL fr to)) (g.th fr to) e (U8 fr to s)=some (true,U8 fr to s')/\yd s'
 | 0,ctx,g,e,s,s',hp,h=>by cases h
 | n + 1,ctx,g,e,s,s',hp,h=>by
   rw[iR]at h ⊢;split at h
   case isFalse=>cases h
   rename_i iz;rw[if_pos ⟨iz.1,by rw[aL];exact iz.2.1,iz.2.2⟩];split at h
   . rename_i hk;rw[if_pos hk]
     cases oT:e.kids with
     |nil=>rw[oT]at h;cases h
     | cons k0 ks =>
       rw[oT]at h;simp only[aA]at h;obtain⟨⟨v,s1⟩,M,O⟩:=h;obtain⟨a,b,t,e1⟩:=Jb M;simp only at e1;subst e1
       cases t with
       |false=>cases O
       | true =>
         simp only[bo.bZ,bU]at O;obtain⟨g1,p1⟩:=ML H hp M;obtain⟨g2,p2⟩:=JM hD (s:=(s1,s.2)) p1 O;simp only;rw[show (U8 fr to s).1=Fb fr to s.1 from rfl,g1,bU];simp only[bo.bZ,bU];rw[dz]at g2;exact⟨g2,p2⟩
   . rename_i hk;rw[if_neg hk];split at h
     . rename_i VK;rw[if_pos VK];exact zq9 H hD (λc g x s s' hp h=>JM hD hp h) hp h
     . rename_i VK;rw[if_neg VK,zl8 H hD];split at h
       . rename_i hh;rw[if_pos hh];simp only[aA]at h;obtain⟨⟨v,s1,l1⟩,M,O⟩:=h;obtain⟨c',k',g',r0,s1',s2',R,acc,e9,_,_,_,_,_,_,hq⟩:=JY M;simp only[gG]at hq;obtain⟨rfl,lR,oj⟩:=hq;have ed:(bo.dec (.sl (acc.map au) false):Y (Z G))=some acc:=bo.bZ acc;simp only at O;rw[ed,bU]at O;split at O
         . cases O
         rename_i hlen;obtain rfl:=zc0 O;obtain⟨zyA,ea,g1,p1⟩:=zl9 H hp M;have ea:acc=zyA:=nD ea;obtain⟨g2,p2⟩:=zaQ H (λg x s s' hp h=>JM hD hp h) (s:=(s1,l1)) p1 O;refine⟨?_,p2⟩;show W (Dk d f D (Fb fr to s.1) (s.2.map (G.th · fr to)) [enc (yW fr to (BK D ctx (dQ e).1).1),.int .i64 ((dQ e).2.length:Int),enc (g.th fr to)]) _=_;rw[g1,bU];simp only[bo.bZ,bU];rw[<- ea,if_neg (by rw[aL];exactλhh=>hlen ⟨rfl,hh.2⟩)];exact g2
       . cases h
theorem zq7{s:CS}:MY (true,U8 fr to s)=MY (true,s):=by
 unfold MY
 have:(U8 fr to s).2.any (wF (U8 fr to s).1.sl (U8 fr to s).1.tr)=s.2.any (wF s.1.sl s.1.tr):=by
  show (s.2.map (G.th · fr to)).any _=_;rw[List.any_map]
  congr 1
  funext t
  show wF (s.1.sl.map (Slot.th fr to)) (s.1.tr.map (Change.th fr to)) (t.th fr to)=wF s.1.sl s.1.tr t;unfold wF;rw[show (⟨s.1.sl.map (Slot.th fr to),s.1.tr.map (Change.th fr to)⟩:ao)=ao.th fr to ⟨s.1.sl,s.1.tr⟩ from rfl,ao.zl1 H]
 grind
theorem zmd(hD:L4 fr to D){ctx:Z Entry}(h:Q6 d f m D ctx g e r)(h0:GM ctx e r=0)(ht:zd (ctx.map (xL fr to)) (g.th fr to)=true)(hc:yB (ctx.map (xL fr to)) (g.th fr to)=true) :
 Q6 d f m D (ctx.map (xL fr to)) (g.th fr to) e (true,U8 fr to r.2)/\GM (ctx.map (xL fr to)) e (true,U8 fr to r.2)=0:=by
 obtain⟨p1,p2,p3,p4,p5,p6,p7,p8,p9,L5⟩:=h;have en:(ctx.map (xL fr to)).map (·.name)=ctx.map (·.name):=by rw[iy];rfl
 unfold GM at h0 ⊢;rw[en];by_cases C:Hu 50 (ctx.map (·.name)) e=true
 . rw[if_pos C]at h0 ⊢;have h9:=p9 C;obtain⟨rb,rs⟩:=r
   have hrb:rb=true:=by
    unfold MY at h0
    grind
   subst hrb;have pL:yd ((⟨none,[],[]⟩:MS),[]):=λx hx=>by cases hx
   obtain⟨g1,_⟩:=JM H hD pL h9;obtain⟨z1,z2,z3⟩:=L5 rfl;refine⟨⟨p1,by rw[aL];exact p2,ht,hc,p5,p6,p7,p8,λ_=>g1,λ_=>⟨ao.SI H z1,λu hu=>?_,?_⟩⟩,?_⟩
   . obtain⟨y,hy,rfl⟩:=aI.1 hu;exact WC H (z2 y hy)
   . show (rs.2.map _).length<=_
     grind
   . rw[zq7 H];exact h0
 grind
end
def Ev(P:Nat->Nat->Prop):Prop:=∃ N,∀ d f,N<=d->N<=f->P d f
def Ev.and(h:Ev P)(k:Ev Q):Ev λd f=>P d f/\Q d f:=by
 obtain⟨a,h⟩:=h;obtain⟨b,k⟩:=k;exact⟨max a b,λd f hd hf=>⟨h d f (by omega) (by omega),k d f (by omega) (by omega)⟩⟩
theorem Ev.mono(h:Ev P)(hq:∀ d f,P d f->Q d f):Ev Q:=by
 obtain⟨a,h⟩:=h;exact⟨a,λd f hd hf=>hq d f (h d f hd hf)⟩
def Ev.all(h:∀ d f,P d f):Ev P:=⟨0,λd f _ _=>h d f⟩
abbrev TO(s:MS)(t:G):Prop:=ic s.sl.length 7 t
structure Cd(s:MS):Prop where
 fW:ao.te s.sl.length 7 ⟨s.sl,s.tr⟩
 zGf:s.tr.length+2*ao.Li ⟨s.sl,s.tr⟩<=3*s.sl.length
 row:s.z=none->s.sl=[]
 PA:s.sl.length<=900
structure Nx(k:Nat)(s s':MS):Prop where
 ok:Cd s'
 lo:s.sl.length<=s'.sl.length
 hi:s'.sl.length<=s.sl.length+k
 rows:s.z.isSome=true->s'.z.isSome=true
theorem Nx.refl(h:Cd s)(k:Nat):Nx k s s:=⟨h,af _,fE _ _,id⟩
def Nx.trans{b:Nat}{s2:MS}(h:Nx a s s')(k:Nx b s' s2):Nx (a+b) s s2:=⟨k.ok,aO h.lo k.lo,by have:=h.hi;have:=k.hi;omega,λe=>k.rows (h.rows e)⟩
def Nx.le{b:Nat}(h:Nx a s s')(LN:a<=b):Nx b s s':=⟨h.ok,h.lo,by have:=h.hi;omega,h.rows⟩
theorem Nx.to{k:Nat}{s s':MS}(h:Nx k s s'){t:G}(ht:TO s t):TO s' t:=ht.up h.lo
theorem ZX(h:Cd s)(hn:s.sl.length+1<=900)(b:Bool):uY s [.int .i64 1000000,.bool b]=some (enc (fq (s.sl.length:Int)),o7 s 1000000 b)/\Nx 1 s (o7 s 1000000 b)/\(o7 s 1000000 b).sl.length=s.sl.length+1/\(o7 s 1000000 b).z.isSome=true/\TO (o7 s 1000000 b) (fq (s.sl.length:Int)):=by
 have hp:=h.zGf;have hl:(o7 s 1000000 b).sl.length=s.sl.length+1:=by show (s.sl++[_]).length=_;simp
 obtain⟨M,O⟩:=ao.ztr h.fW (b:=b) (tr:=s.tr++[⟨s.sl.length,⟨false,tT,0,false⟩,true⟩]);refine⟨Kg (by omega) (by omega),⟨⟨?_,?_,(λe=>by cases e),by omega⟩,by omega,by omega,λ_=>rfl⟩,hl,rfl,?_⟩
 . rw[hl];exact M
 . rw[hl];show (s.tr++[_]).length+2*ao.Li ⟨s.sl++[⟨false,tT,1000000,b⟩],s.tr++[_]⟩<=_
   grind
 simp_all [ic.var,iZ]
def O4(h:Cd s):∀ k,s.sl.length+k<=900->Nx k s (iK s k)/\(iK s k).sl.length=s.sl.length+k/\(0<k->(iK s k).z.isSome=true)
 | 0,_=>⟨.refl h 0,rfl,λe=>by omega⟩
 | k+1,hk=>by
   obtain⟨M,O,h3⟩:=O4 h k (by omega);obtain⟨_,g2,g3,g4,_⟩:=ZX M.ok (by omega) false;exact⟨M.trans g2,by rw[iK,g3,O];rfl,λ_=>g4⟩
def Ub(h:i+k<=n):∀ x∈cz i k,ic n 1 x:=λx hx=>by
 unfold cz at hx;obtain⟨j,hj,rfl⟩:=aI.1 hx;rw[dB]at hj;exact ic.var (by omega) (af _)
def zbB(hn:n<=n')(hl:∀ x∈l,ic n' 1 x)(x:G)(_:x.args=[])(h:ic n 1 x):ic n' 1 (j4 l x):=by
 unfold j4;split
 . rename_i hc;rw[List.getD_eq_getElem?_getD]
   cases e:l[x.id.toNat]? with
   |none=>exact h.up hn
   |some y=>exact hl y (aC e)
 . exact h.up hn
def Gy(h:Cd s)(hz:s.z.isSome=true)(hx:TO s x)(hy:TO s y):∃ b s',Ev (λd f=>jD d f s [enc x,enc y]=some (.bool b,s'))/\Nx 0 s s':=by
 have hp:=h.zGf;have hf:=h.PA;obtain⟨d1,f1,r,hr⟩:=ao.zh3 (by decide) (by decide) (by omega) (by omega) (by omega) h.fW hx hy (by show s.tr.length+2*ao.Li ⟨s.sl,s.tr⟩<=_;omega);obtain⟨z,sl,tr⟩:=s;obtain⟨⟨a,b⟩,hz⟩:=bN.1 hz;simp only at hz;subst hz;obtain⟨m,hm⟩:=ao.Ja d1 (0+f1) (hr.run d1 (af _) 0);obtain⟨ex,hex,_⟩:=hm.b7;have hlen:=hm.len;obtain⟨⟨cS,xI⟩,e⟩:=r;simp only at hex hlen;subst hex;refine⟨decide (e=0),⟨some (a,b+ex.length),cS,tr++ex⟩,⟨max d1 f1,λd f hd hf=>?_⟩,⟨⟨?_,?_,(λe=>by cases e),?_⟩,?_,?_,λ_=>rfl⟩⟩
 . have:=hr.run d (by omega) (f-f1);rw[show f-f1+f1=f by omega]at this;exact Xo this
 . have:=hr.fW;rw[<- hlen]at this;exact this
 . have:=hr.b7;show (tr++ex).length+2*ao.Li ⟨cS,tr++ex⟩<=3*cS.length;rw[hlen];exact aO this hp
 . show cS.length<=900;rw[hlen];exact hf
 . show sl.length<=cS.length;rw[hlen];exact af _
 . show cS.length<=sl.length+0;rw[hlen];exact af _
theorem PO(h:Cd s)(hn:s.sl.length+1<=900)(hx:TO s x):∃ b s',Ev (λd f=>yE d f s [enc x]=some (.bool b,s'))/\Nx 1 s s'/\s'.z.isSome=true:=by
 obtain⟨M,O,h3,h4,h5⟩:=ZX h hn true;obtain⟨b,s',e1,e2⟩:=Gy O.ok h4 (O.to hx) h5;refine⟨b,s',e1.mono λd f hq=>?_,O.trans e2,e2.rows h4⟩;show (W (bo.dec (enc x):Y G) λ_=>W (uY s [.int .i64 1000000,.bool true]) λq=>jD d f q.2 [enc x,q.1])=_
 simp_all
theorem zpe{w:G}(h:ic n 7 w)(hc:(isArrow w).c=true):ic n 7 (isArrow w).a/\ic n 7 (isArrow w).b:=by
 obtain⟨k,nm,i,hm,l⟩:=w;unfold isArrow at hc ⊢;by_cases hk:k=4/\nm=[45,62]
 . simp only[G.fw,G.jC,G.fC,if_pos hk]at hc ⊢
   match l,hc,h with
   | [],hc,h=>cases hc
   | [a],hc,h=>cases hc
   | [a,b],hc,h=>exact⟨h.arg (by simp),h.arg (by simp)⟩
   |a::b::c::m,hc,h=>cases hc
 simp_all
theorem KT  (h:Cd s) (hn:s.sl.length+2<=900)  (ht:TO s t):∃ a b r s',Ev (λd f=>iE d f s [enc t]=some (.tuple [enc a,enc b,.bool r],s'))/\Nx 2 s s'/\(r=true->TO s' a/\TO s' b):=by
 obtain⟨w,hw⟩:∃ w,ao.w ⟨s.sl,s.tr⟩ t=w:=⟨_,rfl⟩;have zxf:TO s w:=by rw[<- hw];exact h.fW.Ez.kM (af 7) s.sl.length ht
 by_cases hk:w.kind=1
 . have hz:s.z.isSome=true:=by
    cases hz:s.z with
    |some _=>rfl
    | none =>
      have e:=h.row hz;have:=zxf.vars w (.self hk)
      grind
   obtain⟨⟨z0,z1⟩,zE⟩:=bN.1 hz;obtain⟨M,O,h3,h4,h5⟩:=ZX h (by omega) false;obtain⟨g1,g2,g3,g4,g5⟩:=ZX O.ok (by omega) false;have se:=g2.to h5
   have hA:ic (o7 (o7 s 1000000 false) 1000000 false).sl.length 7 (arr (fq (s.sl.length:Int)) (fq ((o7 s 1000000 false).sl.length:Int))):=by
    refine ic.node (show (4:Int)≠1 by decide) (G.oF.2 ⟨show 2<=10000 by decide,λx hx=>?_⟩) ?_ λx hx=>?_
    . simp only[arr,G.fC,aB,aS,or_false]at hx;rcases hx with rfl|rfl<;>rfl
    . show G.size (.mk 4 _ 0 0 [fq _,fq _])<=7;simp[G.size,G.bj,fq]
    . simp only[arr,G.fC,aB,aS,or_false]at hx
      grind
   obtain⟨r,s',e1,e2⟩:=Gy g2.ok g4 (g2.to (O.to zxf)) hA;refine⟨_,_,r,s',e1.mono λd f hq=>?_,((O.trans g2).trans e2).le (by omega),λ_=>⟨e2.to se,e2.to g5⟩⟩;show (W (bo.dec (enc t):Y G) _)=_;rw[bo.bZ,bU,if_pos (by omega),hw,if_pos hk,zE]
   simp_all
 . refine⟨(isArrow w).a,(isArrow w).b,(isArrow w).c,s,.all λd f=>?_,.refl h 2,λhc=>zpe zxf hc⟩;show (W (bo.dec (enc t):Y G) _)=_;rw[bo.bZ,bU,if_pos (by omega),hw,if_neg hk]
def UB:∀ (k:Nat) {s:MS} {r:G} {acc:Z G},Cd s->s.sl.length+2*k<=900->TO s r->(∀ x∈acc,TO s x)->∃ R,Ev (λd f=>uy d f k s r acc=some R)/\Nx (2*k) s R.2/\∀ p,R.1=some p->p.1.length=acc.length+k/\(∀ x∈p.1,TO R.2 x)/\TO R.2 p.2
 | 0,s,r,acc,h,hn,hr,ha=>⟨_,.all λd f=>rfl,.refl h 0,λp hp=>by cases hp;exact⟨rfl,ha,hr⟩⟩
 | k + 1,s,r,acc,h,hn,hr,ha=>by
   obtain⟨a,b,t,s1,e1,n1,o1⟩:=KT h (by omega) hr
   cases t with
   | false =>
     refine⟨(none,s1),e1.mono λd f hq=>?_,n1.le (by omega),λp hp=>by cases hp⟩;rw[uy,hq,bU]
   | true =>
     obtain⟨oa,zI4⟩:=o1 rfl
     obtain⟨R,e2,n2,o2⟩:=UB k (s:=s1) (r:=b) (acc:=acc++[a]) n1.ok (by have:=n1.hi;omega) zI4 (λx hx=>by
      rcases bA.1 hx with hx|hx
      . exact n1.to (ha x hx)
      . rw[ay]at hx;subst hx;exact oa)
     refine⟨R,(e1.and e2).mono λd f hq=>?_,(n1.trans n2).le (by omega),λp hp=>?_⟩
     . rw[uy,hq.1,bU];simp only[bo.bZ,bU];exact hq.2
     . obtain⟨q1,q2,q3⟩:=o2 p hp;exact⟨by rw[q1,bB];simp;omega,q2,q3⟩
def zoz  (h:Cd s) (hn:s.sl.length+2<=900)  (hg:TO s g) {R:Y (Z G×G)} (hR:∀ p,R=some p->(∀ x∈p.1,TO s x)/\TO s p.2):∃ acc e s',Ev (λd f=>Ko d f g (R,s)=some (acc,e,s'))/\Nx 2 s s'/\(e=true->(∃ r,R=some (acc,r))/\∀ x∈acc,TO s' x):=by
 cases R with
 |none=>exact⟨[],false,s,.all λd f=>rfl,.refl h 2,λe=>by cases e⟩
 | some p =>
   obtain⟨acc,r⟩:=p;obtain⟨ha,hr⟩:=hR _ rfl;obtain⟨b1,s1,e1,n1,z1⟩:=PO h (by omega) hg
   cases b1 with
   |false=>exact⟨acc,false,s1,e1.mono λd f hq=>by unfold Ko;simp only;rw[hq,bU],n1.le (by omega),λe=>by cases e⟩
   | true =>
     obtain⟨b2,s2,e2,n2,z2⟩:=PO n1.ok (by have:=n1.hi;omega) (n1.to hr)
     cases b2 with
     |false=>exact⟨acc,false,s2,(e1.and e2).mono λd f hq=>by unfold Ko;simp only;rw[hq.1,bU];simp only;rw[hq.2,bU],n1.trans n2,λe=>by cases e⟩
     | true =>
       obtain⟨b3,s3,e3,n3⟩:=Gy n2.ok z2 (n2.to (n1.to hr)) (n2.to (n1.to hg));exact⟨acc,b3,s3,((e1.and e2).and e3).mono λd f hq=>by unfold Ko;simp only;rw[hq.1.1,bU];simp only;rw[hq.1.2,bU];simp only;rw[hq.2,bU],(n1.trans n2).trans n3,λ_=>⟨⟨r,rfl⟩,λx hx=>n3.to (n2.to (n1.to (ha x hx)))⟩⟩
structure SO(n:Nat)(c:Scheme):Prop where
 ty:ic n 7 c.type
 PA:oU c<=2
def SO.up(h:SO n c)(hn:n<=n'):SO n' c:=⟨h.ty.up hn,h.PA⟩
def zjl(h:Cd s)(hn:s.sl.length+2<=900)(hc:SO s.sl.length c):∃ r s',Ea s [enc c]=some (enc r,s')/\Nx 2 s s'/\TO s' r:=by
 have hp:=h.zGf;have hf:=hc.PA;have C:=hc.ty.size;obtain⟨M,O,h3⟩:=O4 h (oU c) (by omega);refine⟨G9 s.sl.length c,iK s (oU c),?_,M.le hf,?_⟩
 . show (W (bo.dec (enc c):Y Scheme) _)=_;rw[bo.bZ,bU,if_pos ⟨hc.ty.ok,by omega,by omega,by omega⟩]
 . show ic _ 7 (c.type.D8 (j4 (cz s.sl.length (oU c))));rw[O];exact(zbq (zbB (fE _ _) (Ub (af _))) c.type hc.ty).1
theorem zjW(h:Cd s)(hn:s.sl.length+(2*k+4)<=900)(hl:l.length<=10000)(hc:SO s.sl.length c)(hg:TO s g)(fX:∀ x∈l,TO s x):∃ acc e s' r0,Ev (λd f=>Dk d f D s l [enc c,.int .i64 (k:Int),enc g]=some (.tuple [enc (acc:Z G),.bool e],s',l++[r0]))/\Nx (2*k+4) s s'/\(e=true->acc.length=k/\∀ x∈acc,TO s' x)/\∀ x∈l++[r0],TO s' x:=by
 obtain⟨r0,s1,o1,n1,t1⟩:=zjl h (by omega) hc;obtain⟨⟨R,s2⟩,e2,n2,o2⟩:=UB k (acc:=[]) n1.ok (by have:=n1.hi;omega) t1 (λx hx=>by cases hx);obtain⟨acc,e,s3,e3,n3,o3⟩:=zoz (R:=R) n2.ok (by have:=n1.hi;have:=n2.hi;omega) (n2.to (n1.to hg)) (λp hp=>(o2 p hp).2);refine⟨acc,e,s3,r0,(e2.and e3).mono λd f hq=>?_,((n1.trans n2).trans n3).le (by omega),λhe=>?_,λx hx=>?_⟩
 . exact zb8 (by omega) hl o1 hq.1 hq.2
 . grind
 . rcases bA.1 hx with hx|hx
   . exact n3.to (n2.to (n1.to (fX x hx)))
   . rw[ay]at hx;subst hx;exact n3.to (n2.to t1)
theorem ZV  (hD:D.length<=1000)  (h:Cd s) (hz:s.z.isSome=true)  (hi:i<D.length) (zD2:D[i].params.length<=2) (hn:s.sl.length+2<=900)  (hl:l.length<=10000)  (ht:TO s t) (fX:∀ x∈l,TO s x):∃ e s',Ev (λd f=>rJ d f D s l [enc t,.int .i64 (i:Int)]=some (.tuple [enc (cz s.sl.length D[i].params.length),.bool e],s',l++[t]))/\Nx 2 s s'/\s'.z.isSome=true/\(∀ x∈cz s.sl.length D[i].params.length,ic s'.sl.length 1 x)/\∀ x∈l++[t],TO s' x:=by
 have hp:=h.zGf;obtain⟨⟨z0,z1⟩,zE⟩:=bN.1 hz;obtain⟨M,O,h3⟩:=O4 h D[i].params.length (by omega);have zD3:=Ub (i:=s.sl.length) (k:=D[i].params.length) (n:=(iK s D[i].params.length).sl.length) (by omega)
 have hA:ic (iK s D[i].params.length).sl.length 7 (G.mk 4 D[i].name 0 0 (cz s.sl.length D[i].params.length)):=by
  have b8:∀ k i:Nat,G.bj (cz i k)=k:=λk i=>by
   unfold cz
   have:∀ m:Z Nat,G.bj (m.map λj=>fq ((i+j:Nat):Int))=m.length:=by
    intro m
    induction m with
    |nil=>rfl
    |cons x m ih=>rw[aR,G.bj,ih];simp[fq,G.size,G.bj];omega
   rw[this];simp
  refine ic.node (show (4:Int)≠1 by decide) (G.oF.2 ⟨by show (cz _ _).length<=_;rw[AJ];omega,λx hx=>(zD3 x hx).ok⟩) ?_ λx hx=>(zD3 x hx).le (by decide)
  rw[G.size_eq];show G.bj (cz _ _)+1<=7
  grind
 obtain⟨e,s',e1,n1⟩:=Gy M.ok (M.rows hz) (M.to ht) hA;refine⟨e,s',e1.mono λd f hq=>?_,(M.trans n1).le (by omega),n1.rows (M.rows hz),λx hx=>(zD3 x hx).up n1.lo,λx hx=>?_⟩
 . show (W (bo.dec (enc t):Y G) λt=>W D[((i:Nat):Int).toNat]? _)=_;rw[bo.bZ,bU,bP,ax hi,bU,zE];simp only;rw[if_pos ⟨by omega,hD,by omega,hl,by omega,by omega⟩,hq,bU];rfl
 . rcases bA.1 hx with hx|hx
   . exact n1.to (M.to (fX x hx))
   . rw[ay]at hx;subst hx;exact n1.to (M.to ht)
end Go.Proofs.YtfloillkpbhhhaaGreat
