import Derived.Test.YtocdkgjpdnamlaaGreatLXB
import Derived.Test.YtocdkgjpdnamlaaGreatJPy
import Derived.Test.YtocdkgjpdnamlaaGreatJL
set_option linter.all false
noncomputable section
/- The program's unification within a store: the work list. -/
namespace Go.Proofs.YtocdkgjpdnamlaaGreat
open Go.J
open Go.J.Enc (enc)
set_option maxRecDepth 100000
set_option maxHeartbeats 4000000
section
variable {ρ:Nat->Value}(hρ:J.Good ρ)
include hρ
section
variable {E:Env}(hE:E.P=Tryz.prog)(hcon:aZ ρ E)
include hE hcon
theorem ED {d f:Nat} (hP:E.dS 57=dN (sO (DN d))) (hB:E.dS 58=dN (Es 76)) {sl:List Slot} {tr:List Change} {a b:Ty} {sl':List Slot} {yO:List Change} {e:Int} (h:Store.cO d f ⟨sl,tr⟩ [⟨a,b⟩]=some (⟨sl',tr++yO⟩,e)) :
 Wp ρ E 2 50 zoX (((PT.leaf.set 0 (.ptr 0 0 0)).set 1 (enc a)).set 2 (enc b)) { H:=di (aC sl tr none),n:=2,log:=[] } (J.Leaves E.P Tryz.f37 (aj 2 (.int .i64 e) (aC sl' (tr++yO) (gN none yO.length)))):=by
 obtain⟨YX,si⟩:∃ YX,tr++yO=YX:=⟨_,rfl⟩;obtain⟨G3,hG3⟩:∃ G3,gN none yO.length=G3:=⟨_,rfl⟩;rw[si]at h;rw[si,hG3];obtain⟨ak,an,ai,ah,al⟩:=a;obtain⟨bk,bn,zsj,bh,bl⟩:=b;simp [hE,aC]
 refine DV hρ hE hcon f (nn:=7) (fun i (_:List Slot×List Change×Option Nat×List aT×List aT×Nat×Option Nat×Bool)=>[(7,.ptr 3 0 0),(8,.ptr 4 0 0)])
  (fun i st=>aC st.1 st.2.1 st.2.2.1++[(3,dn (.ptr 0 0 0)),(4,dn (.own 5 st.2.2.2.2.2.1 0 st.2.2.2.1.length st.2.2.2.2.2.2.1)),(5,.arr 10 st.2.2.2.2.2.1 (st.2.2.2.2.1.map aF) st.2.2.2.2.2.2.2 false true)])
  (fun i st=>(∃ qV,st.2.1=tr++qV/\st.2.2.1=gN none qV.length)/\st.2.2.2.2.1.take st.2.2.2.1.length=st.2.2.2.1.reverse/\st.2.2.2.1.length<=st.2.2.2.2.1.length/\(∀ c,st.2.2.2.2.2.2.1=some c->c=st.2.2.2.2.1.length)/\Store.cO d (f-i) ⟨st.1,st.2.1⟩ st.2.2.2.1=some (⟨sl',YX⟩,e))
  (sl,tr,none,[⟨.mk ak an ai ah al,.mk bk bn zsj bh bl⟩],[⟨.mk ak an ai ah al,.mk bk bn zsj bh bl⟩],0,some 1,true)
  (Less.auto (by simp[aC]) (by simp[aC]) (by simp[aC]) (by simp[aC]<;>(intro x hx;first|omega|exact⟨.inl hx,by omega⟩))) ⟨⟨[],by simp,by simp⟩,by simp,by simp,by simp,by simpa using h⟩ ?_ ?_
 . rintro ⟨sl1,iC,G,l,rows,gen,cap,x⟩ ⟨_,_,_,_,hw⟩ K;rw[Nat.sub_self,Store.cO]at hw;cases hw
 . rintro i ⟨sl1,iC,G,l,rows,gen,cap,x⟩ hi ⟨⟨qV,e1,e2⟩,h1,h2,h3,hw⟩ K hK;obtain⟨n,hn⟩:∃ n,f-i=n+1:=⟨f-i-1,by omega⟩;have hn2:f-(i+1)=n:=by omega
   rw[hn]at hw;simp only at e1 e2 h1 h2 h3 hw
   cases G with
   | none =>
     cases l with
     | nil =>
       rw[Store.cO]at hw;obtain⟨hq1,hq2⟩:=Prod.mk.inj (Option.some.inj hw);obtain⟨hq3,hq4⟩:=Store.mk.inj hq1
       have hG3:G3=none:=by
        have:yO=qV:=by rw[<- si,e1]at hq4;exact(List.append_cancel_left hq4).symm
        rw[<- hG3,this];exact e2.symm
       subst hq2 hq3 hq4 hG3;simp [lJ,hE,aC];refine bq.mk (Less.auto (TL:=[]) (HL:=aC sl1 iC none) (n:=7) (by simp[aC]) (by simp[aC]) (by simp[aC]) (by simp[aC]<;>(intro x hx;first|omega|exact⟨.inl hx,by omega⟩))) ?_;simp [aC];exact aj.bO rfl rfl rfl (by simp)
     | cons e0 l =>
       rw[Store.cO]at hw;split at hw
       case isFalse=>cases hw
       rename_i hok;obtain⟨hok,hll,Ao⟩:=hok;obtain⟨mg,zq5⟩:=yL ⟨sl1,iC⟩ e0.left e0.right;obtain⟨fK,t3,t4⟩:=zq5.trail;obtain⟨Q,hQ⟩:∃ Q,Store.gu ⟨sl1,iC⟩ e0.left e0.right=Q:=⟨_,rfl⟩;rw[hQ]at hw t3 Ao;obtain⟨more,c,sl2,tr2⟩:=Q;simp only at hw t3 Ao;subst t3;have hF:=Gv hok hQ;clear zq5 t4 hQ hok;have L9:l.length<rows.length:=by simp only[List.length_cons]at h2;omega
       have hre:rows[l.length]=e0:=by
        have:=congrArg (fun q=>q[l.length]?) h1;simp only[List.length_cons,List.reverse_cons]at this;rw[List.getElem?_take_of_lt (by omega),List.getElem?_eq_getElem L9,List.getElem?_append_right (by simp),List.length_reverse,Nat.sub_self]at this;exact Option.some.inj this
       have hrt:rows.take l.length=l.reverse:=by
        have:=congrArg (fun q=>q.take l.length) h1;simp only[List.length_cons,List.reverse_cons]at this;rw[List.take_take,Nat.min_eq_left (by omega),List.take_left' (by simp)]at this;exact this
       have hle:l.length<=rows.length:=by omega
       have hrl:((e0::l).length:Int)=(l.length:Int)+1:=by simp
       have hw0:IntKind.i64.wrap (l.length:Int)=(l.length:Int):=by rw[wrap_i64 (by omega) (by omega)]
       have hd1:l.length*10 / 10=l.length:=by omega
       have hd2:l.length*10 % 10=0:=by omega
       obtain⟨⟨pk,pn,pi,ph,pl⟩,⟨qk,qn,qi,qh,ql⟩⟩:=e0;simp at hF;by_cases hc:c=0
       . subst hc;rw[if_pos rfl]at hw
         have hnew:∀ (fP:List aT) (jJ:Nat) (cap2:Option Nat) (x2:Bool),fP.take (more++l).length=(more++l).reverse->(more++l).length<=fP.length->(∀ c,cap2=some c->c=fP.length)->_:=fun fP jJ cap2 x2 q1 q2 q3 =>
          hK (sl2,iC++fK,gN none fK.length,more++l,fP,jJ,cap2,x2) ⟨⟨qV++fK,by simp[e1],by simp only;rw[List.length_append,<- qw,<- e2]⟩,q1,q2,q3,by rw[hn2];exact hw⟩
         clear hK hw h1 e2;rcases fK with _|⟨z,fK⟩
         . cases cap with
           | none =>
             simp [lJ,hE,aC,hP,L9,hre,hw0,hd1,hd2,hF,ae,mE,lN,bounds,Bo,bU,vD,hB];refine jL hρ hE hcon (sl2:=sl2) (tr2:=iC) (G2:=none) (more:=more) (l:=l) (rows:=rows) (gen:=gen) (cap:=none) (x:=x) h3 hrt (by omega) (by omega) Ao (Less.auto (by simp[aC]) (by simp[aC]) (by simp[aC]) (by simp[aC]<;>(intro x hx;first|omega|exact⟨.inl hx,by omega⟩))) ?_;rintro H nn log zu4 iQ ⟨tJ,wB,jJ,cap2,fP,x2,r5,r6,r7,g4,gr,k1,k2,k3⟩;have f0:H.get 0=some (.arr 2 0 [[.own 1 0 0 sl2.length none,.sl (iC.map aV) true]] true false false):=tJ (0,zl4 sl2 iC none) (by simp[aC]);have f1:H.get 1=some (.arr 8 0 (sl2.map aX) false false true):=tJ (1,sW sl2) (by simp[aC]);have f2:True:=trivial;have f3:H.get 3=some (dn (.ptr 0 0 0)):=tJ (3,dn (.ptr 0 0 0)) (by simp[aC]);refine bq.mk (Less.lit (TL:=[(7,.ptr 3 0 0),(8,.ptr 4 0 0)]) (HL:=aC sl2 iC none++[(3,dn (.ptr 0 0 0)),(4,dn (.own 5 jJ 0 (more++l).length cap2)),(5,.arr 10 jJ (fP.map aF) x2 false true)]) (fun i=>if i=5 then wB else i) 7 ?_ ?_ ?_ ?_) ?_
             . simp[aC]
             . simp[aC,f0,f1,f3,g4,gr]
             . simp[aC]<;>omega
             . simp[aC]<;>(intro x hx;first|omega|exact⟨.inl (by omega),by omega⟩)
             simp[aC];have:=hnew fP jJ cap2 x2 k1 k2 k3;rw[List.append_nil]at this;exact this _ _ (Less.auto (by simp[aC]) (by simp[aC]) (by simp[aC]) (by simp[aC]<;>(intro x hx;first|omega|exact⟨.inl hx,by omega⟩)))
           | some cc =>
             obtain rfl:=h3 cc rfl;simp [lJ,hE,aC,hP,L9,hre,hw0,hd1,hd2,hF,ae,mE,lN,bounds,Bo,bU,vD,hB,hle];refine jL hρ hE hcon (sl2:=sl2) (tr2:=iC) (G2:=none) (more:=more) (l:=l) (rows:=rows) (gen:=gen) (cap:=(some rows.length)) (x:=x) h3 hrt (by omega) (by omega) Ao (Less.auto (by simp[aC]) (by simp[aC]) (by simp[aC]) (by simp[aC]<;>(intro x hx;first|omega|exact⟨.inl hx,by omega⟩))) ?_;rintro H nn log zu4 iQ ⟨tJ,wB,jJ,cap2,fP,x2,r5,r6,r7,g4,gr,k1,k2,k3⟩;have f0:H.get 0=some (.arr 2 0 [[.own 1 0 0 sl2.length none,.sl (iC.map aV) true]] true false false):=tJ (0,zl4 sl2 iC none) (by simp[aC]);have f1:H.get 1=some (.arr 8 0 (sl2.map aX) false false true):=tJ (1,sW sl2) (by simp[aC]);have f2:True:=trivial;have f3:H.get 3=some (dn (.ptr 0 0 0)):=tJ (3,dn (.ptr 0 0 0)) (by simp[aC]);refine bq.mk (Less.lit (TL:=[(7,.ptr 3 0 0),(8,.ptr 4 0 0)]) (HL:=aC sl2 iC none++[(3,dn (.ptr 0 0 0)),(4,dn (.own 5 jJ 0 (more++l).length cap2)),(5,.arr 10 jJ (fP.map aF) x2 false true)]) (fun i=>if i=5 then wB else i) 7 ?_ ?_ ?_ ?_) ?_
             . simp[aC]
             . simp[aC,f0,f1,f3,g4,gr]
             . simp[aC]<;>omega
             . simp[aC]<;>(intro x hx;first|omega|exact⟨.inl (by omega),by omega⟩)
             simp[aC];have:=hnew fP jJ cap2 x2 k1 k2 k3;rw[List.append_nil]at this;exact this _ _ (Less.auto (by simp[aC]) (by simp[aC]) (by simp[aC]) (by simp[aC]<;>(intro x hx;first|omega|exact⟨.inl hx,by omega⟩)))
         . obtain⟨tr2,d9⟩:∃ tr2,iC++z::fK=tr2:=⟨_,rfl⟩
           cases cap with
           | none =>
             simp [d9,lJ,hE,aC,hP,L9,hre,hw0,hd1,hd2,hF,ae,mE,lN,bounds,Bo,bU,vD,hB];refine jL hρ hE hcon (sl2:=sl2) (tr2:=tr2) (G2:=(some fK.length)) (more:=more) (l:=l) (rows:=rows) (gen:=gen) (cap:=none) (x:=x) h3 hrt (by omega) (by omega) Ao (Less.auto (by simp[aC]) (by simp[aC]) (by simp[aC]) (by simp[aC]<;>(intro x hx;first|omega|exact⟨.inl hx,by omega⟩))) ?_;rintro H nn log zu4 iQ ⟨tJ,wB,jJ,cap2,fP,x2,r5,r6,r7,g4,gr,k1,k2,k3⟩;have f0:H.get 0=some (.arr 2 0 [[.own 1 0 0 sl2.length none,.own 2 (fK.length) 0 tr2.length none]] true false false):=tJ (0,zl4 sl2 tr2 (some fK.length)) (by simp[aC]);have f1:H.get 1=some (.arr 8 0 (sl2.map aX) false false true):=tJ (1,sW sl2) (by simp[aC]);have f2:H.get 2=some (.arr 10 (fK.length) (tr2.map aV) false false true):=tJ (2,Fv tr2 (fK.length)) (by simp[aC]);have f3:H.get 3=some (dn (.ptr 0 0 0)):=tJ (3,dn (.ptr 0 0 0)) (by simp[aC]);refine bq.mk (Less.lit (TL:=[(7,.ptr 3 0 0),(8,.ptr 4 0 0)]) (HL:=aC sl2 tr2 (some fK.length)++[(3,dn (.ptr 0 0 0)),(4,dn (.own 5 jJ 0 (more++l).length cap2)),(5,.arr 10 jJ (fP.map aF) x2 false true)]) (fun i=>if i=5 then wB else i) 7 ?_ ?_ ?_ ?_) ?_
             . simp[aC]
             . simp[aC,f0,f1,f2,f3,g4,gr]
             . simp[aC]<;>omega
             . simp[aC]<;>(intro x hx;first|omega|exact⟨.inl (by omega),by omega⟩)
             simp[aC];have:=hnew fP jJ cap2 x2 k1 k2 k3;rw[d9]at this;exact this _ _ (Less.auto (by simp[aC]) (by simp[aC]) (by simp[aC]) (by simp[aC]<;>(intro x hx;first|omega|exact⟨.inl hx,by omega⟩)))
           | some cc =>
             obtain rfl:=h3 cc rfl;simp [d9,lJ,hE,aC,hP,L9,hre,hw0,hd1,hd2,hF,ae,mE,lN,bounds,Bo,bU,vD,hB,hle];refine jL hρ hE hcon (sl2:=sl2) (tr2:=tr2) (G2:=(some fK.length)) (more:=more) (l:=l) (rows:=rows) (gen:=gen) (cap:=(some rows.length)) (x:=x) h3 hrt (by omega) (by omega) Ao (Less.auto (by simp[aC]) (by simp[aC]) (by simp[aC]) (by simp[aC]<;>(intro x hx;first|omega|exact⟨.inl hx,by omega⟩))) ?_;rintro H nn log zu4 iQ ⟨tJ,wB,jJ,cap2,fP,x2,r5,r6,r7,g4,gr,k1,k2,k3⟩;have f0:H.get 0=some (.arr 2 0 [[.own 1 0 0 sl2.length none,.own 2 (fK.length) 0 tr2.length none]] true false false):=tJ (0,zl4 sl2 tr2 (some fK.length)) (by simp[aC]);have f1:H.get 1=some (.arr 8 0 (sl2.map aX) false false true):=tJ (1,sW sl2) (by simp[aC]);have f2:H.get 2=some (.arr 10 (fK.length) (tr2.map aV) false false true):=tJ (2,Fv tr2 (fK.length)) (by simp[aC]);have f3:H.get 3=some (dn (.ptr 0 0 0)):=tJ (3,dn (.ptr 0 0 0)) (by simp[aC]);refine bq.mk (Less.lit (TL:=[(7,.ptr 3 0 0),(8,.ptr 4 0 0)]) (HL:=aC sl2 tr2 (some fK.length)++[(3,dn (.ptr 0 0 0)),(4,dn (.own 5 jJ 0 (more++l).length cap2)),(5,.arr 10 jJ (fP.map aF) x2 false true)]) (fun i=>if i=5 then wB else i) 7 ?_ ?_ ?_ ?_) ?_
             . simp[aC]
             . simp[aC,f0,f1,f2,f3,g4,gr]
             . simp[aC]<;>omega
             . simp[aC]<;>(intro x hx;first|omega|exact⟨.inl (by omega),by omega⟩)
             simp[aC];have:=hnew fP jJ cap2 x2 k1 k2 k3;rw[d9]at this;exact this _ _ (Less.auto (by simp[aC]) (by simp[aC]) (by simp[aC]) (by simp[aC]<;>(intro x hx;first|omega|exact⟨.inl hx,by omega⟩)))
       . rw[if_neg hc]at hw;obtain⟨hq1,hq2⟩:=Prod.mk.inj (Option.some.inj hw);obtain⟨hq3,hq4⟩:=Store.mk.inj hq1
         have hG3:G3=gN none fK.length:=by
          have:yO=qV++fK:=by rw[<- si,e1,List.append_assoc]at hq4;exact(List.append_cancel_left hq4).symm
          rw[<- hG3,this,List.length_append,<- qw,<- e2]
         subst hq2 hq3 hG3 hq4;rcases fK with _|⟨z,fK⟩
         . simp [lJ,hE,aC,hP,L9,hre,hw0,hd1,hd2,hF,ae,hc];refine bq.mk (Less.auto (TL:=[(6,.int .i64 c)]) (HL:=aC sl2 iC none) (n:=7) (by simp[aC]) (by simp[aC]) (by simp[aC]) (by simp[aC]<;>(intro x hx;first|omega|exact⟨.inl hx,by omega⟩))) ?_;simp [aC];exact aj.bO rfl rfl rfl (by simp)
         . obtain⟨tr2,d9⟩:∃ tr2,iC++z::fK=tr2:=⟨_,rfl⟩;simp [d9,lJ,hE,aC,hP,L9,hre,hw0,hd1,hd2,hF,ae,hc];refine bq.mk (Less.auto (TL:=[(6,.int .i64 c)]) (HL:=aC sl2 tr2 (some fK.length)) (n:=7) (by simp[aC]) (by simp[aC]) (by simp[aC]) (by simp[aC]<;>(intro x hx;first|omega|exact⟨.inl hx,by omega⟩))) ?_;simp [aC];exact aj.bO rfl rfl rfl (by simp)
   | some G =>
     cases l with
     | nil =>
       rw[Store.cO]at hw;obtain⟨hq1,hq2⟩:=Prod.mk.inj (Option.some.inj hw);obtain⟨hq3,hq4⟩:=Store.mk.inj hq1
       have hG3:G3=(some G):=by
        have:yO=qV:=by rw[<- si,e1]at hq4;exact(List.append_cancel_left hq4).symm
        rw[<- hG3,this];exact e2.symm
       subst hq2 hq3 hq4 hG3;simp [lJ,hE,aC];refine bq.mk (Less.auto (TL:=[]) (HL:=aC sl1 iC (some G)) (n:=7) (by simp[aC]) (by simp[aC]) (by simp[aC]) (by simp[aC]<;>(intro x hx;first|omega|exact⟨.inl hx,by omega⟩))) ?_;simp [aC];exact aj.bO rfl rfl rfl (by simp)
     | cons e0 l =>
       rw[Store.cO]at hw;split at hw
       case isFalse=>cases hw
       rename_i hok;obtain⟨hok,hll,Ao⟩:=hok;obtain⟨mg,zq5⟩:=yL ⟨sl1,iC⟩ e0.left e0.right;obtain⟨fK,t3,t4⟩:=zq5.trail;obtain⟨Q,hQ⟩:∃ Q,Store.gu ⟨sl1,iC⟩ e0.left e0.right=Q:=⟨_,rfl⟩;rw[hQ]at hw t3 Ao;obtain⟨more,c,sl2,tr2⟩:=Q;simp only at hw t3 Ao;subst t3;have hF:=Gv hok hQ;clear zq5 t4 hQ hok;have L9:l.length<rows.length:=by simp only[List.length_cons]at h2;omega
       have hre:rows[l.length]=e0:=by
        have:=congrArg (fun q=>q[l.length]?) h1;simp only[List.length_cons,List.reverse_cons]at this;rw[List.getElem?_take_of_lt (by omega),List.getElem?_eq_getElem L9,List.getElem?_append_right (by simp),List.length_reverse,Nat.sub_self]at this;exact Option.some.inj this
       have hrt:rows.take l.length=l.reverse:=by
        have:=congrArg (fun q=>q.take l.length) h1;simp only[List.length_cons,List.reverse_cons]at this;rw[List.take_take,Nat.min_eq_left (by omega),List.take_left' (by simp)]at this;exact this
       have hle:l.length<=rows.length:=by omega
       have hrl:((e0::l).length:Int)=(l.length:Int)+1:=by simp
       have hw0:IntKind.i64.wrap (l.length:Int)=(l.length:Int):=by rw[wrap_i64 (by omega) (by omega)]
       have hd1:l.length*10 / 10=l.length:=by omega
       have hd2:l.length*10 % 10=0:=by omega
       obtain⟨⟨pk,pn,pi,ph,pl⟩,⟨qk,qn,qi,qh,ql⟩⟩:=e0;simp at hF;by_cases hc:c=0
       . subst hc;rw[if_pos rfl]at hw
         have hnew:∀ (fP:List aT) (jJ:Nat) (cap2:Option Nat) (x2:Bool),fP.take (more++l).length=(more++l).reverse->(more++l).length<=fP.length->(∀ c,cap2=some c->c=fP.length)->_:=fun fP jJ cap2 x2 q1 q2 q3 =>
          hK (sl2,iC++fK,gN (some G) fK.length,more++l,fP,jJ,cap2,x2) ⟨⟨qV++fK,by simp[e1],by simp only;rw[List.length_append,<- qw,<- e2]⟩,q1,q2,q3,by rw[hn2];exact hw⟩
         clear hK hw h1 e2;obtain⟨tr2,d9⟩:∃ tr2,iC++fK=tr2:=⟨_,rfl⟩
         cases cap with
         | none =>
           simp [d9,lJ,hE,aC,hP,L9,hre,hw0,hd1,hd2,hF,ae,mE,lN,bounds,Bo,bU,vD,hB];refine jL hρ hE hcon (sl2:=sl2) (tr2:=tr2) (G2:=(some (G+fK.length))) (more:=more) (l:=l) (rows:=rows) (gen:=gen) (cap:=none) (x:=x) h3 hrt (by omega) (by omega) Ao (Less.auto (by simp[aC]) (by simp[aC]) (by simp[aC]) (by simp[aC]<;>(intro x hx;first|omega|exact⟨.inl hx,by omega⟩))) ?_;rintro H nn log zu4 iQ ⟨tJ,wB,jJ,cap2,fP,x2,r5,r6,r7,g4,gr,k1,k2,k3⟩;have f0:H.get 0=some (.arr 2 0 [[.own 1 0 0 sl2.length none,.own 2 ((G+fK.length)) 0 tr2.length none]] true false false):=tJ (0,zl4 sl2 tr2 (some (G+fK.length))) (by simp[aC]);have f1:H.get 1=some (.arr 8 0 (sl2.map aX) false false true):=tJ (1,sW sl2) (by simp[aC]);have f2:H.get 2=some (.arr 10 ((G+fK.length)) (tr2.map aV) false false true):=tJ (2,Fv tr2 ((G+fK.length))) (by simp[aC]);have f3:H.get 3=some (dn (.ptr 0 0 0)):=tJ (3,dn (.ptr 0 0 0)) (by simp[aC]);refine bq.mk (Less.lit (TL:=[(7,.ptr 3 0 0),(8,.ptr 4 0 0)]) (HL:=aC sl2 tr2 (some (G+fK.length))++[(3,dn (.ptr 0 0 0)),(4,dn (.own 5 jJ 0 (more++l).length cap2)),(5,.arr 10 jJ (fP.map aF) x2 false true)]) (fun i=>if i=5 then wB else i) 7 ?_ ?_ ?_ ?_) ?_
           . simp[aC]
           . simp[aC,f0,f1,f2,f3,g4,gr]
           . simp[aC]<;>omega
           . simp[aC]<;>(intro x hx;first|omega|exact⟨.inl (by omega),by omega⟩)
           simp[aC];have:=hnew fP jJ cap2 x2 k1 k2 k3;rw[d9]at this;exact this _ _ (Less.auto (by simp[aC]) (by simp[aC]) (by simp[aC]) (by simp[aC]<;>(intro x hx;first|omega|exact⟨.inl hx,by omega⟩)))
         | some cc =>
           obtain rfl:=h3 cc rfl;simp [d9,lJ,hE,aC,hP,L9,hre,hw0,hd1,hd2,hF,ae,mE,lN,bounds,Bo,bU,vD,hB,hle];refine jL hρ hE hcon (sl2:=sl2) (tr2:=tr2) (G2:=(some (G+fK.length))) (more:=more) (l:=l) (rows:=rows) (gen:=gen) (cap:=(some rows.length)) (x:=x) h3 hrt (by omega) (by omega) Ao (Less.auto (by simp[aC]) (by simp[aC]) (by simp[aC]) (by simp[aC]<;>(intro x hx;first|omega|exact⟨.inl hx,by omega⟩))) ?_;rintro H nn log zu4 iQ ⟨tJ,wB,jJ,cap2,fP,x2,r5,r6,r7,g4,gr,k1,k2,k3⟩;have f0:H.get 0=some (.arr 2 0 [[.own 1 0 0 sl2.length none,.own 2 ((G+fK.length)) 0 tr2.length none]] true false false):=tJ (0,zl4 sl2 tr2 (some (G+fK.length))) (by simp[aC]);have f1:H.get 1=some (.arr 8 0 (sl2.map aX) false false true):=tJ (1,sW sl2) (by simp[aC]);have f2:H.get 2=some (.arr 10 ((G+fK.length)) (tr2.map aV) false false true):=tJ (2,Fv tr2 ((G+fK.length))) (by simp[aC]);have f3:H.get 3=some (dn (.ptr 0 0 0)):=tJ (3,dn (.ptr 0 0 0)) (by simp[aC]);refine bq.mk (Less.lit (TL:=[(7,.ptr 3 0 0),(8,.ptr 4 0 0)]) (HL:=aC sl2 tr2 (some (G+fK.length))++[(3,dn (.ptr 0 0 0)),(4,dn (.own 5 jJ 0 (more++l).length cap2)),(5,.arr 10 jJ (fP.map aF) x2 false true)]) (fun i=>if i=5 then wB else i) 7 ?_ ?_ ?_ ?_) ?_
           . simp[aC]
           . simp[aC,f0,f1,f2,f3,g4,gr]
           . simp[aC]<;>omega
           . simp[aC]<;>(intro x hx;first|omega|exact⟨.inl (by omega),by omega⟩)
           simp[aC];have:=hnew fP jJ cap2 x2 k1 k2 k3;rw[d9]at this;exact this _ _ (Less.auto (by simp[aC]) (by simp[aC]) (by simp[aC]) (by simp[aC]<;>(intro x hx;first|omega|exact⟨.inl hx,by omega⟩)))
       . rw[if_neg hc]at hw;obtain⟨hq1,hq2⟩:=Prod.mk.inj (Option.some.inj hw);obtain⟨hq3,hq4⟩:=Store.mk.inj hq1
         have hG3:G3=gN (some G) fK.length:=by
          have:yO=qV++fK:=by rw[<- si,e1,List.append_assoc]at hq4;exact(List.append_cancel_left hq4).symm
          rw[<- hG3,this,List.length_append,<- qw,<- e2]
         subst hq2 hq3 hG3 hq4;obtain⟨tr2,d9⟩:∃ tr2,iC++fK=tr2:=⟨_,rfl⟩;simp [d9,lJ,hE,aC,hP,L9,hre,hw0,hd1,hd2,hF,ae,hc];refine bq.mk (Less.auto (TL:=[(6,.int .i64 c)]) (HL:=aC sl2 tr2 (some (G+fK.length))) (n:=7) (by simp[aC]) (by simp[aC]) (by simp[aC]) (by simp[aC]<;>(intro x hx;first|omega|exact⟨.inl hx,by omega⟩))) ?_;simp [aC];exact aj.bO rfl rfl rfl (by simp)
end
end
end Go.Proofs.YtocdkgjpdnamlaaGreat
