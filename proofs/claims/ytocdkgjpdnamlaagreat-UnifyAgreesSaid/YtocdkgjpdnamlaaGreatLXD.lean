import Derived.Test.YtocdkgjpdnamlaaGreatLUI0
import Derived.Test.YtocdkgjpdnamlaaGreatJPy
import Derived.Test.YtocdkgjpdnamlaaGreatJL
import Derived.Test.YtocdkgjpdnamlaaGreatJQx
import Derived.Test.YtocdkgjpdnamlaaGreatJQ
set_option linter.all false
noncomputable section
/- The program's unification within a store: the work list. -/
namespace Go.Proofs.YtocdkgjpdnamlaaGreat
open Go.J
open Go.J.Enc (enc)
set_option maxRecDepth 100000
set_option maxHeartbeats 4000000
section
variable {ρ:Nat->Value}(hρ:J.Good ρ)
include hρ
section
variable {E:Env}(hE:E.P=Tryz.prog)(hcon:aZ ρ E)
include hE hcon
theorem EC {d f:Nat} (hP:E.dS 57=dN (sO (DN d))) (hB:E.dS 58=dN (Es 76)) {sl:List Slot} {tr:List Change} {g:Nat} {a b:Ty} {sl':List Slot} {yO:List Change} {e:Int} (h:Store.cO d f ⟨sl,tr⟩ [⟨a,b⟩]=some (⟨sl',tr++yO⟩,e)) :
 Wp ρ E 3 50 zoX (((PT.leaf.set 0 (.ptr 0 0 0)).set 1 (enc a)).set 2 (enc b)) { H:=di (aC sl tr (some g)),n:=3,log:=[] } (J.Leaves E.P Tryz.f37 (aj 3 (.int .i64 e) (aC sl' (tr++yO) (gN (some g) yO.length)))):=by
 obtain⟨YX,si⟩:∃ YX,tr++yO=YX:=⟨_,rfl⟩;obtain⟨G3,hG3⟩:∃ G3,gN (some g) yO.length=G3:=⟨_,rfl⟩;rw[si]at h;rw[si,hG3];obtain⟨ak,an,ai,ah,al⟩:=a;obtain⟨bk,bn,zsj,bh,bl⟩:=b;simp [hE,aC]
 refine DV hρ hE hcon f (nn:=7) (fun i (_:List Slot×List Change×Option Nat×List aT×List aT×Nat×Option Nat×Bool)=>[(7,.ptr 3 0 0),(8,.ptr 4 0 0)])
  (fun i st=>aC st.1 st.2.1 st.2.2.1++[(3,dn (.ptr 0 0 0)),(4,dn (.own 5 st.2.2.2.2.2.1 0 st.2.2.2.1.length st.2.2.2.2.2.2.1)),(5,.arr 10 st.2.2.2.2.2.1 (st.2.2.2.2.1.map aF) st.2.2.2.2.2.2.2 false true)])
  (fun i st=>(∃ qV,st.2.1=tr++qV/\st.2.2.1=gN (some g) qV.length)/\st.2.2.2.2.1.take st.2.2.2.1.length=st.2.2.2.1.reverse/\st.2.2.2.1.length<=st.2.2.2.2.1.length/\(∀ c,st.2.2.2.2.2.2.1=some c->c=st.2.2.2.2.1.length)/\Store.cO d (f-i) ⟨st.1,st.2.1⟩ st.2.2.2.1=some (⟨sl',YX⟩,e))
  (sl,tr,(some g),[⟨.mk ak an ai ah al,.mk bk bn zsj bh bl⟩],[⟨.mk ak an ai ah al,.mk bk bn zsj bh bl⟩],0,some 1,true)
  (Less.auto (by simp[aC]) (by simp[aC]) (by simp[aC]) (by simp[aC]<;>(intro x hx;first|omega|exact⟨.inl hx,by omega⟩))) ⟨⟨[],by simp,by simp⟩,by simp,by simp,by simp,by simpa using h⟩ ?_ ?_
 . rintro ⟨sl1,iC,G,l,rows,gen,cap,x⟩ ⟨_,_,_,_,hw⟩ K;rw[Nat.sub_self,Store.cO]at hw;cases hw
 . rintro i ⟨sl1,iC,G,l,rows,gen,cap,x⟩ hi ⟨⟨qV,e1,e2⟩,h1,h2,h3,hw⟩ K hK;obtain⟨n,hn⟩:∃ n,f-i=n+1:=⟨f-i-1,by omega⟩;have hn2:f-(i+1)=n:=by omega
   rw[hn]at hw;simp only at e1 e2 h1 h2 h3 hw
   cases G with
   | none =>
     exact(by simp at e2:False).elim
   | some G =>
     cases l with
     | nil =>
       rw[Store.cO]at hw;obtain⟨hq1,hq2⟩:=Prod.mk.inj (Option.some.inj hw);obtain⟨hq3,hq4⟩:=Store.mk.inj hq1
       have hG3:G3=(some G):=by
        have:yO=qV:=by rw[<- si,e1]at hq4;exact(List.append_cancel_left hq4).symm
        rw[<- hG3,this];exact e2.symm
       subst hq2 hq3 hq4 hG3;simp [lJ,hE,aC];refine bq.mk (Less.auto (TL:=[]) (HL:=aC sl1 iC (some G)) (n:=7) (by simp[aC]) (by simp[aC]) (by simp[aC]) (by simp[aC]<;>(intro x hx;first|omega|exact⟨.inl hx,by omega⟩))) ?_;simp [aC];exact aj.bO rfl rfl rfl (by simp)
     | cons e0 l =>
       rw[Store.cO]at hw;split at hw
       case isFalse=>cases hw
       rename_i hok;obtain⟨hok,hll,Ao⟩:=hok;obtain⟨mg,zq5⟩:=yL ⟨sl1,iC⟩ e0.left e0.right;obtain⟨fK,t3,t4⟩:=zq5.trail;obtain⟨Q,hQ⟩:∃ Q,Store.gu ⟨sl1,iC⟩ e0.left e0.right=Q:=⟨_,rfl⟩;rw[hQ]at hw t3 Ao;obtain⟨more,c,sl2,tr2⟩:=Q;simp only at hw t3 Ao;subst t3;have hF:=Gv hok hQ;clear zq5 t4 hQ hok;have L9:l.length<rows.length:=by simp only[List.length_cons]at h2;omega
       have hre:rows[l.length]=e0:=by
        have:=congrArg (fun q=>q[l.length]?) h1;simp only[List.length_cons,List.reverse_cons]at this;rw[List.getElem?_take_of_lt (by omega),List.getElem?_eq_getElem L9,List.getElem?_append_right (by simp),List.length_reverse,Nat.sub_self]at this;exact Option.some.inj this
       have hrt:rows.take l.length=l.reverse:=by
        have:=congrArg (fun q=>q.take l.length) h1;simp only[List.length_cons,List.reverse_cons]at this;rw[List.take_take,Nat.min_eq_left (by omega),List.take_left' (by simp)]at this;exact this
       have hle:l.length<=rows.length:=by omega
       have hrl:((e0::l).length:Int)=(l.length:Int)+1:=by simp
       have hw0:IntKind.i64.wrap (l.length:Int)=(l.length:Int):=by rw[wrap_i64 (by omega) (by omega)]
       have hd1:l.length*10 / 10=l.length:=by omega
       have hd2:l.length*10 % 10=0:=by omega
       obtain⟨⟨pk,pn,pi,ph,pl⟩,⟨qk,qn,qi,qh,ql⟩⟩:=e0;simp at hF;by_cases hc:c=0
       . subst hc;rw[if_pos rfl]at hw
         have hnew:∀ (fP:List aT) (jJ:Nat) (cap2:Option Nat) (x2:Bool),fP.take (more++l).length=(more++l).reverse->(more++l).length<=fP.length->(∀ c,cap2=some c->c=fP.length)->_:=fun fP jJ cap2 x2 q1 q2 q3 =>
          hK (sl2,iC++fK,gN (some G) fK.length,more++l,fP,jJ,cap2,x2) ⟨⟨qV++fK,by simp[e1],by simp only;rw[List.length_append,<- qw,<- e2]⟩,q1,q2,q3,by rw[hn2];exact hw⟩
         clear hK hw h1 e2;obtain⟨tr2,d9⟩:∃ tr2,iC++fK=tr2:=⟨_,rfl⟩
         cases cap with
         | none =>
           simp [d9,lJ,hE,aC,hP,L9,hre,hw0,hd1,hd2,hF,ae,mE,lN,bounds,Bo,bU,vD,hB];refine jL hρ hE hcon (sl2:=sl2) (tr2:=tr2) (G2:=(some (G+fK.length))) (more:=more) (l:=l) (rows:=rows) (gen:=gen) (cap:=none) (x:=x) h3 hrt (by omega) (by omega) Ao (Less.auto (by simp[aC]) (by simp[aC]) (by simp[aC]) (by simp[aC]<;>(intro x hx;first|omega|exact⟨.inl hx,by omega⟩))) ?_;rintro H nn log zu4 iQ ⟨tJ,wB,jJ,cap2,fP,x2,r5,r6,r7,g4,gr,k1,k2,k3⟩;have f0:H.get 0=some (.arr 2 0 [[.own 1 0 0 sl2.length none,.own 2 ((G+fK.length)) 0 tr2.length none]] true false false):=tJ (0,zl4 sl2 tr2 (some (G+fK.length))) (by simp[aC]);have f1:H.get 1=some (.arr 8 0 (sl2.map aX) false false true):=tJ (1,sW sl2) (by simp[aC]);have f2:H.get 2=some (.arr 10 ((G+fK.length)) (tr2.map aV) false false true):=tJ (2,Fv tr2 ((G+fK.length))) (by simp[aC]);have f3:H.get 3=some (dn (.ptr 0 0 0)):=tJ (3,dn (.ptr 0 0 0)) (by simp[aC]);refine bq.mk (Less.lit (TL:=[(7,.ptr 3 0 0),(8,.ptr 4 0 0)]) (HL:=aC sl2 tr2 (some (G+fK.length))++[(3,dn (.ptr 0 0 0)),(4,dn (.own 5 jJ 0 (more++l).length cap2)),(5,.arr 10 jJ (fP.map aF) x2 false true)]) (fun i=>if i=5 then wB else i) 7 ?_ ?_ ?_ ?_) ?_
           . simp[aC]
           . simp[aC,f0,f1,f2,f3,g4,gr]
           . simp[aC]<;>omega
           . simp[aC]<;>(intro x hx;first|omega|exact⟨.inl (by omega),by omega⟩)
           simp[aC];have:=hnew fP jJ cap2 x2 k1 k2 k3;rw[d9]at this;exact this _ _ (Less.auto (by simp[aC]) (by simp[aC]) (by simp[aC]) (by simp[aC]<;>(intro x hx;first|omega|exact⟨.inl hx,by omega⟩)))
         | some cc =>
           obtain rfl:=h3 cc rfl;simp [d9,lJ,hE,aC,hP,L9,hre,hw0,hd1,hd2,hF,ae,mE,lN,bounds,Bo,bU,vD,hB,hle];refine jL hρ hE hcon (sl2:=sl2) (tr2:=tr2) (G2:=(some (G+fK.length))) (more:=more) (l:=l) (rows:=rows) (gen:=gen) (cap:=(some rows.length)) (x:=x) h3 hrt (by omega) (by omega) Ao (Less.auto (by simp[aC]) (by simp[aC]) (by simp[aC]) (by simp[aC]<;>(intro x hx;first|omega|exact⟨.inl hx,by omega⟩))) ?_;rintro H nn log zu4 iQ ⟨tJ,wB,jJ,cap2,fP,x2,r5,r6,r7,g4,gr,k1,k2,k3⟩;have f0:H.get 0=some (.arr 2 0 [[.own 1 0 0 sl2.length none,.own 2 ((G+fK.length)) 0 tr2.length none]] true false false):=tJ (0,zl4 sl2 tr2 (some (G+fK.length))) (by simp[aC]);have f1:H.get 1=some (.arr 8 0 (sl2.map aX) false false true):=tJ (1,sW sl2) (by simp[aC]);have f2:H.get 2=some (.arr 10 ((G+fK.length)) (tr2.map aV) false false true):=tJ (2,Fv tr2 ((G+fK.length))) (by simp[aC]);have f3:H.get 3=some (dn (.ptr 0 0 0)):=tJ (3,dn (.ptr 0 0 0)) (by simp[aC]);refine bq.mk (Less.lit (TL:=[(7,.ptr 3 0 0),(8,.ptr 4 0 0)]) (HL:=aC sl2 tr2 (some (G+fK.length))++[(3,dn (.ptr 0 0 0)),(4,dn (.own 5 jJ 0 (more++l).length cap2)),(5,.arr 10 jJ (fP.map aF) x2 false true)]) (fun i=>if i=5 then wB else i) 7 ?_ ?_ ?_ ?_) ?_
           . simp[aC]
           . simp[aC,f0,f1,f2,f3,g4,gr]
           . simp[aC]<;>omega
           . simp[aC]<;>(intro x hx;first|omega|exact⟨.inl (by omega),by omega⟩)
           simp[aC];have:=hnew fP jJ cap2 x2 k1 k2 k3;rw[d9]at this;exact this _ _ (Less.auto (by simp[aC]) (by simp[aC]) (by simp[aC]) (by simp[aC]<;>(intro x hx;first|omega|exact⟨.inl hx,by omega⟩)))
       . rw[if_neg hc]at hw;obtain⟨hq1,hq2⟩:=Prod.mk.inj (Option.some.inj hw);obtain⟨hq3,hq4⟩:=Store.mk.inj hq1
         have hG3:G3=gN (some G) fK.length:=by
          have:yO=qV++fK:=by rw[<- si,e1,List.append_assoc]at hq4;exact(List.append_cancel_left hq4).symm
          rw[<- hG3,this,List.length_append,<- qw,<- e2]
         subst hq2 hq3 hG3 hq4;obtain⟨tr2,d9⟩:∃ tr2,iC++fK=tr2:=⟨_,rfl⟩;simp [d9,lJ,hE,aC,hP,L9,hre,hw0,hd1,hd2,hF,ae,hc];refine bq.mk (Less.auto (TL:=[(6,.int .i64 c)]) (HL:=aC sl2 tr2 (some (G+fK.length))) (n:=7) (by simp[aC]) (by simp[aC]) (by simp[aC]) (by simp[aC]<;>(intro x hx;first|omega|exact⟨.inl hx,by omega⟩))) ?_;simp [aC];exact aj.bO rfl rfl rfl (by simp)
end
end
end Go.Proofs.YtocdkgjpdnamlaaGreat
/- The program's unification: its contract. -/
namespace Go.Proofs.YtocdkgjpdnamlaaGreat
open Go.J
open Go.J.Enc (enc)
set_option maxRecDepth 100000
set_option maxHeartbeats 4000000
def xZ(d f:Nat)(sl:List Slot)(tr:List Change)(args:List V):Option (V×List Slot×List Change):=match args with
 | [av,bv]=>ob (Enc.dec av:Option Ty) fun a=>ob (Enc.dec bv:Option Ty) fun b=>ob (Store.cO d f ⟨sl,tr⟩ [⟨a,b⟩]) fun r=>some (.int .i64 r.2,r.1.slots,r.1.trail.drop tr.length)
 |_=>none
theorem Nb{d f:Nat}{sl:List Slot}{tr:List Change}{args:List V}{q:V×List Slot×List Change}(h:xZ d f sl tr args=some q):∃ (a b:Ty) (r:Store×Int),args=[enc a,enc b]/\Store.cO d f ⟨sl,tr⟩ [⟨a,b⟩]=some r/\q=(.int .i64 r.2,r.1.slots,r.1.trail.drop tr.length):=by
 unfold xZ at h;split at h
 . simp only[af]at h;obtain⟨a,ha,b,hb,r,hr,h⟩:=h;cases h;exact⟨a,b,r,by rw[Enc.aU _ _ ha,Enc.aU _ _ hb],hr,rfl⟩
 . cases h
theorem QA{d f:Nat}{sl:List Slot}{tr:List Change}{a b:Ty}{sl':List Slot}{ex:List Change}{e:Int}(h:Store.cO d f ⟨sl,tr⟩ [⟨a,b⟩]=some (⟨sl',tr++ex⟩,e)):xZ d f sl tr [enc a,enc b]=some (.int .i64 e,sl',ex):=by
 show ob (Enc.dec (enc a):Option Ty) (fun a=>ob (Enc.dec (enc b):Option Ty) fun b=>ob (Store.cO d f ⟨sl,tr⟩ [⟨a,b⟩]) _)=_;rw[Enc.bV,Enc.bV];show ob (Store.cO d f ⟨sl,tr⟩ [⟨a,b⟩]) _=_;rw[h];simp
section
variable {ρ:Nat->Value}(hρ:J.Good ρ)
include hρ
section
variable {E:Env}(hE:E.P=Tryz.prog)(hcon:aZ ρ E)
include hE hcon
theorem EE{d f:Nat}(hC:E.dS 35=dN (Dn 8))(hT:E.dS 36=bZ KA)(hS:E.dS 38=bZ (fO fun l:List Slot=>some l))(hW:E.dS 37=dN (zw8 (xZ d f)))
 {sl:List Slot} {tr:List Change} {a b:Ty} {sl':List Slot} {ex:List Change} {e:Int} (hne:sl≠[]) (hl:sl.length<=1000) (h:Store.cO d f ⟨sl,tr⟩ [⟨a,b⟩]=some (⟨sl',tr++ex⟩,e)) (hs:HS) :
 aA ρ Tryz.prog 11 [enc (⟨sl,tr⟩:Store),enc a,enc b] hs (enc ((if e=0 then ⟨sl',tr++ex⟩else ⟨sl,tr⟩,e):Store×Int)) hs:=by
 refine fn hρ hE hcon Tryz.func11 zEP rfl (by simp) ?_ hs;have hF:=QA h
 have hall:((sl.map aX).all fun e=>et (Nat.beq (aN e) 8) (e.all V.aI))=true:=by
  refine List.all_eq_true.2 fun e he=>?_
  obtain⟨x,_,rfl⟩:=List.mem_map.1 he;rfl
 have zRw:∀ e∈sl.map aX,e.all V.aI=true:=fun e he=>by
  obtain⟨x,_,rfl⟩:=List.mem_map.1 he;rfl
 have hcl:∀ (tg:Bool) (hs:HS),(sD (sl.map aX) 8 tg).heap hs={ H:=hs.H.set hs.n (.arr 8 0 (sl.map aX) false false true),n:=hs.n+1,log:=hs.n::hs.log }:=fun tg hs=>PX zRw
 have hl0:¬ sl.length=0:=fun h=>hne (List.eq_nil_of_length_eq_zero h)
 obtain⟨ak,an,ai,ah,al⟩:=a;obtain⟨bk,bn,zsj,bh,bl⟩:=b;simp at hF;by_cases he:e=0
 . subst he;rw[if_pos rfl];rcases ex with _|⟨z,ex⟩
   . simp [hE,hC,hT,hS,hW,hcl,hl,hl0,hF,ae]
   . obtain⟨tr2,d9⟩:∃ tr2,tr++z::ex=tr2:=⟨_,rfl⟩;simp [d9,hE,hC,hT,hS,hW,hcl,hl,hl0,hF,ae]
 . rw[if_neg he];rcases ex with _|⟨z,ex⟩
   . simp [hE,hC,hT,hW,hcl,hl,hl0,hF,he,ae]
   . obtain⟨tr2,d9⟩:∃ tr2,tr++z::ex=tr2:=⟨_,rfl⟩;simp [d9,hE,hC,hT,hW,hcl,hl,hl0,hF,he,ae]
end
theorem zm0:Valid ρ Tryz.prog 35 (dN (Dn 8)):=by
 refine Valid.PI (fo Tryz.func35 zEB) fun vs hs D h=>?_
 obtain⟨es,tg,hne,hl,hes,hac,rfl,hg,hfit⟩:=Sl h;refine em hρ (E:=EL []) rfl (au az) Tryz.func35 zEB rfl hg ?_ hfit;show Wp ρ _ 0 _ _ _ { H:=di [],n:=0,log:=[] } (J.Leaves _ _ (aj 0 (.own 0 0 0 es.length none) [(0,.arr 8 0 es false false true)]));have hsz:sizes 8 es=true:=by rw[fE];exact fun e he=>(hes e he).1
 have hr1:es.length*88<=1048576:=by omega
 have hr2:es.length*8<=1048576:=by omega
 have hl0:¬ es.length=0:=fun h=>hne (List.eq_nil_of_length_eq_zero h)
 rcases es with _|⟨e0,es⟩
 . exact absurd rfl hne
 rw[List.length_cons]at hr1 hr2;have zoO:∀ t,MM Tryz.prog .eql 25 (.sl (e0::es) t) .snil=some (.bool false):=fun t=>by rfl
 have hb2:(EL []).P=Tryz.prog:=rfl;have zDg:IK e0=true/\dw es=true:=by simpa using hac
 cases tg<;>simp [hsz,hr1,zoO,hb2,zDg.1,zDg.2]
 all_goals exact aj.JB (fun k=>if k=0 then 5 else k) rfl rfl ⟨rfl,rfl⟩ (by
  intro p hp;simp only[List.mem_singleton]at hp;subst hp;have e1:(e0::es).all (fun e=>e.all V.aI)=true:=List.all_eq_true.2 fun e he=>(hes e he).2
  have e3:∀ π,(J.Obj.arr 8 0 (e0::es) false false true).ren π=.arr 8 0 (e0::es) false false true:=fun π=>by
   show J.Obj.arr 8 0 ((e0::es).map fun e=>e.map (V.iy π)) false false true=_;rw[vP fun e he v hv=>V.jb (List.all_eq_true.1 (hes e he).2 v hv)]
  refine⟨e1,?_⟩;rw[e3]
  simp)
theorem zsM:Valid ρ Tryz.prog 36 (bZ KA):=Valid.bZ (fo Tryz.func36 zEA) fun vs v h hs=>by
 obtain⟨es,t,rfl,hsz,rfl⟩:=zad h;refine MF (D:=⟨0,0,fun i=>i,[],[],[.sl es t],.sl es true⟩) hρ (E:=EL []) (au az) follows named Tryz.func36 zEA rfl ⟨rfl,rfl,Nat.le_refl _,(fun p hp=>by cases hp),(fun p hp=>by cases hp),rfl,fun v hv=>by rw[List.mem_singleton.1 hv];rfl⟩ ?_ (hs:=hs) (vs:=[.sl es t]) ⟨rfl,fun i j hi=>by simp at hi,(fun p hp=>by cases hp),fun i hi=>by simp at hi,fun i hi=>by simp at hi⟩;show Wp ρ _ 0 _ _ _ { H:=di [],n:=0,log:=[] } (J.Leaves _ _ (aj 0 (.sl es true) []));have hb2:(EL []).P=Tryz.prog:=rfl;cases t<;>simp [hb2,hsz,mE,Fz,bounds,Bo,bU]
 all_goals exact aj.bO rfl rfl rfl (by simp)
theorem zbe(d f:Nat):Valid ρ Tryz.prog 37 (dN (zw8 (xZ d f))):=by
 refine Valid.PI (fo Tryz.func37 zvO) fun vs hs D h=>?_
 obtain⟨args,sl,tr,g,r,sl',ex,b,c,q,hF,rfl,_,hr,hg,hfit⟩:=znc h;obtain⟨x,y,R,rfl,h1,hq⟩:=Nb hF;cases hq;obtain⟨m,hm⟩:=Store.D8 d f h1;have he:=hm.eq;have zaO:(EL [(57,dN (sO (DN d))),(58,dN (Es 76))]).P=Tryz.prog:=rfl;have hcn:aZ ρ (EL [(57,dN (sO (DN d))),(58,dN (Es 76))]):=au (ag (zsK hρ d) (ag (zna hρ) az));have h2:Store.cO d f ⟨sl,tr⟩ [⟨x,y⟩]=some (⟨R.1.slots,tr++R.1.trail.drop tr.length⟩,R.2):=by rw[h1];exact congrArg some (Prod.ext he rfl)
 cases g with
 |none=>exact em hρ zaO hcn Tryz.func37 zvO rfl hg (ED hρ zaO hcn rfl rfl h2) hfit
 |some g=>exact em hρ zaO hcn Tryz.func37 zvO rfl hg (EC hρ zaO hcn rfl rfl h2) hfit
theorem zsJ:Valid ρ Tryz.prog 11 (bZ (dH Store.AR)):=v3 (fo Tryz.func11 zEP) fun s a b q h hs=>by
 obtain⟨h1,h2,h3,r,hr,rfl⟩:=Store.Nu h;obtain⟨d,f,hf⟩:=hr.run;obtain⟨m,hm⟩:=Store.D8 d f hf;have he:=hm.eq;obtain⟨sl,tr⟩:=s;obtain⟨r1,e⟩:=r;simp only at he;have h4:Store.cO d f ⟨sl,tr⟩ [⟨a,b⟩]=some (⟨r1.slots,tr++r1.trail.drop tr.length⟩,e):=by rw[hf];exact congrArg some (Prod.ext he rfl)
 have hcn:aZ ρ (EL [(35,dN (Dn 8)),(36,bZ KA),(38,bZ (fO fun l:List Slot=>some l)),(37,dN (zw8 (xZ d f)))]) :=
  au (ag (zm0 hρ) (ag (zsM hρ) (ag (YQ hρ) (ag (zbe hρ d f) az))))
 have key:=EE hρ rfl hcn rfl rfl rfl rfl h1 h2 h4 hs;rw[<- he]at key;exact key
end
end Go.Proofs.YtocdkgjpdnamlaaGreat
/- The laws of MH 17: a store and two types from a tape. -/
namespace Go.Proofs.YtocdkgjpdnamlaaGreat
open Go.J
open Go.J.Enc (enc)
set_option maxRecDepth 100000
set_option maxHeartbeats 1000000
def Um(bits:Int)(codes:List Int):fA where
 k:=0
 k':=1
 π:=fun i=>i
 OL:=[]
 OL':=[(0,box (fB.cells (Store.LX ⟨codes,0⟩ (jd bits)).2.2.2))]
 vs0:=[enc bits,enc codes]
 v0:=.tuple [enc (Store.LX ⟨codes,0⟩ (jd bits)).1,enc (Store.LX ⟨codes,0⟩ (jd bits)).2.1,enc (Store.LX ⟨codes,0⟩ (jd bits)).2.2.1,.ptr 0 0 0]
def zop(vs:List V)(hs:HS):Option fA:=match vs with
 | [bv,cv]=>ob (Enc.dec bv:Option Int) fun bits=>ob (Enc.dec cv:Option (List Int)) fun codes=>gd (et (Nat.ble (aN codes) 60) (cB hs hs.n)) (some (Um bits codes))
 |_=>none
@[simp] theorem zyu {bv cv:V} {hs:HS}:zop [bv,cv] hs=ob (Enc.dec bv:Option Int) fun bits=>ob (Enc.dec cv:Option (List Int)) fun codes=>gd (et (Nat.ble (aN codes) 60) (cB hs hs.n)) (some (Um bits codes)):=(rfl)
section
variable {ρ:Nat->Value}(hρ:J.Good ρ)
include hρ
section
variable {E:Env}(hE:E.P=Tryz.prog)(hcon:aZ ρ E)
include hE hcon
end
end
end Go.Proofs.YtocdkgjpdnamlaaGreat
/- zFM of types: the fQ zCj. -/
namespace Go.Proofs.YtocdkgjpdnamlaaGreat
open Go.J
open Go.J.Enc (enc)
set_option maxRecDepth 100000
set_option maxHeartbeats 1000000
def IZ(p t:Ty)(s:List Assign):List Assign×Bool:=if (DU p t s).2=true then DU p t s else ([],false)
def znQ(l m:List Ty)(s:List Assign):List Assign×Bool:=if (Ci l m s).2=true then Ci l m s else ([],false)
theorem zci{p t:Ty}{l m:List Ty}{s:List Assign}:znQ (p::l) (t::m) s=if (IZ p t s).2=true then znQ l m (IZ p t s).1 else ([],false):=by
 unfold znQ IZ;rw[OE];by_cases h:(DU p t s).2=true
 . simp[h]
 . simp[h]
def Za(d:Nat)(p t:Ty)(s:List Assign):Option (List Assign×Bool):=open Classical in if p.ok=true/\t.ok=true/\zmG s/\s.length+p.size<=8000/\p.size<=d then some (IZ p t s)else none
def RV(s:List Assign)(i:Int):Option Bool:=if s.length<=100000 then some (qo s i)else none
def Qh(s:List Assign)(t:Ty):Option Ty:=if t.ok=true/\t.size<=10000/\s.length<=100000 then some (t.dZ s)else none
def qp:J.Spec:=bZ (bz RV)
def xU:J.Spec:=bZ (bz Qh)
def zqh(a b:Ty):Option Bool:=if b.ok=true/\a.ok=true/\b.size<=8000 then some (y8 a b)else none
def TV:J.Spec:=bZ (bz zqh)
section
variable {ρ:Nat->Value}(hρ:J.Good ρ)
include hρ
section
variable {E:Env}(hE:E.P=Tryz.prog)(hcon:aZ ρ E)
include hE hcon
theorem Jt{s:List Assign}{x:Int}(hl:s.length<=100000)(hs:HS):aA ρ Tryz.prog 110 [enc s,enc x] hs (enc (qo s x)) hs:=by
 refine fn hρ hE hcon Tryz.func110 zrN rfl (by simp) ?_ hs;generalize hr:qo s x=r;simp
 refine DV hρ hE hcon s.length (nn:=0) (fun i (_:Unit)=>[(0,.sl (s.map bF) false),(1,.int .i64 x),(5,.int .i64 (i:Int))]) (fun i _=>[]) (fun i _=>qo (s.drop i) x=r) ()
  (Less.auto (by simp) (by simp) (by simp) (by simp)) (by simpa using hr) ?_ ?_
 . intro _ h K;rw[List.drop_length]at h;have h:false=r:=h;simp [FI,hE];refine bq.mk (Less.auto (TL:=[]) (HL:=[]) (n:=0) (by simp) (by simp) (by simp) (by simp)) ?_;simp [<- h]
 . intro i _ hi h K hK;have hi':(i:Int)<s.length:=by omega
   have hw2:IntKind.i64.wrap ((i:Int)+1)=((i+1:Nat):Int):=bu (by omega);have zoH:(i*6) / 6=i:=by omega
   have zoG:(i*6) % 6=0:=by omega
   rw[List.drop_eq_getElem_cons hi,qo,List.any_cons]at h;by_cases he:s[i].id=x
   . rw[show decide (s[i].id=x)=true by simpa using he,Bool.true_or]at h;simp [FI,hE,hi,hi',he];refine bq.mk (Less.auto (TL:=[(4,.bool true)]) (HL:=[]) (n:=0) (by simp) (by simp) (by simp) (by simp)) ?_;simp [<- h]
   . rw[show decide (s[i].id=x)=false by simpa using he,Bool.false_or]at h;have hnew:=hK () h;simp [FI,hE,hi,hi',he,hw2,-Int.natCast_add];exact hnew _ _ (Less.auto (by simp[-Int.natCast_add]) (by simp) (by simp) (by simp))
theorem E8(hc:E.dS 31=bZ (bz (Bc 10000))){s:List Assign}{t:Ty}(h1:t.ok=true)(h2:t.size<=10000)(h3:s.length<=100000)(hs:HS):aA ρ Tryz.prog 111 [enc s,enc t] hs (enc (t.dZ s)) hs:=by
 refine fn hρ hE hcon Tryz.func111 Ye rfl (by simp) ?_ hs;have hF:Bc 10000 t s=some (t.dZ s):=if_pos ⟨h1,h2,h3⟩;generalize t.dZ s=r at hF;simp [hE,hc,hF]
theorem E5 {d:Nat} (hc:E.dS 89=bZ (dH (Za d))) (hh:E.dS 110=qp) (ha:E.dS 111=xU) (heq:E.dS 40=equalS)
 {p t:Ty} {L:List Assign} (hpo:p.ok=true) (hto:t.ok=true) (hL:zmG L) (hlen:L.length+p.size<=8000) (hd:p.size<=d+1) (hs:HS):aA ρ Tryz.prog 89 [enc p,enc t,enc L] hs (enc (IZ p t L)) hs:=by
 refine fn hρ hE hcon Tryz.func89 zvG rfl (by simp) ?_ hs;have hl1:L.length<=100000:=by omega
 have hl2:p.size<=10000:=by omega
 have zRt:=Ty.size_eq p;have hpl:=Ty.lH hpo;have hE2:=GR p t L;by_cases hk:p.kind=1
 . rw [if_pos hk]at hE2;have hrep:p.dZ L=(bW L p.id).getD p:=by rw[yB,if_pos hk]
   have hro:(p.dZ L).ok=true:=by
    rw[hrep]
    cases hl:bW L p.id with
    |none=>exact hpo
    |some u=>obtain⟨a,ha,rfl⟩:=yI hl;exact hL a ha
   have hA:Qh L p=some (p.dZ L):=if_pos ⟨hpo,hl2,hl1⟩;have hH:RV L p.id=some (qo L p.id):=if_pos hl1;clear hrep;obtain⟨pk,pn,pi,ph,pa⟩:=p;simp only[Ty.dx]at hk;subst hk;simp only[Ty.gz]at hH hE2;by_cases zyI:qo L pi=true
   . rw[zyI]at hH;rw[if_pos zyI]at hE2;generalize (Ty.mk 1 pn pi ph pa).dZ L=u at hro hA hE2;by_cases hu:u=t
     . subst hu;have hres:IZ (.mk 1 pn pi ph pa) u L=(L,true):=by unfold IZ;rw[hE2];simp
       rw[hres];simp [hE,hh,qp,hH,ha,xU,hA,heq,equalS,hro]
     . obtain⟨uk,un,ui,uh,ua⟩:=u;obtain⟨tk,tn,ti,th,ta⟩:=t;have hres:IZ (.mk 1 pn pi ph pa) (.mk tk tn ti th ta) L=([],false):=by unfold IZ;rw[hE2];simp[hu]
       rw[hres];simp only[Ty.mk.injEq]at hu;simp [hE,hh,qp,hH,ha,xU,hA,heq,equalS,hro,hu]
   . have zH7:qo L pi=false:=by simpa using zyI
     rw[zH7]at hH;rw[if_neg zyI]at hE2;have hres:IZ (.mk 1 pn pi ph pa) t L=(L++[⟨pi,t⟩],true):=by unfold IZ;rw[hE2];simp
     rw[hres];by_cases hL0:L=[]
     . subst hL0;simp [hE,hh,qp,hH]
     . have h72:L.length*72<=1048576:=Nat.le_trans (Nat.mul_le_mul_right 72 (show L.length<=8000 by omega)) (by decide);have zRN:(L.length+1)*72<=1048576:=Nat.le_trans (Nat.mul_le_mul_right 72 (show L.length+1<=8001 by omega)) (by decide);have hz:¬ L.length=0:=fun e=>hL0 (List.eq_nil_of_length_eq_zero e)
       simp [hE,hh,qp,hH,hz,h72,zRN,Nat.not_succ_le_self]
 . rw [if_neg hk]at hE2;by_cases hsame:p.same t=true
   . obtain⟨e1,e2,e3,e4,e5⟩:=same_iff.1 hsame;have hres:IZ p t L=znQ p.args t.args L:=by unfold IZ znQ;rw[hE2,if_pos hsame]
     rw[hres];have e5':(p.args.length:Int)=t.args.length:=by omega
     have hk2:¬ t.kind=1:=by rw[<- e1];exact hk
     simp [hE,e1,e2,e3,e4,e5,hk2]
     refine DV hρ hE hcon p.args.length (nn:=2) (fun i (X:List Assign×Bool)=>[(2,.sl (X.1.map bF) false),(3,.ptr 0 0 0),(4,.ptr 1 0 0),(8,.bool X.2),(9,.int .i64 (i:Int))]) (fun i _=>[(0,box (ax p)),(1,box (ax t))])
      (fun i X=>znQ p.args t.args L=(if X.2=true then znQ (p.args.drop i) (t.args.drop i) X.1 else ([],false))/\zmG X.1/\X.1.length+Ty.sizes (p.args.drop i)<=L.length+Ty.sizes p.args) (L,true)
      (Less.auto (by simp) (by simp[e1,e2,e3,e4]) rfl rfl) ⟨by simp,hL,by simp⟩ ?_ ?_
     . rintro ⟨R,b⟩ ⟨h1,h2,h3⟩ K;simp only[List.drop_length]at h1
       cases b with
       | false =>
         rw[if_neg (show ¬ false=true by decide)]at h1;rw[h1];simp [Hz,hE];refine bq.mk (Less.auto (TL:=[(8,.bool false)]) (HL:=[]) (n:=0) (by simp) (by simp) rfl rfl) ?_;simp [hE]
       | true =>
         rw[if_pos rfl,show znQ [] (t.args.drop p.args.length) R=(R,true) by unfold znQ;rw[Uj];rfl]at h1;rw[h1];simp [Hz,hE];refine bq.mk (Less.auto (TL:=[(2,.sl (R.map bF) false),(8,.bool true)]) (HL:=[]) (n:=0) (by simp) (by simp) rfl rfl) ?_;simp [hE]
     . rintro i ⟨R,b⟩ hi ⟨h1,h2,h3⟩ K hK;simp only at h1 h2 h3;have hi':(i:Int)<p.args.length:=by omega
       have hw2:IntKind.i64.wrap ((i:Int)+1)=((i+1:Nat):Int):=bu (by omega);have zoH:(i*5) / 5=i:=by omega
       have zoG:(i*5) % 5=0:=by omega
       cases b with
       | false =>
         rw[if_neg (show ¬ false=true by decide)]at h1;rw[h1];simp [Hz,hE,hi'];refine bq.mk (Less.auto (TL:=[(8,.bool false)]) (HL:=[]) (n:=0) (by simp) (by simp) rfl rfl) ?_;simp [hE]
       | true =>
         have hit:i<t.args.length:=by omega
         have zRA:(i:Int)<t.args.length:=by omega
         rw[if_pos rfl,List.drop_eq_getElem_cons hi,List.drop_eq_getElem_cons hit,zci]at h1;rw[List.drop_eq_getElem_cons hi,Ty.sizes]at h3;have hmp:=List.getElem_mem hi;have hmt:=List.getElem_mem hit;have hsp:=Ty.pF hmp;have hF:Za d p.args[i] t.args[i] R=some (IZ p.args[i] t.args[i] R):=if_pos ⟨Ty.mH hpo hmp,Ty.mH hto hmt,h2,by omega,by omega⟩;have Ao:=zup (p:=p.args[i]) (t:=t.args[i]) (s:=R);have zRy:=zur (p:=p.args[i]) (t:=t.args[i]) (s:=R) (Ty.mH hto hmt) h2
         have hrr:zmG (IZ p.args[i] t.args[i] R).1/\(IZ p.args[i] t.args[i] R).1.length<=R.length+p.args[i].size:=by
          unfold IZ;by_cases hb:(DU p.args[i] t.args[i] R).2=true
          . rw[if_pos hb];exact⟨zRy,Ao.2⟩
          . rw[if_neg hb];exact⟨fun a ha=>(by cases ha),Nat.zero_le _⟩
         rcases hq:IZ p.args[i] t.args[i] R with⟨R2,b2⟩;rw[hq]at hF h1 hrr;simp only at h1 hrr;have hnew:=hK (R2,b2) ⟨h1,hrr.1,by show R2.length+_<=_;omega⟩;generalize hpx:p.args[i]=px at hF;generalize htx:t.args[i]=tx at hF;simp [Hz,hE,hi,hi',hit,hpx,htx,hc,hF,hw2,-Int.natCast_add];exact hnew _ _ (Less.auto (by simp[-Int.natCast_add]) (by simp) rfl rfl)
   . rw [if_neg hsame]at hE2;have hres:IZ p t L=([],false):=by unfold IZ;rw[hE2];simp
     rw[hres];have hns:¬ (p.kind=t.kind/\p.name=t.name/\p.id=t.id/\p.home=t.home/\p.args.length=t.args.length):=fun h=>hsame (same_iff.2 h)
     by_cases e1:p.kind=t.kind
     . by_cases e2:p.name=t.name
       . by_cases e3:p.id=t.id
         . by_cases e4:p.home=t.home
           . have e5:¬ p.args.length=t.args.length:=fun h=>hns ⟨e1,e2,e3,e4,h⟩
             have e5':¬ (p.args.length:Int)=t.args.length:=by omega
             have hk2:¬ t.kind=1:=by rw[<- e1];exact hk
             simp [hE,hk2,e1,e2,e3,e4,e5']
           . have hk2:¬ t.kind=1:=by rw[<- e1];exact hk
             simp [hE,hk2,e1,e2,e3,e4]
         . have hk2:¬ t.kind=1:=by rw[<- e1];exact hk
           simp [hE,hk2,e1,e2,e3]
       . have hk2:¬ t.kind=1:=by rw[<- e1];exact hk
         simp [hE,hk2,e1,e2]
     . simp [hE,hk,e1]
theorem EZ{d:Nat}(hc:E.dS 89=bZ (dH (Za d))){p t:Ty}{L R:List Assign}{b:Bool}(hF:Za d p t L=some (R,b))(hs:HS):aA ρ Tryz.prog 70 [enc p,enc t,enc L] hs (enc (R,b)) hs:=by
 refine fn hρ hE hcon Tryz.func70 zEl rfl (by simp) ?_ hs;simp [hE,hc,hF]
theorem Jr{d:Nat}(hc:E.dS 70=bZ (dH (Za d))){a b:Ty}{R:List Assign}{q:Bool}(hF:Za d b a []=some (R,q))(hs:HS):aA ρ Tryz.prog 50 [enc a,enc b] hs (enc q) hs:=by
 refine fn hρ hE hcon Tryz.func50 zEx rfl (by simp) ?_ hs;simp [hE,hc,hF]
theorem Bh(hL:E.dS 50=TV){a b:Ty}(ha:a.ok=true)(hb:b.ok=true)(h1:a.size<=8000)(h2:b.size<=8000)(hs:HS):aA ρ Tryz.prog 22 [enc a,enc b] hs (enc (y8 a b&&y8 b a)) hs:=by
 refine fn hρ hE hcon Tryz.func22 zEI rfl (by simp) ?_ hs;obtain⟨x,hx⟩:∃ x,y8 a b=x:=⟨_,rfl⟩;obtain⟨y,hy⟩:∃ y,y8 b a=y:=⟨_,rfl⟩;obtain⟨ak,an,ai,ah,al⟩:=a;obtain⟨bk,bn,bi,bh,bl⟩:=b;cases x<;>cases y<;>simp [hE,hL,TV,zqh,ha,hb,h1,h2,hx,hy]
end
theorem zbn:Valid ρ Tryz.prog 110 qp:=v2 (fo Tryz.func110 zrN) fun a b r h hs=>by
 obtain⟨h1,rfl⟩:=bI h;exact Jt hρ (E:=EL []) rfl (au az) h1 hs
theorem zbq:Valid ρ Tryz.prog 111 xU:=v2 (fo Tryz.func111 Ye) fun a b r h hs=>by
 obtain⟨⟨h1,h2,h3⟩,rfl⟩:=bI h;exact E8 hρ (E:=EL [(31,bZ (bz (Bc 10000)))]) rfl (au (ag (Nn hρ 10000) az)) rfl h1 h2 h3 hs
theorem zbl(d:Nat):Valid ρ Tryz.prog 89 (bZ (dH (Za d))):=by
 induction d with
 | zero =>
   refine v3 (fo Tryz.func89 zvG) fun a b c r h hs=>?_
   obtain⟨⟨h1,h2,h3,h4,h5⟩,rfl⟩:=bI h;have:=Ty.size_pos a;omega
 | succ d ih =>
   refine v3 (fo Tryz.func89 zvG) fun a b c r h hs=>?_
   obtain⟨⟨h1,h2,h3,h4,h5⟩,rfl⟩:=bI h
   exact E5 hρ (E:=EL [(89,bZ (dH (Za d))),(110,qp),(111,xU),(40,equalS)]) rfl
    (au (ag ih (ag (zbn hρ) (ag (zbq hρ) (ag (QH hρ) az))))) rfl rfl rfl rfl h1 h2 h3 h4 h5 hs
theorem zbk(d:Nat):Valid ρ Tryz.prog 70 (bZ (dH (Za d))):=v3 (fo Tryz.func70 zEl) fun a b c r h hs=>by
 obtain⟨R,q⟩:=r;exact EZ hρ (E:=EL [(89,bZ (dH (Za d)))]) rfl (au (ag (zbl hρ d) az)) rfl h hs
theorem zsU:Valid ρ Tryz.prog 50 TV:=v2 (fo Tryz.func50 zEx) fun a b r h hs=>by
 obtain⟨⟨h1,h2,h3⟩,rfl⟩:=bI h
 have hF:Za 8000 b a []=some ((IZ b a []).1,y8 a b):=by
  unfold Za;rw[if_pos ⟨h1,h2,fun a ha=>(by cases ha),by simpa using h3,h3⟩];unfold IZ y8;split
  . rfl
  . rename_i h;rw[show (DU b a []).2=false by simpa using h]
 exact Jr hρ (E:=EL [(70,bZ (dH (Za 8000)))]) rfl (au (ag (zbk hρ 8000) az)) rfl hF hs
def AP:J.Spec:=bZ (bz fun a b:Ty=>if a.ok=true/\b.ok=true/\a.size<=8000/\b.size<=8000 then some (y8 a b&&y8 b a)else none)
theorem zbc:Valid ρ Tryz.prog 22 AP:=v2 (fo Tryz.func22 zEI) fun a b r h hs=>by
 obtain⟨⟨h1,h2,h3,h4⟩,rfl⟩:=bI h;exact Bh hρ (E:=EL [(50,TV)]) rfl (au (ag (zsU hρ) az)) rfl h1 h2 h3 h4 hs
end
end Go.Proofs.YtocdkgjpdnamlaaGreat
