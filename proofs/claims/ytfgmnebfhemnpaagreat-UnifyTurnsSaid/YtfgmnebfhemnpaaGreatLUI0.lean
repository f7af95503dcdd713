import Derived.Test.YtfgmnebfhemnpaaGreatLXB
import Derived.Test.YtfgmnebfhemnpaaGreatJPy
import Derived.Test.YtfgmnebfhemnpaaGreatJL
set_option linter.all false
noncomputable section
/- The program's unification within a store: the work list. -/
namespace Go.Proofs.YtfgmnebfhemnpaaGreat
open Go.J
open Go.J.Enc (enc)
set_option maxRecDepth 100000
set_option maxHeartbeats 4000000
section
variable {ρ:Nat->Value}(hρ:J.Good ρ)
include hρ
section
variable {E:Env}(hE:E.P=Tryz.prog)(hcon:ConsOk ρ E)
include hE hcon
theorem zgU {d f:Nat} (hP:E.con 57=zaT (uwM (zlk d))) (hB:E.con 58=zaT (zmo 76)) {sl:List Slot} {tr:List Change} {a b:Ty} {sl':List Slot} {ex3:List Change} {e:Int} (h:Store.withinG d f ⟨sl,tr⟩ [⟨a,b⟩]=some (⟨sl',tr++ex3⟩,e)) :
 Wp ρ E 2 50 zJt (((PT.leaf.set 0 (.ptr 0 0 0)).set 1 (enc a)).set 2 (enc b)) { H:=mkP (zK sl tr none),n:=2,log:=[] } (J.Leaves E.P Tryz.f37 (GivesL 2 (.int .i64 e) (zK sl' (tr++ex3) (gN none ex3.length)))):=by
 obtain⟨tr3,htr3⟩:∃ tr3,tr++ex3=tr3:=⟨_,rfl⟩;obtain⟨G3,hG3⟩:∃ G3,gN none ex3.length=G3:=⟨_,rfl⟩;rw[htr3]at h;rw[htr3,hG3];obtain⟨ak,an,ai,ah,al⟩:=a;obtain⟨bk,bn,bi',bh,bl⟩:=b;simp [hE,zK]
 refine lpi hρ hE hcon f (nn:=7) (fun i (_:List Slot×List Change×Option Nat×List Equation×List Equation×Nat×Option Nat×Bool)=>[(7,.ptr 3 0 0),(8,.ptr 4 0 0)])
  (fun i st=>zK st.1 st.2.1 st.2.2.1++[(3,zaM (.ptr 0 0 0)),(4,zaM (.own 5 st.2.2.2.2.2.1 0 st.2.2.2.1.length st.2.2.2.2.2.2.1)),(5,.arr 10 st.2.2.2.2.2.1 (st.2.2.2.2.1.map zx) st.2.2.2.2.2.2.2 false true)])
  (fun i st=>(∃ ex1,st.2.1=tr++ex1/\st.2.2.1=gN none ex1.length)/\st.2.2.2.2.1.take st.2.2.2.1.length=st.2.2.2.1.reverse/\st.2.2.2.1.length<=st.2.2.2.2.1.length/\(∀ c,st.2.2.2.2.2.2.1=some c->c=st.2.2.2.2.1.length)/\Store.withinG d (f-i) ⟨st.1,st.2.1⟩ st.2.2.2.1=some (⟨sl',tr3⟩,e))
  (sl,tr,none,[⟨.mk ak an ai ah al,.mk bk bn bi' bh bl⟩],[⟨.mk ak an ai ah al,.mk bk bn bi' bh bl⟩],0,some 1,true)
  (Less.auto (by simp[zK]) (by simp[zK,zo,zf,zy]) (by simp[zK]) (by simp[zK]<;>(intro x hx;first|omega|exact⟨.inl hx,by omega⟩))) ⟨⟨[],by simp,by simp⟩,by simp,by simp,by simp,by simpa using h⟩ ?_ ?_
 . rintro ⟨sl1,tr1,G,l,rows,gen,cap,x⟩ ⟨_,_,_,_,hw⟩ K;rw[Nat.sub_self,Store.withinG]at hw;cases hw
 . rintro i ⟨sl1,tr1,G,l,rows,gen,cap,x⟩ hi ⟨⟨ex1,e1,e2⟩,h1,h2,h3,hw⟩ K hK;obtain⟨n,hn⟩:∃ n,f-i=n+1:=⟨f-i-1,by omega⟩;have hn2:f-(i+1)=n:=by omega
   rw[hn]at hw;simp only at e1 e2 h1 h2 h3 hw
   cases G with
   | none =>
     cases l with
     | nil =>
       rw[Store.withinG]at hw;obtain⟨hq1,hq2⟩:=Prod.mk.inj (Option.some.inj hw);obtain⟨hq3,hq4⟩:=Store.mk.inj hq1
       have hG3:G3=none:=by
        have:ex3=ex1:=by rw[<- htr3,e1]at hq4;exact(List.append_cancel_left hq4).symm
        rw[<- hG3,this];exact e2.symm
       subst hq2 hq3 hq4 hG3;simp [zcz,hE,zK];refine LessQ.mk (Less.auto (TL:=[]) (HL:=zK sl1 tr1 none) (n:=7) (by simp[zK]) (by simp[zK,zo,zf,zy]) (by simp[zK]) (by simp[zK]<;>(intro x hx;first|omega|exact⟨.inl hx,by omega⟩))) ?_;simp [hE,zK];exact GivesL.keepX rfl rfl rfl (by simp[zo,zf])
     | cons e0 l =>
       rw[Store.withinG]at hw;split at hw
       case isFalse=>cases hw
       rename_i hok;obtain⟨hok,hll,hml⟩:=hok;obtain⟨mg,hmg⟩:=zf6 ⟨sl1,tr1⟩ e0.left e0.right;obtain⟨ex2,t3,t4⟩:=hmg.trail;obtain⟨Q,hQ⟩:∃ Q,Store.pairP ⟨sl1,tr1⟩ e0.left e0.right=Q:=⟨_,rfl⟩;rw[hQ]at hw t3 hml;obtain⟨more,c,sl2,tr2⟩:=Q;simp only at hw t3 hml;subst t3;have hF:=zjS hok hQ;clear hmg t4 hQ hok;have hri:l.length<rows.length:=by simp only[List.length_cons]at h2;omega
       have hre:rows[l.length]=e0:=by
        have:=congrArg (fun q=>q[l.length]?) h1;simp only[List.length_cons,List.reverse_cons]at this;rw[List.getElem?_take_of_lt (by omega),List.getElem?_eq_getElem hri,List.getElem?_append_right (by simp),List.length_reverse,Nat.sub_self]at this;exact Option.some.inj this
       have hrt:rows.take l.length=l.reverse:=by
        have:=congrArg (fun q=>q.take l.length) h1;simp only[List.length_cons,List.reverse_cons]at this;rw[List.take_take,Nat.min_eq_left (by omega),List.take_left' (by simp)]at this;exact this
       have hle:l.length<=rows.length:=by omega
       have hrl:((e0::l).length:Int)=(l.length:Int)+1:=by simp
       have hw0:IntKind.i64.wrap (l.length:Int)=(l.length:Int):=by rw[wrap_i64 (by omega) (by omega)]
       have hd1:l.length*10 / 10=l.length:=by omega
       have hd2:l.length*10 % 10=0:=by omega
       obtain⟨⟨pk,pn,pi,ph,pl⟩,⟨qk,qn,qi,qh,ql⟩⟩:=e0;simp at hF;by_cases hc:c=0
       . subst hc;rw[if_pos rfl]at hw
         have hnew:∀ (rows2:List Equation) (gen2:Nat) (cap2:Option Nat) (x2:Bool),rows2.take (more++l).length=(more++l).reverse->(more++l).length<=rows2.length->(∀ c,cap2=some c->c=rows2.length)->_:=fun rows2 gen2 cap2 x2 q1 q2 q3 =>
          hK (sl2,tr1++ex2,gN none ex2.length,more++l,rows2,gen2,cap2,x2) ⟨⟨ex1++ex2,by simp[e1],by simp only;rw[List.length_append,<- zdE,<- e2]⟩,q1,q2,q3,by rw[hn2];exact hw⟩
         clear hK hw h1 e2;rcases ex2 with _|⟨z,ex2⟩
         . cases cap with
           | none =>
             simp [zcz,hE,zK,hP,hrl,hri,hre,hw0,hd1,hd2,hF,vacant_eq,zbN,zbs,bounds,zky,zR,zaP,zdh,hB,hle];refine zbx hρ hE hcon (sl2:=sl2) (tr2:=tr1) (G2:=none) (more:=more) (l:=l) (rows:=rows) (gen:=gen) (cap:=none) (x:=x) h3 hrt (by omega) (by omega) hml (Less.auto (by simp[zK]) (by simp[zK,zo,zf,zy]) (by simp[zK]) (by simp[zK]<;>(intro x hx;first|omega|exact⟨.inl hx,by omega⟩))) ?_;rintro H nn log hn7 hvac ⟨hHF,rid,gen2,cap2,rows2,x2,r5,r6,r7,g4,gr,k1,k2,k3⟩;have f0:H.get 0=some (.arr 2 0 [[.own 1 0 0 sl2.length none,.sl (tr1.map zA) true]] true false false):=hHF (0,uyB sl2 tr1 none) (by simp[zK]);have f1:H.get 1=some (.arr 8 0 (sl2.map zG) false false true):=hHF (1,slO sl2) (by simp[zK]);have f2:True:=trivial;have f3:H.get 3=some (zaM (.ptr 0 0 0)):=hHF (3,zaM (.ptr 0 0 0)) (by simp[zK]);refine LessQ.mk (Less.lit (TL:=[(7,.ptr 3 0 0),(8,.ptr 4 0 0)]) (HL:=zK sl2 tr1 none++[(3,zaM (.ptr 0 0 0)),(4,zaM (.own 5 gen2 0 (more++l).length cap2)),(5,.arr 10 gen2 (rows2.map zx) x2 false true)]) (fun i=>if i=5 then rid else i) 7 ?_ ?_ ?_ ?_) ?_
             . simp[zK]
             . simp[zK,f0,f1,f2,f3,g4,gr,zo,zf,zy]
             . simp[zK]<;>omega
             . simp[zK]<;>(intro x hx;first|omega|exact⟨.inl (by omega),by omega⟩)
             simp[zK];have:=hnew rows2 gen2 cap2 x2 k1 k2 k3;rw[List.append_nil]at this;exact this _ _ (Less.auto (by simp[zK]) (by simp[zK,zo,zf,zy]) (by simp[zK]) (by simp[zK]<;>(intro x hx;first|omega|exact⟨.inl hx,by omega⟩)))
           | some cc =>
             obtain rfl:=h3 cc rfl;simp [zcz,hE,zK,hP,hrl,hri,hre,hw0,hd1,hd2,hF,vacant_eq,zbN,zbs,bounds,zky,zR,zaP,zdh,hB,hle];refine zbx hρ hE hcon (sl2:=sl2) (tr2:=tr1) (G2:=none) (more:=more) (l:=l) (rows:=rows) (gen:=gen) (cap:=(some rows.length)) (x:=x) h3 hrt (by omega) (by omega) hml (Less.auto (by simp[zK]) (by simp[zK,zo,zf,zy]) (by simp[zK]) (by simp[zK]<;>(intro x hx;first|omega|exact⟨.inl hx,by omega⟩))) ?_;rintro H nn log hn7 hvac ⟨hHF,rid,gen2,cap2,rows2,x2,r5,r6,r7,g4,gr,k1,k2,k3⟩;have f0:H.get 0=some (.arr 2 0 [[.own 1 0 0 sl2.length none,.sl (tr1.map zA) true]] true false false):=hHF (0,uyB sl2 tr1 none) (by simp[zK]);have f1:H.get 1=some (.arr 8 0 (sl2.map zG) false false true):=hHF (1,slO sl2) (by simp[zK]);have f2:True:=trivial;have f3:H.get 3=some (zaM (.ptr 0 0 0)):=hHF (3,zaM (.ptr 0 0 0)) (by simp[zK]);refine LessQ.mk (Less.lit (TL:=[(7,.ptr 3 0 0),(8,.ptr 4 0 0)]) (HL:=zK sl2 tr1 none++[(3,zaM (.ptr 0 0 0)),(4,zaM (.own 5 gen2 0 (more++l).length cap2)),(5,.arr 10 gen2 (rows2.map zx) x2 false true)]) (fun i=>if i=5 then rid else i) 7 ?_ ?_ ?_ ?_) ?_
             . simp[zK]
             . simp[zK,f0,f1,f2,f3,g4,gr,zo,zf,zy]
             . simp[zK]<;>omega
             . simp[zK]<;>(intro x hx;first|omega|exact⟨.inl (by omega),by omega⟩)
             simp[zK];have:=hnew rows2 gen2 cap2 x2 k1 k2 k3;rw[List.append_nil]at this;exact this _ _ (Less.auto (by simp[zK]) (by simp[zK,zo,zf,zy]) (by simp[zK]) (by simp[zK]<;>(intro x hx;first|omega|exact⟨.inl hx,by omega⟩)))
         . obtain⟨tr2,htr2⟩:∃ tr2,tr1++z::ex2=tr2:=⟨_,rfl⟩
           cases cap with
           | none =>
             simp [htr2,zcz,hE,zK,hP,hrl,hri,hre,hw0,hd1,hd2,hF,vacant_eq,zbN,zbs,bounds,zky,zR,zaP,zdh,hB,hle];refine zbx hρ hE hcon (sl2:=sl2) (tr2:=tr2) (G2:=(some ex2.length)) (more:=more) (l:=l) (rows:=rows) (gen:=gen) (cap:=none) (x:=x) h3 hrt (by omega) (by omega) hml (Less.auto (by simp[zK]) (by simp[zK,zo,zf,zy]) (by simp[zK]) (by simp[zK]<;>(intro x hx;first|omega|exact⟨.inl hx,by omega⟩))) ?_;rintro H nn log hn7 hvac ⟨hHF,rid,gen2,cap2,rows2,x2,r5,r6,r7,g4,gr,k1,k2,k3⟩;have f0:H.get 0=some (.arr 2 0 [[.own 1 0 0 sl2.length none,.own 2 (ex2.length) 0 tr2.length none]] true false false):=hHF (0,uyB sl2 tr2 (some ex2.length)) (by simp[zK]);have f1:H.get 1=some (.arr 8 0 (sl2.map zG) false false true):=hHF (1,slO sl2) (by simp[zK]);have f2:H.get 2=some (.arr 10 (ex2.length) (tr2.map zA) false false true):=hHF (2,trO tr2 (ex2.length)) (by simp[zK]);have f3:H.get 3=some (zaM (.ptr 0 0 0)):=hHF (3,zaM (.ptr 0 0 0)) (by simp[zK]);refine LessQ.mk (Less.lit (TL:=[(7,.ptr 3 0 0),(8,.ptr 4 0 0)]) (HL:=zK sl2 tr2 (some ex2.length)++[(3,zaM (.ptr 0 0 0)),(4,zaM (.own 5 gen2 0 (more++l).length cap2)),(5,.arr 10 gen2 (rows2.map zx) x2 false true)]) (fun i=>if i=5 then rid else i) 7 ?_ ?_ ?_ ?_) ?_
             . simp[zK]
             . simp[zK,f0,f1,f2,f3,g4,gr,zo,zf,zy]
             . simp[zK]<;>omega
             . simp[zK]<;>(intro x hx;first|omega|exact⟨.inl (by omega),by omega⟩)
             simp[zK];have:=hnew rows2 gen2 cap2 x2 k1 k2 k3;rw[htr2]at this;exact this _ _ (Less.auto (by simp[zK]) (by simp[zK,zo,zf,zy]) (by simp[zK]) (by simp[zK]<;>(intro x hx;first|omega|exact⟨.inl hx,by omega⟩)))
           | some cc =>
             obtain rfl:=h3 cc rfl;simp [htr2,zcz,hE,zK,hP,hrl,hri,hre,hw0,hd1,hd2,hF,vacant_eq,zbN,zbs,bounds,zky,zR,zaP,zdh,hB,hle];refine zbx hρ hE hcon (sl2:=sl2) (tr2:=tr2) (G2:=(some ex2.length)) (more:=more) (l:=l) (rows:=rows) (gen:=gen) (cap:=(some rows.length)) (x:=x) h3 hrt (by omega) (by omega) hml (Less.auto (by simp[zK]) (by simp[zK,zo,zf,zy]) (by simp[zK]) (by simp[zK]<;>(intro x hx;first|omega|exact⟨.inl hx,by omega⟩))) ?_;rintro H nn log hn7 hvac ⟨hHF,rid,gen2,cap2,rows2,x2,r5,r6,r7,g4,gr,k1,k2,k3⟩;have f0:H.get 0=some (.arr 2 0 [[.own 1 0 0 sl2.length none,.own 2 (ex2.length) 0 tr2.length none]] true false false):=hHF (0,uyB sl2 tr2 (some ex2.length)) (by simp[zK]);have f1:H.get 1=some (.arr 8 0 (sl2.map zG) false false true):=hHF (1,slO sl2) (by simp[zK]);have f2:H.get 2=some (.arr 10 (ex2.length) (tr2.map zA) false false true):=hHF (2,trO tr2 (ex2.length)) (by simp[zK]);have f3:H.get 3=some (zaM (.ptr 0 0 0)):=hHF (3,zaM (.ptr 0 0 0)) (by simp[zK]);refine LessQ.mk (Less.lit (TL:=[(7,.ptr 3 0 0),(8,.ptr 4 0 0)]) (HL:=zK sl2 tr2 (some ex2.length)++[(3,zaM (.ptr 0 0 0)),(4,zaM (.own 5 gen2 0 (more++l).length cap2)),(5,.arr 10 gen2 (rows2.map zx) x2 false true)]) (fun i=>if i=5 then rid else i) 7 ?_ ?_ ?_ ?_) ?_
             . simp[zK]
             . simp[zK,f0,f1,f2,f3,g4,gr,zo,zf,zy]
             . simp[zK]<;>omega
             . simp[zK]<;>(intro x hx;first|omega|exact⟨.inl (by omega),by omega⟩)
             simp[zK];have:=hnew rows2 gen2 cap2 x2 k1 k2 k3;rw[htr2]at this;exact this _ _ (Less.auto (by simp[zK]) (by simp[zK,zo,zf,zy]) (by simp[zK]) (by simp[zK]<;>(intro x hx;first|omega|exact⟨.inl hx,by omega⟩)))
       . rw[if_neg hc]at hw;obtain⟨hq1,hq2⟩:=Prod.mk.inj (Option.some.inj hw);obtain⟨hq3,hq4⟩:=Store.mk.inj hq1
         have hG3:G3=gN none ex2.length:=by
          have:ex3=ex1++ex2:=by rw[<- htr3,e1,List.append_assoc]at hq4;exact(List.append_cancel_left hq4).symm
          rw[<- hG3,this,List.length_append,<- zdE,<- e2]
         subst hq2 hq3 hG3 hq4;rcases ex2 with _|⟨z,ex2⟩
         . simp [zcz,hE,zK,hP,hrl,hri,hre,hw0,hd1,hd2,hF,vacant_eq,zbN,zbs,bounds,zky,zR,zaP,zdh,hc];refine LessQ.mk (Less.auto (TL:=[(6,.int .i64 c)]) (HL:=zK sl2 tr1 none) (n:=7) (by simp[zK]) (by simp[zK,zo,zf,zy]) (by simp[zK]) (by simp[zK]<;>(intro x hx;first|omega|exact⟨.inl hx,by omega⟩))) ?_;simp [hE,zK];exact GivesL.keepX rfl rfl rfl (by simp[zo,zf])
         . obtain⟨tr2,htr2⟩:∃ tr2,tr1++z::ex2=tr2:=⟨_,rfl⟩;simp [htr2,zcz,hE,zK,hP,hrl,hri,hre,hw0,hd1,hd2,hF,vacant_eq,zbN,zbs,bounds,zky,zR,zaP,zdh,hc];refine LessQ.mk (Less.auto (TL:=[(6,.int .i64 c)]) (HL:=zK sl2 tr2 (some ex2.length)) (n:=7) (by simp[zK]) (by simp[zK,zo,zf,zy]) (by simp[zK]) (by simp[zK]<;>(intro x hx;first|omega|exact⟨.inl hx,by omega⟩))) ?_;simp [htr2,hE,zK];exact GivesL.keepX rfl rfl rfl (by simp[zo,zf])
   | some G =>
     cases l with
     | nil =>
       rw[Store.withinG]at hw;obtain⟨hq1,hq2⟩:=Prod.mk.inj (Option.some.inj hw);obtain⟨hq3,hq4⟩:=Store.mk.inj hq1
       have hG3:G3=(some G):=by
        have:ex3=ex1:=by rw[<- htr3,e1]at hq4;exact(List.append_cancel_left hq4).symm
        rw[<- hG3,this];exact e2.symm
       subst hq2 hq3 hq4 hG3;simp [zcz,hE,zK];refine LessQ.mk (Less.auto (TL:=[]) (HL:=zK sl1 tr1 (some G)) (n:=7) (by simp[zK]) (by simp[zK,zo,zf,zy]) (by simp[zK]) (by simp[zK]<;>(intro x hx;first|omega|exact⟨.inl hx,by omega⟩))) ?_;simp [hE,zK];exact GivesL.keepX rfl rfl rfl (by simp[zo,zf])
     | cons e0 l =>
       rw[Store.withinG]at hw;split at hw
       case isFalse=>cases hw
       rename_i hok;obtain⟨hok,hll,hml⟩:=hok;obtain⟨mg,hmg⟩:=zf6 ⟨sl1,tr1⟩ e0.left e0.right;obtain⟨ex2,t3,t4⟩:=hmg.trail;obtain⟨Q,hQ⟩:∃ Q,Store.pairP ⟨sl1,tr1⟩ e0.left e0.right=Q:=⟨_,rfl⟩;rw[hQ]at hw t3 hml;obtain⟨more,c,sl2,tr2⟩:=Q;simp only at hw t3 hml;subst t3;have hF:=zjS hok hQ;clear hmg t4 hQ hok;have hri:l.length<rows.length:=by simp only[List.length_cons]at h2;omega
       have hre:rows[l.length]=e0:=by
        have:=congrArg (fun q=>q[l.length]?) h1;simp only[List.length_cons,List.reverse_cons]at this;rw[List.getElem?_take_of_lt (by omega),List.getElem?_eq_getElem hri,List.getElem?_append_right (by simp),List.length_reverse,Nat.sub_self]at this;exact Option.some.inj this
       have hrt:rows.take l.length=l.reverse:=by
        have:=congrArg (fun q=>q.take l.length) h1;simp only[List.length_cons,List.reverse_cons]at this;rw[List.take_take,Nat.min_eq_left (by omega),List.take_left' (by simp)]at this;exact this
       have hle:l.length<=rows.length:=by omega
       have hrl:((e0::l).length:Int)=(l.length:Int)+1:=by simp
       have hw0:IntKind.i64.wrap (l.length:Int)=(l.length:Int):=by rw[wrap_i64 (by omega) (by omega)]
       have hd1:l.length*10 / 10=l.length:=by omega
       have hd2:l.length*10 % 10=0:=by omega
       obtain⟨⟨pk,pn,pi,ph,pl⟩,⟨qk,qn,qi,qh,ql⟩⟩:=e0;simp at hF;by_cases hc:c=0
       . subst hc;rw[if_pos rfl]at hw
         have hnew:∀ (rows2:List Equation) (gen2:Nat) (cap2:Option Nat) (x2:Bool),rows2.take (more++l).length=(more++l).reverse->(more++l).length<=rows2.length->(∀ c,cap2=some c->c=rows2.length)->_:=fun rows2 gen2 cap2 x2 q1 q2 q3 =>
          hK (sl2,tr1++ex2,gN (some G) ex2.length,more++l,rows2,gen2,cap2,x2) ⟨⟨ex1++ex2,by simp[e1],by simp only;rw[List.length_append,<- zdE,<- e2]⟩,q1,q2,q3,by rw[hn2];exact hw⟩
         clear hK hw h1 e2;obtain⟨tr2,htr2⟩:∃ tr2,tr1++ex2=tr2:=⟨_,rfl⟩
         cases cap with
         | none =>
           simp [htr2,zcz,hE,zK,hP,hrl,hri,hre,hw0,hd1,hd2,hF,vacant_eq,zbN,zbs,bounds,zky,zR,zaP,zdh,hB,hle];refine zbx hρ hE hcon (sl2:=sl2) (tr2:=tr2) (G2:=(some (G+ex2.length))) (more:=more) (l:=l) (rows:=rows) (gen:=gen) (cap:=none) (x:=x) h3 hrt (by omega) (by omega) hml (Less.auto (by simp[zK]) (by simp[zK,zo,zf,zy]) (by simp[zK]) (by simp[zK]<;>(intro x hx;first|omega|exact⟨.inl hx,by omega⟩))) ?_;rintro H nn log hn7 hvac ⟨hHF,rid,gen2,cap2,rows2,x2,r5,r6,r7,g4,gr,k1,k2,k3⟩;have f0:H.get 0=some (.arr 2 0 [[.own 1 0 0 sl2.length none,.own 2 ((G+ex2.length)) 0 tr2.length none]] true false false):=hHF (0,uyB sl2 tr2 (some (G+ex2.length))) (by simp[zK]);have f1:H.get 1=some (.arr 8 0 (sl2.map zG) false false true):=hHF (1,slO sl2) (by simp[zK]);have f2:H.get 2=some (.arr 10 ((G+ex2.length)) (tr2.map zA) false false true):=hHF (2,trO tr2 ((G+ex2.length))) (by simp[zK]);have f3:H.get 3=some (zaM (.ptr 0 0 0)):=hHF (3,zaM (.ptr 0 0 0)) (by simp[zK]);refine LessQ.mk (Less.lit (TL:=[(7,.ptr 3 0 0),(8,.ptr 4 0 0)]) (HL:=zK sl2 tr2 (some (G+ex2.length))++[(3,zaM (.ptr 0 0 0)),(4,zaM (.own 5 gen2 0 (more++l).length cap2)),(5,.arr 10 gen2 (rows2.map zx) x2 false true)]) (fun i=>if i=5 then rid else i) 7 ?_ ?_ ?_ ?_) ?_
           . simp[zK]
           . simp[zK,f0,f1,f2,f3,g4,gr,zo,zf,zy]
           . simp[zK]<;>omega
           . simp[zK]<;>(intro x hx;first|omega|exact⟨.inl (by omega),by omega⟩)
           simp[zK];have:=hnew rows2 gen2 cap2 x2 k1 k2 k3;rw[htr2]at this;exact this _ _ (Less.auto (by simp[zK]) (by simp[zK,zo,zf,zy]) (by simp[zK]) (by simp[zK]<;>(intro x hx;first|omega|exact⟨.inl hx,by omega⟩)))
         | some cc =>
           obtain rfl:=h3 cc rfl;simp [htr2,zcz,hE,zK,hP,hrl,hri,hre,hw0,hd1,hd2,hF,vacant_eq,zbN,zbs,bounds,zky,zR,zaP,zdh,hB,hle];refine zbx hρ hE hcon (sl2:=sl2) (tr2:=tr2) (G2:=(some (G+ex2.length))) (more:=more) (l:=l) (rows:=rows) (gen:=gen) (cap:=(some rows.length)) (x:=x) h3 hrt (by omega) (by omega) hml (Less.auto (by simp[zK]) (by simp[zK,zo,zf,zy]) (by simp[zK]) (by simp[zK]<;>(intro x hx;first|omega|exact⟨.inl hx,by omega⟩))) ?_;rintro H nn log hn7 hvac ⟨hHF,rid,gen2,cap2,rows2,x2,r5,r6,r7,g4,gr,k1,k2,k3⟩;have f0:H.get 0=some (.arr 2 0 [[.own 1 0 0 sl2.length none,.own 2 ((G+ex2.length)) 0 tr2.length none]] true false false):=hHF (0,uyB sl2 tr2 (some (G+ex2.length))) (by simp[zK]);have f1:H.get 1=some (.arr 8 0 (sl2.map zG) false false true):=hHF (1,slO sl2) (by simp[zK]);have f2:H.get 2=some (.arr 10 ((G+ex2.length)) (tr2.map zA) false false true):=hHF (2,trO tr2 ((G+ex2.length))) (by simp[zK]);have f3:H.get 3=some (zaM (.ptr 0 0 0)):=hHF (3,zaM (.ptr 0 0 0)) (by simp[zK]);refine LessQ.mk (Less.lit (TL:=[(7,.ptr 3 0 0),(8,.ptr 4 0 0)]) (HL:=zK sl2 tr2 (some (G+ex2.length))++[(3,zaM (.ptr 0 0 0)),(4,zaM (.own 5 gen2 0 (more++l).length cap2)),(5,.arr 10 gen2 (rows2.map zx) x2 false true)]) (fun i=>if i=5 then rid else i) 7 ?_ ?_ ?_ ?_) ?_
           . simp[zK]
           . simp[zK,f0,f1,f2,f3,g4,gr,zo,zf,zy]
           . simp[zK]<;>omega
           . simp[zK]<;>(intro x hx;first|omega|exact⟨.inl (by omega),by omega⟩)
           simp[zK];have:=hnew rows2 gen2 cap2 x2 k1 k2 k3;rw[htr2]at this;exact this _ _ (Less.auto (by simp[zK]) (by simp[zK,zo,zf,zy]) (by simp[zK]) (by simp[zK]<;>(intro x hx;first|omega|exact⟨.inl hx,by omega⟩)))
       . rw[if_neg hc]at hw;obtain⟨hq1,hq2⟩:=Prod.mk.inj (Option.some.inj hw);obtain⟨hq3,hq4⟩:=Store.mk.inj hq1
         have hG3:G3=gN (some G) ex2.length:=by
          have:ex3=ex1++ex2:=by rw[<- htr3,e1,List.append_assoc]at hq4;exact(List.append_cancel_left hq4).symm
          rw[<- hG3,this,List.length_append,<- zdE,<- e2]
         subst hq2 hq3 hG3 hq4;obtain⟨tr2,htr2⟩:∃ tr2,tr1++ex2=tr2:=⟨_,rfl⟩;simp [htr2,zcz,hE,zK,hP,hrl,hri,hre,hw0,hd1,hd2,hF,vacant_eq,zbN,zbs,bounds,zky,zR,zaP,zdh,hc];refine LessQ.mk (Less.auto (TL:=[(6,.int .i64 c)]) (HL:=zK sl2 tr2 (some (G+ex2.length))) (n:=7) (by simp[zK]) (by simp[zK,zo,zf,zy]) (by simp[zK]) (by simp[zK]<;>(intro x hx;first|omega|exact⟨.inl hx,by omega⟩))) ?_;simp [htr2,hE,zK];exact GivesL.keepX rfl rfl rfl (by simp[zo,zf])
end
end
end Go.Proofs.YtfgmnebfhemnpaaGreat
