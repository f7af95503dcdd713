import Derived.Test.YtfgmnebfhemnpaaGreatLXB
import Derived.Test.YtfgmnebfhemnpaaGreatJPy
import Derived.Test.YtfgmnebfhemnpaaGreatJL
import Derived.Test.YtfgmnebfhemnpaaGreatLUI0
import Derived.Test.YtfgmnebfhemnpaaGreatJP9
set_option linter.all false
noncomputable section
/- The program's unification within a store: the work list. -/
namespace Go.Proofs.YtfgmnebfhemnpaaGreat
open Go.J
open Go.J.Enc (enc)
set_option maxRecDepth 100000
set_option maxHeartbeats 4000000
section
variable {ρ:Nat->Value}(hρ:J.Good ρ)
include hρ
section
variable {E:Env}(hE:E.P=Tryz.prog)(hcon:ConsOk ρ E)
include hE hcon
theorem zhj {d f:Nat} (hP:E.con 57=zaS (uwM (zl9 d))) (hB:E.con 58=zaS (zmH 76)) {sl:List Slot} {tr:List Change} {g:Nat} {a b:Ty} {sl':List Slot} {ex3:List Change} {e:Int} (h:Store.withinG d f ⟨sl,tr⟩ [⟨a,b⟩]=some (⟨sl',tr++ex3⟩,e)) :
 Wp ρ E 3 50 zKz (((PT.leaf.set 0 (.ptr 0 0 0)).set 1 (enc a)).set 2 (enc b)) { H:=mkP (zL sl tr (some g)),n:=3,log:=[] } (J.Leaves E.P Tryz.f37 (GivesL 3 (.int .i64 e) (zL sl' (tr++ex3) (gN (some g) ex3.length)))):=by
 obtain⟨tr3,htr3⟩:∃ tr3,tr++ex3=tr3:=⟨_,rfl⟩;obtain⟨G3,hG3⟩:∃ G3,gN (some g) ex3.length=G3:=⟨_,rfl⟩;rw[htr3]at h;rw[htr3,hG3];obtain⟨ak,an,ai,ah,al⟩:=a;obtain⟨bk,bn,bi',bh,bl⟩:=b;simp [hE,zL]
 refine lpi hρ hE hcon f (nn:=7) (fun i (_:List Slot×List Change×Option Nat×List Equation×List Equation×Nat×Option Nat×Bool)=>[(7,.ptr 3 0 0),(8,.ptr 4 0 0)])
  (fun i st=>zL st.1 st.2.1 st.2.2.1++[(3,zaQ (.ptr 0 0 0)),(4,zaQ (.own 5 st.2.2.2.2.2.1 0 st.2.2.2.1.length st.2.2.2.2.2.2.1)),(5,.arr 10 st.2.2.2.2.2.1 (st.2.2.2.2.1.map zw) st.2.2.2.2.2.2.2 false true)])
  (fun i st=>(∃ ex1,st.2.1=tr++ex1/\st.2.2.1=gN (some g) ex1.length)/\st.2.2.2.2.1.take st.2.2.2.1.length=st.2.2.2.1.reverse/\st.2.2.2.1.length<=st.2.2.2.2.1.length/\(∀ c,st.2.2.2.2.2.2.1=some c->c=st.2.2.2.2.1.length)/\Store.withinG d (f-i) ⟨st.1,st.2.1⟩ st.2.2.2.1=some (⟨sl',tr3⟩,e))
  (sl,tr,(some g),[⟨.mk ak an ai ah al,.mk bk bn bi' bh bl⟩],[⟨.mk ak an ai ah al,.mk bk bn bi' bh bl⟩],0,some 1,true)
  (Less.auto (by simp[zL]) (by simp[zL,zf,za,zy]) (by simp[zL]) (by simp[zL]<;>(intro x hx;first|omega|exact⟨.inl hx,by omega⟩))) ⟨⟨[],by simp,by simp⟩,by simp,by simp,by simp,by simpa using h⟩ ?_ ?_
 . rintro ⟨sl1,tr1,G,l,rows,gen,cap,x⟩ ⟨_,_,_,_,hw⟩ K;rw[Nat.sub_self,Store.withinG]at hw;cases hw
 . rintro i ⟨sl1,tr1,G,l,rows,gen,cap,x⟩ hi ⟨⟨ex1,e1,e2⟩,h1,h2,h3,hw⟩ K hK;obtain⟨n,hn⟩:∃ n,f-i=n+1:=⟨f-i-1,by omega⟩;have hn2:f-(i+1)=n:=by omega
   rw[hn]at hw;simp only at e1 e2 h1 h2 h3 hw
   cases G with
   | none =>
     exact(by simp at e2:False).elim
   | some G =>
     cases l with
     | nil =>
       rw[Store.withinG]at hw;obtain⟨hq1,hq2⟩:=Prod.mk.inj (Option.some.inj hw);obtain⟨hq3,hq4⟩:=Store.mk.inj hq1
       have hG3:G3=(some G):=by
        have:ex3=ex1:=by rw[<- htr3,e1]at hq4;exact(List.append_cancel_left hq4).symm
        rw[<- hG3,this];exact e2.symm
       subst hq2 hq3 hq4 hG3;simp [zc0,hE,zL];refine LessQ.mk (Less.auto (TL:=[]) (HL:=zL sl1 tr1 (some G)) (n:=7) (by simp[zL]) (by simp[zL,zf,za,zy]) (by simp[zL]) (by simp[zL]<;>(intro x hx;first|omega|exact⟨.inl hx,by omega⟩))) ?_;simp [hE,zL];exact GivesL.keepX rfl rfl rfl (by simp[zf,za])
     | cons e0 l =>
       rw[Store.withinG]at hw;split at hw
       case isFalse=>cases hw
       rename_i hok;obtain⟨hok,hll,hml⟩:=hok;obtain⟨mg,hmg⟩:=zf8 ⟨sl1,tr1⟩ e0.left e0.right;obtain⟨ex2,t3,t4⟩:=hmg.trail;obtain⟨Q,hQ⟩:∃ Q,Store.pairP ⟨sl1,tr1⟩ e0.left e0.right=Q:=⟨_,rfl⟩;rw[hQ]at hw t3 hml;obtain⟨more,c,sl2,tr2⟩:=Q;simp only at hw t3 hml;subst t3;have hF:=zkr hok hQ;clear hmg t4 hQ hok;have hri:l.length<rows.length:=by simp only[List.length_cons]at h2;omega
       have hre:rows[l.length]=e0:=by
        have:=congrArg (fun q=>q[l.length]?) h1;simp only[List.length_cons,List.reverse_cons]at this;rw[List.getElem?_take_of_lt (by omega),List.getElem?_eq_getElem hri,List.getElem?_append_right (by simp),List.length_reverse,Nat.sub_self]at this;exact Option.some.inj this
       have hrt:rows.take l.length=l.reverse:=by
        have:=congrArg (fun q=>q.take l.length) h1;simp only[List.length_cons,List.reverse_cons]at this;rw[List.take_take,Nat.min_eq_left (by omega),List.take_left' (by simp)]at this;exact this
       have hle:l.length<=rows.length:=by omega
       have hrl:((e0::l).length:Int)=(l.length:Int)+1:=by simp
       have hw0:IntKind.i64.wrap (l.length:Int)=(l.length:Int):=by rw[wrap_i64 (by omega) (by omega)]
       have hd1:l.length*10 / 10=l.length:=by omega
       have hd2:l.length*10 % 10=0:=by omega
       obtain⟨⟨pk,pn,pi,ph,pl⟩,⟨qk,qn,qi,qh,ql⟩⟩:=e0;simp at hF;by_cases hc:c=0
       . subst hc;rw[if_pos rfl]at hw
         have hnew:∀ (rows2:List Equation) (gen2:Nat) (cap2:Option Nat) (x2:Bool),rows2.take (more++l).length=(more++l).reverse->(more++l).length<=rows2.length->(∀ c,cap2=some c->c=rows2.length)->_:=fun rows2 gen2 cap2 x2 q1 q2 q3 =>
          hK (sl2,tr1++ex2,gN (some G) ex2.length,more++l,rows2,gen2,cap2,x2) ⟨⟨ex1++ex2,by simp[e1],by simp only;rw[List.length_append,<- zdJ,<- e2]⟩,q1,q2,q3,by rw[hn2];exact hw⟩
         clear hK hw h1 e2;obtain⟨tr2,htr2⟩:∃ tr2,tr1++ex2=tr2:=⟨_,rfl⟩
         cases cap with
         | none =>
           simp [htr2,zc0,hE,zL,hP,hrl,hri,hre,hw0,hd1,hd2,hF,vacant_eq,zbO,zbs,bounds,zkN,zQ,zaN,zdj,hB,hle];refine zbw hρ hE hcon (sl2:=sl2) (tr2:=tr2) (G2:=(some (G+ex2.length))) (more:=more) (l:=l) (rows:=rows) (gen:=gen) (cap:=none) (x:=x) h3 hrt (by omega) (by omega) hml (Less.auto (by simp[zL]) (by simp[zL,zf,za,zy]) (by simp[zL]) (by simp[zL]<;>(intro x hx;first|omega|exact⟨.inl hx,by omega⟩))) ?_;rintro H nn log hn7 hvac ⟨hHF,rid,gen2,cap2,rows2,x2,r5,r6,r7,g4,gr,k1,k2,k3⟩;have f0:H.get 0=some (.arr 2 0 [[.own 1 0 0 sl2.length none,.own 2 ((G+ex2.length)) 0 tr2.length none]] true false false):=hHF (0,uyB sl2 tr2 (some (G+ex2.length))) (by simp[zL]);have f1:H.get 1=some (.arr 8 0 (sl2.map zI) false false true):=hHF (1,slO sl2) (by simp[zL]);have f2:H.get 2=some (.arr 10 ((G+ex2.length)) (tr2.map zB) false false true):=hHF (2,trO tr2 ((G+ex2.length))) (by simp[zL]);have f3:H.get 3=some (zaQ (.ptr 0 0 0)):=hHF (3,zaQ (.ptr 0 0 0)) (by simp[zL]);refine LessQ.mk (Less.lit (TL:=[(7,.ptr 3 0 0),(8,.ptr 4 0 0)]) (HL:=zL sl2 tr2 (some (G+ex2.length))++[(3,zaQ (.ptr 0 0 0)),(4,zaQ (.own 5 gen2 0 (more++l).length cap2)),(5,.arr 10 gen2 (rows2.map zw) x2 false true)]) (fun i=>if i=5 then rid else i) 7 ?_ ?_ ?_ ?_) ?_
           . simp[zL]
           . simp[zL,f0,f1,f2,f3,g4,gr,zf,za,zy]
           . simp[zL]<;>omega
           . simp[zL]<;>(intro x hx;first|omega|exact⟨.inl (by omega),by omega⟩)
           simp[zL];have:=hnew rows2 gen2 cap2 x2 k1 k2 k3;rw[htr2]at this;exact this _ _ (Less.auto (by simp[zL]) (by simp[zL,zf,za,zy]) (by simp[zL]) (by simp[zL]<;>(intro x hx;first|omega|exact⟨.inl hx,by omega⟩)))
         | some cc =>
           obtain rfl:=h3 cc rfl;simp [htr2,zc0,hE,zL,hP,hrl,hri,hre,hw0,hd1,hd2,hF,vacant_eq,zbO,zbs,bounds,zkN,zQ,zaN,zdj,hB,hle];refine zbw hρ hE hcon (sl2:=sl2) (tr2:=tr2) (G2:=(some (G+ex2.length))) (more:=more) (l:=l) (rows:=rows) (gen:=gen) (cap:=(some rows.length)) (x:=x) h3 hrt (by omega) (by omega) hml (Less.auto (by simp[zL]) (by simp[zL,zf,za,zy]) (by simp[zL]) (by simp[zL]<;>(intro x hx;first|omega|exact⟨.inl hx,by omega⟩))) ?_;rintro H nn log hn7 hvac ⟨hHF,rid,gen2,cap2,rows2,x2,r5,r6,r7,g4,gr,k1,k2,k3⟩;have f0:H.get 0=some (.arr 2 0 [[.own 1 0 0 sl2.length none,.own 2 ((G+ex2.length)) 0 tr2.length none]] true false false):=hHF (0,uyB sl2 tr2 (some (G+ex2.length))) (by simp[zL]);have f1:H.get 1=some (.arr 8 0 (sl2.map zI) false false true):=hHF (1,slO sl2) (by simp[zL]);have f2:H.get 2=some (.arr 10 ((G+ex2.length)) (tr2.map zB) false false true):=hHF (2,trO tr2 ((G+ex2.length))) (by simp[zL]);have f3:H.get 3=some (zaQ (.ptr 0 0 0)):=hHF (3,zaQ (.ptr 0 0 0)) (by simp[zL]);refine LessQ.mk (Less.lit (TL:=[(7,.ptr 3 0 0),(8,.ptr 4 0 0)]) (HL:=zL sl2 tr2 (some (G+ex2.length))++[(3,zaQ (.ptr 0 0 0)),(4,zaQ (.own 5 gen2 0 (more++l).length cap2)),(5,.arr 10 gen2 (rows2.map zw) x2 false true)]) (fun i=>if i=5 then rid else i) 7 ?_ ?_ ?_ ?_) ?_
           . simp[zL]
           . simp[zL,f0,f1,f2,f3,g4,gr,zf,za,zy]
           . simp[zL]<;>omega
           . simp[zL]<;>(intro x hx;first|omega|exact⟨.inl (by omega),by omega⟩)
           simp[zL];have:=hnew rows2 gen2 cap2 x2 k1 k2 k3;rw[htr2]at this;exact this _ _ (Less.auto (by simp[zL]) (by simp[zL,zf,za,zy]) (by simp[zL]) (by simp[zL]<;>(intro x hx;first|omega|exact⟨.inl hx,by omega⟩)))
       . rw[if_neg hc]at hw;obtain⟨hq1,hq2⟩:=Prod.mk.inj (Option.some.inj hw);obtain⟨hq3,hq4⟩:=Store.mk.inj hq1
         have hG3:G3=gN (some G) ex2.length:=by
          have:ex3=ex1++ex2:=by rw[<- htr3,e1,List.append_assoc]at hq4;exact(List.append_cancel_left hq4).symm
          rw[<- hG3,this,List.length_append,<- zdJ,<- e2]
         subst hq2 hq3 hG3 hq4;obtain⟨tr2,htr2⟩:∃ tr2,tr1++ex2=tr2:=⟨_,rfl⟩;simp [htr2,zc0,hE,zL,hP,hrl,hri,hre,hw0,hd1,hd2,hF,vacant_eq,zbO,zbs,bounds,zkN,zQ,zaN,zdj,hc];refine LessQ.mk (Less.auto (TL:=[(6,.int .i64 c)]) (HL:=zL sl2 tr2 (some (G+ex2.length))) (n:=7) (by simp[zL]) (by simp[zL,zf,za,zy]) (by simp[zL]) (by simp[zL]<;>(intro x hx;first|omega|exact⟨.inl hx,by omega⟩))) ?_;simp [htr2,hE,zL];exact GivesL.keepX rfl rfl rfl (by simp[zf,za])
end
end
end Go.Proofs.YtfgmnebfhemnpaaGreat
/- The program's unification: its contract. -/
namespace Go.Proofs.YtfgmnebfhemnpaaGreat
open Go.J
open Go.J.Enc (enc)
set_option maxRecDepth 100000
set_option maxHeartbeats 4000000
def zfP(d f:Nat)(sl:List Slot)(tr:List Change)(args:List V):Option (V×List Slot×List Change):=match args with
 | [av,bv]=>ob (Enc.dec av:Option Ty) fun a=>ob (Enc.dec bv:Option Ty) fun b=>ob (Store.withinG d f ⟨sl,tr⟩ [⟨a,b⟩]) fun r=>some (.int .i64 r.2,r.1.slots,r.1.trail.drop tr.length)
 |_=>none
theorem zmQ{d f:Nat}{sl:List Slot}{tr:List Change}{args:List V}{q:V×List Slot×List Change}(h:zfP d f sl tr args=some q):∃ (a b:Ty) (r:Store×Int),args=[enc a,enc b]/\Store.withinG d f ⟨sl,tr⟩ [⟨a,b⟩]=some r/\q=(.int .i64 r.2,r.1.slots,r.1.trail.drop tr.length):=by
 unfold zfP at h;split at h
 . simp only[zq]at h;obtain⟨a,ha,b,hb,r,hr,h⟩:=h;cases h;exact⟨a,b,r,by rw[Enc.enc_dec _ _ ha,Enc.enc_dec _ _ hb],hr,rfl⟩
 . cases h
theorem zpm{d f:Nat}{sl:List Slot}{tr:List Change}{a b:Ty}{sl':List Slot}{ex:List Change}{e:Int}(h:Store.withinG d f ⟨sl,tr⟩ [⟨a,b⟩]=some (⟨sl',tr++ex⟩,e)):zfP d f sl tr [enc a,enc b]=some (.int .i64 e,sl',ex):=by
 show ob (Enc.dec (enc a):Option Ty) (fun a=>ob (Enc.dec (enc b):Option Ty) fun b=>ob (Store.withinG d f ⟨sl,tr⟩ [⟨a,b⟩]) _)=_;rw[Enc.dec_enc,Enc.dec_enc];show ob (Store.withinG d f ⟨sl,tr⟩ [⟨a,b⟩]) _=_;rw[h];simp
section
variable {ρ:Nat->Value}(hρ:J.Good ρ)
include hρ
section
variable {E:Env}(hE:E.P=Tryz.prog)(hcon:ConsOk ρ E)
include hE hcon
theorem zhl{d f:Nat}(hC:E.con 35=zaS (zjL 8))(hT:E.con 36=fnS zqn)(hS:E.con 38=fnS (zW fun l:List Slot=>some l))(hW:E.con 37=zaS (uyM (zfP d f)))
 {sl:List Slot} {tr:List Change} {a b:Ty} {sl':List Slot} {ex:List Change} {e:Int} (hne:sl≠[]) (hl:sl.length<=1000) (h:Store.withinG d f ⟨sl,tr⟩ [⟨a,b⟩]=some (⟨sl',tr++ex⟩,e)) (hs:HS) :
 CallOk ρ Tryz.prog 11 [enc (⟨sl,tr⟩:Store),enc a,enc b] hs (enc ((if e=0 then ⟨sl',tr++ex⟩else ⟨sl,tr⟩,e):Store×Int)) hs:=by
 refine fn hρ hE hcon Tryz.func11 zSE rfl (by simp) ?_ hs;have hF:=zpm h
 have hall:((sl.map zI).all fun e=>et (Nat.beq (zR e) 8) (e.all V.pure2))=true:=by
  refine List.all_eq_true.2 fun e he=>?_
  obtain⟨x,_,rfl⟩:=List.mem_map.1 he;rfl
 have hpu:∀ e∈sl.map zI,e.all V.pure2=true:=fun e he=>by
  obtain⟨x,_,rfl⟩:=List.mem_map.1 he;rfl
 have hcl:∀ (tg:Bool) (hs:HS),(zen (sl.map zI) 8 tg).heap hs={ H:=hs.H.set hs.n (.arr 8 0 (sl.map zI) false false true),n:=hs.n+1,log:=hs.n::hs.log }:=fun tg hs=>znP hpu
 have hl0:¬ sl.length=0:=fun h=>hne (List.eq_nil_of_length_eq_zero h)
 obtain⟨ak,an,ai,ah,al⟩:=a;obtain⟨bk,bn,bi',bh,bl⟩:=b;simp at hF;by_cases he:e=0
 . subst he;rw[if_pos rfl];rcases ex with _|⟨z,ex⟩
   . simp [hE,hC,hT,hS,hW,hall,hcl,hl,hl0,hne,hF,vacant_eq]
   . obtain⟨tr2,htr2⟩:∃ tr2,tr++z::ex=tr2:=⟨_,rfl⟩;simp [htr2,hE,hC,hT,hS,hW,hall,hcl,hl,hl0,hne,hF,vacant_eq]
 . rw[if_neg he];rcases ex with _|⟨z,ex⟩
   . simp [hE,hC,hT,hS,hW,hall,hcl,hl,hl0,hne,hF,he,vacant_eq]
   . obtain⟨tr2,htr2⟩:∃ tr2,tr++z::ex=tr2:=⟨_,rfl⟩;simp [htr2,hE,hC,hT,hS,hW,hall,hcl,hl,hl0,hne,hF,he,vacant_eq]
end
theorem z8Q:Valid ρ Tryz.prog 35 (zaS (zjL 8)):=by
 refine Valid.emb (fo Tryz.func35 zSx) fun vs hs D h=>?_
 obtain⟨es,tg,hne,hl,hes,hac,rfl,hg,hfit⟩:=zqm h;refine em hρ (E:=EL []) rfl (zt valid_nil) Tryz.func35 zSx rfl hg ?_ hfit;show Wp ρ _ 0 _ _ _ { H:=mkP [],n:=0,log:=[] } (J.Leaves _ _ (GivesL 0 (.own 0 0 0 es.length none) [(0,.arr 8 0 es false false true)]));have hsz:sizes 8 es=true:=by rw[sizes_eq];exact fun e he=>(hes e he).1
 have hr1:es.length*88<=1048576:=by omega
 have hr2:es.length*8<=1048576:=by omega
 have hl0:¬ es.length=0:=fun h=>hne (List.eq_nil_of_length_eq_zero h)
 rcases es with _|⟨e0,es⟩
 . exact absurd rfl hne
 rw[List.length_cons]at hr1 hr2;have hbin:∀ t,zyT Tryz.prog .eql 25 (.sl (e0::es) t) .snil=some (.bool false):=fun t=>by rfl
 have hb2:(EL []).P=Tryz.prog:=rfl;have hac2:zwp e0=true/\zY es=true:=by simpa using hac
 cases tg<;>simp [hsz,hr1,hr2,hbin,hb2,hac2.1,hac2.2]
 all_goals exact GivesL.litX (fun k=>if k=0 then 5 else k) rfl rfl ⟨rfl,rfl⟩ (by
  intro p hp;simp only[List.mem_singleton]at hp;subst hp;have e1:(e0::es).all (fun e=>e.all V.pure2)=true:=List.all_eq_true.2 fun e he=>(hes e he).2
  have e3:∀ π,(J.Obj.arr 8 0 (e0::es) false false true).ren π=.arr 8 0 (e0::es) false false true:=fun π=>by
   show J.Obj.arr 8 0 ((e0::es).map fun e=>e.map (V.ren2 π)) false false true=_;rw[zeU fun e he v hv=>V.ren2_pure (List.all_eq_true.1 (hes e he).2 v hv)]
  refine⟨e1,?_⟩;rw[e3]
  simp)
theorem zEk:Valid ρ Tryz.prog 36 (fnS zqn):=Valid.fnS (fo Tryz.func36 zSw) fun vs v h hs=>by
 obtain⟨es,t,rfl,hsz,rfl⟩:=zvU h;refine zpc (D:=⟨0,0,fun i=>i,[],[],[.sl es t],.sl es true⟩) hρ (E:=EL []) (zt valid_nil) follows named Tryz.func36 zSw rfl ⟨rfl,rfl,Nat.le_refl _,(fun p hp=>by cases hp),(fun p hp=>by cases hp),rfl,fun v hv=>by rw[List.mem_singleton.1 hv];rfl⟩ ?_ (hs:=hs) (vs:=[.sl es t]) ⟨rfl,fun i j hi=>by simp at hi,(fun p hp=>by cases hp),fun i hi=>by simp at hi,fun i hi=>by simp at hi⟩;show Wp ρ _ 0 _ _ _ { H:=mkP [],n:=0,log:=[] } (J.Leaves _ _ (GivesL 0 (.sl es true) []));have hb2:(EL []).P=Tryz.prog:=rfl;cases t<;>simp [hb2,hsz,zbO,zkf,bounds,zkN,zQ,zaN]
 all_goals exact GivesL.keepX rfl rfl rfl (by simp)
theorem zwQ(d f:Nat):Valid ρ Tryz.prog 37 (zaS (uyM (zfP d f))):=by
 refine Valid.emb (fo Tryz.func37 zOa) fun vs hs D h=>?_
 obtain⟨args,sl,tr,g,r,sl',ex,b,c,q,hF,rfl,_,hr,hg,hfit⟩:=z9e h;obtain⟨x,y,R,rfl,h1,hq⟩:=zmQ hF;cases hq;obtain⟨m,hm⟩:=Store.grow_within d f h1;have he:=hm.eq;have hEE:(EL [(57,zaS (uwM (zl9 d))),(58,zaS (zmH 76))]).P=Tryz.prog:=rfl;have hcn:ConsOk ρ (EL [(57,zaS (uwM (zl9 d))),(58,zaS (zmH 76))]):=zt (zo (zEi hρ d) (zo (z9d hρ) valid_nil));have h2:Store.withinG d f ⟨sl,tr⟩ [⟨x,y⟩]=some (⟨R.1.slots,tr++R.1.trail.drop tr.length⟩,R.2):=by rw[h1];exact congrArg some (Prod.ext he rfl)
 cases g with
 |none=>exact em hρ hEE hcn Tryz.func37 zOa rfl hg (zhk hρ hEE hcn rfl rfl h2) hfit
 |some g=>exact em hρ hEE hcn Tryz.func37 zOa rfl hg (zhj hρ hEE hcn rfl rfl h2) hfit
theorem zEh:Valid ρ Tryz.prog 11 (fnS (zaM Store.uniF)):=v3 (fo Tryz.func11 zSE) fun s a b q h hs=>by
 obtain⟨h1,h2,h3,r,hr,rfl⟩:=Store.uniF_inv h;obtain⟨d,f,hf⟩:=hr.run;obtain⟨m,hm⟩:=Store.grow_within d f hf;have he:=hm.eq;obtain⟨sl,tr⟩:=s;obtain⟨r1,e⟩:=r;simp only at he;have h4:Store.withinG d f ⟨sl,tr⟩ [⟨a,b⟩]=some (⟨r1.slots,tr++r1.trail.drop tr.length⟩,e):=by rw[hf];exact congrArg some (Prod.ext he rfl)
 have hcn:ConsOk ρ (EL [(35,zaS (zjL 8)),(36,fnS zqn),(38,fnS (zW fun l:List Slot=>some l)),(37,zaS (uyM (zfP d f)))]) :=
  zt (zo (z8Q hρ) (zo (zEk hρ) (zo (zqO hρ) (zo (zwQ hρ d f) valid_nil))))
 have key:=zhl hρ rfl hcn rfl rfl rfl rfl h1 h2 h4 hs;rw[<- he]at key;exact key
end
end Go.Proofs.YtfgmnebfhemnpaaGreat
/- The laws of chapter 17: a store and two types from a tape. -/
namespace Go.Proofs.YtfgmnebfhemnpaaGreat
open Go.J
open Go.J.Enc (enc)
set_option maxRecDepth 100000
set_option maxHeartbeats 1000000
def zce(bits:Int)(codes:List Int):EmbD where
 k:=0
 k':=1
 π:=fun i=>i
 OL:=[]
 OL':=[(0,box (Cel.cells (Store.made17 ⟨codes,0⟩ (zaG bits)).2.2.2))]
 vs0:=[enc bits,enc codes]
 v0:=.tuple [enc (Store.made17 ⟨codes,0⟩ (zaG bits)).1,enc (Store.made17 ⟨codes,0⟩ (zaG bits)).2.1,enc (Store.made17 ⟨codes,0⟩ (zaG bits)).2.2.1,.ptr 0 0 0]
def zhN(vs:List V)(hs:HS):Option EmbD:=match vs with
 | [bv,cv]=>ob (Enc.dec bv:Option Int) fun bits=>ob (Enc.dec cv:Option (List Int)) fun codes=>gd (et (Nat.ble (zR codes) 60) (zab hs hs.n)) (some (zce bits codes))
 |_=>none
@[simp] theorem zFT {bv cv:V} {hs:HS}:zhN [bv,cv] hs=ob (Enc.dec bv:Option Int) fun bits=>ob (Enc.dec cv:Option (List Int)) fun codes=>gd (et (Nat.ble (zR codes) 60) (zab hs hs.n)) (some (zce bits codes)):=(rfl)
theorem zn8{bits:Int}{codes:List Int}{hs:HS}{s:Store}{a b:Ty}{t:Tp}(h:Store.made17 ⟨codes,0⟩ (zaG bits)=(s,a,b,t)):(zce bits codes).val hs=.tuple [enc s,enc a,enc b,.ptr hs.n 0 0]:=by
 have e:(zce bits codes).v0=.tuple [enc s,enc a,enc b,.ptr 0 0 0]:=by show V.tuple _=_;rw[h]
 show (zce bits codes).v0.ren _=_;rw[e];have hv:∀ (π:Nat->Nat) (t:Ty),(enc t:V).ren2 π=enc t:=fun π t=>V.ren2_none (V.in3_pure (zcL t))
 have hv2:∀ (π:Nat->Nat),(enc s:V).ren2 π=enc s:=fun π=>V.ren2_none (V.in3_pure (show (enc s:V).pure=true from rfl))
 show V.tuple [(enc s:V).ren2 _,(enc a:V).ren2 _,(enc b:V).ren2 _,(V.ptr 0 0 0).ren2 _]=_;rw[hv,hv,hv2];rfl
theorem zlM{bits:Int}{codes:List Int}{hs:HS}{s:Store}{a b:Ty}{t:Tp}(h:Store.made17 ⟨codes,0⟩ (zaG bits)=(s,a,b,t)):(zce bits codes).heap hs={ H:=hs.H.set hs.n (box (Cel.cells t)),n:=hs.n+1,log:=hs.n::hs.log }:=by
 have e:(zce bits codes).OL'=[(0,box (Cel.cells t))]:=by show [(0,_)]=_;rw[h]
 show zgL hs 0 1 _ (zce bits codes).OL'=_;rw[e];show ({ H:=hs.H.set (news hs.n 0 (fun i=>i) 0) ((box (Cel.cells t)).ren _),n:=hs.n+1,log:=[news hs.n 0 (fun i=>i) 0]++hs.log }:HS)=_;rfl
section
variable {ρ:Nat->Value}(hρ:J.Good ρ)
include hρ
section
variable {E:Env}(hE:E.P=Tryz.prog)(hcon:ConsOk ρ E)
include hE hcon
theorem zjd(h3:E.con 20=fnS (zW fun bits:Int=>some (zaG bits)))(h4:E.con 33=stS (zq2 zor))(h5:E.con 25=zeS)(h6:E.con 32=fnS (zV fun h i:Int=>some (zaw h i)))(h8:E.con 34=fnS (zW fun i:Int=>some (zco i)))(h7:E.con 24=stS (zrb (zg8 2)))
 {bits:Int} {codes:List Int} (hl:codes.length<=60) {hs:HS} (hvac:hs.H.get hs.n=none) :
 CallOk ρ Tryz.prog 10 [enc bits,enc codes] hs ((zce bits codes).v0.ren (news hs.n 0 fun i=>i)) (zgL hs 0 1 (fun i=>i) (zce bits codes).OL'):=by
 have htp:(⟨codes,0⟩:Tp).ok:=⟨Int.le_refl _,by show codes.length<=100000;omega⟩;have hDk:=zqg bits;have hD3:=zis bits;rcases hm:Store.made17 ⟨codes,0⟩ (zaG bits)with⟨rs,ra,rb,rt⟩;have hv0:(zce bits codes).v0=.tuple [enc rs,enc ra,enc rb,.ptr 0 0 0]:=by show V.tuple _=_;rw[hm]
 have hOL:(zce bits codes).OL'=[(0,box (Cel.cells rt))]:=by show [(0,_)]=_;rw[hm]
 refine em hρ hE hcon (D:=zce bits codes) Tryz.func10 zSF rfl ⟨rfl,rfl,Nat.zero_le _,fun p hp=>(by cases hp),fun p hp=>?_,?_,fun v hv=>?_⟩ ?_ ⟨rfl,fun i j hi=>absurd hi (Nat.not_lt_zero _),fun p hp=>(by cases hp),fun i hi=>?_,fun i hi=>absurd hi (Nat.not_lt_zero _)⟩
 . obtain rfl:=List.mem_singleton.1 hp;exact⟨rfl,rfl⟩
 . rw[hv0,hOL];show ([enc rs,enc ra,enc rb,V.ptr 0 0 0].all (V.in2 _))=true;have hp:∀ t:Ty,(enc t:V).in2 (dom [(0,box (Cel.cells rt))])=true:=fun t=>V.in3_pure (zcL t)
   have hp2:(enc rs:V).in2 (dom [(0,box (Cel.cells rt))])=true:=V.in3_pure (show (enc rs:V).pure=true from rfl);simp only[List.all_cons,List.all_nil,Bool.and_true,hp,hp2,Bool.true_and];rfl
 . have hv:v∈[(enc bits:V),enc codes]:=hv;simp only[List.mem_cons,List.not_mem_nil,or_false]at hv;rcases hv with rfl|rfl<;>rfl
 . rw[hv0,hOL];show Wp ρ E 0 _ _ _ { H:=mkP [],n:=0,log:=[] } (J.Leaves _ _ (GivesL 0 _ _));rw[show Tryz.f10.ntmps=41 from rfl];obtain⟨s1,_,s3,_⟩:=Store.storeM_ok htp hD3;have s6:=Store.storeN_le ⟨codes,0⟩;have hlen:=s3.len;have f1:zor ⟨codes,0⟩ (zaG bits)=some (Store.storeM ⟨codes,0⟩ (zaG bits)):=if_pos ⟨htp,hDk,hD3⟩;unfold Store.made17 at hm;generalize hDq:zaG bits=D at hm hDk hD3 f1 s1 hlen s3;generalize Store.storeM ⟨codes,0⟩ D=X at hm f1 s1 hlen;obtain⟨t1,s⟩:=X;simp only at hm s1 hlen;obtain⟨n,hn⟩:∃ n,s.slots.length=n:=⟨_,rfl⟩;rw[hn]at hm hlen;have hn5:n<=5:=by omega
   have hn1:(n:Int)<=10000:=by omega
   have hn2:n<=10000:=by omega
   unfold Store.lv17 at hm;have f2:zg8 2 t1 D (zaL n++[zaw 0 0,zaw 2 0,zco 0]) 2=some (typeM 2 t1 D (zaL n++[zaw 0 0,zaw 2 0,zco 0])):=if_pos ⟨s1,hDk,by simp;omega,by decide⟩;have o2:=(zex (D:=D) (Lv:=zaL n++[zaw 0 0,zaw 2 0,zco 0]) 2 _ s1).1;generalize typeM 2 t1 D (zaL n++[zaw 0 0,zaw 2 0,zco 0])=Y at hm f2 o2;obtain⟨t2,a⟩:=Y;simp only at hm o2;have f3:zg8 2 t2 D (zaL n++[zaw 0 0,zaw 2 0,zco 0]) 2=some (typeM 2 t2 D (zaL n++[zaw 0 0,zaw 2 0,zco 0])):=if_pos ⟨o2,hDk,by simp;omega,by decide⟩;generalize typeM 2 t2 D (zaL n++[zaw 0 0,zaw 2 0,zco 0])=Z at hm f3;obtain⟨t3,b⟩:=Z;simp only at hm;have hlv:=zkX n;have hnp:1<=n:=by omega
   generalize hV:zaL n=W at f2 f3 hlv;rcases W with _|⟨v,W⟩
   . simp at hlv;omega
   have h64:(W.length+1+3)*64<=1048576:=by simp only[List.length_cons]at hlv;omega
   have h65:(W.length+4)*64<=1048576:=h64;rw[List.cons_append]at f2 f3;simp only[Prod.mk.injEq]at hm;obtain⟨rfl,rfl,rfl,rfl⟩:=hm;have hw3:¬ W.length+3<=W.length:=by omega
   obtain⟨ak,an,ai,ah,al⟩:=a;obtain⟨vk,vn,vi,vh,vl⟩:=v;simp[zaw,zco]at f2 f3
   have hdec:(zaj (zax (List.take (W.length+3) (List.map zu W++[[V.int IntKind.i64 3,V.str [],V.int IntKind.i64 0,V.int IntKind.i64 0,V.sl [] false],[V.int IntKind.i64 3,V.str [],V.int IntKind.i64 0,V.int IntKind.i64 2,V.sl [] false],[V.int IntKind.i64 2,V.str [],V.int IntKind.i64 0,V.int IntKind.i64 0,V.sl [] false]]))):Option (List Ty))=some (W++[Ty.mk 3 [] 0 0 [],Ty.mk 3 [] 0 2 [],Ty.mk 2 [] 0 0 []]):=by
    rw[List.take_of_length_le (by simp)];have e:List.map zu W++[[V.int IntKind.i64 3,V.str [],V.int IntKind.i64 0,V.int IntKind.i64 0,V.sl [] false],[V.int IntKind.i64 3,V.str [],V.int IntKind.i64 0,V.int IntKind.i64 2,V.sl [] false],[V.int IntKind.i64 2,V.str [],V.int IntKind.i64 0,V.int IntKind.i64 0,V.sl [] false]]=(W++[Ty.mk 3 [] 0 0 [],Ty.mk 3 [] 0 2 [],Ty.mk 2 [] 0 0 []]).map zu:=by simp
    rw[e];simp[-List.map_append]
   simp [hE,h3,h4,h5,h6,h7,h8,hDq,zeS,hn,hn1,hn2,hV,f1,f2,f3,h64,h65,hw3,hdec,zaw,zco,Nat.not_succ_le_self];exact GivesL.litX (fun k=>if k=0 then 6 else k) rfl rfl ⟨rfl,rfl⟩ (by simp)
 . obtain rfl:i=0:=Nat.lt_one_iff.1 hi;exact hvac
end
theorem z9a:Valid ρ Tryz.prog 10 (zaS zhN):=Valid.emb (fo Tryz.func10 zSF) fun vs hs D h=>by
 unfold zhN at h;split at h
 . simp only[zq,zA,et_true,ble_true,vacant_eq,zN]at h;obtain⟨bits,hb,codes,hc,⟨h1,h2⟩,h⟩:=h;cases h;rw[Enc.enc_dec _ _ hb,Enc.enc_dec _ _ hc]
   exact zjd hρ (E:=EL [(20,fnS (zW fun bits:Int=>some (zaG bits))),(33,stS (zq2 zor)),(25,zeS),(32,fnS (zV fun h i:Int=>some (zaw h i))),(34,fnS (zW fun i:Int=>some (zco i))),(24,stS (zrb (zg8 2)))]) rfl
    (zt (zo (zEu hρ) (zo (zpr hρ) (zo (zqK hρ) (zo (zzz hρ) (zo (zEv hρ) (zo (zEm hρ 2 (by omega)) valid_nil))))))) rfl rfl rfl rfl rfl rfl h1 h2
 . cases h
end
end Go.Proofs.YtfgmnebfhemnpaaGreat
/- The law UnifyStores: two stores with the same slots mean the same. -/
namespace Go.Proofs.YtfgmnebfhemnpaaGreat
open Go.J
open Go.J.Enc (enc)
set_option maxRecDepth 100000
set_option maxHeartbeats 4000000
def zkh:J.Spec:=fnS (zV fun a b:Store=>if a.tysOk/\a.slots=b.slots then some true else none)
section
variable {ρ:Nat->Value}(hρ:J.Good ρ)
include hρ
section
variable {E:Env}(hE:E.P=Tryz.prog)(hcon:ConsOk ρ E)
include hE hcon
theorem zjc(h5:E.con 29=fnS (zW fun i:Int=>some (zas i)))(h6:E.con 18=zdr)(h7:E.con 40=zjC){a b:Store}(ha:a.tysOk)(hab:a.slots=b.slots)(hs:HS):CallOk ρ Tryz.prog 13 [enc a,enc b] hs (enc true) hs:=by
 refine fn hρ hE hcon Tryz.func13 zSC rfl (by simp) ?_ hs;have hb:b.tysOk:=by unfold Store.tysOk at ha ⊢;rw[<- hab];exact ha
 have hw:=Store.w16_slots hab;have hlen:b.slots.length=a.slots.length:=by rw[hab]
 have hsn:=ha.1;simp [hE,hlen]
 refine lpi hρ hE hcon a.slots.length (nn:=2) (fun i (_:Unit)=>[(2,.ptr 0 0 0),(3,.ptr 1 0 0),(5,.int .i64 (i:Int))])
  (fun _ _=>[(0,box (z8 a)),(1,box (z8 b))]) (fun _ _=>True) () (Less.auto (by simp) (by simp) (by simp) (by simp<;>(intro x hx;first|omega|exact⟨.inl hx,by omega⟩))) trivial ?_ ?_
 . intro _ _ K;simp [zuy,hE];refine LessQ.mk (Less.auto (TL:=[]) (HL:=[]) (n:=0) (by simp) (by simp) (by simp) (by simp)) ?_;simp [hE]
 . intro i _ hi _ K hK;have hnew:=hK () trivial;have hi':(i:Int)<a.slots.length:=by omega
   have hbi:i<b.slots.length:=by omega
   have hbi':(i:Int)<b.slots.length:=by omega
   have hd1:i*8 / 8=i:=by omega
   have hd2:i*8 % 8=0:=by omega
   have hww:IntKind.i64.wrap ((i:Int)+1)=((i+1:Nat):Int):=zH (by omega);obtain⟨y,hy⟩:∃ y,a.slots[i]=y:=⟨_,rfl⟩;have hy2:b.slots[i]=y:=by rw[<- hy];simp[hab]
   have hro:=Store.resolve_ok ha (t:=zas (i:Int)) rfl;obtain⟨R,hR⟩:∃ R,zaa a.w16 (zas (i:Int))=R:=⟨_,rfl⟩;have hR2:zaa b.w16 (zas (i:Int))=R:=by rw[<- hw];exact hR
   rw[hR]at hro;obtain⟨r,ok⟩:=R;have hrk:r.ok=true:=hro.1;have htv:(zas (i:Int)).ok=true:=rfl;clear hro;obtain⟨yb,⟨yk,yn,yi,yh,yl⟩,ym,yg⟩:=y;cases ok<;>cases yb<;>cases yg
   all_goals
    simp [zuy,hE,h5,h6,h7,zdr,zjC,hi,hi',hbi,hbi',hd1,hd2,hy,hy2,ha,hb,htv,hR,hR2,hrk,hww,-Int.natCast_add];exact hnew _ _ (Less.auto (by simp[-Int.natCast_add]) (by simp) (by simp) (by simp<;>(intro x hx;first|omega|exact⟨.inl hx,by omega⟩)))
theorem zi8(h1:E.con 8=zDR)(h2:E.con 9=zGo)(h3:E.con 10=zaS zhN)(h4:E.con 11=fnS (zaM Store.uniF))(h5:E.con 12=fnS (zaM (Store.topF 7)))(h6:E.con 13=zkh)(h7:E.con 14=zgN)
 {bits:Int} {codes:List Int} (hs:HS):CallOk ρ Tryz.prog 3 [enc bits,enc codes] hs (.bool true) hs:=by
 refine fn hρ hE hcon Tryz.func3 fB3 rfl (by simp) ?_ hs;by_cases c1:codes.length<=60
 case neg=>simp [hE,h1,h2,zDR,zGo,c1]
 have htp:(⟨codes,0⟩:Tp).ok:=⟨Int.le_refl _,by show codes.length<=100000;omega⟩;rcases hm:Store.made17 ⟨codes,0⟩ (zaG bits)with⟨s,a,b,t⟩;obtain⟨n,hM⟩:=Store.made17_ok htp (zis bits) (znK bits) hm;obtain⟨x,y,e,hu,hT,hsl,hxo,hxf,hxv⟩:=hM.stores;have hval:=fun hs=>zn8 (hs:=hs) hm
 have hheap:=fun hs=>zlM (hs:=hs) hm
 clear hm;obtain⟨xs,xt⟩:=x;obtain⟨ys,yt⟩:=y;simp only at hsl;subst hsl;obtain⟨ak,an,ai,ah,al⟩:=a;obtain⟨bk,bn,bi',bh,bl⟩:=b;simp [hE,h1,h2,h3,h4,h5,h6,h7,zDR,zGo,zkh,zgN,c1,hval,hheap,hu,hT,hxo,hxf,hxv,vacant_eq]
end
theorem z8S:Valid ρ Tryz.prog 13 zkh:=v2 (fo Tryz.func13 zSC) fun a b r h hs=>by
 obtain⟨⟨h1,h2⟩,rfl⟩:=zT h;exact zjc hρ (E:=EL [(29,fnS (zW fun i:Int=>some (zas i))),(18,zdr),(40,zjC)]) rfl (zt (zo (zIC hρ) (zo (zjl hρ) (zo (zqM hρ) valid_nil)))) rfl rfl rfl h1 h2 hs
end
end Go.Proofs.YtfgmnebfhemnpaaGreat
