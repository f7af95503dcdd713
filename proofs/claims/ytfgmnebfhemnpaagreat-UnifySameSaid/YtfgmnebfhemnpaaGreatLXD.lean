import Derived.Test.YtfgmnebfhemnpaaGreatLXB
import Derived.Test.YtfgmnebfhemnpaaGreatJPy
import Derived.Test.YtfgmnebfhemnpaaGreatJL
import Derived.Test.YtfgmnebfhemnpaaGreatLUI0
import Derived.Test.YtfgmnebfhemnpaaGreatJQx
import Derived.Test.YtfgmnebfhemnpaaGreatLX3
import Derived.Test.YtfgmnebfhemnpaaGreatJQ
set_option linter.all false
noncomputable section
/- The program's unification within a store: the work list. -/
namespace Go.Proofs.YtfgmnebfhemnpaaGreat
open Go.J
open Go.J.Enc (enc)
set_option maxRecDepth 100000
set_option maxHeartbeats 4000000
section
variable {ρ:Nat->Value}(hρ:J.Good ρ)
include hρ
section
variable {E:Env}(hE:E.P=Tryz.prog)(hcon:ConsOk ρ E)
include hE hcon
theorem zha {d f:Nat} (hP:E.con 57=zaT (uwM (zln d))) (hB:E.con 58=zaT (zmo 76)) {sl:List Slot} {tr:List Change} {g:Nat} {a b:Ty} {sl':List Slot} {ex3:List Change} {e:Int} (h:Store.withinG d f ⟨sl,tr⟩ [⟨a,b⟩]=some (⟨sl',tr++ex3⟩,e)) :
 Wp ρ E 3 50 zJY (((PT.leaf.set 0 (.ptr 0 0 0)).set 1 (enc a)).set 2 (enc b)) { H:=mkP (zL sl tr (some g)),n:=3,log:=[] } (J.Leaves E.P Tryz.f37 (GivesL 3 (.int .i64 e) (zL sl' (tr++ex3) (gN (some g) ex3.length)))):=by
 obtain⟨tr3,htr3⟩:∃ tr3,tr++ex3=tr3:=⟨_,rfl⟩;obtain⟨G3,hG3⟩:∃ G3,gN (some g) ex3.length=G3:=⟨_,rfl⟩;rw[htr3]at h;rw[htr3,hG3];obtain⟨ak,an,ai,ah,al⟩:=a;obtain⟨bk,bn,bi',bh,bl⟩:=b;simp [hE,zL]
 refine lpi hρ hE hcon f (nn:=7) (fun i (_:List Slot×List Change×Option Nat×List Equation×List Equation×Nat×Option Nat×Bool)=>[(7,.ptr 3 0 0),(8,.ptr 4 0 0)])
  (fun i st=>zL st.1 st.2.1 st.2.2.1++[(3,zaR (.ptr 0 0 0)),(4,zaR (.own 5 st.2.2.2.2.2.1 0 st.2.2.2.1.length st.2.2.2.2.2.2.1)),(5,.arr 10 st.2.2.2.2.2.1 (st.2.2.2.2.1.map zx) st.2.2.2.2.2.2.2 false true)])
  (fun i st=>(∃ ex1,st.2.1=tr++ex1/\st.2.2.1=gN (some g) ex1.length)/\st.2.2.2.2.1.take st.2.2.2.1.length=st.2.2.2.1.reverse/\st.2.2.2.1.length<=st.2.2.2.2.1.length/\(∀ c,st.2.2.2.2.2.2.1=some c->c=st.2.2.2.2.1.length)/\Store.withinG d (f-i) ⟨st.1,st.2.1⟩ st.2.2.2.1=some (⟨sl',tr3⟩,e))
  (sl,tr,(some g),[⟨.mk ak an ai ah al,.mk bk bn bi' bh bl⟩],[⟨.mk ak an ai ah al,.mk bk bn bi' bh bl⟩],0,some 1,true)
  (Less.auto (by simp[zL]) (by simp[zL,zo,zf,zy]) (by simp[zL]) (by simp[zL]<;>(intro x hx;first|omega|exact⟨.inl hx,by omega⟩))) ⟨⟨[],by simp,by simp⟩,by simp,by simp,by simp,by simpa using h⟩ ?_ ?_
 . rintro ⟨sl1,tr1,G,l,rows,gen,cap,x⟩ ⟨_,_,_,_,hw⟩ K;rw[Nat.sub_self,Store.withinG]at hw;cases hw
 . rintro i ⟨sl1,tr1,G,l,rows,gen,cap,x⟩ hi ⟨⟨ex1,e1,e2⟩,h1,h2,h3,hw⟩ K hK;obtain⟨n,hn⟩:∃ n,f-i=n+1:=⟨f-i-1,by omega⟩;have hn2:f-(i+1)=n:=by omega
   rw[hn]at hw;simp only at e1 e2 h1 h2 h3 hw
   cases G with
   | none =>
     exact(by simp at e2:False).elim
   | some G =>
     cases l with
     | nil =>
       rw[Store.withinG]at hw;obtain⟨hq1,hq2⟩:=Prod.mk.inj (Option.some.inj hw);obtain⟨hq3,hq4⟩:=Store.mk.inj hq1
       have hG3:G3=(some G):=by
        have:ex3=ex1:=by rw[<- htr3,e1]at hq4;exact(List.append_cancel_left hq4).symm
        rw[<- hG3,this];exact e2.symm
       subst hq2 hq3 hq4 hG3;simp [zcy,hE,zL];refine LessQ.mk (Less.auto (TL:=[]) (HL:=zL sl1 tr1 (some G)) (n:=7) (by simp[zL]) (by simp[zL,zo,zf,zy]) (by simp[zL]) (by simp[zL]<;>(intro x hx;first|omega|exact⟨.inl hx,by omega⟩))) ?_;simp [hE,zL];exact GivesL.keepX rfl rfl rfl (by simp[zo,zf])
     | cons e0 l =>
       rw[Store.withinG]at hw;split at hw
       case isFalse=>cases hw
       rename_i hok;obtain⟨hok,hll,hml⟩:=hok;obtain⟨mg,hmg⟩:=zf8 ⟨sl1,tr1⟩ e0.left e0.right;obtain⟨ex2,t3,t4⟩:=hmg.trail;obtain⟨Q,hQ⟩:∃ Q,Store.pairP ⟨sl1,tr1⟩ e0.left e0.right=Q:=⟨_,rfl⟩;rw[hQ]at hw t3 hml;obtain⟨more,c,sl2,tr2⟩:=Q;simp only at hw t3 hml;subst t3;have hF:=zjW hok hQ;clear hmg t4 hQ hok;have hri:l.length<rows.length:=by simp only[List.length_cons]at h2;omega
       have hre:rows[l.length]=e0:=by
        have:=congrArg (fun q=>q[l.length]?) h1;simp only[List.length_cons,List.reverse_cons]at this;rw[List.getElem?_take_of_lt (by omega),List.getElem?_eq_getElem hri,List.getElem?_append_right (by simp),List.length_reverse,Nat.sub_self]at this;exact Option.some.inj this
       have hrt:rows.take l.length=l.reverse:=by
        have:=congrArg (fun q=>q.take l.length) h1;simp only[List.length_cons,List.reverse_cons]at this;rw[List.take_take,Nat.min_eq_left (by omega),List.take_left' (by simp)]at this;exact this
       have hle:l.length<=rows.length:=by omega
       have hrl:((e0::l).length:Int)=(l.length:Int)+1:=by simp
       have hw0:IntKind.i64.wrap (l.length:Int)=(l.length:Int):=by rw[wrap_i64 (by omega) (by omega)]
       have hd1:l.length*10 / 10=l.length:=by omega
       have hd2:l.length*10 % 10=0:=by omega
       obtain⟨⟨pk,pn,pi,ph,pl⟩,⟨qk,qn,qi,qh,ql⟩⟩:=e0;simp at hF;by_cases hc:c=0
       . subst hc;rw[if_pos rfl]at hw
         have hnew:∀ (rows2:List Equation) (gen2:Nat) (cap2:Option Nat) (x2:Bool),rows2.take (more++l).length=(more++l).reverse->(more++l).length<=rows2.length->(∀ c,cap2=some c->c=rows2.length)->_:=fun rows2 gen2 cap2 x2 q1 q2 q3 =>
          hK (sl2,tr1++ex2,gN (some G) ex2.length,more++l,rows2,gen2,cap2,x2) ⟨⟨ex1++ex2,by simp[e1],by simp only;rw[List.length_append,<- zdD,<- e2]⟩,q1,q2,q3,by rw[hn2];exact hw⟩
         clear hK hw h1 e2;obtain⟨tr2,htr2⟩:∃ tr2,tr1++ex2=tr2:=⟨_,rfl⟩
         cases cap with
         | none =>
           simp [htr2,zcy,hE,zL,hP,hrl,hri,hre,hw0,hd1,hd2,hF,vacant_eq,zbL,zbr,bounds,zk4,zS,zaO,zdg,hB,hle];refine zbw hρ hE hcon (sl2:=sl2) (tr2:=tr2) (G2:=(some (G+ex2.length))) (more:=more) (l:=l) (rows:=rows) (gen:=gen) (cap:=none) (x:=x) h3 hrt (by omega) (by omega) hml (Less.auto (by simp[zL]) (by simp[zL,zo,zf,zy]) (by simp[zL]) (by simp[zL]<;>(intro x hx;first|omega|exact⟨.inl hx,by omega⟩))) ?_;rintro H nn log hn7 hvac ⟨hHF,rid,gen2,cap2,rows2,x2,r5,r6,r7,g4,gr,k1,k2,k3⟩;have f0:H.get 0=some (.arr 2 0 [[.own 1 0 0 sl2.length none,.own 2 ((G+ex2.length)) 0 tr2.length none]] true false false):=hHF (0,uyB sl2 tr2 (some (G+ex2.length))) (by simp[zL]);have f1:H.get 1=some (.arr 8 0 (sl2.map zG) false false true):=hHF (1,slO sl2) (by simp[zL]);have f2:H.get 2=some (.arr 10 ((G+ex2.length)) (tr2.map zA) false false true):=hHF (2,trO tr2 ((G+ex2.length))) (by simp[zL]);have f3:H.get 3=some (zaR (.ptr 0 0 0)):=hHF (3,zaR (.ptr 0 0 0)) (by simp[zL]);refine LessQ.mk (Less.lit (TL:=[(7,.ptr 3 0 0),(8,.ptr 4 0 0)]) (HL:=zL sl2 tr2 (some (G+ex2.length))++[(3,zaR (.ptr 0 0 0)),(4,zaR (.own 5 gen2 0 (more++l).length cap2)),(5,.arr 10 gen2 (rows2.map zx) x2 false true)]) (fun i=>if i=5 then rid else i) 7 ?_ ?_ ?_ ?_) ?_
           . simp[zL]
           . simp[zL,f0,f1,f2,f3,g4,gr,zo,zf,zy]
           . simp[zL]<;>omega
           . simp[zL]<;>(intro x hx;first|omega|exact⟨.inl (by omega),by omega⟩)
           simp[zL];have:=hnew rows2 gen2 cap2 x2 k1 k2 k3;rw[htr2]at this;exact this _ _ (Less.auto (by simp[zL]) (by simp[zL,zo,zf,zy]) (by simp[zL]) (by simp[zL]<;>(intro x hx;first|omega|exact⟨.inl hx,by omega⟩)))
         | some cc =>
           obtain rfl:=h3 cc rfl;simp [htr2,zcy,hE,zL,hP,hrl,hri,hre,hw0,hd1,hd2,hF,vacant_eq,zbL,zbr,bounds,zk4,zS,zaO,zdg,hB,hle];refine zbw hρ hE hcon (sl2:=sl2) (tr2:=tr2) (G2:=(some (G+ex2.length))) (more:=more) (l:=l) (rows:=rows) (gen:=gen) (cap:=(some rows.length)) (x:=x) h3 hrt (by omega) (by omega) hml (Less.auto (by simp[zL]) (by simp[zL,zo,zf,zy]) (by simp[zL]) (by simp[zL]<;>(intro x hx;first|omega|exact⟨.inl hx,by omega⟩))) ?_;rintro H nn log hn7 hvac ⟨hHF,rid,gen2,cap2,rows2,x2,r5,r6,r7,g4,gr,k1,k2,k3⟩;have f0:H.get 0=some (.arr 2 0 [[.own 1 0 0 sl2.length none,.own 2 ((G+ex2.length)) 0 tr2.length none]] true false false):=hHF (0,uyB sl2 tr2 (some (G+ex2.length))) (by simp[zL]);have f1:H.get 1=some (.arr 8 0 (sl2.map zG) false false true):=hHF (1,slO sl2) (by simp[zL]);have f2:H.get 2=some (.arr 10 ((G+ex2.length)) (tr2.map zA) false false true):=hHF (2,trO tr2 ((G+ex2.length))) (by simp[zL]);have f3:H.get 3=some (zaR (.ptr 0 0 0)):=hHF (3,zaR (.ptr 0 0 0)) (by simp[zL]);refine LessQ.mk (Less.lit (TL:=[(7,.ptr 3 0 0),(8,.ptr 4 0 0)]) (HL:=zL sl2 tr2 (some (G+ex2.length))++[(3,zaR (.ptr 0 0 0)),(4,zaR (.own 5 gen2 0 (more++l).length cap2)),(5,.arr 10 gen2 (rows2.map zx) x2 false true)]) (fun i=>if i=5 then rid else i) 7 ?_ ?_ ?_ ?_) ?_
           . simp[zL]
           . simp[zL,f0,f1,f2,f3,g4,gr,zo,zf,zy]
           . simp[zL]<;>omega
           . simp[zL]<;>(intro x hx;first|omega|exact⟨.inl (by omega),by omega⟩)
           simp[zL];have:=hnew rows2 gen2 cap2 x2 k1 k2 k3;rw[htr2]at this;exact this _ _ (Less.auto (by simp[zL]) (by simp[zL,zo,zf,zy]) (by simp[zL]) (by simp[zL]<;>(intro x hx;first|omega|exact⟨.inl hx,by omega⟩)))
       . rw[if_neg hc]at hw;obtain⟨hq1,hq2⟩:=Prod.mk.inj (Option.some.inj hw);obtain⟨hq3,hq4⟩:=Store.mk.inj hq1
         have hG3:G3=gN (some G) ex2.length:=by
          have:ex3=ex1++ex2:=by rw[<- htr3,e1,List.append_assoc]at hq4;exact(List.append_cancel_left hq4).symm
          rw[<- hG3,this,List.length_append,<- zdD,<- e2]
         subst hq2 hq3 hG3 hq4;obtain⟨tr2,htr2⟩:∃ tr2,tr1++ex2=tr2:=⟨_,rfl⟩;simp [htr2,zcy,hE,zL,hP,hrl,hri,hre,hw0,hd1,hd2,hF,vacant_eq,zbL,zbr,bounds,zk4,zS,zaO,zdg,hc];refine LessQ.mk (Less.auto (TL:=[(6,.int .i64 c)]) (HL:=zL sl2 tr2 (some (G+ex2.length))) (n:=7) (by simp[zL]) (by simp[zL,zo,zf,zy]) (by simp[zL]) (by simp[zL]<;>(intro x hx;first|omega|exact⟨.inl hx,by omega⟩))) ?_;simp [htr2,hE,zL];exact GivesL.keepX rfl rfl rfl (by simp[zo,zf])
end
end
end Go.Proofs.YtfgmnebfhemnpaaGreat
/- The program's unification: its contract. -/
namespace Go.Proofs.YtfgmnebfhemnpaaGreat
open Go.J
open Go.J.Enc (enc)
set_option maxRecDepth 100000
set_option maxHeartbeats 4000000
def zfQ(d f:Nat)(sl:List Slot)(tr:List Change)(args:List V):Option (V×List Slot×List Change):=match args with
 | [av,bv]=>ob (Enc.dec av:Option Ty) fun a=>ob (Enc.dec bv:Option Ty) fun b=>ob (Store.withinG d f ⟨sl,tr⟩ [⟨a,b⟩]) fun r=>some (.int .i64 r.2,r.1.slots,r.1.trail.drop tr.length)
 |_=>none
theorem zmy{d f:Nat}{sl:List Slot}{tr:List Change}{args:List V}{q:V×List Slot×List Change}(h:zfQ d f sl tr args=some q):∃ (a b:Ty) (r:Store×Int),args=[enc a,enc b]/\Store.withinG d f ⟨sl,tr⟩ [⟨a,b⟩]=some r/\q=(.int .i64 r.2,r.1.slots,r.1.trail.drop tr.length):=by
 unfold zfQ at h;split at h
 . simp only[zu]at h;obtain⟨a,ha,b,hb,r,hr,h⟩:=h;cases h;exact⟨a,b,r,by rw[Enc.enc_dec _ _ ha,Enc.enc_dec _ _ hb],hr,rfl⟩
 . cases h
theorem zoL{d f:Nat}{sl:List Slot}{tr:List Change}{a b:Ty}{sl':List Slot}{ex:List Change}{e:Int}(h:Store.withinG d f ⟨sl,tr⟩ [⟨a,b⟩]=some (⟨sl',tr++ex⟩,e)):zfQ d f sl tr [enc a,enc b]=some (.int .i64 e,sl',ex):=by
 show ob (Enc.dec (enc a):Option Ty) (fun a=>ob (Enc.dec (enc b):Option Ty) fun b=>ob (Store.withinG d f ⟨sl,tr⟩ [⟨a,b⟩]) _)=_;rw[Enc.dec_enc,Enc.dec_enc];show ob (Store.withinG d f ⟨sl,tr⟩ [⟨a,b⟩]) _=_;rw[h];simp
section
variable {ρ:Nat->Value}(hρ:J.Good ρ)
include hρ
section
variable {E:Env}(hE:E.P=Tryz.prog)(hcon:ConsOk ρ E)
include hE hcon
theorem zhc{d f:Nat}(hC:E.con 35=zaT (zjx 8))(hT:E.con 36=fnS zpO)(hS:E.con 38=fnS (zaE fun l:List Slot=>some l))(hW:E.con 37=zaT (uyM (zfQ d f)))
 {sl:List Slot} {tr:List Change} {a b:Ty} {sl':List Slot} {ex:List Change} {e:Int} (hne:sl≠[]) (hl:sl.length<=1000) (h:Store.withinG d f ⟨sl,tr⟩ [⟨a,b⟩]=some (⟨sl',tr++ex⟩,e)) (hs:HS) :
 CallOk ρ Tryz.prog 11 [enc (⟨sl,tr⟩:Store),enc a,enc b] hs (enc ((if e=0 then ⟨sl',tr++ex⟩else ⟨sl,tr⟩,e):Store×Int)) hs:=by
 refine fn hρ hE hcon Tryz.func11 zSs rfl (by simp) ?_ hs;have hF:=zoL h
 have hall:((sl.map zG).all fun e=>et (Nat.beq (zU e) 8) (e.all V.pure2))=true:=by
  refine List.all_eq_true.2 fun e he=>?_
  obtain⟨x,_,rfl⟩:=List.mem_map.1 he;rfl
 have hpu:∀ e∈sl.map zG,e.all V.pure2=true:=fun e he=>by
  obtain⟨x,_,rfl⟩:=List.mem_map.1 he;rfl
 have hcl:∀ (tg:Bool) (hs:HS),(zek (sl.map zG) 8 tg).heap hs={ H:=hs.H.set hs.n (.arr 8 0 (sl.map zG) false false true),n:=hs.n+1,log:=hs.n::hs.log }:=fun tg hs=>znv hpu
 have hl0:¬ sl.length=0:=fun h=>hne (List.eq_nil_of_length_eq_zero h)
 obtain⟨ak,an,ai,ah,al⟩:=a;obtain⟨bk,bn,bi',bh,bl⟩:=b;simp at hF;by_cases he:e=0
 . subst he;rw[if_pos rfl];rcases ex with _|⟨z,ex⟩
   . simp [hE,hC,hT,hS,hW,hall,hcl,hl,hl0,hne,hF,vacant_eq]
   . obtain⟨tr2,htr2⟩:∃ tr2,tr++z::ex=tr2:=⟨_,rfl⟩;simp [htr2,hE,hC,hT,hS,hW,hall,hcl,hl,hl0,hne,hF,vacant_eq]
 . rw[if_neg he];rcases ex with _|⟨z,ex⟩
   . simp [hE,hC,hT,hS,hW,hall,hcl,hl,hl0,hne,hF,he,vacant_eq]
   . obtain⟨tr2,htr2⟩:∃ tr2,tr++z::ex=tr2:=⟨_,rfl⟩;simp [htr2,hE,hC,hT,hS,hW,hall,hcl,hl,hl0,hne,hF,he,vacant_eq]
end
theorem z8e:Valid ρ Tryz.prog 35 (zaT (zjx 8)):=by
 refine Valid.emb (fo Tryz.func35 zSa) fun vs hs D h=>?_
 obtain⟨es,tg,hne,hl,hes,hac,rfl,hg,hfit⟩:=zpN h;refine em hρ (E:=EL []) rfl (zt valid_nil) Tryz.func35 zSa rfl hg ?_ hfit;show Wp ρ _ 0 _ _ _ { H:=mkP [],n:=0,log:=[] } (J.Leaves _ _ (GivesL 0 (.own 0 0 0 es.length none) [(0,.arr 8 0 es false false true)]));have hsz:sizes 8 es=true:=by rw[sizes_eq];exact fun e he=>(hes e he).1
 have hr1:es.length*88<=1048576:=by omega
 have hr2:es.length*8<=1048576:=by omega
 have hl0:¬ es.length=0:=fun h=>hne (List.eq_nil_of_length_eq_zero h)
 rcases es with _|⟨e0,es⟩
 . exact absurd rfl hne
 rw[List.length_cons]at hr1 hr2;have hbin:∀ t,zyv Tryz.prog .eql 25 (.sl (e0::es) t) .snil=some (.bool false):=fun t=>by rfl
 have hb2:(EL []).P=Tryz.prog:=rfl;have hac2:zvB e0=true/\zY es=true:=by simpa using hac
 cases tg<;>simp [hsz,hr1,hr2,hbin,hb2,hac2.1,hac2.2]
 all_goals exact GivesL.litX (fun k=>if k=0 then 5 else k) rfl rfl ⟨rfl,rfl⟩ (by
  intro p hp;simp only[List.mem_singleton]at hp;subst hp;have e1:(e0::es).all (fun e=>e.all V.pure2)=true:=List.all_eq_true.2 fun e he=>(hes e he).2
  have e3:∀ π,(J.Obj.arr 8 0 (e0::es) false false true).ren π=.arr 8 0 (e0::es) false false true:=fun π=>by
   show J.Obj.arr 8 0 ((e0::es).map fun e=>e.map (V.ren2 π)) false false true=_;rw[zeR fun e he v hv=>V.ren2_pure (List.all_eq_true.1 (hes e he).2 v hv)]
  refine⟨e1,?_⟩;rw[e3]
  simp)
theorem zDC:Valid ρ Tryz.prog 36 (fnS zpO):=Valid.fnS (fo Tryz.func36 zRZ) fun vs v h hs=>by
 obtain⟨es,t,rfl,hsz,rfl⟩:=zvp h;refine zoC (D:=⟨0,0,fun i=>i,[],[],[.sl es t],.sl es true⟩) hρ (E:=EL []) (zt valid_nil) follows named Tryz.func36 zRZ rfl ⟨rfl,rfl,Nat.le_refl _,(fun p hp=>by cases hp),(fun p hp=>by cases hp),rfl,fun v hv=>by rw[List.mem_singleton.1 hv];rfl⟩ ?_ (hs:=hs) (vs:=[.sl es t]) ⟨rfl,fun i j hi=>by simp at hi,(fun p hp=>by cases hp),fun i hi=>by simp at hi,fun i hi=>by simp at hi⟩;show Wp ρ _ 0 _ _ _ { H:=mkP [],n:=0,log:=[] } (J.Leaves _ _ (GivesL 0 (.sl es true) []));have hb2:(EL []).P=Tryz.prog:=rfl;cases t<;>simp [hb2,hsz,zbL,zjK,bounds,zk4,zS,zaO]
 all_goals exact GivesL.keepX rfl rfl rfl (by simp)
theorem zwm(d f:Nat):Valid ρ Tryz.prog 37 (zaT (uyM (zfQ d f))):=by
 refine Valid.emb (fo Tryz.func37 zNC) fun vs hs D h=>?_
 obtain⟨args,sl,tr,g,r,sl',ex,b,c,q,hF,rfl,_,hr,hg,hfit⟩:=z8s h;obtain⟨x,y,R,rfl,h1,hq⟩:=zmy hF;cases hq;obtain⟨m,hm⟩:=Store.grow_within d f h1;have he:=hm.eq;have hEE:(EL [(57,zaT (uwM (zln d))),(58,zaT (zmo 76))]).P=Tryz.prog:=rfl;have hcn:ConsOk ρ (EL [(57,zaT (uwM (zln d))),(58,zaT (zmo 76))]):=zt (zq (zDA hρ d) (zq (z8r hρ) valid_nil));have h2:Store.withinG d f ⟨sl,tr⟩ [⟨x,y⟩]=some (⟨R.1.slots,tr++R.1.trail.drop tr.length⟩,R.2):=by rw[h1];exact congrArg some (Prod.ext he rfl)
 cases g with
 |none=>exact em hρ hEE hcn Tryz.func37 zNC rfl hg (zhb hρ hEE hcn rfl rfl h2) hfit
 |some g=>exact em hρ hEE hcn Tryz.func37 zNC rfl hg (zha hρ hEE hcn rfl rfl h2) hfit
theorem zD9:Valid ρ Tryz.prog 11 (fnS (zaK Store.uniF)):=v3 (fo Tryz.func11 zSs) fun s a b q h hs=>by
 obtain⟨h1,h2,h3,r,hr,rfl⟩:=Store.uniF_inv h;obtain⟨d,f,hf⟩:=hr.run;obtain⟨m,hm⟩:=Store.grow_within d f hf;have he:=hm.eq;obtain⟨sl,tr⟩:=s;obtain⟨r1,e⟩:=r;simp only at he;have h4:Store.withinG d f ⟨sl,tr⟩ [⟨a,b⟩]=some (⟨r1.slots,tr++r1.trail.drop tr.length⟩,e):=by rw[hf];exact congrArg some (Prod.ext he rfl)
 have hcn:ConsOk ρ (EL [(35,zaT (zjx 8)),(36,fnS zpO),(38,fnS (zaE fun l:List Slot=>some l)),(37,zaT (uyM (zfQ d f)))]) :=
  zt (zq (z8e hρ) (zq (zDC hρ) (zq (zqx hρ) (zq (zwm hρ d f) valid_nil))))
 have key:=zhc hρ rfl hcn rfl rfl rfl rfl h1 h2 h4 hs;rw[<- he]at key;exact key
end
end Go.Proofs.YtfgmnebfhemnpaaGreat
/- The laws of chapter 17: a store and two types from a tape. -/
namespace Go.Proofs.YtfgmnebfhemnpaaGreat
open Go.J
open Go.J.Enc (enc)
set_option maxRecDepth 100000
set_option maxHeartbeats 1000000
def zca(bits:Int)(codes:List Int):EmbD where
 k:=0
 k':=1
 π:=fun i=>i
 OL:=[]
 OL':=[(0,box (Cel.cells (Store.made17 ⟨codes,0⟩ (zaH bits)).2.2.2))]
 vs0:=[enc bits,enc codes]
 v0:=.tuple [enc (Store.made17 ⟨codes,0⟩ (zaH bits)).1,enc (Store.made17 ⟨codes,0⟩ (zaH bits)).2.1,enc (Store.made17 ⟨codes,0⟩ (zaH bits)).2.2.1,.ptr 0 0 0]
def zhF(vs:List V)(hs:HS):Option EmbD:=match vs with
 | [bv,cv]=>ob (Enc.dec bv:Option Int) fun bits=>ob (Enc.dec cv:Option (List Int)) fun codes=>gd (et (Nat.ble (zU codes) 60) (zZ hs hs.n)) (some (zca bits codes))
 |_=>none
@[simp] theorem zFx {bv cv:V} {hs:HS}:zhF [bv,cv] hs=ob (Enc.dec bv:Option Int) fun bits=>ob (Enc.dec cv:Option (List Int)) fun codes=>gd (et (Nat.ble (zU codes) 60) (zZ hs hs.n)) (some (zca bits codes)):=(rfl)
theorem znd{bits:Int}{codes:List Int}{hs:HS}{s:Store}{a b:Ty}{t:Tp}(h:Store.made17 ⟨codes,0⟩ (zaH bits)=(s,a,b,t)):(zca bits codes).val hs=.tuple [enc s,enc a,enc b,.ptr hs.n 0 0]:=by
 have e:(zca bits codes).v0=.tuple [enc s,enc a,enc b,.ptr 0 0 0]:=by show V.tuple _=_;rw[h]
 show (zca bits codes).v0.ren _=_;rw[e];have hv:∀ (π:Nat->Nat) (t:Ty),(enc t:V).ren2 π=enc t:=fun π t=>V.ren2_none (V.in3_pure (zcM t))
 have hv2:∀ (π:Nat->Nat),(enc s:V).ren2 π=enc s:=fun π=>V.ren2_none (V.in3_pure (show (enc s:V).pure=true from rfl))
 show V.tuple [(enc s:V).ren2 _,(enc a:V).ren2 _,(enc b:V).ren2 _,(V.ptr 0 0 0).ren2 _]=_;rw[hv,hv,hv2];rfl
theorem zlz{bits:Int}{codes:List Int}{hs:HS}{s:Store}{a b:Ty}{t:Tp}(h:Store.made17 ⟨codes,0⟩ (zaH bits)=(s,a,b,t)):(zca bits codes).heap hs={ H:=hs.H.set hs.n (box (Cel.cells t)),n:=hs.n+1,log:=hs.n::hs.log }:=by
 have e:(zca bits codes).OL'=[(0,box (Cel.cells t))]:=by show [(0,_)]=_;rw[h]
 show zgP hs 0 1 _ (zca bits codes).OL'=_;rw[e];show ({ H:=hs.H.set (news hs.n 0 (fun i=>i) 0) ((box (Cel.cells t)).ren _),n:=hs.n+1,log:=[news hs.n 0 (fun i=>i) 0]++hs.log }:HS)=_;rfl
section
variable {ρ:Nat->Value}(hρ:J.Good ρ)
include hρ
section
variable {E:Env}(hE:E.P=Tryz.prog)(hcon:ConsOk ρ E)
include hE hcon
theorem ziH(h3:E.con 20=fnS (zaE fun bits:Int=>some (zaH bits)))(h4:E.con 33=stS (zqd znL))(h5:E.con 25=zeQ)(h6:E.con 32=fnS (zV fun h i:Int=>some (zax h i)))(h8:E.con 34=fnS (zaE fun i:Int=>some (zcm i)))(h7:E.con 24=stS (zqE (zg7 2)))
 {bits:Int} {codes:List Int} (hl:codes.length<=60) {hs:HS} (hvac:hs.H.get hs.n=none) :
 CallOk ρ Tryz.prog 10 [enc bits,enc codes] hs ((zca bits codes).v0.ren (news hs.n 0 fun i=>i)) (zgP hs 0 1 (fun i=>i) (zca bits codes).OL'):=by
 have htp:(⟨codes,0⟩:Tp).ok:=⟨Int.le_refl _,by show codes.length<=100000;omega⟩;have hDk:=zpF bits;have hD3:=zic bits;rcases hm:Store.made17 ⟨codes,0⟩ (zaH bits)with⟨rs,ra,rb,rt⟩;have hv0:(zca bits codes).v0=.tuple [enc rs,enc ra,enc rb,.ptr 0 0 0]:=by show V.tuple _=_;rw[hm]
 have hOL:(zca bits codes).OL'=[(0,box (Cel.cells rt))]:=by show [(0,_)]=_;rw[hm]
 refine em hρ hE hcon (D:=zca bits codes) Tryz.func10 zSt rfl ⟨rfl,rfl,Nat.zero_le _,fun p hp=>(by cases hp),fun p hp=>?_,?_,fun v hv=>?_⟩ ?_ ⟨rfl,fun i j hi=>absurd hi (Nat.not_lt_zero _),fun p hp=>(by cases hp),fun i hi=>?_,fun i hi=>absurd hi (Nat.not_lt_zero _)⟩
 . obtain rfl:=List.mem_singleton.1 hp;exact⟨rfl,rfl⟩
 . rw[hv0,hOL];show ([enc rs,enc ra,enc rb,V.ptr 0 0 0].all (V.in2 _))=true;have hp:∀ t:Ty,(enc t:V).in2 (dom [(0,box (Cel.cells rt))])=true:=fun t=>V.in3_pure (zcM t)
   have hp2:(enc rs:V).in2 (dom [(0,box (Cel.cells rt))])=true:=V.in3_pure (show (enc rs:V).pure=true from rfl);simp only[List.all_cons,List.all_nil,Bool.and_true,hp,hp2,Bool.true_and];rfl
 . have hv:v∈[(enc bits:V),enc codes]:=hv;simp only[List.mem_cons,List.not_mem_nil,or_false]at hv;rcases hv with rfl|rfl<;>rfl
 . rw[hv0,hOL];show Wp ρ E 0 _ _ _ { H:=mkP [],n:=0,log:=[] } (J.Leaves _ _ (GivesL 0 _ _));rw[show Tryz.f10.ntmps=41 from rfl];obtain⟨s1,_,s3,_⟩:=Store.storeM_ok htp hD3;have s6:=Store.storeN_le ⟨codes,0⟩;have hlen:=s3.len;have f1:znL ⟨codes,0⟩ (zaH bits)=some (Store.storeM ⟨codes,0⟩ (zaH bits)):=if_pos ⟨htp,hDk,hD3⟩;unfold Store.made17 at hm;generalize hDq:zaH bits=D at hm hDk hD3 f1 s1 hlen s3;generalize Store.storeM ⟨codes,0⟩ D=X at hm f1 s1 hlen;obtain⟨t1,s⟩:=X;simp only at hm s1 hlen;obtain⟨n,hn⟩:∃ n,s.slots.length=n:=⟨_,rfl⟩;rw[hn]at hm hlen;have hn5:n<=5:=by omega
   have hn1:(n:Int)<=10000:=by omega
   have hn2:n<=10000:=by omega
   unfold Store.lv17 at hm;have f2:zg7 2 t1 D (zaN n++[zax 0 0,zax 2 0,zcm 0]) 2=some (typeM 2 t1 D (zaN n++[zax 0 0,zax 2 0,zcm 0])):=if_pos ⟨s1,hDk,by simp;omega,by decide⟩;have o2:=(zeu (D:=D) (Lv:=zaN n++[zax 0 0,zax 2 0,zcm 0]) 2 _ s1).1;generalize typeM 2 t1 D (zaN n++[zax 0 0,zax 2 0,zcm 0])=Y at hm f2 o2;obtain⟨t2,a⟩:=Y;simp only at hm o2;have f3:zg7 2 t2 D (zaN n++[zax 0 0,zax 2 0,zcm 0]) 2=some (typeM 2 t2 D (zaN n++[zax 0 0,zax 2 0,zcm 0])):=if_pos ⟨o2,hDk,by simp;omega,by decide⟩;generalize typeM 2 t2 D (zaN n++[zax 0 0,zax 2 0,zcm 0])=Z at hm f3;obtain⟨t3,b⟩:=Z;simp only at hm;have hlv:=zkC n;have hnp:1<=n:=by omega
   generalize hV:zaN n=W at f2 f3 hlv;rcases W with _|⟨v,W⟩
   . simp at hlv;omega
   have h64:(W.length+1+3)*64<=1048576:=by simp only[List.length_cons]at hlv;omega
   have h65:(W.length+4)*64<=1048576:=h64;rw[List.cons_append]at f2 f3;simp only[Prod.mk.injEq]at hm;obtain⟨rfl,rfl,rfl,rfl⟩:=hm;have hw3:¬ W.length+3<=W.length:=by omega
   obtain⟨ak,an,ai,ah,al⟩:=a;obtain⟨vk,vn,vi,vh,vl⟩:=v;simp[zax,zcm]at f2 f3
   have hdec:(zai (zay (List.take (W.length+3) (List.map zw W++[[V.int IntKind.i64 3,V.str [],V.int IntKind.i64 0,V.int IntKind.i64 0,V.sl [] false],[V.int IntKind.i64 3,V.str [],V.int IntKind.i64 0,V.int IntKind.i64 2,V.sl [] false],[V.int IntKind.i64 2,V.str [],V.int IntKind.i64 0,V.int IntKind.i64 0,V.sl [] false]]))):Option (List Ty))=some (W++[Ty.mk 3 [] 0 0 [],Ty.mk 3 [] 0 2 [],Ty.mk 2 [] 0 0 []]):=by
    rw[List.take_of_length_le (by simp)];have e:List.map zw W++[[V.int IntKind.i64 3,V.str [],V.int IntKind.i64 0,V.int IntKind.i64 0,V.sl [] false],[V.int IntKind.i64 3,V.str [],V.int IntKind.i64 0,V.int IntKind.i64 2,V.sl [] false],[V.int IntKind.i64 2,V.str [],V.int IntKind.i64 0,V.int IntKind.i64 0,V.sl [] false]]=(W++[Ty.mk 3 [] 0 0 [],Ty.mk 3 [] 0 2 [],Ty.mk 2 [] 0 0 []]).map zw:=by simp
    rw[e];simp[-List.map_append]
   simp [hE,h3,h4,h5,h6,h7,h8,hDq,zeQ,hn,hn1,hn2,hV,f1,f2,f3,h64,h65,hw3,hdec,zax,zcm,Nat.not_succ_le_self];exact GivesL.litX (fun k=>if k=0 then 6 else k) rfl rfl ⟨rfl,rfl⟩ (by simp)
 . obtain rfl:i=0:=Nat.lt_one_iff.1 hi;exact hvac
end
theorem z8n:Valid ρ Tryz.prog 10 (zaT zhF):=Valid.emb (fo Tryz.func10 zSt) fun vs hs D h=>by
 unfold zhF at h;split at h
 . simp only[zu,z8,et_true,ble_true,vacant_eq,zO]at h;obtain⟨bits,hb,codes,hc,⟨h1,h2⟩,h⟩:=h;cases h;rw[Enc.enc_dec _ _ hb,Enc.enc_dec _ _ hc]
   exact ziH hρ (E:=EL [(20,fnS (zaE fun bits:Int=>some (zaH bits))),(33,stS (zqd znL)),(25,zeQ),(32,fnS (zV fun h i:Int=>some (zax h i))),(34,fnS (zaE fun i:Int=>some (zcm i))),(24,stS (zqE (zg7 2)))]) rfl
    (zt (zq (zDM hρ) (zq (zoR hρ) (zq (zqu hρ) (zq (zyQ hρ) (zq (zDN hρ) (zq (zDE hρ 2 (by omega)) valid_nil))))))) rfl rfl rfl rfl rfl rfl h1 h2
 . cases h
end
end Go.Proofs.YtfgmnebfhemnpaaGreat
/- The law UnifySame: two stores with the same slots mean the same. -/
namespace Go.Proofs.YtfgmnebfhemnpaaGreat
open Go.J
open Go.J.Enc (enc)
set_option maxRecDepth 100000
set_option maxHeartbeats 4000000
def zjN:J.Spec:=fnS (zV fun a b:Store=>if a.tysOk/\a.slots=b.slots then some true else none)
section
variable {ρ:Nat->Value}(hρ:J.Good ρ)
include hρ
section
variable {E:Env}(hE:E.P=Tryz.prog)(hcon:ConsOk ρ E)
include hE hcon
theorem ziG(h5:E.con 29=fnS (zaE fun i:Int=>some (zac i)))(h6:E.con 18=zbF)(h7:E.con 40=zg2){a b:Store}(ha:a.tysOk)(hab:a.slots=b.slots)(hs:HS):CallOk ρ Tryz.prog 13 [enc a,enc b] hs (enc true) hs:=by
 refine fn hρ hE hcon Tryz.func13 zSq rfl (by simp) ?_ hs;have hb:b.tysOk:=by unfold Store.tysOk at ha ⊢;rw[<- hab];exact ha
 have hw:=Store.w16_slots hab;have hlen:b.slots.length=a.slots.length:=by rw[hab]
 have hsn:=ha.1;simp [hE,hlen]
 refine lpi hρ hE hcon a.slots.length (nn:=2) (fun i (_:Unit)=>[(2,.ptr 0 0 0),(3,.ptr 1 0 0),(5,.int .i64 (i:Int))])
  (fun _ _=>[(0,box (zH a)),(1,box (zH b))]) (fun _ _=>True) () (Less.auto (by simp) (by simp) (by simp) (by simp<;>(intro x hx;first|omega|exact⟨.inl hx,by omega⟩))) trivial ?_ ?_
 . intro _ _ K;simp [ztC,hE];refine LessQ.mk (Less.auto (TL:=[]) (HL:=[]) (n:=0) (by simp) (by simp) (by simp) (by simp)) ?_;simp [hE]
 . intro i _ hi _ K hK;have hnew:=hK () trivial;have hi':(i:Int)<a.slots.length:=by omega
   have hbi:i<b.slots.length:=by omega
   have hbi':(i:Int)<b.slots.length:=by omega
   have hd1:i*8 / 8=i:=by omega
   have hd2:i*8 % 8=0:=by omega
   have hww:IntKind.i64.wrap ((i:Int)+1)=((i+1:Nat):Int):=zK (by omega);obtain⟨y,hy⟩:∃ y,a.slots[i]=y:=⟨_,rfl⟩;have hy2:b.slots[i]=y:=by rw[<- hy];simp[hab]
   have hro:=Store.resolve_ok ha (t:=zac (i:Int)) rfl;obtain⟨R,hR⟩:∃ R,zR a.w16 (zac (i:Int))=R:=⟨_,rfl⟩;have hR2:zR b.w16 (zac (i:Int))=R:=by rw[<- hw];exact hR
   rw[hR]at hro;obtain⟨r,ok⟩:=R;have hrk:r.ok=true:=hro.1;have htv:(zac (i:Int)).ok=true:=rfl;clear hro;obtain⟨yb,⟨yk,yn,yi,yh,yl⟩,ym,yg⟩:=y;cases ok<;>cases yb<;>cases yg
   all_goals
    simp [ztC,hE,h5,h6,h7,zbF,zg2,hi,hi',hbi,hbi',hd1,hd2,hy,hy2,ha,hb,htv,hR,hR2,hrk,hww,-Int.natCast_add];exact hnew _ _ (Less.auto (by simp[-Int.natCast_add]) (by simp) (by simp) (by simp<;>(intro x hx;first|omega|exact⟨.inl hx,by omega⟩)))
end
theorem z8h:Valid ρ Tryz.prog 13 zjN:=v2 (fo Tryz.func13 zSq) fun a b r h hs=>by
 obtain⟨⟨h1,h2⟩,rfl⟩:=zT h;exact ziG hρ (E:=EL [(29,fnS (zaE fun i:Int=>some (zac i))),(18,zbF),(40,zg2)]) rfl (zt (zq (zIl hρ) (zq (zfS hρ) (zq (zqv hρ) valid_nil)))) rfl rfl rfl h1 h2 hs
end
@[simp] theorem zFH {f:Nat}:(V.func f []).pure=true:=(rfl)
@[simp] theorem zC6 {f:Nat} {hs:HS}:zbg hs (V.func f [])=some (V.func f []):=(rfl)
@[simp] theorem zAf {f:Nat} {hs:HS}:zbo hs (V.func f [])=hs:=(rfl)
@[simp] theorem zFI {f:Nat}:zas (V.func f [])=.func f []:=(rfl)
section
variable {ρ:Nat->Value}(hρ:J.Good ρ)
include hρ
section
variable {E:Env}(hE:E.P=Tryz.prog)(hcon:ConsOk ρ E)
include hE hcon
theorem zgo{a:Int}(hs:HS):CallOk ρ Tryz.prog 108 [enc a] hs (enc false) hs:=by
 refine fn hρ hE hcon Tryz.func108 zGu rfl (by simp) ?_ hs;simp [hE]
theorem ze7{a:List Nat}(hs:HS):CallOk ρ Tryz.prog 109 [enc a] hs (enc false) hs:=by
 refine fn hρ hE hcon Tryz.func109 zGt rfl (by simp) ?_ hs;simp [hE]
theorem zfa(h1:E.con 108=fnC (zaE fun _:Int=>some false)){a b:Int}(hs:HS):CallOk ρ Tryz.prog 86 [enc a,enc b] hs (enc (zpM a b)) hs:=by
 refine fn hρ hE hcon Tryz.func86 zRD rfl (by simp) ?_ hs;unfold zpM;by_cases hl:a<b
 . simp [hE,h1,hl]
 . by_cases hg:b<a
   . simp [hE,h1,hl,hg]
   . simp [hE,h1,hl,hg]
theorem zdO(h1:E.con 109=fnC (zaE fun _:List Nat=>some false)){a b:List Nat}(hs:HS):CallOk ρ Tryz.prog 87 [enc a,enc b] hs (enc (zAE a b)) hs:=by
 refine fn hρ hE hcon Tryz.func87 zRC rfl (by simp) ?_ hs;unfold zAE;by_cases hl:zmx a b=true
 . simp [hE,h1,hl]
 . have hl2:zmx a b=false:=by simpa using hl
   by_cases hg:a=b
   . subst hg;simp [hE,h1,hl2]
   . simp [hE,h1,hl,hg]
theorem zpK{l:List Int}(hl:l.length<=1000000)(hs:HS):CallOk ρ Tryz.prog 85 [enc l] hs (enc (nzM l)) hs:=by
 refine fn hρ hE hcon Tryz.func85 zRE rfl (by simp) ?_ hs;generalize hr:nzM l=r;simp [hE]
 refine lpi hρ hE hcon l.length (nn:=0) (fun i (_:Unit)=>[(3,.int .i64 0),(6,.sl (l.map encI) false),(7,.int .i64 (l.length:Int)),(8,.int .i64 (i:Int))]) (fun i _=>[]) (fun i _=>nzM (l.drop i)=r) ()
  (Less.auto (by simp) (by simp) (by simp) (by simp)) (by simpa using hr) ?_ ?_
 . intro _ h K;rw[List.drop_length,nzM]at h;simp [zoq,hE];refine LessQ.mk (Less.auto (TL:=[(3,.int .i64 0)]) (HL:=[]) (n:=0) (by simp) (by simp) (by simp) (by simp)) ?_;simp [hE,h]
 . intro i _ hi h K hK;have hi':(i:Int)<l.length:=by omega
   have hw2:IntKind.i64.wrap ((i:Int)+1)=((i+1:Nat):Int):=zK (by omega);rw[List.drop_eq_getElem_cons hi,nzM]at h;by_cases he:l[i]=0
   . rw[if_neg (by simpa using he)]at h;have hnew:=hK () h;simp [zoq,hE,hi,hi',he,hw2,-Int.natCast_add];exact hnew _ _ (Less.auto (by simp[-Int.natCast_add]) (by simp) (by simp) (by simp))
   . rw[if_pos he]at h;simp [zoq,hE,hi,hi',he];refine LessQ.mk (Less.auto (TL:=[(2,.int .i64 l[i])]) (HL:=[]) (n:=0) (by simp) (by simp) (by simp) (by simp)) ?_;simp [hE,h]
end
def zvo:J.Spec:=fnC (zV fun a b:Int=>some (zpM a b))
def zvm:J.Spec:=fnC (zV fun a b:List Nat=>some (zAE a b))
def orS:J.Spec:=fnS (zaE fun l:List Int=>if l.length<=1000000 then some (nzM l)else none)
theorem zLt:Valid ρ Tryz.prog 108 (fnC (zaE fun _:Int=>some false)):=c1 (fo Tryz.func108 zGu) fun a r h hs=>by
 cases h;exact zgo hρ (E:=EL []) rfl (zt valid_nil) hs
theorem zLs:Valid ρ Tryz.prog 109 (fnC (zaE fun _:List Nat=>some false)):=c1 (fo Tryz.func109 zGt) fun a r h hs=>by
 cases h;exact ze7 hρ (E:=EL []) rfl (zt valid_nil) hs
theorem zLw:Valid ρ Tryz.prog 86 zvo:=c2 (fo Tryz.func86 zRD) fun a b r h hs=>by
 cases h;exact zfa hρ (E:=EL [(108,fnC (zaE fun _:Int=>some false))]) rfl (zt (zq (zLt hρ) valid_nil)) rfl hs
theorem zLv:Valid ρ Tryz.prog 87 zvm:=c2 (fo Tryz.func87 zRC) fun a b r h hs=>by
 cases h;exact zdO hρ (E:=EL [(109,fnC (zaE fun _:List Nat=>some false))]) rfl (zt (zq (zLs hρ) valid_nil)) rfl hs
theorem vOr:Valid ρ Tryz.prog 85 orS:=v1 (fo Tryz.func85 zRE) fun a r h hs=>by
 obtain⟨h1,rfl⟩:=zT h;exact zpK hρ (E:=EL []) rfl (zt valid_nil) h1 hs
def znu(g d:Nat)(vs:List V):Option V:=match vs with
 | [a,b,.func g' []]=>gd (Nat.beq g' g) (ob (Enc.dec a:Option (List Ty)) fun l=>ob (Enc.dec b:Option (List Ty)) fun m=>if l.length<=10000/\m.length<=10000/\Ty.oks l=true/\Ty.oks m=true/\Ty.sizes l<=d then some (enc (zej l m))else none)
 |_=>none
theorem zvk{g d:Nat}{vs:List V}{v:V}(h:znu g d vs=some v):∃ l m:List Ty,vs=[enc l,enc m,.func g []]/\l.length<=10000/\m.length<=10000/\Ty.oks l=true/\Ty.oks m=true/\Ty.sizes l<=d/\v=enc (zej l m):=by
 unfold znu at h;split at h
 . simp only[z8,zu,J.beq_true]at h;obtain⟨rfl,l,hl,m,hm,h⟩:=h;obtain⟨⟨h1,h2,h3,h4,h5⟩,rfl⟩:=zT h;exact⟨l,m,by rw[Enc.enc_dec _ _ hl,Enc.enc_dec _ _ hm],h1,h2,h3,h4,h5,rfl⟩
 . cases h
def zAF(d:Nat)(a b:Ty):Option Int:=if a.ok=true/\b.ok=true/\a.size<=d then some (zfG a b)else none
section
variable {E:Env}(hE:E.P=Tryz.prog)(hcon:ConsOk ρ E)
include hE hcon
theorem zdM {d:Nat} (hc:E.con 69=fnS (zV (zAF d))) {l m:List Ty} (hl:l.length<=10000) (hm:m.length<=10000) (hok:Ty.oks l=true) (hok2:Ty.oks m=true) (hd:Ty.sizes l<=d) (hs:HS) :
 CallOk ρ Tryz.prog 88 [enc l,enc m,.func 69 []] hs (enc (zej l m)) hs:=by
 refine fn hρ hE hcon Tryz.func88 zRB rfl (by simp) ?_ hs;generalize hr:zej l m=r;simp [hE]
 refine lpi hρ hE hcon l.length (nn:=0) (fun i (_:Unit)=>[(0,.sl (l.map zw) false),(1,.sl (m.map zw) false),(2,.func 69 []),(11,.sl (l.map zw) false),(12,.int .i64 (l.length:Int)),(13,.int .i64 (i:Int))]) (fun i _=>[]) (fun i _=>i<=m.length/\zej (l.drop i) (m.drop i)=r) ()
  (Less.auto (by simp) (by simp) (by simp) (by simp)) ⟨Nat.zero_le _,by simpa using hr⟩ ?_ ?_
 . rintro _ ⟨hlm,h⟩ K;rw[List.drop_length]at h;simp [zlD,hE];refine LessQ.mk (Less.auto (TL:=[(0,.sl (l.map zw) false),(1,.sl (m.map zw) false)]) (HL:=[]) (n:=0) (by simp) (by simp) (by simp) (by simp)) ?_;by_cases hlt:l.length<m.length
   . rw[List.drop_eq_getElem_cons hlt,zej]at h;have hlt':(l.length:Int)<m.length:=by omega
     simp [hE,hlt,hlt',h]
   . have e:m.drop l.length=[]:=List.drop_eq_nil_of_le (by omega);rw[e,zej]at h;have hlt':¬ (l.length:Int)<m.length:=by omega
     simp [hE,hlt,hlt',h]
 . rintro i _ hi ⟨hle,h⟩ K hK;have hi':(i:Int)<l.length:=by omega
   have hw2:IntKind.i64.wrap ((i:Int)+1)=((i+1:Nat):Int):=zK (by omega);have hmem:=List.getElem_mem hi;have hm5:(i*5) / 5=i:=by omega
   have hm6:(i*5) % 5=0:=by omega
   rw[List.drop_eq_getElem_cons hi]at h;by_cases hlt:i<m.length
   . rw[List.drop_eq_getElem_cons hlt,zej]at h;have hlt':(i:Int)<m.length:=by omega
     have hle':¬ (m.length:Int)<=i:=by omega
     have hle2:¬ m.length<=i:=by omega
     have hF:zAF d l[i] m[i]=some (zfG l[i] m[i]):=if_pos ⟨Ty.oks_iff.1 hok _ hmem,Ty.oks_iff.1 hok2 _ (List.getElem_mem hlt),by have:=Ty.size_mem hmem;omega⟩;by_cases he:zfG l[i] m[i]=0
     . rw[if_neg (by simpa using he)]at h;have hnew:=hK () ⟨by omega,h⟩;rw[he]at hF;simp [zlD,hE,hi,hi',hlt,hlt',hle',hle2,hm5,hm6,hc,hF,hw2,-Int.natCast_add];exact hnew _ _ (Less.auto (by simp[-Int.natCast_add]) (by simp) (by simp) (by simp))
     . rw[if_pos he]at h;generalize zfG l[i] m[i]=c at hF he h;simp [zlD,hE,hi,hi',hlt,hlt',hle',hle2,hm5,hm6,hc,hF,he];refine LessQ.mk (Less.auto (TL:=[(6,.int .i64 c)]) (HL:=[]) (n:=0) (by simp) (by simp) (by simp) (by simp)) ?_;simp [hE,h]
   . have e:m.drop i=[]:=List.drop_eq_nil_of_le (by omega);rw[e,zej]at h;have hle':(m.length:Int)<=i:=by omega
     have hle2:m.length<=i:=by omega
     simp [zlD,hE,hi,hi',hle',hle2,hm5,hm6];refine LessQ.mk (Less.auto (TL:=[(6,.int .i64 1)]) (HL:=[]) (n:=0) (by simp) (by simp) (by simp) (by simp)) ?_;simp [hE,<- h]
theorem zfV{d:Nat}(hi:E.con 86=zvo)(hst:E.con 87=zvm)(ho:E.con 85=orS)(hc:E.con 88=fnS (znu 69 d)){a b:Ty}(ha:a.ok=true)(hb:b.ok=true)(hd:a.size<=d+1)(hs:HS) :
 CallOk ρ Tryz.prog 69 [enc a,enc b] hs (enc (zfG a b)) hs:=by
 refine fn hρ hE hcon Tryz.func69 zN5 rfl (by simp) ?_ hs;have hal:=Ty.ok_len ha;have hbl:=Ty.ok_len hb;have hsz:=Ty.size_eq a;have hk:Ty.oks a.args=true:=Ty.oks_iff.2 (Ty.ok_iff.1 ha).2;have hkb:Ty.oks b.args=true:=Ty.oks_iff.2 (Ty.ok_iff.1 hb).2;have hd2:Ty.sizes a.args<=d:=by omega
 have hq:nzM [zpM a.kind b.kind,zAE a.name b.name,zpM a.id b.id,zpM a.home b.home,zpM (a.args.length:Int) (b.args.length:Int)]=nzM (zkn a b):=rfl;rw[zoD];generalize nzM (zkn a b)=q at hq;by_cases hz:q=0
 . rw[if_neg (by simpa using hz)];subst hz;generalize hx:zej a.args b.args=x;simp [hE,hi,hst,ho,hc,zvo,zvm,orS,znu,hq,hal,hbl,hk,hkb,hd2,hx]
 . rw[if_pos hz];simp [hE,hi,hst,ho,hc,zvo,zvm,orS,znu,hq,hz]
end
section
variable {E:Env}(hE:E.P=Tryz.prog)(hcon:ConsOk ρ E)
include hE hcon
theorem zhd{d:Nat}(hc:E.con 69=fnS (zV (zAF d))){a b:Ty}(ha:a.ok=true)(hb:b.ok=true)(hd:a.size<=d)(hs:HS) :
 CallOk ρ Tryz.prog 46 [enc a,enc b] hs (enc (decide (a=b))) hs:=by
 refine fn hρ hE hcon Tryz.func46 zRW rfl (by simp) ?_ hs;have hF:zAF d a b=some (zfG a b):=if_pos ⟨ha,hb,hd⟩;have hz:decide (a=b)=decide (zfG a b=0):=by rw[Bool.eq_iff_iff];simp[zpL]
 rw[hz];generalize zfG a b=c at hF;obtain⟨ak,an,ai,ah,al⟩:=a;obtain⟨bk,bn,bi,bh,bl⟩:=b;simp [hE,hc,hF]
end
theorem zwr(d:Nat):Valid ρ Tryz.prog 69 (fnS (zV (zAF d))):=by
 induction d with
 | zero =>
   refine v2 (fo Tryz.func69 zN5) fun a b r h hs=>?_
   obtain⟨⟨h1,h2,h3⟩,rfl⟩:=zT h;have:=Ty.size_eq a;omega
 | succ d ih =>
   refine v2 (fo Tryz.func69 zN5) fun a b r h hs=>?_
   obtain⟨⟨h1,h2,h3⟩,rfl⟩:=zT h
   have hCF:Valid ρ Tryz.prog 88 (fnS (znu 69 d)):=Valid.fnS (fo Tryz.func88 zRB) fun vs v hv hs=>by
    obtain⟨l,m,rfl,g1,g2,g3,g4,g5,rfl⟩:=zvk hρ hv;exact zdM hρ (E:=EL [(69,fnS (zV (zAF d)))]) rfl (zt (zq ih valid_nil)) rfl g1 g2 g3 g4 g5 hs
   exact zfV hρ (E:=EL [(86,zvo),(87,zvm),(85,orS),(88,fnS (znu 69 d))]) rfl
    (zt (zq (zLw hρ) (zq (zLv hρ) (zq (vOr hρ) (zq hCF valid_nil))))) rfl rfl rfl rfl h1 h2 h3 hs
def zjG:J.Spec:=fnS (zV fun a b:Ty=>if a.ok=true/\b.ok=true then some (decide (a=b))else none)
theorem z8f:Valid ρ Tryz.prog 46 zjG:=v2 (fo Tryz.func46 zRW) fun a b r h hs=>by
 obtain⟨⟨h1,h2⟩,rfl⟩:=zT h;exact zhd hρ (E:=EL [(69,fnS (zV (zAF a.size)))]) rfl (zt (zq (zwr hρ a.size) valid_nil)) rfl h1 h2 (Nat.le_refl _) hs
end
end Go.Proofs.YtfgmnebfhemnpaaGreat
/- The laws UnifySame and UnifyTurns: when two types are the same in a store. -/
namespace Go.Proofs.YtfgmnebfhemnpaaGreat
open Go.J
open Go.J.Enc (enc)
set_option maxRecDepth 100000
set_option maxHeartbeats 4000000
def zjM:J.Spec:=open Classical in fnS (zaK fun (s:Store) (a b:Ty)=>if s.tysOk/\s.w=s.w16/\a.ok=true/\b.ok=true then some (s.sameB a b)else none)
section
variable {ρ:Nat->Value}(hρ:J.Good ρ)
include hρ
section
variable {E:Env}(hE:E.P=Tryz.prog)(hcon:ConsOk ρ E)
include hE hcon
theorem ziy(h1:E.con 44=zwG)(h2:E.con 45=zgK)(h3:E.con 46=zjG){s:Store}{a b:Ty}(ho:s.tysOk)(hw:s.w=s.w16)(ha:a.ok=true)(hb:b.ok=true)(hs:HS):CallOk ρ Tryz.prog 15 [enc s,enc a,enc b] hs (enc (s.sameB a b)) hs:=by
 refine fn hρ hE hcon Tryz.func15 zSp rfl (by simp) ?_ hs;have r1:=(Store.resolve_ok ho ha).1;have r2:=(Store.resolve_ok ho hb).1;have e2:(max (200:Int) 0).toNat=200:=rfl;unfold Store.sameB;rcases hA:zR s.w16 a with⟨A,p⟩;rcases hB:zR s.w16 b with⟨B,q⟩;rw[hA]at r1;rw[hB]at r2;obtain⟨z1,hz1⟩:∃ z,sz s.w16 a 200=z:=⟨_,rfl⟩;obtain⟨z2,hz2⟩:∃ z,sz s.w16 b 200=z:=⟨_,rfl⟩;obtain⟨ss,st⟩:=s;obtain⟨ak,an,ai,ah,al⟩:=a;obtain⟨bk,bn,bi,bh,bl⟩:=b;have g1:(z1:Int)<=200↔z1<=200:=by omega
 have g2:(z2:Int)<=200↔z2<=200:=by omega
 have g3:200<(z1:Int)↔¬ z1<=200:=by omega
 have g4:200<(z2:Int)↔¬ z2<=200:=by omega
 by_cases c1:z1<=200<;>by_cases c2:z2<=200
 all_goals
  simp [hE,h1,h2,h3,zwG,zgK,zjG,ho,hw,ha,hb,hA,hB,r1,r2,hz1,hz2,e2,g1,g2,g3,g4,c1,c2]
theorem zi7(h1:E.con 17=zcG)(h2:E.con 18=zbF)(h3:E.con 40=zg2){s:Store}{a b:Ty}(ho:s.tysOk)(ha:a.ok=true)(hb:b.ok=true)(hs:HS):CallOk ρ Tryz.prog 16 [enc s,enc a,enc b] hs (enc (s.sameB a b)) hs:=by
 refine fn hρ hE hcon Tryz.func16 zSo rfl (by simp) ?_ hs;have r1:=(Store.resolve_ok ho ha).1;have e2:(max (200:Int) 0).toNat=200:=rfl;unfold Store.sameB;rcases hA:zR s.w16 a with⟨A,p⟩;rcases hB:zR s.w16 b with⟨B,q⟩;rw[hA]at r1;obtain⟨z1,hz1⟩:∃ z,sz s.w16 a 200=z:=⟨_,rfl⟩;obtain⟨z2,hz2⟩:∃ z,sz s.w16 b 200=z:=⟨_,rfl⟩;obtain⟨ss,st⟩:=s;obtain⟨ak,an,ai,ah,al⟩:=a;obtain⟨bk,bn,bi,bh,bl⟩:=b;have g1:(z1:Int)<=200↔z1<=200:=by omega
 have g2:(z2:Int)<=200↔z2<=200:=by omega
 have g3:200<(z1:Int)↔¬ z1<=200:=by omega
 have g4:200<(z2:Int)↔¬ z2<=200:=by omega
 by_cases c1:z1<=200<;>by_cases c2:z2<=200
 all_goals
  simp [hE,h1,h2,h3,zcG,zbF,zg2,ho,ha,hb,hA,hB,r1,hz1,hz2,e2,g1,g2,g3,g4,c1,c2]
end
theorem zLp:Valid ρ Tryz.prog 15 zjM:=v3 (fo Tryz.func15 zSp) fun a b c r h hs=>by
 obtain⟨⟨h1,h2,h3,h4⟩,rfl⟩:=zT h;exact ziy hρ (E:=EL [(44,zwG),(45,zgK),(46,zjG)]) rfl (zt (zq (z8l hρ) (zq (zqs hρ) (zq (z8f hρ) valid_nil)))) rfl rfl rfl h1 h2 h3 h4 hs
theorem zDG:Valid ρ Tryz.prog 16 zjM:=v3 (fo Tryz.func16 zSo) fun a b c r h hs=>by
 obtain⟨⟨h1,h2,h3,h4⟩,rfl⟩:=zT h;exact zi7 hρ (E:=EL [(17,zcG),(18,zbF),(40,zg2)]) rfl (zt (zq (zj7 hρ) (zq (zfS hρ) (zq (zqv hρ) valid_nil)))) rfl rfl rfl h1 h3 h4 hs
end
end Go.Proofs.YtfgmnebfhemnpaaGreat
/- The law UnifySame: its run. -/
namespace Go.Proofs.YtfgmnebfhemnpaaGreat
open Go.J
open Go.J.Enc (enc)
set_option maxRecDepth 100000
set_option maxHeartbeats 4000000
section
variable {ρ:Nat->Value}(hρ:J.Good ρ)
include hρ
section
variable {E:Env}(hE:E.P=Tryz.prog)(hcon:ConsOk ρ E)
include hE hcon
theorem zky(h1:E.con 8=z7S)(h2:E.con 9=zAn)(h3:E.con 10=zaT zhF)(h4:E.con 11=fnS (zaK Store.uniF))(h5:E.con 15=zjM)(h6:E.con 16=zjM)(h7:E.con 17=zcG)(h8:E.con 13=zjN)
 {bits:Int} {codes:List Int} (hs:HS):CallOk ρ Tryz.prog 4 [enc bits,enc codes] hs (.bool true) hs:=by
 refine fn hρ hE hcon Tryz.func4 fB4 rfl (by simp) ?_ hs;by_cases c1:codes.length<=60
 case neg=>simp [hE,h1,h2,z7S,zAn,c1]
 have htp:(⟨codes,0⟩:Tp).ok:=⟨Int.le_refl _,by show codes.length<=100000;omega⟩;rcases hm:Store.made17 ⟨codes,0⟩ (zaH bits)with⟨s,a,b,t⟩;obtain⟨n,hM⟩:=Store.made17_ok htp (zic bits) (znp bits) hm;obtain⟨x,e,hu,hX,hA⟩:=hM.again;obtain⟨so,sw,ao,bo⟩:=hM.w;obtain⟨xo,xw,_,_⟩:=hX.w;have hval:=fun hs=>znd (hs:=hs) hm
 have hheap:=fun hs=>zlz (hs:=hs) hm
 clear hm hM hX;have e2:(max (200:Int) 0).toNat=200:=rfl;by_cases c2:e=0
 case neg =>
  clear hA;obtain⟨xs,xt⟩:=x;obtain⟨ss,st⟩:=s;obtain⟨ak,an,ai,ah,al⟩:=a;obtain⟨bk,bn,bi',bh,bl⟩:=b;simp [hE,h1,h2,h3,h4,h5,h6,h7,h8,z7S,zAn,zjM,zcG,c1,hval,hheap,hu,so,sw,ao,bo,xo,xw,c2,vacant_eq]
 subst c2;have hA:=hA rfl;obtain⟨z,hz⟩:∃ z,sz x.w16 a 200=z:=⟨_,rfl⟩;rw[hz]at hA;have g1:(z:Int)<=200↔z<=200:=by omega
 have g2:200<(z:Int)↔¬ z<=200:=by omega
 by_cases c3:z<=200
 case neg =>
  clear hA;obtain⟨xs,xt⟩:=x;obtain⟨ss,st⟩:=s;obtain⟨ak,an,ai,ah,al⟩:=a;obtain⟨bk,bn,bi',bh,bl⟩:=b;simp [hE,h1,h2,h3,h4,h5,h6,h7,h8,z7S,zAn,zjM,zcG,c1,hval,hheap,hu,so,sw,ao,bo,xo,xw,hz,e2,g1,g2,c3,vacant_eq]
 obtain⟨hB,y,hy,hxy⟩:=hA c3;obtain⟨ss,st⟩:=s;obtain⟨xs,xt⟩:=x;obtain⟨ys,yt⟩:=y;obtain⟨ak,an,ai,ah,al⟩:=a;obtain⟨bk,bn,bi',bh,bl⟩:=b;simp only at hxy;subst hxy;simp [hE,h1,h2,h3,h4,h5,h6,h7,h8,z7S,zAn,zjM,zcG,zjN,c1,hval,hheap,hu,so,sw,ao,bo,xo,xw,hz,e2,g1,g2,c3,hB,hy,vacant_eq]
end
end
end Go.Proofs.YtfgmnebfhemnpaaGreat
