import Derived.Test.YtfgmnebfhemnpaaGreatLUI0
import Derived.Test.YtfgmnebfhemnpaaGreatJPy
import Derived.Test.YtfgmnebfhemnpaaGreatJL
import Derived.Test.YtfgmnebfhemnpaaGreatJQx
import Derived.Test.YtfgmnebfhemnpaaGreatJQ
set_option linter.all false
noncomputable section
/- The program's unification within a store: the work list. -/
namespace Go.Proofs.YtfgmnebfhemnpaaGreat
open Go.J
open Go.J.Enc (enc)
set_option maxRecDepth 100000
set_option maxHeartbeats 4000000
section
variable {ρ:Nat->Value}(hρ:J.Good ρ)
include hρ
section
variable {E:Env}(hE:E.P=Tryz.prog)(hcon:ConsOk ρ E)
include hE hcon
theorem zgT {d f:Nat} (hP:E.con 57=zaT (uwM (zlk d))) (hB:E.con 58=zaT (zmo 76)) {sl:List Slot} {tr:List Change} {g:Nat} {a b:Ty} {sl':List Slot} {ex3:List Change} {e:Int} (h:Store.withinG d f ⟨sl,tr⟩ [⟨a,b⟩]=some (⟨sl',tr++ex3⟩,e)) :
 Wp ρ E 3 50 zJt (((PT.leaf.set 0 (.ptr 0 0 0)).set 1 (enc a)).set 2 (enc b)) { H:=mkP (zK sl tr (some g)),n:=3,log:=[] } (J.Leaves E.P Tryz.f37 (GivesL 3 (.int .i64 e) (zK sl' (tr++ex3) (gN (some g) ex3.length)))):=by
 obtain⟨tr3,htr3⟩:∃ tr3,tr++ex3=tr3:=⟨_,rfl⟩;obtain⟨G3,hG3⟩:∃ G3,gN (some g) ex3.length=G3:=⟨_,rfl⟩;rw[htr3]at h;rw[htr3,hG3];obtain⟨ak,an,ai,ah,al⟩:=a;obtain⟨bk,bn,bi',bh,bl⟩:=b;simp [hE,zK]
 refine lpi hρ hE hcon f (nn:=7) (fun i (_:List Slot×List Change×Option Nat×List Equation×List Equation×Nat×Option Nat×Bool)=>[(7,.ptr 3 0 0),(8,.ptr 4 0 0)])
  (fun i st=>zK st.1 st.2.1 st.2.2.1++[(3,zaM (.ptr 0 0 0)),(4,zaM (.own 5 st.2.2.2.2.2.1 0 st.2.2.2.1.length st.2.2.2.2.2.2.1)),(5,.arr 10 st.2.2.2.2.2.1 (st.2.2.2.2.1.map zx) st.2.2.2.2.2.2.2 false true)])
  (fun i st=>(∃ ex1,st.2.1=tr++ex1/\st.2.2.1=gN (some g) ex1.length)/\st.2.2.2.2.1.take st.2.2.2.1.length=st.2.2.2.1.reverse/\st.2.2.2.1.length<=st.2.2.2.2.1.length/\(∀ c,st.2.2.2.2.2.2.1=some c->c=st.2.2.2.2.1.length)/\Store.withinG d (f-i) ⟨st.1,st.2.1⟩ st.2.2.2.1=some (⟨sl',tr3⟩,e))
  (sl,tr,(some g),[⟨.mk ak an ai ah al,.mk bk bn bi' bh bl⟩],[⟨.mk ak an ai ah al,.mk bk bn bi' bh bl⟩],0,some 1,true)
  (Less.auto (by simp[zK]) (by simp[zK,zo,zf,zy]) (by simp[zK]) (by simp[zK]<;>(intro x hx;first|omega|exact⟨.inl hx,by omega⟩))) ⟨⟨[],by simp,by simp⟩,by simp,by simp,by simp,by simpa using h⟩ ?_ ?_
 . rintro ⟨sl1,tr1,G,l,rows,gen,cap,x⟩ ⟨_,_,_,_,hw⟩ K;rw[Nat.sub_self,Store.withinG]at hw;cases hw
 . rintro i ⟨sl1,tr1,G,l,rows,gen,cap,x⟩ hi ⟨⟨ex1,e1,e2⟩,h1,h2,h3,hw⟩ K hK;obtain⟨n,hn⟩:∃ n,f-i=n+1:=⟨f-i-1,by omega⟩;have hn2:f-(i+1)=n:=by omega
   rw[hn]at hw;simp only at e1 e2 h1 h2 h3 hw
   cases G with
   | none =>
     exact(by simp at e2:False).elim
   | some G =>
     cases l with
     | nil =>
       rw[Store.withinG]at hw;obtain⟨hq1,hq2⟩:=Prod.mk.inj (Option.some.inj hw);obtain⟨hq3,hq4⟩:=Store.mk.inj hq1
       have hG3:G3=(some G):=by
        have:ex3=ex1:=by rw[<- htr3,e1]at hq4;exact(List.append_cancel_left hq4).symm
        rw[<- hG3,this];exact e2.symm
       subst hq2 hq3 hq4 hG3;simp [zcz,hE,zK];refine LessQ.mk (Less.auto (TL:=[]) (HL:=zK sl1 tr1 (some G)) (n:=7) (by simp[zK]) (by simp[zK,zo,zf,zy]) (by simp[zK]) (by simp[zK]<;>(intro x hx;first|omega|exact⟨.inl hx,by omega⟩))) ?_;simp [hE,zK];exact GivesL.keepX rfl rfl rfl (by simp[zo,zf])
     | cons e0 l =>
       rw[Store.withinG]at hw;split at hw
       case isFalse=>cases hw
       rename_i hok;obtain⟨hok,hll,hml⟩:=hok;obtain⟨mg,hmg⟩:=zf6 ⟨sl1,tr1⟩ e0.left e0.right;obtain⟨ex2,t3,t4⟩:=hmg.trail;obtain⟨Q,hQ⟩:∃ Q,Store.pairP ⟨sl1,tr1⟩ e0.left e0.right=Q:=⟨_,rfl⟩;rw[hQ]at hw t3 hml;obtain⟨more,c,sl2,tr2⟩:=Q;simp only at hw t3 hml;subst t3;have hF:=zjS hok hQ;clear hmg t4 hQ hok;have hri:l.length<rows.length:=by simp only[List.length_cons]at h2;omega
       have hre:rows[l.length]=e0:=by
        have:=congrArg (fun q=>q[l.length]?) h1;simp only[List.length_cons,List.reverse_cons]at this;rw[List.getElem?_take_of_lt (by omega),List.getElem?_eq_getElem hri,List.getElem?_append_right (by simp),List.length_reverse,Nat.sub_self]at this;exact Option.some.inj this
       have hrt:rows.take l.length=l.reverse:=by
        have:=congrArg (fun q=>q.take l.length) h1;simp only[List.length_cons,List.reverse_cons]at this;rw[List.take_take,Nat.min_eq_left (by omega),List.take_left' (by simp)]at this;exact this
       have hle:l.length<=rows.length:=by omega
       have hrl:((e0::l).length:Int)=(l.length:Int)+1:=by simp
       have hw0:IntKind.i64.wrap (l.length:Int)=(l.length:Int):=by rw[wrap_i64 (by omega) (by omega)]
       have hd1:l.length*10 / 10=l.length:=by omega
       have hd2:l.length*10 % 10=0:=by omega
       obtain⟨⟨pk,pn,pi,ph,pl⟩,⟨qk,qn,qi,qh,ql⟩⟩:=e0;simp at hF;by_cases hc:c=0
       . subst hc;rw[if_pos rfl]at hw
         have hnew:∀ (rows2:List Equation) (gen2:Nat) (cap2:Option Nat) (x2:Bool),rows2.take (more++l).length=(more++l).reverse->(more++l).length<=rows2.length->(∀ c,cap2=some c->c=rows2.length)->_:=fun rows2 gen2 cap2 x2 q1 q2 q3 =>
          hK (sl2,tr1++ex2,gN (some G) ex2.length,more++l,rows2,gen2,cap2,x2) ⟨⟨ex1++ex2,by simp[e1],by simp only;rw[List.length_append,<- zdE,<- e2]⟩,q1,q2,q3,by rw[hn2];exact hw⟩
         clear hK hw h1 e2;obtain⟨tr2,htr2⟩:∃ tr2,tr1++ex2=tr2:=⟨_,rfl⟩
         cases cap with
         | none =>
           simp [htr2,zcz,hE,zK,hP,hrl,hri,hre,hw0,hd1,hd2,hF,vacant_eq,zbN,zbs,bounds,zky,zR,zaP,zdh,hB,hle];refine zbx hρ hE hcon (sl2:=sl2) (tr2:=tr2) (G2:=(some (G+ex2.length))) (more:=more) (l:=l) (rows:=rows) (gen:=gen) (cap:=none) (x:=x) h3 hrt (by omega) (by omega) hml (Less.auto (by simp[zK]) (by simp[zK,zo,zf,zy]) (by simp[zK]) (by simp[zK]<;>(intro x hx;first|omega|exact⟨.inl hx,by omega⟩))) ?_;rintro H nn log hn7 hvac ⟨hHF,rid,gen2,cap2,rows2,x2,r5,r6,r7,g4,gr,k1,k2,k3⟩;have f0:H.get 0=some (.arr 2 0 [[.own 1 0 0 sl2.length none,.own 2 ((G+ex2.length)) 0 tr2.length none]] true false false):=hHF (0,uyB sl2 tr2 (some (G+ex2.length))) (by simp[zK]);have f1:H.get 1=some (.arr 8 0 (sl2.map zG) false false true):=hHF (1,slO sl2) (by simp[zK]);have f2:H.get 2=some (.arr 10 ((G+ex2.length)) (tr2.map zA) false false true):=hHF (2,trO tr2 ((G+ex2.length))) (by simp[zK]);have f3:H.get 3=some (zaM (.ptr 0 0 0)):=hHF (3,zaM (.ptr 0 0 0)) (by simp[zK]);refine LessQ.mk (Less.lit (TL:=[(7,.ptr 3 0 0),(8,.ptr 4 0 0)]) (HL:=zK sl2 tr2 (some (G+ex2.length))++[(3,zaM (.ptr 0 0 0)),(4,zaM (.own 5 gen2 0 (more++l).length cap2)),(5,.arr 10 gen2 (rows2.map zx) x2 false true)]) (fun i=>if i=5 then rid else i) 7 ?_ ?_ ?_ ?_) ?_
           . simp[zK]
           . simp[zK,f0,f1,f2,f3,g4,gr,zo,zf,zy]
           . simp[zK]<;>omega
           . simp[zK]<;>(intro x hx;first|omega|exact⟨.inl (by omega),by omega⟩)
           simp[zK];have:=hnew rows2 gen2 cap2 x2 k1 k2 k3;rw[htr2]at this;exact this _ _ (Less.auto (by simp[zK]) (by simp[zK,zo,zf,zy]) (by simp[zK]) (by simp[zK]<;>(intro x hx;first|omega|exact⟨.inl hx,by omega⟩)))
         | some cc =>
           obtain rfl:=h3 cc rfl;simp [htr2,zcz,hE,zK,hP,hrl,hri,hre,hw0,hd1,hd2,hF,vacant_eq,zbN,zbs,bounds,zky,zR,zaP,zdh,hB,hle];refine zbx hρ hE hcon (sl2:=sl2) (tr2:=tr2) (G2:=(some (G+ex2.length))) (more:=more) (l:=l) (rows:=rows) (gen:=gen) (cap:=(some rows.length)) (x:=x) h3 hrt (by omega) (by omega) hml (Less.auto (by simp[zK]) (by simp[zK,zo,zf,zy]) (by simp[zK]) (by simp[zK]<;>(intro x hx;first|omega|exact⟨.inl hx,by omega⟩))) ?_;rintro H nn log hn7 hvac ⟨hHF,rid,gen2,cap2,rows2,x2,r5,r6,r7,g4,gr,k1,k2,k3⟩;have f0:H.get 0=some (.arr 2 0 [[.own 1 0 0 sl2.length none,.own 2 ((G+ex2.length)) 0 tr2.length none]] true false false):=hHF (0,uyB sl2 tr2 (some (G+ex2.length))) (by simp[zK]);have f1:H.get 1=some (.arr 8 0 (sl2.map zG) false false true):=hHF (1,slO sl2) (by simp[zK]);have f2:H.get 2=some (.arr 10 ((G+ex2.length)) (tr2.map zA) false false true):=hHF (2,trO tr2 ((G+ex2.length))) (by simp[zK]);have f3:H.get 3=some (zaM (.ptr 0 0 0)):=hHF (3,zaM (.ptr 0 0 0)) (by simp[zK]);refine LessQ.mk (Less.lit (TL:=[(7,.ptr 3 0 0),(8,.ptr 4 0 0)]) (HL:=zK sl2 tr2 (some (G+ex2.length))++[(3,zaM (.ptr 0 0 0)),(4,zaM (.own 5 gen2 0 (more++l).length cap2)),(5,.arr 10 gen2 (rows2.map zx) x2 false true)]) (fun i=>if i=5 then rid else i) 7 ?_ ?_ ?_ ?_) ?_
           . simp[zK]
           . simp[zK,f0,f1,f2,f3,g4,gr,zo,zf,zy]
           . simp[zK]<;>omega
           . simp[zK]<;>(intro x hx;first|omega|exact⟨.inl (by omega),by omega⟩)
           simp[zK];have:=hnew rows2 gen2 cap2 x2 k1 k2 k3;rw[htr2]at this;exact this _ _ (Less.auto (by simp[zK]) (by simp[zK,zo,zf,zy]) (by simp[zK]) (by simp[zK]<;>(intro x hx;first|omega|exact⟨.inl hx,by omega⟩)))
       . rw[if_neg hc]at hw;obtain⟨hq1,hq2⟩:=Prod.mk.inj (Option.some.inj hw);obtain⟨hq3,hq4⟩:=Store.mk.inj hq1
         have hG3:G3=gN (some G) ex2.length:=by
          have:ex3=ex1++ex2:=by rw[<- htr3,e1,List.append_assoc]at hq4;exact(List.append_cancel_left hq4).symm
          rw[<- hG3,this,List.length_append,<- zdE,<- e2]
         subst hq2 hq3 hG3 hq4;obtain⟨tr2,htr2⟩:∃ tr2,tr1++ex2=tr2:=⟨_,rfl⟩;simp [htr2,zcz,hE,zK,hP,hrl,hri,hre,hw0,hd1,hd2,hF,vacant_eq,zbN,zbs,bounds,zky,zR,zaP,zdh,hc];refine LessQ.mk (Less.auto (TL:=[(6,.int .i64 c)]) (HL:=zK sl2 tr2 (some (G+ex2.length))) (n:=7) (by simp[zK]) (by simp[zK,zo,zf,zy]) (by simp[zK]) (by simp[zK]<;>(intro x hx;first|omega|exact⟨.inl hx,by omega⟩))) ?_;simp [htr2,hE,zK];exact GivesL.keepX rfl rfl rfl (by simp[zo,zf])
end
end
end Go.Proofs.YtfgmnebfhemnpaaGreat
/- The program's unification: its contract. -/
namespace Go.Proofs.YtfgmnebfhemnpaaGreat
open Go.J
open Go.J.Enc (enc)
set_option maxRecDepth 100000
set_option maxHeartbeats 4000000
def zfO(d f:Nat)(sl:List Slot)(tr:List Change)(args:List V):Option (V×List Slot×List Change):=match args with
 | [av,bv]=>ob (Enc.dec av:Option Ty) fun a=>ob (Enc.dec bv:Option Ty) fun b=>ob (Store.withinG d f ⟨sl,tr⟩ [⟨a,b⟩]) fun r=>some (.int .i64 r.2,r.1.slots,r.1.trail.drop tr.length)
 |_=>none
theorem zmx{d f:Nat}{sl:List Slot}{tr:List Change}{args:List V}{q:V×List Slot×List Change}(h:zfO d f sl tr args=some q):∃ (a b:Ty) (r:Store×Int),args=[enc a,enc b]/\Store.withinG d f ⟨sl,tr⟩ [⟨a,b⟩]=some r/\q=(.int .i64 r.2,r.1.slots,r.1.trail.drop tr.length):=by
 unfold zfO at h;split at h
 . simp only[zt]at h;obtain⟨a,ha,b,hb,r,hr,h⟩:=h;cases h;exact⟨a,b,r,by rw[Enc.enc_dec _ _ ha,Enc.enc_dec _ _ hb],hr,rfl⟩
 . cases h
theorem zoP{d f:Nat}{sl:List Slot}{tr:List Change}{a b:Ty}{sl':List Slot}{ex:List Change}{e:Int}(h:Store.withinG d f ⟨sl,tr⟩ [⟨a,b⟩]=some (⟨sl',tr++ex⟩,e)):zfO d f sl tr [enc a,enc b]=some (.int .i64 e,sl',ex):=by
 show ob (Enc.dec (enc a):Option Ty) (fun a=>ob (Enc.dec (enc b):Option Ty) fun b=>ob (Store.withinG d f ⟨sl,tr⟩ [⟨a,b⟩]) _)=_;rw[Enc.dec_enc,Enc.dec_enc];show ob (Store.withinG d f ⟨sl,tr⟩ [⟨a,b⟩]) _=_;rw[h];simp
section
variable {ρ:Nat->Value}(hρ:J.Good ρ)
include hρ
section
variable {E:Env}(hE:E.P=Tryz.prog)(hcon:ConsOk ρ E)
include hE hcon
theorem zgV{d f:Nat}(hC:E.con 35=zaT (zju 8))(hT:E.con 36=fnS zpQ)(hS:E.con 38=fnS (zbq fun l:List Slot=>some l))(hW:E.con 37=zaT (uyM (zfO d f)))
 {sl:List Slot} {tr:List Change} {a b:Ty} {sl':List Slot} {ex:List Change} {e:Int} (hne:sl≠[]) (hl:sl.length<=1000) (h:Store.withinG d f ⟨sl,tr⟩ [⟨a,b⟩]=some (⟨sl',tr++ex⟩,e)) (hs:HS) :
 CallOk ρ Tryz.prog 11 [enc (⟨sl,tr⟩:Store),enc a,enc b] hs (enc ((if e=0 then ⟨sl',tr++ex⟩else ⟨sl,tr⟩,e):Store×Int)) hs:=by
 refine fn hρ hE hcon Tryz.func11 zRy rfl (by simp) ?_ hs;have hF:=zoP h
 have hall:((sl.map zG).all fun e=>et (Nat.beq (zS e) 8) (e.all V.pure2))=true:=by
  refine List.all_eq_true.2 fun e he=>?_
  obtain⟨x,_,rfl⟩:=List.mem_map.1 he;rfl
 have hpu:∀ e∈sl.map zG,e.all V.pure2=true:=fun e he=>by
  obtain⟨x,_,rfl⟩:=List.mem_map.1 he;rfl
 have hcl:∀ (tg:Bool) (hs:HS),(zej (sl.map zG) 8 tg).heap hs={ H:=hs.H.set hs.n (.arr 8 0 (sl.map zG) false false true),n:=hs.n+1,log:=hs.n::hs.log }:=fun tg hs=>zny hpu
 have hl0:¬ sl.length=0:=fun h=>hne (List.eq_nil_of_length_eq_zero h)
 obtain⟨ak,an,ai,ah,al⟩:=a;obtain⟨bk,bn,bi',bh,bl⟩:=b;simp at hF;by_cases he:e=0
 . subst he;rw[if_pos rfl];rcases ex with _|⟨z,ex⟩
   . simp [hE,hC,hT,hS,hW,hall,hcl,hl,hl0,hne,hF,vacant_eq]
   . obtain⟨tr2,htr2⟩:∃ tr2,tr++z::ex=tr2:=⟨_,rfl⟩;simp [htr2,hE,hC,hT,hS,hW,hall,hcl,hl,hl0,hne,hF,vacant_eq]
 . rw[if_neg he];rcases ex with _|⟨z,ex⟩
   . simp [hE,hC,hT,hS,hW,hall,hcl,hl,hl0,hne,hF,he,vacant_eq]
   . obtain⟨tr2,htr2⟩:∃ tr2,tr++z::ex=tr2:=⟨_,rfl⟩;simp [htr2,hE,hC,hT,hS,hW,hall,hcl,hl,hl0,hne,hF,he,vacant_eq]
end
theorem z7d:Valid ρ Tryz.prog 35 (zaT (zju 8)):=by
 refine Valid.emb (fo Tryz.func35 zRi) fun vs hs D h=>?_
 obtain⟨es,tg,hne,hl,hes,hac,rfl,hg,hfit⟩:=zpP h;refine em hρ (E:=EL []) rfl (zu valid_nil) Tryz.func35 zRi rfl hg ?_ hfit;show Wp ρ _ 0 _ _ _ { H:=mkP [],n:=0,log:=[] } (J.Leaves _ _ (GivesL 0 (.own 0 0 0 es.length none) [(0,.arr 8 0 es false false true)]));have hsz:sizes 8 es=true:=by rw[sizes_eq];exact fun e he=>(hes e he).1
 have hr1:es.length*88<=1048576:=by omega
 have hr2:es.length*8<=1048576:=by omega
 have hl0:¬ es.length=0:=fun h=>hne (List.eq_nil_of_length_eq_zero h)
 rcases es with _|⟨e0,es⟩
 . exact absurd rfl hne
 rw[List.length_cons]at hr1 hr2;have hbin:∀ t,zyz Tryz.prog .eql 25 (.sl (e0::es) t) .snil=some (.bool false):=fun t=>by rfl
 have hb2:(EL []).P=Tryz.prog:=rfl;have hac2:zvA e0=true/\zY es=true:=by simpa using hac
 cases tg<;>simp [hsz,hr1,hr2,hbin,hb2,hac2.1,hac2.2]
 all_goals exact GivesL.litX (fun k=>if k=0 then 5 else k) rfl rfl ⟨rfl,rfl⟩ (by
  intro p hp;simp only[List.mem_singleton]at hp;subst hp;have e1:(e0::es).all (fun e=>e.all V.pure2)=true:=List.all_eq_true.2 fun e he=>(hes e he).2
  have e3:∀ π,(J.Obj.arr 8 0 (e0::es) false false true).ren π=.arr 8 0 (e0::es) false false true:=fun π=>by
   show J.Obj.arr 8 0 ((e0::es).map fun e=>e.map (V.ren2 π)) false false true=_;rw[zeS fun e he v hv=>V.ren2_pure (List.all_eq_true.1 (hes e he).2 v hv)]
  refine⟨e1,?_⟩;rw[e3]
  simp)
theorem zCK:Valid ρ Tryz.prog 36 (fnS zpQ):=Valid.fnS (fo Tryz.func36 zRh) fun vs v h hs=>by
 obtain⟨es,t,rfl,hsz,rfl⟩:=zvn h;refine zoG (D:=⟨0,0,fun i=>i,[],[],[.sl es t],.sl es true⟩) hρ (E:=EL []) (zu valid_nil) follows named Tryz.func36 zRh rfl ⟨rfl,rfl,Nat.le_refl _,(fun p hp=>by cases hp),(fun p hp=>by cases hp),rfl,fun v hv=>by rw[List.mem_singleton.1 hv];rfl⟩ ?_ (hs:=hs) (vs:=[.sl es t]) ⟨rfl,fun i j hi=>by simp at hi,(fun p hp=>by cases hp),fun i hi=>by simp at hi,fun i hi=>by simp at hi⟩;show Wp ρ _ 0 _ _ _ { H:=mkP [],n:=0,log:=[] } (J.Leaves _ _ (GivesL 0 (.sl es true) []));have hb2:(EL []).P=Tryz.prog:=rfl;cases t<;>simp [hb2,hsz,zbN,zjF,bounds,zky,zR,zaP]
 all_goals exact GivesL.keepX rfl rfl rfl (by simp)
theorem zwn(d f:Nat):Valid ρ Tryz.prog 37 (zaT (uyM (zfO d f))):=by
 refine Valid.emb (fo Tryz.func37 zMT) fun vs hs D h=>?_
 obtain⟨args,sl,tr,g,r,sl',ex,b,c,q,hF,rfl,_,hr,hg,hfit⟩:=z7o h;obtain⟨x,y,R,rfl,h1,hq⟩:=zmx hF;cases hq;obtain⟨m,hm⟩:=Store.grow_within d f h1;have he:=hm.eq;have hEE:(EL [(57,zaT (uwM (zlk d))),(58,zaT (zmo 76))]).P=Tryz.prog:=rfl;have hcn:ConsOk ρ (EL [(57,zaT (uwM (zlk d))),(58,zaT (zmo 76))]):=zu (zq (zCI hρ d) (zq (z7n hρ) valid_nil));have h2:Store.withinG d f ⟨sl,tr⟩ [⟨x,y⟩]=some (⟨R.1.slots,tr++R.1.trail.drop tr.length⟩,R.2):=by rw[h1];exact congrArg some (Prod.ext he rfl)
 cases g with
 |none=>exact em hρ hEE hcn Tryz.func37 zMT rfl hg (zgU hρ hEE hcn rfl rfl h2) hfit
 |some g=>exact em hρ hEE hcn Tryz.func37 zMT rfl hg (zgT hρ hEE hcn rfl rfl h2) hfit
theorem zCH:Valid ρ Tryz.prog 11 (fnS (zaA Store.uniF)):=v3 (fo Tryz.func11 zRy) fun s a b q h hs=>by
 obtain⟨h1,h2,h3,r,hr,rfl⟩:=Store.uniF_inv h;obtain⟨d,f,hf⟩:=hr.run;obtain⟨m,hm⟩:=Store.grow_within d f hf;have he:=hm.eq;obtain⟨sl,tr⟩:=s;obtain⟨r1,e⟩:=r;simp only at he;have h4:Store.withinG d f ⟨sl,tr⟩ [⟨a,b⟩]=some (⟨r1.slots,tr++r1.trail.drop tr.length⟩,e):=by rw[hf];exact congrArg some (Prod.ext he rfl)
 have hcn:ConsOk ρ (EL [(35,zaT (zju 8)),(36,fnS zpQ),(38,fnS (zbq fun l:List Slot=>some l)),(37,zaT (uyM (zfO d f)))]) :=
  zu (zq (z7d hρ) (zq (zCK hρ) (zq (zqx hρ) (zq (zwn hρ d f) valid_nil))))
 have key:=zgV hρ rfl hcn rfl rfl rfl rfl h1 h2 h4 hs;rw[<- he]at key;exact key
end
end Go.Proofs.YtfgmnebfhemnpaaGreat
/- The laws of chapter 17: a store and two types from a tape. -/
namespace Go.Proofs.YtfgmnebfhemnpaaGreat
open Go.J
open Go.J.Enc (enc)
set_option maxRecDepth 100000
set_option maxHeartbeats 1000000
def zcc(bits:Int)(codes:List Int):EmbD where
 k:=0
 k':=1
 π:=fun i=>i
 OL:=[]
 OL':=[(0,box (Cel.cells (Store.made17 ⟨codes,0⟩ (zaI bits)).2.2.2))]
 vs0:=[enc bits,enc codes]
 v0:=.tuple [enc (Store.made17 ⟨codes,0⟩ (zaI bits)).1,enc (Store.made17 ⟨codes,0⟩ (zaI bits)).2.1,enc (Store.made17 ⟨codes,0⟩ (zaI bits)).2.2.1,.ptr 0 0 0]
def zhA(vs:List V)(hs:HS):Option EmbD:=match vs with
 | [bv,cv]=>ob (Enc.dec bv:Option Int) fun bits=>ob (Enc.dec cv:Option (List Int)) fun codes=>gd (et (Nat.ble (zS codes) 60) (zZ hs hs.n)) (some (zcc bits codes))
 |_=>none
@[simp] theorem zEE {bv cv:V} {hs:HS}:zhA [bv,cv] hs=ob (Enc.dec bv:Option Int) fun bits=>ob (Enc.dec cv:Option (List Int)) fun codes=>gd (et (Nat.ble (zS codes) 60) (zZ hs hs.n)) (some (zcc bits codes)):=(rfl)
theorem znc{bits:Int}{codes:List Int}{hs:HS}{s:Store}{a b:Ty}{t:Tp}(h:Store.made17 ⟨codes,0⟩ (zaI bits)=(s,a,b,t)):(zcc bits codes).val hs=.tuple [enc s,enc a,enc b,.ptr hs.n 0 0]:=by
 have e:(zcc bits codes).v0=.tuple [enc s,enc a,enc b,.ptr 0 0 0]:=by show V.tuple _=_;rw[h]
 show (zcc bits codes).v0.ren _=_;rw[e];have hv:∀ (π:Nat->Nat) (t:Ty),(enc t:V).ren2 π=enc t:=fun π t=>V.ren2_none (V.in3_pure (zcO t))
 have hv2:∀ (π:Nat->Nat),(enc s:V).ren2 π=enc s:=fun π=>V.ren2_none (V.in3_pure (show (enc s:V).pure=true from rfl))
 show V.tuple [(enc s:V).ren2 _,(enc a:V).ren2 _,(enc b:V).ren2 _,(V.ptr 0 0 0).ren2 _]=_;rw[hv,hv,hv2];rfl
theorem zly{bits:Int}{codes:List Int}{hs:HS}{s:Store}{a b:Ty}{t:Tp}(h:Store.made17 ⟨codes,0⟩ (zaI bits)=(s,a,b,t)):(zcc bits codes).heap hs={ H:=hs.H.set hs.n (box (Cel.cells t)),n:=hs.n+1,log:=hs.n::hs.log }:=by
 have e:(zcc bits codes).OL'=[(0,box (Cel.cells t))]:=by show [(0,_)]=_;rw[h]
 show zgK hs 0 1 _ (zcc bits codes).OL'=_;rw[e];show ({ H:=hs.H.set (news hs.n 0 (fun i=>i) 0) ((box (Cel.cells t)).ren _),n:=hs.n+1,log:=[news hs.n 0 (fun i=>i) 0]++hs.log }:HS)=_;rfl
section
variable {ρ:Nat->Value}(hρ:J.Good ρ)
include hρ
section
variable {E:Env}(hE:E.P=Tryz.prog)(hcon:ConsOk ρ E)
include hE hcon
theorem ziA(h3:E.con 20=fnS (zbq fun bits:Int=>some (zaI bits)))(h4:E.con 33=stS (zqf znO))(h5:E.con 25=zeR)(h6:E.con 32=fnS (zW fun h i:Int=>some (zax h i)))(h8:E.con 34=fnS (zbq fun i:Int=>some (zcn i)))(h7:E.con 24=stS (zqF (zg1 2)))
 {bits:Int} {codes:List Int} (hl:codes.length<=60) {hs:HS} (hvac:hs.H.get hs.n=none) :
 CallOk ρ Tryz.prog 10 [enc bits,enc codes] hs ((zcc bits codes).v0.ren (news hs.n 0 fun i=>i)) (zgK hs 0 1 (fun i=>i) (zcc bits codes).OL'):=by
 have htp:(⟨codes,0⟩:Tp).ok:=⟨Int.le_refl _,by show codes.length<=100000;omega⟩;have hDk:=zpK bits;have hD3:=zhY bits;rcases hm:Store.made17 ⟨codes,0⟩ (zaI bits)with⟨rs,ra,rb,rt⟩;have hv0:(zcc bits codes).v0=.tuple [enc rs,enc ra,enc rb,.ptr 0 0 0]:=by show V.tuple _=_;rw[hm]
 have hOL:(zcc bits codes).OL'=[(0,box (Cel.cells rt))]:=by show [(0,_)]=_;rw[hm]
 refine em hρ hE hcon (D:=zcc bits codes) Tryz.func10 zRz rfl ⟨rfl,rfl,Nat.zero_le _,fun p hp=>(by cases hp),fun p hp=>?_,?_,fun v hv=>?_⟩ ?_ ⟨rfl,fun i j hi=>absurd hi (Nat.not_lt_zero _),fun p hp=>(by cases hp),fun i hi=>?_,fun i hi=>absurd hi (Nat.not_lt_zero _)⟩
 . obtain rfl:=List.mem_singleton.1 hp;exact⟨rfl,rfl⟩
 . rw[hv0,hOL];show ([enc rs,enc ra,enc rb,V.ptr 0 0 0].all (V.in2 _))=true;have hp:∀ t:Ty,(enc t:V).in2 (dom [(0,box (Cel.cells rt))])=true:=fun t=>V.in3_pure (zcO t)
   have hp2:(enc rs:V).in2 (dom [(0,box (Cel.cells rt))])=true:=V.in3_pure (show (enc rs:V).pure=true from rfl);simp only[List.all_cons,List.all_nil,Bool.and_true,hp,hp2,Bool.true_and];rfl
 . have hv:v∈[(enc bits:V),enc codes]:=hv;simp only[List.mem_cons,List.not_mem_nil,or_false]at hv;rcases hv with rfl|rfl<;>rfl
 . rw[hv0,hOL];show Wp ρ E 0 _ _ _ { H:=mkP [],n:=0,log:=[] } (J.Leaves _ _ (GivesL 0 _ _));rw[show Tryz.f10.ntmps=41 from rfl];obtain⟨s1,_,s3,_⟩:=Store.storeM_ok htp hD3;have s6:=Store.storeN_le ⟨codes,0⟩;have hlen:=s3.len;have f1:znO ⟨codes,0⟩ (zaI bits)=some (Store.storeM ⟨codes,0⟩ (zaI bits)):=if_pos ⟨htp,hDk,hD3⟩;unfold Store.made17 at hm;generalize hDq:zaI bits=D at hm hDk hD3 f1 s1 hlen s3;generalize Store.storeM ⟨codes,0⟩ D=X at hm f1 s1 hlen;obtain⟨t1,s⟩:=X;simp only at hm s1 hlen;obtain⟨n,hn⟩:∃ n,s.slots.length=n:=⟨_,rfl⟩;rw[hn]at hm hlen;have hn5:n<=5:=by omega
   have hn1:(n:Int)<=10000:=by omega
   have hn2:n<=10000:=by omega
   unfold Store.lv17 at hm;have f2:zg1 2 t1 D (zaO n++[zax 0 0,zax 2 0,zcn 0]) 2=some (typeM 2 t1 D (zaO n++[zax 0 0,zax 2 0,zcn 0])):=if_pos ⟨s1,hDk,by simp;omega,by decide⟩;have o2:=(zeu (D:=D) (Lv:=zaO n++[zax 0 0,zax 2 0,zcn 0]) 2 _ s1).1;generalize typeM 2 t1 D (zaO n++[zax 0 0,zax 2 0,zcn 0])=Y at hm f2 o2;obtain⟨t2,a⟩:=Y;simp only at hm o2;have f3:zg1 2 t2 D (zaO n++[zax 0 0,zax 2 0,zcn 0]) 2=some (typeM 2 t2 D (zaO n++[zax 0 0,zax 2 0,zcn 0])):=if_pos ⟨o2,hDk,by simp;omega,by decide⟩;generalize typeM 2 t2 D (zaO n++[zax 0 0,zax 2 0,zcn 0])=Z at hm f3;obtain⟨t3,b⟩:=Z;simp only at hm;have hlv:=zk7 n;have hnp:1<=n:=by omega
   generalize hV:zaO n=W at f2 f3 hlv;rcases W with _|⟨v,W⟩
   . simp at hlv;omega
   have h64:(W.length+1+3)*64<=1048576:=by simp only[List.length_cons]at hlv;omega
   have h65:(W.length+4)*64<=1048576:=h64;rw[List.cons_append]at f2 f3;simp only[Prod.mk.injEq]at hm;obtain⟨rfl,rfl,rfl,rfl⟩:=hm;have hw3:¬ W.length+3<=W.length:=by omega
   obtain⟨ak,an,ai,ah,al⟩:=a;obtain⟨vk,vn,vi,vh,vl⟩:=v;simp[zax,zcn]at f2 f3
   have hdec:(zah (zay (List.take (W.length+3) (List.map zw W++[[V.int IntKind.i64 3,V.str [],V.int IntKind.i64 0,V.int IntKind.i64 0,V.sl [] false],[V.int IntKind.i64 3,V.str [],V.int IntKind.i64 0,V.int IntKind.i64 2,V.sl [] false],[V.int IntKind.i64 2,V.str [],V.int IntKind.i64 0,V.int IntKind.i64 0,V.sl [] false]]))):Option (List Ty))=some (W++[Ty.mk 3 [] 0 0 [],Ty.mk 3 [] 0 2 [],Ty.mk 2 [] 0 0 []]):=by
    rw[List.take_of_length_le (by simp)];have e:List.map zw W++[[V.int IntKind.i64 3,V.str [],V.int IntKind.i64 0,V.int IntKind.i64 0,V.sl [] false],[V.int IntKind.i64 3,V.str [],V.int IntKind.i64 0,V.int IntKind.i64 2,V.sl [] false],[V.int IntKind.i64 2,V.str [],V.int IntKind.i64 0,V.int IntKind.i64 0,V.sl [] false]]=(W++[Ty.mk 3 [] 0 0 [],Ty.mk 3 [] 0 2 [],Ty.mk 2 [] 0 0 []]).map zw:=by simp
    rw[e];simp[-List.map_append]
   simp [hE,h3,h4,h5,h6,h7,h8,hDq,zeR,hn,hn1,hn2,hV,f1,f2,f3,h64,h65,hw3,hdec,zax,zcn,Nat.not_succ_le_self];exact GivesL.litX (fun k=>if k=0 then 6 else k) rfl rfl ⟨rfl,rfl⟩ (by simp)
 . obtain rfl:i=0:=Nat.lt_one_iff.1 hi;exact hvac
end
theorem z7j:Valid ρ Tryz.prog 10 (zaT zhA):=Valid.emb (fo Tryz.func10 zRz) fun vs hs D h=>by
 unfold zhA at h;split at h
 . simp only[zt,z8,et_true,ble_true,vacant_eq,zO]at h;obtain⟨bits,hb,codes,hc,⟨h1,h2⟩,h⟩:=h;cases h;rw[Enc.enc_dec _ _ hb,Enc.enc_dec _ _ hc]
   exact ziA hρ (E:=EL [(20,fnS (zbq fun bits:Int=>some (zaI bits))),(33,stS (zqf znO)),(25,zeR),(32,fnS (zW fun h i:Int=>some (zax h i))),(34,fnS (zbq fun i:Int=>some (zcn i))),(24,stS (zqF (zg1 2)))]) rfl
    (zu (zq (zCX hρ) (zq (zoV hρ) (zq (zqv hρ) (zq (zyV hρ) (zq (zCY hρ) (zq (zCM hρ 2 (by omega)) valid_nil))))))) rfl rfl rfl rfl rfl rfl h1 h2
 . cases h
end
end Go.Proofs.YtfgmnebfhemnpaaGreat
/- Variants of types: the reference's matching. -/
namespace Go.Proofs.YtfgmnebfhemnpaaGreat
open Go.J
open Go.J.Enc (enc)
set_option maxRecDepth 100000
set_option maxHeartbeats 1000000
def rmM(p t:Ty)(s:List Assign):List Assign×Bool:=if (mtM p t s).2=true then mtM p t s else ([],false)
def rmL(l m:List Ty)(s:List Assign):List Assign×Bool:=if (mtL l m s).2=true then mtL l m s else ([],false)
theorem zxa{p t:Ty}{l m:List Ty}{s:List Assign}:rmL (p::l) (t::m) s=if (rmM p t s).2=true then rmL l m (rmM p t s).1 else ([],false):=by
 unfold rmL rmM;rw[zof];by_cases h:(mtM p t s).2=true
 . simp[h]
 . simp[h]
def rmF(d:Nat)(p t:Ty)(s:List Assign):Option (List Assign×Bool):=open Classical in if p.ok=true/\t.ok=true/\aok s/\s.length+p.size<=8000/\p.size<=d then some (rmM p t s)else none
def zzB(s:List Assign)(i:Int):Option Bool:=if s.length<=100000 then some (znj s i)else none
def zoL(s:List Assign)(t:Ty):Option Ty:=if t.ok=true/\t.size<=10000/\s.length<=100000 then some (t.repl s)else none
def zhF:J.Spec:=fnS (zW zzB)
def zfJ:J.Spec:=fnS (zW zoL)
def zDJ(a b:Ty):Option Bool:=if b.ok=true/\a.ok=true/\b.size<=8000 then some (zqh a b)else none
def zxb:J.Spec:=fnS (zW zDJ)
section
variable {ρ:Nat->Value}(hρ:J.Good ρ)
include hρ
section
variable {E:Env}(hE:E.P=Tryz.prog)(hcon:ConsOk ρ E)
include hE hcon
theorem zjP{s:List Assign}{x:Int}(hl:s.length<=100000)(hs:HS):CallOk ρ Tryz.prog 110 [enc s,enc x] hs (enc (znj s x)) hs:=by
 refine fn hρ hE hcon Tryz.func110 zFC rfl (by simp) ?_ hs;generalize hr:znj s x=r;simp [hE]
 refine lpi hρ hE hcon s.length (nn:=0) (fun i (_:Unit)=>[(0,.sl (s.map zau) false),(1,.int .i64 x),(5,.int .i64 (i:Int))]) (fun i _=>[]) (fun i _=>znj (s.drop i) x=r) ()
  (Less.auto (by simp) (by simp) (by simp) (by simp)) (by simpa using hr) ?_ ?_
 . intro _ h K;rw[List.drop_length]at h;have h:false=r:=h;simp [zkl,hE];refine LessQ.mk (Less.auto (TL:=[]) (HL:=[]) (n:=0) (by simp) (by simp) (by simp) (by simp)) ?_;simp [hE,<- h]
 . intro i _ hi h K hK;have hi':(i:Int)<s.length:=by omega
   have hw2:IntKind.i64.wrap ((i:Int)+1)=((i+1:Nat):Int):=zJ (by omega);have hm5:(i*6) / 6=i:=by omega
   have hm6:(i*6) % 6=0:=by omega
   rw[List.drop_eq_getElem_cons hi,znj,List.any_cons]at h;by_cases he:s[i].id=x
   . rw[show decide (s[i].id=x)=true by simpa using he,Bool.true_or]at h;simp [zkl,hE,hi,hi',hm5,hm6,he];refine LessQ.mk (Less.auto (TL:=[(4,.bool true)]) (HL:=[]) (n:=0) (by simp) (by simp) (by simp) (by simp)) ?_;simp [hE,<- h]
   . rw[show decide (s[i].id=x)=false by simpa using he,Bool.false_or]at h;have hnew:=hK () h;simp [zkl,hE,hi,hi',hm5,hm6,he,hw2,-Int.natCast_add];exact hnew _ _ (Less.auto (by simp[-Int.natCast_add]) (by simp) (by simp) (by simp))
theorem zhx(hc:E.con 28=fnS (zW (zkW 10000))){s:List Assign}{t:Ty}(h1:t.ok=true)(h2:t.size<=10000)(h3:s.length<=100000)(hs:HS):CallOk ρ Tryz.prog 111 [enc s,enc t] hs (enc (t.repl s)) hs:=by
 refine fn hρ hE hcon Tryz.func111 zFB rfl (by simp) ?_ hs;have hF:zkW 10000 t s=some (t.repl s):=if_pos ⟨h1,h2,h3⟩;generalize t.repl s=r at hF;simp [hE,hc,hF]
theorem zhw {d:Nat} (hc:E.con 89=fnS (zaA (rmF d))) (hh:E.con 110=zhF) (ha:E.con 111=zfJ) (heq:E.con 40=zjk)
 {p t:Ty} {L:List Assign} (hpo:p.ok=true) (hto:t.ok=true) (hL:aok L) (hlen:L.length+p.size<=8000) (hd:p.size<=d+1) (hs:HS):CallOk ρ Tryz.prog 89 [enc p,enc t,enc L] hs (enc (rmM p t L)) hs:=by
 refine fn hρ hE hcon Tryz.func89 zMM rfl (by simp) ?_ hs;have hl1:L.length<=100000:=by omega
 have hl2:p.size<=10000:=by omega
 have hszp:=Ty.size_eq p;have hpl:=Ty.ok_len hpo;have hE2:=zlr p t L;by_cases hk:p.kind=1
 . rw [if_pos hk]at hE2;have hrep:p.repl L=(zaW L p.id).getD p:=by rw[zhl,if_pos hk]
   have hro:(p.repl L).ok=true:=by
    rw[hrep]
    cases hl:zaW L p.id with
    |none=>exact hpo
    |some u=>obtain⟨a,ha,rfl⟩:=zrA hl;exact hL a ha
   have hA:zoL L p=some (p.repl L):=if_pos ⟨hpo,hl2,hl1⟩;have hH:zzB L p.id=some (znj L p.id):=if_pos hl1;clear hrep;obtain⟨pk,pn,pi,ph,pa⟩:=p;simp only[Ty.kind_mk]at hk;subst hk;simp only[Ty.id_mk]at hH hE2;by_cases hh1:znj L pi=true
   . rw[hh1]at hH;rw[if_pos hh1]at hE2;generalize (Ty.mk 1 pn pi ph pa).repl L=u at hro hA hE2;by_cases hu:u=t
     . subst hu;have hres:rmM (.mk 1 pn pi ph pa) u L=(L,true):=by unfold rmM;rw[hE2];simp
       rw[hres];simp [hE,hh,zhF,hH,ha,zfJ,hA,heq,zjk,hro]
     . obtain⟨uk,un,ui,uh,ua⟩:=u;obtain⟨tk,tn,ti,th,ta⟩:=t;have hres:rmM (.mk 1 pn pi ph pa) (.mk tk tn ti th ta) L=([],false):=by unfold rmM;rw[hE2];simp[hu]
       rw[hres];simp only[Ty.mk.injEq]at hu;simp [hE,hh,zhF,hH,ha,zfJ,hA,heq,zjk,hro,hu]
   . have hh2:znj L pi=false:=by simpa using hh1
     rw[hh2]at hH;rw[if_neg hh1]at hE2;have hres:rmM (.mk 1 pn pi ph pa) t L=(L++[⟨pi,t⟩],true):=by unfold rmM;rw[hE2];simp
     rw[hres];by_cases hL0:L=[]
     . subst hL0;simp [hE,hh,zhF,hH]
     . have h72:L.length*72<=1048576:=Nat.le_trans (Nat.mul_le_mul_right 72 (show L.length<=8000 by omega)) (by decide);have h73:(L.length+1)*72<=1048576:=Nat.le_trans (Nat.mul_le_mul_right 72 (show L.length+1<=8001 by omega)) (by decide);have hz:¬ L.length=0:=fun e=>hL0 (List.eq_nil_of_length_eq_zero e)
       simp [hE,hh,zhF,hH,hL0,hz,h72,h73,Nat.not_succ_le_self]
 . rw [if_neg hk]at hE2;by_cases hsame:p.same t=true
   . obtain⟨e1,e2,e3,e4,e5⟩:=same_iff.1 hsame;have hres:rmM p t L=rmL p.args t.args L:=by unfold rmM rmL;rw[hE2,if_pos hsame]
     rw[hres];have e5':(p.args.length:Int)=t.args.length:=by omega
     have hk2:¬ t.kind=1:=by rw[<- e1];exact hk
     simp [hE,hk,e1,e2,e3,e4,e5,e5',hk2]
     refine lpi hρ hE hcon p.args.length (nn:=2) (fun i (X:List Assign×Bool)=>[(2,.sl (X.1.map zau) false),(3,.ptr 0 0 0),(4,.ptr 1 0 0),(8,.bool X.2),(9,.int .i64 (i:Int))]) (fun i _=>[(0,box (zw p)),(1,box (zw t))])
      (fun i X=>rmL p.args t.args L=(if X.2=true then rmL (p.args.drop i) (t.args.drop i) X.1 else ([],false))/\aok X.1/\X.1.length+Ty.sizes (p.args.drop i)<=L.length+Ty.sizes p.args) (L,true)
      (Less.auto (by simp) (by simp[e1,e2,e3,e4]) rfl rfl) ⟨by simp,hL,by simp⟩ ?_ ?_
     . rintro ⟨R,b⟩ ⟨h1,h2,h3⟩ K;simp only[List.drop_length]at h1
       cases b with
       | false =>
         rw[if_neg (show ¬ false=true by decide)]at h1;rw[h1];simp [zlC,hE];refine LessQ.mk (Less.auto (TL:=[(8,.bool false)]) (HL:=[]) (n:=0) (by simp) (by simp) rfl rfl) ?_;simp [hE]
       | true =>
         rw[if_pos rfl,show rmL [] (t.args.drop p.args.length) R=(R,true) by unfold rmL;rw[zr6];rfl]at h1;rw[h1];simp [zlC,hE];refine LessQ.mk (Less.auto (TL:=[(2,.sl (R.map zau) false),(8,.bool true)]) (HL:=[]) (n:=0) (by simp) (by simp) rfl rfl) ?_;simp [hE]
     . rintro i ⟨R,b⟩ hi ⟨h1,h2,h3⟩ K hK;simp only at h1 h2 h3;have hi':(i:Int)<p.args.length:=by omega
       have hw2:IntKind.i64.wrap ((i:Int)+1)=((i+1:Nat):Int):=zJ (by omega);have hm5:(i*5) / 5=i:=by omega
       have hm6:(i*5) % 5=0:=by omega
       cases b with
       | false =>
         rw[if_neg (show ¬ false=true by decide)]at h1;rw[h1];simp [zlC,hE,hi,hi'];refine LessQ.mk (Less.auto (TL:=[(8,.bool false)]) (HL:=[]) (n:=0) (by simp) (by simp) rfl rfl) ?_;simp [hE]
       | true =>
         have hit:i<t.args.length:=by omega
         have hit':(i:Int)<t.args.length:=by omega
         rw[if_pos rfl,List.drop_eq_getElem_cons hi,List.drop_eq_getElem_cons hit,zxa]at h1;rw[List.drop_eq_getElem_cons hi,Ty.sizes]at h3;have hmp:=List.getElem_mem hi;have hmt:=List.getElem_mem hit;have hsp:=Ty.size_mem hmp;have hF:rmF d p.args[i] t.args[i] R=some (rmM p.args[i] t.args[i] R):=if_pos ⟨Ty.ok_arg hpo hmp,Ty.ok_arg hto hmt,h2,by omega,by omega⟩;have hml:=zEA (p:=p.args[i]) (t:=t.args[i]) (s:=R);have hma:=zEC (p:=p.args[i]) (t:=t.args[i]) (s:=R) (Ty.ok_arg hto hmt) h2
         have hrr:aok (rmM p.args[i] t.args[i] R).1/\(rmM p.args[i] t.args[i] R).1.length<=R.length+p.args[i].size:=by
          unfold rmM;by_cases hb:(mtM p.args[i] t.args[i] R).2=true
          . rw[if_pos hb];exact⟨hma,hml.2⟩
          . rw[if_neg hb];exact⟨fun a ha=>(by cases ha),Nat.zero_le _⟩
         rcases hq:rmM p.args[i] t.args[i] R with⟨R2,b2⟩;rw[hq]at hF h1 hrr;simp only at h1 hrr;have hnew:=hK (R2,b2) ⟨h1,hrr.1,by show R2.length+_<=_;omega⟩;generalize hpx:p.args[i]=px at hF;generalize htx:t.args[i]=tx at hF;simp [zlC,hE,hi,hi',hit,hit',hm5,hm6,hpx,htx,hc,hF,hw2,-Int.natCast_add];exact hnew _ _ (Less.auto (by simp[-Int.natCast_add]) (by simp) rfl rfl)
   . rw [if_neg hsame]at hE2;have hres:rmM p t L=([],false):=by unfold rmM;rw[hE2];simp
     rw[hres];have hns:¬ (p.kind=t.kind/\p.name=t.name/\p.id=t.id/\p.home=t.home/\p.args.length=t.args.length):=fun h=>hsame (same_iff.2 h)
     by_cases e1:p.kind=t.kind
     . by_cases e2:p.name=t.name
       . by_cases e3:p.id=t.id
         . by_cases e4:p.home=t.home
           . have e5:¬ p.args.length=t.args.length:=fun h=>hns ⟨e1,e2,e3,e4,h⟩
             have e5':¬ (p.args.length:Int)=t.args.length:=by omega
             have hk2:¬ t.kind=1:=by rw[<- e1];exact hk
             simp [hE,hk,hk2,e1,e2,e3,e4,e5,e5']
           . have hk2:¬ t.kind=1:=by rw[<- e1];exact hk
             simp [hE,hk,hk2,e1,e2,e3,e4]
         . have hk2:¬ t.kind=1:=by rw[<- e1];exact hk
           simp [hE,hk,hk2,e1,e2,e3]
       . have hk2:¬ t.kind=1:=by rw[<- e1];exact hk
         simp [hE,hk,hk2,e1,e2]
     . simp [hE,hk,e1]
theorem zhv{d:Nat}(hc:E.con 89=fnS (zaA (rmF d))){p t:Ty}{L R:List Assign}{b:Bool}(hF:rmF d p t L=some (R,b))(hs:HS):CallOk ρ Tryz.prog 70 [enc p,enc t,enc L] hs (enc (R,b)) hs:=by
 refine fn hρ hE hcon Tryz.func70 zQT rfl (by simp) ?_ hs;simp [hE,hc,hF]
theorem zjO{d:Nat}(hc:E.con 70=fnS (zaA (rmF d))){a b:Ty}{R:List Assign}{q:Bool}(hF:rmF d b a []=some (R,q))(hs:HS):CallOk ρ Tryz.prog 49 [enc a,enc b] hs (enc q) hs:=by
 refine fn hρ hE hcon Tryz.func49 zRf rfl (by simp) ?_ hs;simp [hE,hc,hF]
theorem zfZ(hL:E.con 49=zxb){a b:Ty}(ha:a.ok=true)(hb:b.ok=true)(h1:a.size<=8000)(h2:b.size<=8000)(hs:HS):CallOk ρ Tryz.prog 19 [enc a,enc b] hs (enc (zqh a b&&zqh b a)) hs:=by
 refine fn hρ hE hcon Tryz.func19 zRu rfl (by simp) ?_ hs;obtain⟨x,hx⟩:∃ x,zqh a b=x:=⟨_,rfl⟩;obtain⟨y,hy⟩:∃ y,zqh b a=y:=⟨_,rfl⟩;obtain⟨ak,an,ai,ah,al⟩:=a;obtain⟨bk,bn,bi,bh,bl⟩:=b;cases x<;>cases y<;>simp [hE,hL,zxb,zDJ,ha,hb,h1,h2,hx,hy]
end
theorem zCW:Valid ρ Tryz.prog 110 zhF:=v2 (fo Tryz.func110 zFC) fun a b r h hs=>by
 obtain⟨h1,rfl⟩:=zV h;exact zjP hρ (E:=EL []) rfl (zu valid_nil) h1 hs
theorem zwv:Valid ρ Tryz.prog 111 zfJ:=v2 (fo Tryz.func111 zFB) fun a b r h hs=>by
 obtain⟨⟨h1,h2,h3⟩,rfl⟩:=zV h;exact zhx hρ (E:=EL [(28,fnS (zW (zkW 10000)))]) rfl (zu (zq (zwp hρ 10000) valid_nil)) rfl h1 h2 h3 hs
theorem zwr(d:Nat):Valid ρ Tryz.prog 89 (fnS (zaA (rmF d))):=by
 induction d with
 | zero =>
   refine v3 (fo Tryz.func89 zMM) fun a b c r h hs=>?_
   obtain⟨⟨h1,h2,h3,h4,h5⟩,rfl⟩:=zV h;have:=Ty.size_pos a;omega
 | succ d ih =>
   refine v3 (fo Tryz.func89 zMM) fun a b c r h hs=>?_
   obtain⟨⟨h1,h2,h3,h4,h5⟩,rfl⟩:=zV h
   exact zhw hρ (E:=EL [(89,fnS (zaA (rmF d))),(110,zhF),(111,zfJ),(40,zjk)]) rfl
    (zu (zq ih (zq (zCW hρ) (zq (zwv hρ) (zq (zyW hρ) valid_nil))))) rfl rfl rfl rfl h1 h2 h3 h4 h5 hs
theorem zwq(d:Nat):Valid ρ Tryz.prog 70 (fnS (zaA (rmF d))):=v3 (fo Tryz.func70 zQT) fun a b c r h hs=>by
 obtain⟨R,q⟩:=r;exact zhv hρ (E:=EL [(89,fnS (zaA (rmF d)))]) rfl (zu (zq (zwr hρ d) valid_nil)) rfl h hs
theorem zCT:Valid ρ Tryz.prog 49 zxb:=v2 (fo Tryz.func49 zRf) fun a b r h hs=>by
 obtain⟨⟨h1,h2,h3⟩,rfl⟩:=zV h
 have hF:rmF 8000 b a []=some ((rmM b a []).1,zqh a b):=by
  unfold rmF;rw[if_pos ⟨h1,h2,fun a ha=>(by cases ha),by simpa using h3,h3⟩];unfold rmM zqh;split
  . rfl
  . rename_i h;rw[show (mtM b a []).2=false by simpa using h]
 exact zjO hρ (E:=EL [(70,fnS (zaA (rmF 8000)))]) rfl (zu (zq (zwq hρ 8000) valid_nil)) rfl hF hs
def zgE:J.Spec:=fnS (zW fun a b:Ty=>if a.ok=true/\b.ok=true/\a.size<=8000/\b.size<=8000 then some (zqh a b&&zqh b a)else none)
theorem zwm:Valid ρ Tryz.prog 19 zgE:=v2 (fo Tryz.func19 zRu) fun a b r h hs=>by
 obtain⟨⟨h1,h2,h3,h4⟩,rfl⟩:=zV h;exact zfZ hρ (E:=EL [(49,zxb)]) rfl (zu (zq (zCT hρ) valid_nil)) rfl h1 h2 h3 h4 hs
end
end Go.Proofs.YtfgmnebfhemnpaaGreat
