import Derived.Test.YtfloillkpbhhhaaGreatNK4
import Derived.Test.YtfloillkpbhhhaaGreatJK11
import Derived.Test.YtfloillkpbhhhaaGreatJK12
import Derived.Test.YtfloillkpbhhhaaGreatJK10
import Derived.Test.YtfloillkpbhhhaaGreatNK3
import Derived.Test.YtfloillkpbhhhaaGreatJK9
set_option linter.all false
noncomputable section
namespace Go.Proofs.YtfloillkpbhhhaaGreat
open Go.J
open Go.J.bo (enc)
set_option maxRecDepth 100000
set_option maxHeartbeats 4000000
variable {F:(Z Nat)->Y Bool}{r:Bool}{Q:Ex->PT V->HS->Prop}{g r0 t t0 t2 y:G}{C:HS}{ek h:Int}{s s':MS}{a a0 a1 a2 b b0 b1 b2 d f i k kk m:Nat}{T:PT V}{c sc:Scheme}{v:V}{q:V×MS×Z G}{e hd k0 x:Xp}{X cq:Z Am}{Gz nR tr fc cC:Z Change}{D:Z Decl}{tA l l0 l2 l3 cN:Z G}{en n:Z Nat}{sl dj dv cV:Z Slot}{cS ks:Z Xp}
inductive Vl:Xp->Prop
 |mk {e:Xp}:E5 e->(∀ x∈BX e,Vl x)->Vl e
theorem Vl.L5(h:Vl e):E5 e:=by cases h;assumption
theorem Vl.ch(h:Vl e):∀ x∈BX e,Vl x:=by cases h;assumption
def Wf.vl(h:Wf D e):Vl e:=by
 induction h with
 |mk M _ _ ih=>exact .mk M ih
theorem zhs(h:Hp n=true):n.length<=12:=by
 unfold Hp at h;rw[G.valid]at h;simp only[aW]at h;grind [BL]
theorem MK(h:jC n=true):n.length<=12:=by
 unfold jC at h;grind
def zat:(G.mk 5 n 0 0 []).valid=jC n:=by
 rw[G.valid];simp
def zAK:J.Spec:=dC (cz λn:Z Nat=>if n.length<=12 then some (Hp n)else none)
def SW:J.Spec:=dC (cz λn:Z Nat=>if n.length<=12 then some (jC n)else none)
def SZ(n:Z Nat):Y Bool:=if n.length<=12 then some (!jC n)else none
open Classical in
def W8(d:Nat)(e:Xp):Y Bool:=if e.depth<=d/\Vl e then some true else none
open Classical in
def zng(d:Nat)(e:Xp):Y Bool:=if e.depth<=d/\Vl e then some false else none
def zkV(g:Nat)(F:(Z Nat)->Y Bool)(vs:Z V):Y V:=match vs with
 | [a,.func g' []]=>gd (Nat.beq g' g) (ob (bo.dec a:Y (Z (Z Nat))) λl=>if l.length<=100000/\∀ x∈l,(F x).isSome=true then some (enc (gY (λx=>(F x).getD false) l 0))else none)
 |_=>none
def Zs(g:Nat)(F:(Z Nat)->Y Bool)(vs:Z V):Y V:=match vs with
 | [a,.func g' []]=>gd (Nat.beq g' g) (ob (bo.dec a:Y (Z (Z Nat))) λl=>if l.length<=100000/\∀ x∈l,(F x).isSome=true then some (enc (l.any λx=>(F x).getD false))else none)
 |_=>none
section
variable {I:Nat->Value}(hρ:J.Good I)
include hρ
section
variable {E:Env}(U:E.P=Pg)(aq:bK I E)
include U aq
def ztI(hc:E.dA 112=dC (cz F)){l:Z (Z Nat)}(hl:l.length<=100000)(b7:∀ x∈l,(F x).isSome=true)(C:HS) :
 aS I Pg 191 [enc l,.func 112 []] C (enc (gY (λx=>(F x).getD false) l 0)) C:=by
 refine fn hρ U aq Tryz.func191 lu.2 rfl (by simp) ?_ C;generalize hr:gY (λx=>(F x).getD false) l 0=r;simp[U]
 refine rA hρ U aq l.length (nn:=0) (λi (_:Unit)=>[(0,.sl (l.map b5) false),(1,.func 112 []),(7,.int .i64 (l.length:Int)),(8,.int .i64 (i:Int))]) (λi _=>[]) (λi _=>gY (λx=>(F x).getD false) (l.drop i) (i:Int)=r) ()
  (aw.auto) (by simpa using hr) ?_ ?_
 intro _ h K;rw[bz,gY]at h;simp[jV,U];refine bM.mk (aw.auto (TL:=[]) (HL:=[]) (n:=0)) ?_;simp[U,<- h];intro i _ hi h K hK;have cm:(i:Int)<l.length:=by omega
 have cr:=bG (i:=i);have Aj:(i*1) / 1=i:=by omega
 let⟨q,hq⟩:=bQ.1 (b7 l[i] (ax hi));rw[aG hi,gY,hq]at h;simp only[eD]at h
 cases q with
 | true =>rw[if_pos rfl]at h;simp[jV,U,hi,cm,Aj,hc,hq];refine bM.mk (aw.auto (TL:=[(4,.int .i64 (i:Int))]) (HL:=[]) (n:=0)) ?_;simp[U,<- h]
 | false =>
   rw[if_neg (by decide)]at h;have aE:=hK () h;simp[jV,U,hi,cm,Aj,hc,hq,cr,-Int.natCast_add];exact aE _ _ (aw.auto)
theorem zuD(hc:E.dA 191=dC (zkV 112 F)){l:Z (Z Nat)}(hl:l.length<=100000)(b7:∀ x∈l,(F x).isSome=true)(C:HS) :
 aS I Pg 111 [enc l,.func 112 []] C (enc (l.any λx=>(F x).getD false)) C:=by
 refine fn hρ U aq Tryz.func111 nY.2 rfl (by simp) ?_ C;have rK:=AZ (λx=>(F x).getD false) l 0 (fM _);have hv:zkV 112 F [enc l,.func 112 []]=some (enc (gY (λx=>(F x).getD false) l 0)):=by unfold zkV;simp_all
 simp_all
end
def zKl(hv:Valid I Pg 112 (dC (cz F))):Valid I Pg 191 (dC (zkV 112 F)):=Valid.dC (fo Tryz.func191 lu.2) λvs v h C=>by
 unfold zkV at h;split at h;simp only[bI,J.beq_true,aC]at h;obtain⟨rfl,l,hl,h⟩:=h;obtain⟨⟨M,O⟩,rfl⟩:=bF h;rw[bo.bB _ _ hl];exact ztI hρ (E:=EL [(112,dC (cz F))]) rfl (aj (ae hv aH)) rfl M O C;cases h
def zKt(hv:Valid I Pg 112 (dC (cz F))):Valid I Pg 111 (dC (Zs 112 F)):=Valid.dC (fo Tryz.func111 nY.2) λvs v h C=>by
 unfold Zs at h;split at h;simp only[bI,J.beq_true,aC]at h;obtain⟨rfl,l,hl,h⟩:=h;obtain⟨⟨M,O⟩,rfl⟩:=bF h;rw[bo.bB _ _ hl];exact zuD hρ (E:=EL [(191,dC (zkV 112 F))]) rfl (aj (ae (zKl hρ hv) aH)) rfl M O C;cases h
end
def zkU(g:Nat)(F:Xp->Y Bool)(vs:Z V):Y V:=match vs with
 | [a,.func g' []]=>gd (Nat.beq g' g) (ob (bo.dec a:Y (Z Xp)) λl=>if l.length<=100000/\∀ x∈l,(F x).isSome=true then some (enc (gY (λx=>(F x).getD false) l 0))else none)
 |_=>none
def zlC(g:Nat)(F:Xp->Y Bool)(vs:Z V):Y V:=match vs with
 | [a,.func g' []]=>gd (Nat.beq g' g) (ob (bo.dec a:Y (Z Xp)) λl=>if l.length<=100000/\∀ x∈l,(F x).isSome=true then some (enc (l.any λx=>(F x).getD false))else none)
 |_=>none
section
variable {I:Nat->Value}(hρ:J.Good I)
include hρ
section
variable {E:Env}(U:E.P=Pg)(aq:bK I E)
include U aq
def ztH{F:Xp->Y Bool}(hc:E.dA 115=dC (cz F)){l:Z Xp}(hl:l.length<=100000)(b7:∀ x∈l,(F x).isSome=true)(C:HS) :
 aS I Pg 192 [enc l,.func 115 []] C (enc (gY (λx=>(F x).getD false) l 0)) C:=by
 refine fn hρ U aq Tryz.func192 gq.2 rfl (by simp) ?_ C;generalize hr:gY (λx=>(F x).getD false) l 0=r;simp[U]
 refine rA hρ U aq l.length (nn:=0) (λi (_:Unit)=>[(0,.sl (l.map bP) false),(1,.func 115 []),(7,.int .i64 (l.length:Int)),(8,.int .i64 (i:Int))]) (λi _=>[]) (λi _=>gY (λx=>(F x).getD false) (l.drop i) (i:Int)=r) ()
  (aw.auto) (by simpa using hr) ?_ ?_
 intro _ h K;rw[bz,gY]at h;simp[eB,U];refine bM.mk (aw.auto (TL:=[]) (HL:=[]) (n:=0)) ?_;simp[U,<- h];intro i _ hi h K hK;have cm:(i:Int)<l.length:=by omega
 have cr:=bG (i:=i);have Aj:(i*11) / 11=i:=by omega
 let⟨q,hq⟩:=bQ.1 (b7 l[i] (ax hi));rw[aG hi,gY,hq]at h;simp only[eD]at h
 cases q with
 | true =>rw[if_pos rfl]at h;simp[eB,U,hi,cm,Aj,hc,hq];refine bM.mk (aw.auto (TL:=[(4,.int .i64 (i:Int))]) (HL:=[]) (n:=0)) ?_;simp[U,<- h]
 | false =>
   rw[if_neg (by decide)]at h;have aE:=hK () h;simp[eB,U,hi,cm,Aj,hc,hq,cr,-Int.natCast_add];exact aE _ _ (aw.auto)
theorem zuC{F:Xp->Y Bool}(hc:E.dA 192=dC (zkU 115 F)){l:Z Xp}(hl:l.length<=100000)(b7:∀ x∈l,(F x).isSome=true)(C:HS) :
 aS I Pg 113 [enc l,.func 115 []] C (enc (l.any λx=>(F x).getD false)) C:=by
 refine fn hρ U aq Tryz.func113 gU.2 rfl (by simp) ?_ C;have rK:=AZ (λx=>(F x).getD false) l 0 (fM _);have hv:zkU 115 F [enc l,.func 115 []]=some (enc (gY (λx=>(F x).getD false) l 0)):=by unfold zkU;simp_all
 simp_all
end
def zKk{F:Xp->Y Bool}(hv:Valid I Pg 115 (dC (cz F))):Valid I Pg 192 (dC (zkU 115 F)):=Valid.dC (fo Tryz.func192 gq.2) λvs v h C=>by
 unfold zkU at h;split at h;simp only[bI,J.beq_true,aC]at h;obtain⟨rfl,l,hl,h⟩:=h;obtain⟨⟨M,O⟩,rfl⟩:=bF h;rw[bo.bB _ _ hl];exact ztH hρ (E:=EL [(115,dC (cz F))]) rfl (aj (ae hv aH)) rfl M O C;cases h
def zKs{F:Xp->Y Bool}(hv:Valid I Pg 115 (dC (cz F))):Valid I Pg 113 (dC (zlC 115 F)):=Valid.dC (fo Tryz.func113 gU.2) λvs v h C=>by
 unfold zlC at h;split at h;simp only[bI,J.beq_true,aC]at h;obtain⟨rfl,l,hl,h⟩:=h;obtain⟨⟨M,O⟩,rfl⟩:=bF h;rw[bo.bB _ _ hl];exact zuC hρ (E:=EL [(192,dC (zkU 115 F))]) rfl (aj (ae (zKk hρ hv) aH)) rfl M O C;cases h
section
variable {E:Env}(U:E.P=Pg)(aq:bK I E)
include U aq
def zxv(hV:E.dA 102=oM 10)(hn:n.length<=12)(C:HS):aS I Pg 107 [enc n] C (enc (Hp n)) C:=by
 refine fn hρ U aq Tryz.func107 O9.2 rfl (by simp) ?_ C;have M:(G.mk 4 n 0 0 []).size<=10/\(G.mk 4 n 0 0 []).short=true:=⟨by simp[G.size,G.bj],by simp[G.short,G.su];omega⟩;have hu:(G.mk 4 n 0 0 []).valid=Hp n:=rfl;generalize Hp n=b at hu;simp[U,hV,oM,M.1,M.2,hu]
def ztw(hV:E.dA 102=oM 10)(hn:n.length<=12)(C:HS):aS I Pg 108 [enc n] C (enc (jC n)) C:=by
 refine fn hρ U aq Tryz.func108 Pb.2 rfl (by simp) ?_ C;have M:(G.mk 5 n 0 0 []).size<=10/\(G.mk 5 n 0 0 []).short=true:=⟨by simp[G.size,G.bj],by simp[G.short,G.su];omega⟩;have hu:(G.mk 5 n 0 0 []).valid=jC n:=zat;generalize jC n=b at hu;simp[U,hV,oM,M.1,M.2,hu]
def zsn(hL:E.dA 108=SW)(hn:n.length<=12)(C:HS):aS I Pg 112 [enc n] C (enc (!jC n)) C:=by
 refine fn hρ U aq Tryz.func112 Ke.2 rfl (by simp) ?_ C;simp[U,hL,SW,hn]
theorem zsm(hV:E.dA 57=dC (cz (W8 d)))(hd:e.depth<=d)(hv:Vl e)(C:HS):aS I Pg 115 [enc e] C (enc false) C:=by
 refine fn hρ U aq Tryz.func115 Kc.2 rfl (by simp) ?_ C;have hF:W8 d e=some true:=if_pos ⟨hd,hv⟩;simp_all
theorem zO8 (hU:E.dA 107=zAK) (E6:E.dA 111=dC (Zs 112 SZ))     (Wk:∀ a∈cq,a.pos=0/\Hp a.dA=true/\a.vars.length<=4/\∀ v∈a.vars,jC v=true) (s4:cq.length<=100) {sz:Nat} (cd:sz=158)   
 (hT:aw 0 T C (dP [(1,.ptr 0 0 0),(127,.sl (cq.map dW) false),(128,.int .i64 (cq.length:Int)),(129,.int .i64 ((0:Nat):Int))]) { H:=dP [(0,.arr 11 0 [[.int .i64 ek,.int .i64 0,.str en,.int .i64 0,.sl (cS.map bP) false,.sl (cq.map dW) false,.int .i64 0,.str [],.int .i64 0,.int .i64 0,.sl [] false]] true false false)],n:=1,log:=[] })
 (hQ:Q (.exit 2) (dP [(1,.ptr 0 0 0)]) { H:=dP [(0,.arr 11 0 [[.int .i64 ek,.int .i64 0,.str en,.int .i64 0,.sl (cS.map bP) false,.sl (cq.map dW) false,.int .i64 0,.str [],.int .i64 0,.int .i64 0,.sl [] false]] true false false)],n:=1,log:=[] }):Ls I E 0 sz (.loop Cf) T C Q:=by
 subst cd;refine rA hρ U aq cq.length (nn:=1) (λi (_:Unit)=>[(1,.ptr 0 0 0),(127,.sl (cq.map dW) false),(128,.int .i64 (cq.length:Int)),(129,.int .i64 (i:Int))]) (λi _=>[(0,.arr 11 0 [[.int .i64 ek,.int .i64 0,.str en,.int .i64 0,.sl (cS.map bP) false,.sl (cq.map dW) false,.int .i64 0,.str [],.int .i64 0,.int .i64 0,.sl [] false]] true false false)]) (λi _=>True) () hT trivial ?_ ?_;intro _ _ K;simp[Cf,U];exact bM.mk (aw.auto) hQ;intro i _ hi _ K hK;have cm:(i:Int)<cq.length:=by omega
 have cr:=bG (i:=i);have m1:i*14 / 14=i:=by omega
 have aE:=hK () trivial;let⟨M,O,h3,h4⟩:=Wk _ (ax hi);obtain⟨a,ha⟩:∃ a,cq[i]=a:=⟨_,rfl⟩;rw[ha]at M O h3 h4;have ew:=zhs O
 have lz:Zs 112 SZ [enc a.vars,.func 112 []]=some (.bool false):=by
  unfold Zs;show gd (Nat.beq _ _) (ob (bo.dec (enc a.vars)) _)=_;rw[bo.dD,J.beq_true.2 rfl];show (if _ then _ else _)=_;rw[if_pos ⟨by omega,λv hv=>by unfold SZ;rw[if_pos (MK (h4 v hv))];rfl⟩];have:(a.vars.any λx=>(SZ x).getD false)=false:=by rw[uj];intro v hv;unfold SZ;grind
  rw[this];rfl
 let⟨ap,ac,av,⟨bk,bp,bn,bm,OY,O1,⟨Lk,Lo,K2,K1,Ln⟩⟩⟩:=a;simp only[Am.pos_mk,Am.JW,Am.AQ]at M O h3 ew lz;subst M;have h3':¬ (4:Int)<av.length:=by omega
 simp at lz;simp[Cf,U,hi,cm,m1,ha,ik,hU,zAK,ew,O,h3',E6,lz,cr,-Int.natCast_add];exact aE _ _ (aw.auto)
theorem zxx(hU:E.dA 107=zAK)(hLo:E.dA 108=SW)(hEq:E.dA 110=AR)(E6:E.dA 111=dC (Zs 112 SZ))(Vc:E.dA 114=dC (cz WD))(hCX:E.dA 113=dC (zlC 115 (zng d)))(hd:e.depth<=d+1)(hv:Vl e)(C:HS):aS I Pg 57 [enc e] C (enc true) C:=by
 refine fn hρ U aq Tryz.func57 CW.2 rfl (by simp) ?_ C;have lE:=hv.L5;have hlen:=yu lE;have CP:WD e=some (BX e):=if_pos ⟨by omega,by omega,hlen.2.2⟩;have ew:(BX e).length<=1000:=by unfold BX;rw[aR,aN];omega
 have lz:zlC 115 (zng d) [enc (BX e),.func 115 []]=some (.bool false):=by have b7:∀ x∈BX e,zng d x=some false:=λx W=>if_pos ⟨by have:=F9 W;omega,hv.ch x W⟩;unfold zlC;show gd (Nat.beq _ _) (ob (bo.dec (enc (BX e))) _)=_;rw[bo.dD,J.beq_true.2 rfl];show (if _ then _ else _)=_;rw[if_pos ⟨by omega,λx W=>by rw[b7 x W];rfl⟩];simp_all
 have hz:AR [.agg [.int .i64 0,.str [],.int .i64 0,.int .i64 0,.sl [] false],.agg [.int .i64 0,.str [],.int .i64 0,.int .i64 0,.sl [] false]] C=AR [.agg [.int .i64 0,.str [],.int .i64 0,.int .i64 0,.sl [] false],.agg [.int .i64 0,.str [],.int .i64 0,.int .i64 0,.sl [] false]] C:=rfl;obtain⟨cl,zGd⟩:∃ cl,BX e=cl:=⟨_,rfl⟩;rw[zGd]at CP lz;let⟨qe,fW,ht0,sA,ya⟩:=lE;clear ew hz hv zGd;have zpf:(G.mk 0 [] 0 0 []).ok=true:=rfl;let⟨ek,ep,en,em,cS,cq,et⟩:=e;simp only[Xp.fH,Xp.pos_mk,Xp.j4,Xp.U2,Xp.kL,Xp.lh,Xp.Nu]at qe fW ht0 sA ya hlen;subst qe fW ht0;have Pu:=λek en T C Q=>zO8 hρ U aq hU E6 (ek:=ek) (en:=en) (cS:=cS) (cq:=cq) ya hlen.2.1 (sz:=158) rfl (T:=T) (C:=C) (Q:=Q);simp[wI,bq]at CP lz;rcases sA with⟨rfl,O,rfl,rfl⟩|⟨rfl,O,rfl,rfl⟩|⟨rfl,O,h3,rfl⟩|⟨rfl,rfl,h3,rfl⟩|⟨rfl,rfl,h3,h4,h5⟩;have fL:=MK O;simp[U,bq,wI,hLo,SW,fL,O,hEq,AR,zpf];refine Pu 1 en _ _ _ (aw.auto) ?_;simp_all;have fL:=zhs O;simp[U,bq,wI,hU,zAK,fL,O,hEq,AR,zpf];refine Pu 2 en _ _ _ (aw.auto) ?_;simp_all;have fL:=MK O;obtain⟨x,rfl⟩:=oU.1 h3;simp[U,bq,wI,hLo,SW,fL,O,hEq,AR,zpf];refine Pu 4 en _ _ _ (aw.auto) ?_;simp_all
 obtain⟨x,y,rfl⟩:∃ x y,cS=[x,y]:=by
  match cS,h3 with
  | [x,y],_=>exact⟨x,y,rfl⟩
 simp[U,bq,wI,hEq,AR,zpf];refine Pu 5 [] _ _ _ (aw.auto) ?_;simp_all;obtain⟨x,rfl⟩:=oU.1 h3;have h6:(0:Int)<cq.length:=by have:=bR.2 h4;omega
 have h7:¬ cq=[]:=h4;have h8:0<cq.length:=bR.2 h4;simp[U,bq,wI,h6,h7,h8,hEq,AR,zpf];refine Pu 8 [] _ _ _ (aw.auto) ?_;simp_all
end
def zO3:Valid I Pg 107 zAK:=v1 (fo Tryz.func107 O9.2) λa r h C=>by
 obtain⟨M,rfl⟩:=bF h;exact zxv hρ (E:=EL [(102,oM 10)]) rfl (aj (ae (TG hρ 10 (by omega)) aH)) rfl M C
def zDI:Valid I Pg 108 SW:=v1 (fo Tryz.func108 Pb.2) λa r h C=>by
 obtain⟨M,rfl⟩:=bF h;exact ztw hρ (E:=EL [(102,oM 10)]) rfl (aj (ae (TG hρ 10 (by omega)) aH)) rfl M C
def zKh:Valid I Pg 112 (dC (cz SZ)):=v1 (fo Tryz.func112 Ke.2) λa r h C=>by
 obtain⟨M,rfl⟩:=bF h;exact zsn hρ (E:=EL [(108,SW)]) rfl (aj (ae (zDI hρ) aH)) rfl M C
def zbT:∀ d,Valid I Pg 57 (dC (cz (W8 d)))
 | 0=>v1 (fo Tryz.func57 CW.2) λa r h C=>by obtain⟨⟨M,_⟩,rfl⟩:=bF h;have:=Xp.iY a;omega
 | d + 1=>v1 (fo Tryz.func57 CW.2) λa r h C=>by
   obtain⟨⟨M,O⟩,rfl⟩:=bF h;have od:Valid I Pg 115 (dC (cz (zng d))):=v1 (fo Tryz.func115 Kc.2) λa r h C=>by obtain⟨⟨M,O⟩,rfl⟩:=bF h;exact zsm hρ (E:=EL [(57,dC (cz (W8 d)))]) rfl (aj (ae (zbT d) aH)) rfl M O C
   exact zxx hρ (E:=EL [(107,zAK),(108,SW),(110,AR),(111,dC (Zs 112 SZ)),(114,dC (cz WD)),(113,dC (zlC 115 (zng d)))]) rfl
    (aj (ae (zO3 hρ) (ae (zDI hρ) (ae (zr4 hρ) (ae (zKt hρ (zKh hρ)) (ae (XN hρ) (ae (zKs hρ od) aH))))))) rfl rfl rfl rfl rfl rfl M O C
end
def uO(s:MS)(h:Int)(b:Bool):MS:=⟨some (match s.z with|none=>(0,0)|some (x,y)=>(x+1,y+1)),s.sl++[⟨false,wI,h,b⟩],s.tr++[⟨s.sl.length,⟨false,wI,0,false⟩,true⟩]⟩
def O7{b:Bool}(M:s.sl.length<=10000)(O:s.tr.length<=8000):zo s [.int .i64 h,.bool b]=some (enc (fU s.sl.length),uO s h b):=by
 unfold zo;show gd (et (Nat.ble (dB s.sl) 10000) (Nat.ble (dB s.tr) 8000)) _=_;rw[dH,dH,gM.2 M,gM.2 O];rfl
def jB(s:MS):Nat->MS
 | 0=>s
 |k+1=>uO (jB s k) 1000000 false
def FW(s:MS):∀ k,(jB s k).sl.length=s.sl.length+k
 | 0=>rfl
 | k+1=>by
   show ((jB s k).sl++[_]).length=_;rw[aR,FW s k];rfl
def FV(s:MS):∀ k,(jB s k).tr.length=s.tr.length+k
 | 0=>rfl
 | k+1=>by
   show ((jB s k).tr++[_]).length=_;rw[aR,FV s k];rfl
def dJ(i k:Nat):Z G:=(List.range k).map λj=>fU ((i+j:Nat):Int)
def Bj:(dJ i k).length=k:=by simp[dJ]
def EA{j:Nat}(h:j<(dJ i k).length):(dJ i k)[j]=fU ((i+j:Nat):Int):=by simp[dJ]
def sO(c:Scheme):Nat:=(min (max c.count 0) (c.type.size:Int)).toNat
def N7(i:Nat)(c:Scheme):G:=c.type.GH (nu (dJ i (sO c)))
def uz(n:MN)(zG2 zG1:J.Obj)(rw:J.Obj)(s:MS):Z (Nat×J.Obj):=match s.z with
 |none=>[(0,mN n.n),(1,zG2),(2,zG1),(3,rw)]
 |some (a,b)=>[(0,mB 1 2 s.sl s.tr ⟨a,b,n.n,n.h⟩),(1,mS s.sl ⟨a,b,n.n,n.h⟩),(2,mT s.tr ⟨a,b,n.n,n.h⟩),(3,zG2),(4,zG1),(5,rw)]
def uy(k i:Nat)(s:MS):Z (Nat×V):=match s.z with
 |none=>[(0,.ptr 0 0 0),(3,.ptr 1 0 0),(4,.ptr 2 0 0),(5,.own 3 0 0 k (some k)),(16,.int .i64 (k:Int)),(17,.int .i64 (i:Int))]
 |some _=>[(0,.ptr 0 0 0),(3,.ptr 3 0 0),(4,.ptr 4 0 0),(5,.own 5 0 0 k (some k)),(16,.int .i64 (k:Int)),(17,.int .i64 (i:Int))]
section
variable {I:Nat->Value}(hρ:J.Good I)
include hρ
section
variable {E:Env}(U:E.P=Pg)(aq:bK I E)
include U aq
theorem Wn(hF:E.dA 200=fu (DC 0 Fu))(hN:E.dA 104=dC (cz (xJ 1000000)))(hO:E.dA 235=Jv)
 {n:MN}     (eC:c.type.ok=true) (cd:c.type.size<=1000) (hl:dj.length+sO c<=10000) (ht:fc.length+sO c<=8000) :
 Wp I E 3 30 jR.1 ((PT.leaf.set 0 (.ptr 0 0 0)).set 1 (enc c)) { H:=dP (uC n ⟨some (a0,b0),dj,fc⟩),n:=3,log:=[] } (J.Leaves E.P Tryz.f165 (aJ 3 (enc (N7 dj.length c)) (uC n (jB ⟨some (a0,b0),dj,fc⟩ (sO c))))):=by
 let⟨n,hn⟩:=n;obtain⟨k,hk⟩:∃ k,sO c=k:=⟨_,rfl⟩;have mw:k<=1000:=by rw[<- hk];unfold sO;omega
 let⟨cc,ct⟩:=c;have lz:xJ 1000000 ct=some (ct.size:Int):=if_pos ⟨eC,by simp only at cd;omega,by omega⟩;obtain⟨m,hm⟩:∃ m,ct.size=m:=⟨_,rfl⟩;have Bm:(if (m:Int)<(if cc<0 then 0 else cc)then (m:Int)else (if cc<0 then 0 else cc))=(k:Int):=by rw[<- hk];unfold sO;grind
 have lP:N7 dj.length ⟨cc,ct⟩=ct.GH (nu (dJ dj.length k)):=by unfold N7;rw[hk]
 have r1:k*64<=1048576:=by omega
 have r2:k*5<=1048576:=by omega
 rw[hm]at lz;rw[lP,hk];rw[hk]at hl ht;have zla:=eC;simp only at zla cd;clear eC lP hk;obtain⟨q,hq⟩:∃ q,ct.GH (nu (dJ dj.length k))=q:=⟨_,rfl⟩;rw[hq];let⟨ck,cn,ci,ch,cl⟩:=ct;cases q;simp[U,hN,hn,lz,Bm,r1,r2,aK];have fL:(dJ dj.length k).length=k:=Bj;refine⟨rfl,?_⟩
 refine rA hρ U aq k (nn:=6) (λi (_:Nat×Nat×Z Slot×Z Change)=>[(0,.ptr 0 0 0),(3,.ptr 3 0 0),(4,.ptr 4 0 0),(5,.own 5 0 0 k (some k)),(16,.int .i64 (k:Int)),(17,.int .i64 (i:Int))])
  (λi st=>[(0,mB 1 2 st.2.2.1 st.2.2.2 ⟨st.1,st.2.1,n,hn⟩),(1,mS st.2.2.1 ⟨st.1,st.2.1,n,hn⟩),(2,mT st.2.2.2 ⟨st.1,st.2.1,n,hn⟩),(3,.arr 6 0 [[.int .i64 cc,.int .i64 ck,.str cn,.int .i64 ci,.int .i64 ch,.sl (cl.map aA) false]] true false false),(4,box Zl),(5,.arr 5 0 (nX (dJ dj.length k) k i) true false true)])
  (λi st=>jB ⟨some (a0,b0),dj,fc⟩ i=⟨some (st.1,st.2.1),st.2.2.1,st.2.2.2⟩) (a0,b0,dj,fc)
  (aw.auto (hH:=by simp[Ao,Zl])) rfl ?_ ?_
 rintro ⟨a,b,sl,tr⟩ hi K;simp only at hi;rw[hi,Aq fL];have lE:(dJ dj.length k).length<=100000:=by rw[fL];omega
 have kA:k<=(dJ dj.length k).length:=by omega
 have gE:List.take k ((dJ dj.length k).map aA)=(dJ dj.length k).map aA:=aP (by rw[aN];omega);generalize dJ dj.length k=vs at fL hq lE kA gE;simp[jh,U];refine bM.mk (aw.auto (TL:=[(0,.ptr 0 0 0),(3,.ptr 3 0 0),(4,.ptr 4 0 0),(5,.own 5 0 0 k (some k))]) (HL:=[(0,mB 1 2 sl tr ⟨a,b,n,hn⟩),(1,mS sl ⟨a,b,n,hn⟩),(2,mT tr ⟨a,b,n,hn⟩),(3,.arr 6 0 [[.int .i64 cc,.int .i64 ck,.str cn,.int .i64 ci,.int .i64 ch,.sl (cl.map aA) false]] true false false),(4,box Zl),(5,.arr 5 0 (vs.map aA) true false true)]) (n:=6)) ?_;simp[U,hO,Jv,zla,lE,kA,gE,hq];exact aJ.fC rfl rfl rfl (by simp);rintro i ⟨a,b,sl,tr⟩ hi C K hK;simp only at C;have cm:(i:Int)<k:=by omega
 have cr:=bG (i:=i);have jx:sl.length=dj.length+i:=by have:=FW ⟨some (a0,b0),dj,fc⟩ i;rw[C]at this;exact this
 have oR:tr.length=fc.length+i:=by have:=FV ⟨some (a0,b0),dj,fc⟩ i;rw[C]at this;exact this
 have hA:=O7 (s:=⟨some (a,b),sl,tr⟩) (h:=1000000) (b:=false) (by simp only;omega) (by simp only;omega);have kx:jB ⟨some (a0,b0),dj,fc⟩ (i+1)=uO ⟨some (a,b),sl,tr⟩ 1000000 false:=by show uO (jB _ i) _ _=_;rw[C]
 obtain⟨cV,ea⟩:∃ q,(uO ⟨some (a,b),sl,tr⟩ 1000000 false).sl=q:=⟨_,rfl⟩;obtain⟨cC,po⟩:∃ q,(uO ⟨some (a,b),sl,tr⟩ 1000000 false).tr=q:=⟨_,rfl⟩;have hsa:uO ⟨some (a,b),sl,tr⟩ 1000000 false=⟨some (a+1,b+1),cV,cC⟩:=by rw[<- ea,<- po];rfl
 rw[hsa]at hA kx;have aE:=hK (a+1,b+1,cV,cC) kx;have Yq:i<(nX (dJ dj.length k) k i).length:=by rw[De fL (dG hi)];exact hi
 have lO:=Ap fL hi Yq;rw[EA,<- jx]at lO;have Aj:(i*5) / 5=i:=by omega
 have Nl:(i*5) % 5=0:=by omega
 simp only at hA;generalize fU (sl.length:Int)=y at hA lO;cases y;simp[kZ]at lO;simp[-mr,-mq]at hA;simp[-mr,-mq,jh,U,hF,hn,hi,cm,hA,cr,Yq,Aj,Nl,lO,aK,-Int.natCast_add];exact aE _ _ (aw.auto)
theorem Tq (hF:E.dA 200=fu (DC 0 Fu)) (hN:E.dA 104=dC (cz (xJ 1000000))) (hO:E.dA 235=Jv)
 {n:MN}  (eC:c.type.ok=true) (cd:c.type.size<=1000) (hl:sO c<=8000) :
 Wp I E 1 30 jR.1 ((PT.leaf.set 0 (.ptr 0 0 0)).set 1 (enc c)) { H:=dP (uC n ⟨none,[],[]⟩),n:=1,log:=[] } (J.Leaves E.P Tryz.f165 (aJ 1 (enc (N7 0 c)) (uC n (jB ⟨none,[],[]⟩ (sO c))))):=by
 let⟨n,hn⟩:=n;obtain⟨k,hk⟩:∃ k,sO c=k:=⟨_,rfl⟩;have mw:k<=1000:=by rw[<- hk];unfold sO;omega
 let⟨cc,ct⟩:=c;have lz:xJ 1000000 ct=some (ct.size:Int):=if_pos ⟨eC,by simp only at cd;omega,by omega⟩;obtain⟨m,hm⟩:∃ m,ct.size=m:=⟨_,rfl⟩;have Bm:(if (m:Int)<(if cc<0 then 0 else cc)then (m:Int)else (if cc<0 then 0 else cc))=(k:Int):=by rw[<- hk];unfold sO;grind
 have lP:N7 0 ⟨cc,ct⟩=ct.GH (nu (dJ 0 k)):=by unfold N7;rw[hk]
 have r1:k*64<=1048576:=by omega
 have r2:k*5<=1048576:=by omega
 rw[hm]at lz;rw[lP,hk];rw[hk]at hl;have zla:=eC;simp only at zla cd;clear eC lP hk;obtain⟨q,hq⟩:∃ q,ct.GH (nu (dJ 0 k))=q:=⟨_,rfl⟩;rw[hq];have ew:dJ 0 k=dJ 0 k:=rfl;let⟨ck,cn,ci,ch,cl⟩:=ct;cases q;simp[U,hN,hn,lz,Bm,r1,r2,aK];have fL:(dJ 0 k).length=k:=Bj;refine⟨rfl,?_⟩
 refine rA hρ U aq k (nn:=6) (λi (st:MS)=>uy k i st)
  (λi st=>uz ⟨n,hn⟩ (.arr 6 0 [[.int .i64 cc,.int .i64 ck,.str cn,.int .i64 ci,.int .i64 ch,.sl (cl.map aA) false]] true false false) (box Zl) (.arr 5 0 (nX (dJ 0 k) k i) true false true) st)
  (λi st=>jB ⟨none,[],[]⟩ i=st) ⟨none,[],[]⟩
  (aw.auto (by simp[uy,uz]) (by simp[uy,uz,Ao,Zl]) (by simp[uy,uz]) (by simp[uy,uz]<;>(intro x W;first|omega|exact⟨.inl W,by omega⟩))) rfl ?_ ?_
 rintro ⟨z,sl,tr⟩ hi K;rw[hi,Aq fL];have lE:(dJ 0 k).length<=100000:=by rw[fL];omega
 have kA:k<=(dJ 0 k).length:=by omega
 have gE:List.take k ((dJ 0 k).map aA)=(dJ 0 k).map aA:=aP (by rw[aN];omega);generalize dJ 0 k=vs at fL hq lE kA gE
 cases z with
 | none =>
   simp[jh,U,uy,uz];refine bM.mk (aw.auto (TL:=[(0,.ptr 0 0 0),(3,.ptr 1 0 0),(4,.ptr 2 0 0),(5,.own 3 0 0 k (some k))]) (HL:=[(0,mN n),(1,.arr 6 0 [[.int .i64 cc,.int .i64 ck,.str cn,.int .i64 ci,.int .i64 ch,.sl (cl.map aA) false]] true false false),(2,box Zl),(3,.arr 5 0 (vs.map aA) true false true)]) (n:=6)) ?_
   have hz:sl=[]/\tr=[]:=by
    cases k with
    |zero=>cases hi;exact⟨rfl,rfl⟩
    |succ k=>exact absurd (congrArg MS.z hi) (by simp[jB,uO])
   obtain⟨rfl,rfl⟩:=hz;simp[U,hO,Jv,zla,lE,kA,gE,hq];simp[aJ.fC]
 | some z =>let⟨a,b⟩:=z;simp[jh,U,uy,uz];refine bM.mk (aw.auto (TL:=[(0,.ptr 0 0 0),(3,.ptr 3 0 0),(4,.ptr 4 0 0),(5,.own 5 0 0 k (some k))]) (HL:=[(0,mB 1 2 sl tr ⟨a,b,n,hn⟩),(1,mS sl ⟨a,b,n,hn⟩),(2,mT tr ⟨a,b,n,hn⟩),(3,.arr 6 0 [[.int .i64 cc,.int .i64 ck,.str cn,.int .i64 ci,.int .i64 ch,.sl (cl.map aA) false]] true false false),(4,box Zl),(5,.arr 5 0 (vs.map aA) true false true)]) (n:=6)) ?_;simp[U,hO,Jv,zla,lE,kA,gE,hq];simp[aJ.fC]
 rintro i ⟨z,sl,tr⟩ hi C K hK;have cm:(i:Int)<k:=by omega
 have cr:=bG (i:=i);have jx:sl.length=0+i:=by have:=FW ⟨none,[],[]⟩ i;rw[C]at this;exact this
 have oR:tr.length=0+i:=by have:=FV ⟨none,[],[]⟩ i;rw[C]at this;exact this
 have hA:=O7 (s:=⟨z,sl,tr⟩) (h:=1000000) (b:=false) (by simp only;omega) (by simp only;omega);have kx:jB ⟨none,[],[]⟩ (i+1)=uO ⟨z,sl,tr⟩ 1000000 false:=by show uO (jB _ i) _ _=_;rw[C]
 obtain⟨cV,ea⟩:∃ q,(uO ⟨z,sl,tr⟩ 1000000 false).sl=q:=⟨_,rfl⟩;obtain⟨cC,po⟩:∃ q,(uO ⟨z,sl,tr⟩ 1000000 false).tr=q:=⟨_,rfl⟩;obtain⟨a2,b2,HB⟩:∃ a b,(uO ⟨z,sl,tr⟩ 1000000 false).z=some (a,b):=⟨_,_,rfl⟩;have hsa:uO ⟨z,sl,tr⟩ 1000000 false=⟨some (a2,b2),cV,cC⟩:=by rw[<- ea,<- po,<- HB]
 have hz0:z=none->sl=[]/\tr=[]:=by
  rintro rfl
  cases i with
  |zero=>cases C;exact⟨rfl,rfl⟩
  |succ i=>exact absurd (congrArg MS.z C) (by simp[jB,uO])
 rw[hsa]at hA kx;have aE:=hK ⟨some (a2,b2),cV,cC⟩ kx;have Yq:i<(nX (dJ 0 k) k i).length:=by rw[De fL (dG hi)];exact hi
 have lO:=Ap fL hi Yq;rw[EA,<- jx]at lO;have Aj:(i*5) / 5=i:=by omega
 have Nl:(i*5) % 5=0:=by omega
 simp only at hA;generalize fU (sl.length:Int)=y at hA lO;cases y;simp[kZ]at lO;simp[-mr,-mq]at hA
 cases z with
 | none =>
   obtain⟨rfl,rfl⟩:=hz0 rfl;simp[-mr,-mq,uy,uz,jh,U,hF,hn,hi,cm,hA,cr,Yq,Aj,Nl,lO,aK,-Int.natCast_add];exact aE _ _ (aw.auto (by simp[uy,uz,-Int.natCast_add]) (by simp[uy,uz]) (by simp[uy,uz]) (by simp[uy,uz]<;>(intro x W;first|omega|exact⟨.inl W,by omega⟩)))
 | some z =>
   cases z;simp[-mr,-mq,uy,uz,jh,U,hF,hn,hi,cm,hA,cr,Yq,Aj,Nl,lO,aK,-Int.natCast_add];exact aE _ _ (aw.auto (by simp[uy,uz,-Int.natCast_add]) (by simp[uy,uz]) (by simp[uy,uz]) (by simp[uy,uz]<;>(intro x W;first|omega|exact⟨.inl W,by omega⟩)))
end
end
theorem zef{args:Z V}{q:V×MS}(h:zo s args=some q):∃ (a b:Nat) (sl:Z Slot) (tr:Z Change),q=(enc (fU s.sl.length),⟨some (a,b),sl,tr⟩):=by
 obtain⟨_,_,_,_,_,rfl⟩:=O6 h;grind
def jG(d f:Nat)(s:MS)(args:Z V):Y (V×MS):=match args with
 | [tv]=>ob (bo.dec tv:Y G) λt=>if s.sl.length<=10000 then (if (ao.w ⟨s.sl,s.tr⟩ t).kind=1 then (match s.z with
  |none=>none
  |some _=>ob (zo s [.int .i64 1000000,.bool false]) λp=>ob (zo p.2 [.int .i64 1000000,.bool false]) λq=>ob (kQ d f q.2 [enc (ao.w ⟨s.sl,s.tr⟩ t),enc (arr (fU s.sl.length) (fU p.2.sl.length))]) λr=>some (.tuple [p.1,q.1,r.1],r.2))
  else some (.tuple [enc (isArrow (ao.w ⟨s.sl,s.tr⟩ t)).a,enc (isArrow (ao.w ⟨s.sl,s.tr⟩ t)).b,.bool (isArrow (ao.w ⟨s.sl,s.tr⟩ t)).c],s))else none
 |_=>none
theorem A8   {args:Z V} {q:V×MS} (h:jG d f s args=some q):∃ x w:G,args=[enc x]/\ao.w ⟨s.sl,s.tr⟩ x=w/\s.sl.length<=10000 /\
 ((w.kind≠1/\q=(.tuple [enc (isArrow w).a,enc (isArrow w).b,.bool (isArrow w).c],s)) \/
 (w.kind=1/\∃ (a0 b0 a1 b1 a2 b2 a3 b3:Nat) (dv cV Ic:Z Slot) (nR cC Gz:Z Change) (v u:G) (r:Bool),s.z=some (a0,b0)/\zo s [.int .i64 1000000,.bool false]=some (enc v,⟨some (a1,b1),dv,nR⟩)/\zo ⟨some (a1,b1),dv,nR⟩ [.int .i64 1000000,.bool false]=some (enc u,⟨some (a2,b2),cV,cC⟩) /\
   kQ d f ⟨some (a2,b2),cV,cC⟩ [enc w,enc (arr v u)]=some (.bool r,⟨some (a3,b3),Ic,Gz⟩)/\q=(.tuple [enc v,enc u,.bool r],⟨some (a3,b3),Ic,Gz⟩))):=by
 unfold jG at h;split at h;simp only[aC]at h;obtain⟨x,W,h⟩:=h;have e5:=bo.bB _ _ W;subst e5;split at h;rename_i hl;split at h;rename_i hk;split at h;cases h;rename_i z hz;simp only[aC]at h;obtain⟨p,hp,q1,we,r,hr,h⟩:=h;cases h;obtain⟨a1,b1,dv,nR,rfl⟩:=zef hp;obtain⟨a2,b2,cV,cC,rfl⟩:=zef we;obtain⟨a3,b3,rr,e3,e4⟩:=RU hr;obtain⟨rv,z3,Ic,Gz⟩:=r;grind;grind;cases h;cases h
def Ih(s:MS)(args:Z V):Y (V×MS):=match args with
 | [cv]=>ob (bo.dec cv:Y Scheme) λc=>if c.type.ok=true/\c.type.size<=1000/\s.sl.length+sO c<=10000/\s.tr.length+sO c<=8000 then some (enc (N7 s.sl.length c),jB s (sO c))else none
 |_=>none
def Ya{args:Z V}{q:V×MS}(h:Ih s args=some q):∃ c:Scheme,args=[enc c]/\c.type.ok=true/\c.type.size<=1000/\s.sl.length+sO c<=10000/\s.tr.length+sO c<=8000/\q=(enc (N7 s.sl.length c),jB s (sO c)):=by
 unfold Ih at h;split at h;simp only[aC]at h;let⟨c,hc,h⟩:=h;split at h;rename_i hh;cases h;exact⟨c,by rw[bo.bB _ _ hc],hh.1,hh.2.1,hh.2.2.1,hh.2.2.2,rfl⟩;cases h;cases h
section
variable {I:Nat->Value}(hρ:J.Good I)
include hρ
def Rh(d f:Nat):Valid I Pg 125 (fu (DC 0 (jG d f))):=by
 refine Valid.sym (fo Tryz.func125 ib.2) λvs C D h=>?_;obtain⟨args,n,s,s',r,ds,b,c,q,hF,hz,rfl,_,hr,hg,b4⟩:=GM h;obtain⟨x,w,rfl,hw,hl,hh⟩:=A8 hF;let⟨z,sl,tr⟩:=s
 have cR:∀ ρ',J.Good ρ'->bK ρ' (EL [(200,fu (DC 0 Fu)),(167,fu (DC 0 (kQ d f))),(199,AG Ld (zp (Hn IZ))),(90,Nf),(40,dC (cz λt:G=>some (isArrow t)))]):=λρ' fI =>
  aj (ae (Ui fI) (ae (Nq fI d f) (ae (Valid.AG (zeF fI) (zhl fI)) (ae (zhk fI) (ae (XL fI) aH)))))
 rcases hh with⟨hk,hq⟩|⟨hk,a0,b0,a1,b1,a2,b2,a3,b3,dv,cV,Ic,nR,cC,Gz,v,u,r,CC,M,O,h3,hq⟩;cases hq
 cases z with
 | none =>obtain⟨rfl,rfl⟩:=hz rfl;exact sy hρ Tryz.func125 ib.2 rfl hg (λρ' fI=>⟨_,rfl,cR ρ' fI,K8 fI rfl (cR ρ' fI) rfl rfl hw hk⟩) b4
 | some z =>cases z;exact sy hρ Tryz.func125 ib.2 rfl hg (λρ' fI=>⟨_,rfl,cR ρ' fI,K9 fI rfl (cR ρ' fI) rfl rfl (by simp only at hl;omega) hw hk⟩) b4
 cases hq;simp only at CC;subst CC;exact sy hρ Tryz.func125 ib.2 rfl hg (λρ' fI=>⟨_,rfl,cR ρ' fI,K7 fI rfl (cR ρ' fI) rfl rfl rfl rfl (by simp only at hl;omega) hw hk M O h3⟩) b4
def zsh:Valid I Pg 165 (fu (DC 0 Ih)):=by
 refine Valid.sym (fo Tryz.func165 jR.2) λvs C D h=>?_;obtain⟨args,n,s,s',r,ds,b,c,q,hF,hz,rfl,_,hr,hg,b4⟩:=GM h;obtain⟨sc,rfl,M,O,h3,h4,hq⟩:=Ya hF;cases hq;let⟨z,sl,tr⟩:=s
 have cR:∀ ρ',J.Good ρ'->bK ρ' (EL [(200,fu (DC 0 Fu)),(104,dC (cz (xJ 1000000))),(235,Jv)]):=λρ' fI =>
  aj (ae (Ui fI) (ae (Zn fI 1000000) (ae (zmW fI) aH)))
 cases z with
 | none =>obtain⟨rfl,rfl⟩:=hz rfl;exact sy hρ Tryz.func165 jR.2 rfl hg (λρ' fI=>⟨_,rfl,cR ρ' fI,Tq fI rfl (cR ρ' fI) rfl rfl rfl M O (by simpa using h4)⟩) b4
 | some z =>
   cases z;exact sy hρ Tryz.func165 jR.2 rfl hg (λρ' fI=>⟨_,rfl,cR ρ' fI,Wn fI rfl (cR ρ' fI) rfl rfl rfl M O h3 h4⟩) b4
end
def yO (d f:Nat):Nat->MS->G->Z G->Y (Y (Z G×G)×MS)
 | 0,s,r,acc=>some (some (acc,r),s)
 | k+1,s,r,acc=>ob (jG d f s [enc r]) λq=>(match q.1 with
   |.tuple [av,bv,.bool true]=>ob (bo.dec av:Y G) λa=>ob (bo.dec bv:Y G) λb=>yO d f k q.2 b (acc++[a])
   |.tuple [_,_,.bool false]=>some (none,q.2)
   |_=>none)
def A7{args:Z V}{q:V×MS}(h:jG d f ⟨some (a,b),sl,tr⟩ args=some q):∃ (x y:G) (r:Bool),q.1=.tuple [enc x,enc y,.bool r]/\∃ (a2 b2:Nat),q.2.z=some (a2,b2):=by
 obtain⟨x,w,rfl,hw,hl,hh⟩:=A8 h;rcases hh with⟨hk,rfl⟩|⟨hk,a0,b0,a1,b1,a2,b2,a3,b3,dv,cV,Ic,nR,cC,Gz,v,u,r,CC,M,O,h3,rfl⟩;exact⟨_,_,_,rfl,_,_,rfl⟩;exact⟨_,_,_,rfl,_,_,rfl⟩
section
variable {I:Nat->Value}(hρ:J.Good I)
include hρ
section
variable {E:Env}(U:E.P=Pg)(aq:bK I E)
include U aq
def OV  (hF:E.dA 125=fu (DC 0 (jG d f)))
 {n:Nat} (hn:n+1<=1000)    {ls:Z G}  {ts:G} {R:Y (Z G×G)×MS} (mw:k<=1000) (lR:kk=1\/kk=3\/kk=4) (hR:yO d f k ⟨some (a0,b0),dj,fc⟩ r0 []=some R)
 {sz:Nat} (cd:sz=62)   
 (hT:aw kk T C (dP [(0,.ptr 0 0 0),(7,.ptr 4 0 0),(8,.a8),(9,.bool false),(10,.ptr 5 0 0),(11,oV 6 (([]:Z G).map aA)),(29,.int .i64 (k:Int)),(30,.int .i64 ((0:Nat):Int))]) { H:=dP [(0,.arr (n+4) 0 [.sl (D.map aT) false::.own 1 a0 0 dj.length none::.own 2 b0 0 fc.length none::.own 3 ls.length 0 (ls.length+1) none::jT 4 n] true false false),(1,.arr 8 a0 (dj.map dK) false false true),(2,.arr 10 b0 (fc.map bW) false false true),(3,.arr 5 ls.length (aA ts::ls.map aA) false false true),(4,box (aA g)),(5,box (aA r0))],n:=7,log:=[] })
 (GB:∀ (a b:Nat) (sl:Z Slot) (tr:Z Change) (r:G) (acc:Z G),R=(some (acc,r),⟨some (a,b),sl,tr⟩)->acc.length=k->Q (.exit 0) (dP [(0,.ptr 0 0 0),(7,.ptr 4 0 0),(10,.ptr 5 0 0),(11,oV 6 (acc.map aA))]) { H:=dP ([(0,.arr (n+4) 0 [.sl (D.map aT) false::.own 1 a 0 sl.length none::.own 2 b 0 tr.length none::.own 3 ls.length 0 (ls.length+1) none::jT 4 n] true false false),(1,.arr 8 a (sl.map dK) false false true),(2,.arr 10 b (tr.map bW) false false true),(3,.arr 5 ls.length (aA ts::ls.map aA) false false true),(4,box (aA g)),(5,box (aA r))]++oH 6 5 (acc.map aA)),n:=7,log:=[] })
 (Hj:∀ (a b:Nat) (sl:Z Slot) (tr:Z Change),R=(none,⟨some (a,b),sl,tr⟩)->Q .ret (dP [(8,.a8),(9,.bool false)]) { H:=dP [(0,.arr (n+4) 0 [.sl (D.map aT) false::.own 1 a 0 sl.length none::.own 2 b 0 tr.length none::.own 3 ls.length 0 (ls.length+1) none::jT 4 n] true false false),(1,.arr 8 a (sl.map dK) false false true),(2,.arr 10 b (tr.map bW) false false true),(3,.arr 5 ls.length (aA ts::ls.map aA) false false true)],n:=7,log:=[] }) :
 Ls I E kk sz (.loop dF) T C Q:=by
 subst cd;rcases lR with rfl|rfl|rfl
 all_goals
  refine rA hρ U aq k (nn:=7) (λi (st:Nat×Nat×Z Slot×Z Change×G×Z G)=>[(0,.ptr 0 0 0),(7,.ptr 4 0 0),(8,.a8),(9,.bool false),(10,.ptr 5 0 0),(11,oV 6 (st.2.2.2.2.2.map aA)),(29,.int .i64 (k:Int)),(30,.int .i64 (i:Int))])
   (λi st=>[(0,.arr (n+4) 0 [.sl (D.map aT) false::.own 1 st.1 0 st.2.2.1.length none::.own 2 st.2.1 0 st.2.2.2.1.length none::.own 3 ls.length 0 (ls.length+1) none::jT 4 n] true false false),(1,.arr 8 st.1 (st.2.2.1.map dK) false false true),(2,.arr 10 st.2.1 (st.2.2.2.1.map bW) false false true),(3,.arr 5 ls.length (aA ts::ls.map aA) false false true),(4,box (aA g)),(5,box (aA st.2.2.2.2.1))]++oH 6 5 (st.2.2.2.2.2.map aA))
   (λi st=>st.2.2.2.2.2.length=i/\yO d f (k-i) ⟨some (st.1,st.2.1),st.2.2.1,st.2.2.2.1⟩ st.2.2.2.2.1 st.2.2.2.2.2=some R) (a0,b0,dj,fc,r0,[]) (by simpa using hT) ⟨rfl,by simpa using hR⟩ ?_ ?_
  rintro ⟨a,b,sl,tr,r,acc⟩ ⟨M,O⟩ K;simp only at M O;rw[iW,yO]at O;have cM:=GB a b sl tr r acc (bT O).symm M;cases r;cases g
  cases acc with
  | nil =>simp[dF,U];exact bM.mk (aw.auto) cM
  | cons x acc =>simp[dF,U];exact bM.mk (aw.auto) cM
  rintro i ⟨a,b,sl,tr,r,acc⟩ hi ⟨M,O⟩ K hK;simp only at M O;obtain⟨m,hm⟩:∃ m,k-i=m+1:=⟨k-i-1,by omega⟩;have kj:k-(i+1)=m:=by omega
  have cm:(i:Int)<k:=by omega
  have cr:=bG (i:=i);rw[hm,yO]at O;simp only[aC]at O;let⟨q,hq,O⟩:=O;let⟨av,bv,is,e1,a2,b2,e2⟩:=A7 hq;let⟨qv,z2,cV,cC⟩:=q;simp only at e1 e2;subst e1 e2;let⟨xk,xn,xi,xh,xl⟩:=av;let⟨yk,yn,yi,yh,yl⟩:=bv;have k1:(acc.length+1)*64<=1048576:=by omega
  cases is with
  | true =>
    simp only[bo.dD,eQ]at O;have aE:=hK (a2,b2,cV,cC,.mk yk yn yi yh yl,acc++[.mk xk xn xi xh xl]) ⟨by simp[M],by rw[kj];exact O⟩;cases r;cases g;simp at hq
    cases acc with
    | nil =>simp[dF,U,cm,hF,hn,hq,cr,aK,-Int.natCast_add];exact aE _ _ (aw.auto)
    | cons x acc =>rw[aL]at k1;simp[dF,U,cm,hF,hn,hq,cr,k1,bf,aK,-Int.natCast_add];exact aE _ _ (aw.auto)
  | false =>
    have cM:=Hj a2 b2 cV cC (bT O).symm;cases r;cases g;simp at hq
    cases acc with
    | nil =>simp[dF,U,cm,hF,hn,hq,cr,aK,-Int.natCast_add];exact bM.mk (aw.auto) cM
    | cons x acc =>
      simp[dF,U,cm,hF,hn,hq,cr,aK,-Int.natCast_add];exact bM.mk (aw.auto) cM
end
end
def KP{args:Z V}{q:V×MS}(h:Bw d f s args=some q):∃ (e:Bool) (a b:Nat) (sl:Z Slot) (tr:Z Change),q=(.bool e,⟨some (a,b),sl,tr⟩):=by
 obtain⟨_,_,_,_,_,_,_,_,_,_,_,_,_,_,rfl⟩:=Y8 h;exact⟨_,_,_,_,_,rfl⟩
def VQ{args:Z V}{q:V×MS}(h:kQ d f s args=some q):∃ (e:Bool) (a b:Nat) (sl:Z Slot) (tr:Z Change),q=(.bool e,⟨some (a,b),sl,tr⟩):=by
 obtain⟨_,_,_,_,_,_,_,_,_,_,rfl⟩:=M0 h;exact⟨_,_,_,_,_,rfl⟩
def Qw (d f:Nat) (g:G) (R:Y (Z G×G)×MS):Y (Z G×Bool×MS):=match R with
 |(none,s)=>some ([],false,s)
 | (some (acc,r),s)=>ob (Bw d f s [enc g]) λq1=>(match q1.1 with
   | .bool true=>ob (Bw d f q1.2 [enc r]) λq2=>(match q2.1 with
     | .bool true=>ob (kQ d f q2.2 [enc r,enc g]) λq3=>(match q3.1 with
       |.bool e=>some (acc,e,q3.2)
       |_=>none)
     |.bool false=>some (acc,false,q2.2)
     |_=>none)
   |.bool false=>some (acc,false,q1.2)
   |_=>none)
def Ha{r:G}{acc:Z G}{e:Bool}(h:Qw d f g (some (acc,r),s)=some (tA,e,s')):tA=acc/\∃ (e1:Bool) (a1 b1:Nat) (dv:Z Slot) (nR:Z Change),Bw d f s [enc g]=some (.bool e1,⟨some (a1,b1),dv,nR⟩) /\
 ((e1=false/\e=false/\s'=⟨some (a1,b1),dv,nR⟩)\/(e1=true/\∃ (e2:Bool) (a2 b2:Nat) (cV:Z Slot) (cC:Z Change),Bw d f ⟨some (a1,b1),dv,nR⟩ [enc r]=some (.bool e2,⟨some (a2,b2),cV,cC⟩) /\
   ((e2=false/\e=false/\s'=⟨some (a2,b2),cV,cC⟩)\/(e2=true/\∃ (a3 b3:Nat) (Ic:Z Slot) (Gz:Z Change),kQ d f ⟨some (a2,b2),cV,cC⟩ [enc r,enc g]=some (.bool e,⟨some (a3,b3),Ic,Gz⟩)/\s'=⟨some (a3,b3),Ic,Gz⟩)))):=by
 simp only[Qw,aC]at h;let⟨q1,M,h⟩:=h;obtain⟨e1,a1,b1,dv,nR,rfl⟩:=KP M
 cases e1 with
 |false=>cases h;exact⟨rfl,false,_,_,_,_,M,.inl ⟨rfl,rfl,rfl⟩⟩
 | true =>
   simp only[aC]at h;let⟨q2,O,h⟩:=h;obtain⟨e2,a2,b2,cV,cC,rfl⟩:=KP O
   cases e2 with
   |false=>cases h;exact⟨rfl,true,_,_,_,_,M,.inr ⟨rfl,false,_,_,_,_,O,.inl ⟨rfl,rfl,rfl⟩⟩⟩
   | true =>
     simp only[aC]at h;let⟨q3,h3,h⟩:=h;obtain⟨e3,a3,b3,Ic,Gz,rfl⟩:=VQ h3;cases h;exact⟨rfl,true,_,_,_,_,M,.inr ⟨rfl,true,_,_,_,_,O,.inr ⟨rfl,_,_,_,_,h3,rfl⟩⟩⟩
def KD{e:Bool}(h:Qw d f g (none,s)=some (tA,e,s')):tA=[]/\e=false/\s'=s:=by
 cases h;exact⟨rfl,rfl,rfl⟩
def yP{args:Z V}{q:V×MS}(h:jG d f ⟨none,sl,tr⟩ args=some q):∃ (x y:G) (r:Bool),q=(.tuple [enc x,enc y,.bool r],⟨none,sl,tr⟩):=by
 obtain⟨x,w,rfl,hw,hl,hh⟩:=A8 h;rcases hh with⟨hk,rfl⟩|⟨hk,a0,b0,a1,b1,a2,b2,a3,b3,dv,cV,Ic,nR,cC,Gz,v,u,r,CC,M,O,h3,rfl⟩;exact⟨_,_,_,rfl⟩;cases CC
def Bu(hz:s.z=none->s.sl=[]/\s.tr=[]/\l=[]):(s=⟨none,[],[]⟩/\l=[])\/∃ a b sl tr,s=⟨some (a,b),sl,tr⟩:=by
 obtain⟨_|⟨a,b⟩,sl,tr⟩:=s;obtain⟨rfl,rfl,rfl⟩:=hz rfl;exact .inl ⟨rfl,rfl⟩;exact .inr ⟨_,_,_,_,rfl⟩
section
variable {I:Nat->Value}(hρ:J.Good I)
include hρ
section
variable {E:Env}(U:E.P=Pg)(aq:bK I E)
include U aq
def M9  (hF:E.dA 125=fu (DC 0 (jG d f)))
 {n:Nat} (hn:n+1<=1000)    {R:Y (Z G×G)×MS} (mw:k<=1000) (hR:yO d f k ⟨none,[],[]⟩ r0 []=some R)
 {sz:Nat} (cd:sz=62)   
 (hT:aw 1 T C (dP [(0,.ptr 0 0 0),(7,.ptr 2 0 0),(8,.a8),(9,.bool false),(10,.ptr 3 0 0),(11,oV 4 (([]:Z G).map aA)),(29,.int .i64 (k:Int)),(30,.int .i64 ((0:Nat):Int))]) { H:=dP [(0,.arr (n+4) 0 [.sl (D.map aT) false::.a8::.a8::.own 1 0 0 1 none::jT 4 n] true false false),(1,.arr 5 0 [aA t0] false false true),(2,box (aA g)),(3,box (aA r0))],n:=5,log:=[] })
 (GB:∀ (r:G) (acc:Z G),R=(some (acc,r),⟨none,[],[]⟩)->acc.length=k->Q (.exit 0) (dP [(0,.ptr 0 0 0),(7,.ptr 2 0 0),(10,.ptr 3 0 0),(11,oV 4 (acc.map aA))]) { H:=dP ([(0,.arr (n+4) 0 [.sl (D.map aT) false::.a8::.a8::.own 1 0 0 1 none::jT 4 n] true false false),(1,.arr 5 0 [aA t0] false false true),(2,box (aA g)),(3,box (aA r))]++oH 4 5 (acc.map aA)),n:=5,log:=[] })
 (Hj:R=(none,⟨none,[],[]⟩)->Q .ret (dP [(8,.a8),(9,.bool false)]) { H:=dP [(0,.arr (n+4) 0 [.sl (D.map aT) false::.a8::.a8::.own 1 0 0 1 none::jT 4 n] true false false),(1,.arr 5 0 [aA t0] false false true)],n:=5,log:=[] }) :
 Ls I E 1 sz (.loop dF) T C Q:=by
 subst cd
 refine rA hρ U aq k (nn:=5) (λi (st:G×Z G)=>[(0,.ptr 0 0 0),(7,.ptr 2 0 0),(8,.a8),(9,.bool false),(10,.ptr 3 0 0),(11,oV 4 (st.2.map aA)),(29,.int .i64 (k:Int)),(30,.int .i64 (i:Int))])
  (λi st=>[(0,.arr (n+4) 0 [.sl (D.map aT) false::.a8::.a8::.own 1 0 0 1 none::jT 4 n] true false false),(1,.arr 5 0 [aA t0] false false true),(2,box (aA g)),(3,box (aA st.1))]++oH 4 5 (st.2.map aA))
  (λi st=>st.2.length=i/\yO d f (k-i) ⟨none,[],[]⟩ st.1 st.2=some R) (r0,[]) (by simpa using hT) ⟨rfl,by simpa using hR⟩ ?_ ?_
 rintro ⟨r,acc⟩ ⟨M,O⟩ K;simp only at M O;rw[iW,yO]at O;have cM:=GB r acc (bT O).symm M;cases r;cases g;cases t0
 cases acc with
 | nil =>simp[dF,U];exact bM.mk (aw.auto) cM
 | cons x acc =>simp[dF,U];exact bM.mk (aw.auto) cM
 rintro i ⟨r,acc⟩ hi ⟨M,O⟩ K hK;simp only at M O;obtain⟨m,hm⟩:∃ m,k-i=m+1:=⟨k-i-1,by omega⟩;have kj:k-(i+1)=m:=by omega
 have cm:(i:Int)<k:=by omega
 have cr:=bG (i:=i);rw[hm,yO]at O;simp only[aC]at O;let⟨q,hq,O⟩:=O;obtain⟨av,bv,is,rfl⟩:=yP hq;let⟨xk,xn,xi,xh,xl⟩:=av;let⟨yk,yn,yi,yh,yl⟩:=bv;have k1:(acc.length+1)*64<=1048576:=by omega
 cases is with
 | true =>
   simp only[bo.dD,eQ]at O;have aE:=hK (.mk yk yn yi yh yl,acc++[.mk xk xn xi xh xl]) ⟨by simp[M],by rw[kj];exact O⟩;cases r;cases g;cases t0;simp at hq
   cases acc with
   | nil =>simp[dF,U,cm,hF,hn,hq,cr,aK,-Int.natCast_add];exact aE _ _ (aw.auto)
   | cons x acc =>rw[aL]at k1;simp[dF,U,cm,hF,hn,hq,cr,k1,bf,aK,-Int.natCast_add];exact aE _ _ (aw.auto)
 | false =>
   have cM:=Hj (bT O).symm;cases r;cases g;cases t0;simp at hq
   cases acc with
   | nil =>simp[dF,U,cm,hF,hn,hq,cr,aK,-Int.natCast_add];exact bM.mk (aw.auto) cM
   | cons x acc =>
     simp[dF,U,cm,hF,hn,hq,cr,aK,-Int.natCast_add];exact bM.mk (aw.auto) cM
def zsL(I:Nat->Value)(E:Env)(n:MN)(D:Z Decl)(c:Scheme)(k:Nat)(g:G)(s:MS)(l acc:Z G)(e:Bool)(s2:MS)(l2:Z G):Prop :=
 Wp I E (K6 s.z l) 62 oP.1 ((((PT.leaf.set 0 (.ptr 0 0 0)).set 1 (enc c)).set 2 (.int .i64 (k:Int))).set 3 (enc g)) { H:=dP (uI n D s l),n:=K6 s.z l,log:=[] } (J.Leaves E.P Tryz.f81 λv C=>aJ (K6 s.z l) (.tuple [.sl (acc.map aA) false,.bool e]) (uI n D s2 l2) v C\/wH (K6 s.z l) (.tuple [.sl (acc.map aA) false,.bool e]) (uI n D s2 l2) v C)
section
variable (hO:E.dA 165=fu (DC 0 Ih))(hF:E.dA 125=fu (DC 0 (jG d f)))(hB:E.dA 166=fu (DC 0 (Bw d f)))(hQ:E.dA 167=fu (DC 0 (kQ d f)))
 {n:MN} (Co:n.n<=900)     {s2:MS} {acc:Z G} {e:Bool} {R:Y (Z G×G)×MS} (hk:k<=1000)
include hO hF hB hQ Co hk
theorem Tu (hz0:s.z=none->s.sl=[]/\s.tr=[]/\l=[]) (hl:l.length<=10000)   
 (M:Ih s [enc c]=some (enc r0,⟨some (a1,b1),dv,nR⟩)) (O:yO d f k ⟨some (a1,b1),dv,nR⟩ r0 []=some R) (h3:Qw d f g R=some (acc,e,⟨some (a2,b2),cV,cC⟩)) :
 zsL I E n D c k g s l acc e ⟨some (a2,b2),cV,cC⟩ (l++[r0]):=by
 let⟨n,hn⟩:=n;simp only at Co;have lb:n+1<=1000:=by omega
 have hz:ofConst (Value.agg #[.int .i64 0,.string {data:=#[]},.int .i64 0,.int .i64 0,.slice none 0 0])=some (V.agg [.int .i64 0,.str [],.int .i64 0,.int .i64 0,.a8]):=by rfl
 obtain⟨ls,ts,hls⟩:∃ ls ts,l++[r0]=ts::ls:=by cases l<;>exact⟨_,_,rfl⟩
 rw[hls];replace hls:=hls.symm;have N0:∀ m:Nat,(V.int .i64 ((m:Int)+1)).nat?=some (m+1):=λ_=>rfl;have r1:(l.length+1)*64<=1048576:=by omega
 let⟨gk,gn,gi,gh,gl⟩:=g;simp only[zsL];rcases Bu hz0 with⟨rfl,rfl⟩|⟨a,b,sl,tr,rfl⟩
 any_goals rcases l with _|⟨⟨tk,tn,ti,th,tl⟩,l⟩
 all_goals
  simp at M r1 hls;let⟨US,els⟩:=hls;simp[U,hO,hn,lb,M,hz,r1,N0,bf,aK];refine OV hρ U aq hF lb (D:=D) (ls:=ls) (ts:=ts) (g:=.mk gk gn gi gh gl) hk (by decide) O rfl (aw.auto (hH:=by simp[US,els]) (hi:=by simp[US,els]) (hk:=by simp[US,els]<;>(intro x W;first|omega|exact⟨.inl W,by omega⟩))) ?_ ?_
  . intro a b sl tr r zNb hR hlen;subst hR;obtain⟨rfl,e1,a1,b1,dv,nR,q1,hh⟩:=Ha h3;cases r;simp at q1;rcases hh with⟨rfl,rfl,C⟩|⟨rfl,e2,a2,b2,cV,cC,q2,⟨rfl,rfl,C⟩|⟨rfl,a3,b3,Ic,Gz,q3,C⟩⟩
    any_goals simp at q2
    any_goals simp at q3
    all_goals
     cases C;cases acc
    all_goals first|simp[U,hB,hQ,hn,lb,q1,q2,q3,aK]|simp[U,hB,hQ,hn,lb,q1,q2,aK]|simp[U,hB,hQ,hn,lb,q1,aK]
    all_goals first|(refine .inl (aJ.bw (hn:=?_) (hv:=?_) (hH:=?_))<;>simp;done)|(refine .inr (wH.bw (ea:=?_) (hH:=?_))<;>simp[kV,qu];done)
  intro a b sl tr hR;subst hR;obtain⟨rfl,rfl,C⟩:=KD h3;cases C;simp[U];exact .inl (aJ.bw)
theorem Tt(M:Ih ⟨none,[],[]⟩ [enc c]=some (enc r0,⟨none,[],[]⟩))(O:yO d f k ⟨none,[],[]⟩ r0 []=some R)(h3:Qw d f g R=some (acc,e,s2)) :
 zsL I E n D c k g ⟨none,[],[]⟩ [] acc e s2 [r0]:=by
 let⟨n,hn⟩:=n;simp only at Co;have lb:n+1<=1000:=by omega
 have hz:ofConst (Value.agg #[.int .i64 0,.string {data:=#[]},.int .i64 0,.int .i64 0,.slice none 0 0])=some (V.agg [.int .i64 0,.str [],.int .i64 0,.int .i64 0,.a8]):=by rfl
 let⟨zPE,zPC,zPF,zPG,zPD⟩:=r0;let⟨gk,gn,gi,gh,gl⟩:=g;simp only[zsL];simp at M;simp[U,hO,hn,lb,M,hz,aK];refine M9 hρ U aq hF lb (D:=D) (t0:=.mk zPE zPC zPF zPG zPD) (g:=.mk gk gn gi gh gl) hk O rfl (aw.auto) ?_ ?_
 . intro r zNb hR hlen;subst hR;obtain⟨rfl,e1,a1,b1,dv,nR,q1,hh⟩:=Ha h3;simp at q1;rcases hh with⟨rfl,rfl,C⟩|⟨rfl,e2,a2,b2,cV,cC,q2,⟨rfl,rfl,C⟩|⟨rfl,a3,b3,Ic,Gz,q3,C⟩⟩
   any_goals simp at q2
   any_goals simp at q3
   all_goals
    cases C;cases acc
   all_goals first|simp[U,hB,hQ,hn,lb,q1,q2,q3,aK]|simp[U,hB,hQ,hn,lb,q1,q2,aK]|simp[U,hB,hQ,hn,lb,q1,aK]
   all_goals first|(refine .inl (aJ.zHb rfl ?_ ?_ ?_ ?_)<;>simp;done)|(refine .inr (wH.auto (ea:=?_) (hH:=?_) (hi:=?_) (hk:=?_))<;>simp[kV,qu];done)
 intro hR;subst hR;obtain⟨rfl,rfl,C⟩:=KD h3;cases C;simp[U];exact .inl (aJ.bw)
end
end
end
def Ij(d f:Nat)(_:Z Decl)(s:MS)(l:Z G)(args:Z V):Y (V×MS×Z G):=match args with
 | [cv,.int .i64 k,gv]=>ob (bo.dec cv:Y Scheme) λc=>ob (bo.dec gv:Y G) λg=>if 0<=k/\k<=1000/\l.length<=10000 then ob (Ih s [enc c]) λq=>ob (bo.dec q.1:Y G) λr0=>ob (yO d f k.toNat q.2 r0 []) λR=>ob (Qw d f g R) λr=>some (.tuple [.sl (r.1.map aA) false,.bool r.2.1],r.2.2,l++[r0])else none
 |_=>none
def zpw{s1 s2:MS}{R:Y (Z G×G)×MS}{acc:Z G}{e:Bool}(hk:k<=1000)(hl:l.length<=10000)(M:Ih s [enc c]=some (enc r0,s1))(O:yO d f k s1 r0 []=some R)(h3:Qw d f g R=some (acc,e,s2)) :
 Ij d f D s l [enc c,.int .i64 (k:Int),enc g]=some (.tuple [.sl (acc.map aA) false,.bool e],s2,l++[r0]):=by
 have h0:(0:Int)<=k/\(k:Int)<=1000/\l.length<=10000:=⟨by omega,by omega,hl⟩;show ob (bo.dec (enc c):Y Scheme) _=_;rw[bo.dD,eQ,bo.dD,eQ,if_pos h0,M,eQ,bo.dD,eQ,bO,O,eQ,h3,eQ]
def Yr{args:Z V}(h:Ij d f D s l args=some q):∃ (c:Scheme) (k:Nat) (g r0:G) (s1 s2:MS) (R:Y (Z G×G)×MS) (acc:Z G) (e:Bool),
 args=[enc c,.int .i64 (k:Int),enc g]/\k<=1000/\l.length<=10000/\Ih s [enc c]=some (enc r0,s1)/\yO d f k s1 r0 []=some R/\Qw d f g R=some (acc,e,s2)/\q=(.tuple [.sl (acc.map aA) false,.bool e],s2,l++[r0]):=by
 unfold Ij at h;split at h;rename_i cv k gv;simp only[aC]at h;obtain⟨c,hc,g,hg,h⟩:=h;have e1:=bo.bB _ _ hc;have e2:=bo.bB _ _ hg;subst e1 e2;split at h;rename_i hh;simp only[aC]at h;obtain⟨⟨v,s1⟩,M,r0,z7,R,O,⟨acc,e,s2⟩,h3,h⟩:=h;have e3:=bo.bB _ _ z7;subst e3;cases h;refine⟨c,k.toNat,g,r0,s1,s2,R,acc,e,by rw[Int.toNat_of_nonneg hh.1],by omega,hh.2.2,M,O,h3,rfl⟩;cases h;cases h
def G5 :∀ {k:Nat} {s:MS} {r:G} {acc:Z G} {R:Y (Z G×G)×MS},yO d f k s r acc=some R->(∀ a b,s.z=some (a,b)->∃ a2 b2,R.2.z=some (a2,b2))/\(s.z=none->R.2=s)
 | 0,s,r,acc,R,h=>by cases h;exact⟨λa b h=>⟨a,b,h⟩,λ_=>rfl⟩
 | k + 1,s,r,acc,R,h=>by
   rw[yO]at h;simp only[aC]at h;let⟨q,hq,h⟩:=h;let⟨z,sl,tr⟩:=s
   cases z with
   | none =>
     obtain⟨x,y,is,rfl⟩:=yP hq;refine⟨λa b h=>(by cases h),λ_=>?_⟩
     cases is with
     | true =>simp only[bo.dD,eQ]at h;exact(G5 h).2 rfl
     |false=>exact congrArg Prod.snd (bT h).symm
   | some z =>
     let⟨a,b⟩:=z;let⟨x,y,is,e1,a2,b2,e2⟩:=A7 hq;let⟨qv,z2,cV,cC⟩:=q;simp only at e1 e2;subst e1 e2;refine⟨λ_ _ _=>?_,λh=>by cases h⟩
     cases is with
     | true =>simp only[bo.dD,eQ]at h;exact(G5 h).1 _ _ rfl
     |false=>cases h;exact⟨_,_,rfl⟩
def Yy{R:Y (Z G×G)×MS}{acc:Z G}{e:Bool}{s2:MS}(h:Qw d f g R=some (acc,e,s2))(hR:R.2.z=some (a,b)):∃ a2 b2,s2.z=some (a2,b2):=by
 let⟨R,s⟩:=R
 cases R with
 |none=>obtain⟨_,_,rfl⟩:=KD h;exact⟨a,b,hR⟩
 | some p =>
   let⟨_,e1,a1,b1,dv,nR,_,hh⟩:=Ha h;rcases hh with⟨_,_,rfl⟩|⟨_,e2,a2,b2,cV,cC,_,⟨_,_,rfl⟩|⟨_,a3,b3,Ic,Gz,_,rfl⟩⟩;exact⟨_,_,rfl⟩;exact⟨_,_,rfl⟩;exact⟨_,_,rfl⟩
def UY{args:Z V}{s1:MS}(h:Ih s args=some (v,s1)):(∀ a b,s.z=some (a,b)->∃ a2 b2,s1.z=some (a2,b2))/\(s1.z=none->s1=s):=by
 let⟨c,_,_,_,_,_,hq⟩:=Ya h;cases hq
 cases sO c with
 |zero=>exact⟨λa b h=>⟨a,b,h⟩,λ_=>rfl⟩
 | succ k =>
   refine⟨λa b _=>?_,λh=>by cases h⟩;exact⟨_,_,rfl⟩
section
variable {I:Nat->Value}(hρ:J.Good I)
include hρ
def zsi(d f:Nat):Valid I Pg 81 (fu (Xa (Ij d f))):=by
 refine Valid.sym (fo Tryz.func81 oP.2) λvs C D h=>?_;obtain⟨args,n,Ds,s,s',l,l',r,ds,b,c,dd,e,hF,hz,GP,Co,rfl,_,hr,hg,b4⟩:=KI h;obtain⟨cc,k,g,r0,s1,s2,R,acc,e,rfl,hk,hl,M,O,h3,hq⟩:=Yr hF;cases hq
 have cR:∀ ρ',J.Good ρ'->bK ρ' (EL [(165,fu (DC 0 Ih)),(125,fu (DC 0 (jG d f))),(166,fu (DC 0 (Bw d f))),(167,fu (DC 0 (kQ d f)))]):=λρ' fI =>
  aj (ae (zsh fI) (ae (Rh fI d f) (ae (zhr fI d f) (ae (Nq fI d f) aH))))
 refine Uo hρ follows named Tryz.func81 oP.2 rfl hg (λρ' fI=>⟨_,rfl,cR ρ' fI,?_⟩) (λ_ _ h=>h) b4;obtain⟨_|⟨a1,b1⟩,dv,nR⟩:=s1;obtain rfl:=(UY M).2 rfl;obtain⟨rfl,rfl,rfl⟩:=hz rfl;exact Tt fI rfl (cR ρ' fI) rfl rfl rfl rfl Co hk M O h3;let⟨a2,b2,e2⟩:=(G5 O).1 _ _ rfl;let⟨a3,b3,e3⟩:=Yy h3 e2;let⟨z2,cV,cC⟩:=s';cases e3;exact Tu fI rfl (cR ρ' fI) rfl rfl rfl rfl Co hk hz hl M O h3
end
section
variable {I:Nat->Value}(hρ:J.Good I)
include hρ
section
variable {E:Env}(U:E.P=Pg)(aq:bK I E)
include U aq
def OW  (hF:E.dA 200=fu (DC 0 Fu)) (hC:E.dA 88=LJ) (hQ:E.dA 167=fu (DC 0 (kQ d f)))
 {n:MN} (Co:n.n<=900)   (hi:i<D.length) (hD:D.length<=1000) (zQj:D[i].params.length=k) (hk:k<=1000)      {e:Bool} (fX:l.length<=10000) (hl:dj.length+k<=10000) (ht:fc.length+k<=8000)
 (M:jB ⟨some (a0,b0),dj,fc⟩ k=⟨some (a1,b1),dv,nR⟩) (O:kQ d f ⟨some (a1,b1),dv,nR⟩ [enc t,enc (G.mk 4 D[i].name 0 0 (dJ dj.length k))]=some (.bool e,⟨some (a2,b2),cV,cC⟩)) :
 Wp I E (K6 (some (a0,b0)) l) 56 mP.1 (((PT.leaf.set 0 (.ptr 0 0 0)).set 1 (enc t)).set 2 (.int .i64 (i:Int))) { H:=dP (uI n D ⟨some (a0,b0),dj,fc⟩ l),n:=K6 (some (a0,b0)) l,log:=[] }
  (J.Leaves E.P Tryz.f203 λv C=>aJ (K6 (some (a0,b0)) l) (.tuple [.sl ((dJ dj.length k).map aA) false,.bool e]) (uI n D ⟨some (a2,b2),cV,cC⟩ (l++[t])) v C\/wH (K6 (some (a0,b0)) l) (.tuple [.sl ((dJ dj.length k).map aA) false,.bool e]) (uI n D ⟨some (a2,b2),cV,cC⟩ (l++[t])) v C):=by
 let⟨n,hn⟩:=n;simp only at Co;have lb:n+1<=1000:=by omega
 have hz:ofConst (Value.agg #[.int .i64 0,.string {data:=#[]},.int .i64 0,.int .i64 0,.slice none 0 0])=some (V.agg [.int .i64 0,.str [],.int .i64 0,.int .i64 0,.a8]):=by rfl
 have r0:(l.length+1)*64<=1048576:=by omega
 have r1:k*64<=1048576:=by omega
 have r2:k*5<=1048576:=by omega
 have m1:i*4 / 4=i:=by omega
 have m2:(i*4+2) / 4=i:=by omega
 have m4:(i*4+1) / 4=i:=by omega
 have fL:(dJ dj.length k).length=k:=Bj;obtain⟨nm,oA⟩:∃ nm,D[i].name=nm:=⟨_,rfl⟩;rw[oA]at O;have zF2:D[i].params.length=k:=zQj;let⟨tk,tn,ti,th,tl⟩:=t
 cases l with
 | nil =>
   rw[gL];simp[U,hi,hD,m1,m2,aT,zF2,r1,r2,aK]
   try refine⟨rfl,?_⟩
   refine rA hρ U aq k (nn:=5) (λj (_:Nat×Nat×Z Slot×Z Change)=>[(0,.ptr 0 0 0),(2,.int .i64 (i:Int)),(4,.ptr 3 0 0),(6,.a8),(7,.bool false),(8,.own 4 0 0 k (some k)),(21,.int .i64 (k:Int)),(22,.int .i64 (j:Int))])
    (λj st=>[(0,.arr (n+4) 0 [.sl (D.map aT) false::.own 1 st.1 0 st.2.2.1.length none::.own 2 st.2.1 0 st.2.2.2.length none::.a8::jT 4 n] true false false),(1,.arr 8 st.1 (st.2.2.1.map dK) false false true),(2,.arr 10 st.2.1 (st.2.2.2.map bW) false false true),(3,box (aA (.mk tk tn ti th tl))),(4,.arr 5 0 (nX (dJ dj.length k) k j) true false true)])
    (λj st=>jB ⟨some (a0,b0),dj,fc⟩ j=⟨some (st.1,st.2.1),st.2.2.1,st.2.2.2⟩) (a0,b0,dj,fc)
    (aw.auto (hH:=by simp[Ao,Zl])) rfl ?_ ?_
   rintro ⟨a,b,sl,tr⟩ tU K;simp only at tU;rw[M]at tU;cases tU;rw[Aq fL];have kA:k<=(dJ dj.length k).length:=(by omega);have gE:List.take k ((dJ dj.length k).map aA)=(dJ dj.length k).map aA:=aP (by rw[aN];omega);have hvk:(dJ dj.length k).length<=1000:=(by omega);generalize dJ dj.length k=vs at O fL kA gE hvk;simp[kM,U];refine bM.mk (aw.auto (TL:=[(0,.ptr 0 0 0),(2,.int .i64 (i:Int)),(4,.ptr 3 0 0),(8,.own 4 0 0 k (some k))]) (HL:=[(0,.arr (n+4) 0 [.sl (D.map aT) false::.own 1 a1 0 dv.length none::.own 2 b1 0 nR.length none::.a8::jT 4 n] true false false),(1,.arr 8 a1 (dv.map dK) false false true),(2,.arr 10 b1 (nR.map bW) false false true),(3,box (aA (.mk tk tn ti th tl))),(4,.arr 5 0 (vs.map aA) true false true)]) (n:=5)) ?_;simp at O
   cases vs with
   | nil =>cases fL;simp at O;simp[U,hC,hQ,hn,lb,hi,m1,m4,aT,oA,hz,r0,O,Lm,aK];exact .inr (wH.auto)
   | cons v vs =>cases fL;simp at O gE hvk;simp[U,hC,DZ,hQ,hn,lb,hi,m1,m4,aT,oA,hz,r0,O,hvk,gE,aK];exact .inr (wH.auto)
   rintro j ⟨a,b,sl,tr⟩ hj C K hK;simp only at C;have gO:(j:Int)<k:=(by omega);have cr:=bG (i:=j);have jx:sl.length=dj.length+j:=(by have:=FW ⟨some (a0,b0),dj,fc⟩ j;rw[C]at this;exact this);have oR:tr.length=fc.length+j:=(by have:=FV ⟨some (a0,b0),dj,fc⟩ j;rw[C]at this;exact this);have hA:=O7 (s:=⟨some (a,b),sl,tr⟩) (h:=1000000) (b:=false) (by simp only;omega) (by simp only;omega);have kx:jB ⟨some (a0,b0),dj,fc⟩ (j+1)=uO ⟨some (a,b),sl,tr⟩ 1000000 false:=(by show uO (jB _ j) _ _=_;rw[C]);obtain⟨Ic,iz⟩:∃ q,(uO ⟨some (a,b),sl,tr⟩ 1000000 false).sl=q:=⟨_,rfl⟩;obtain⟨Gz,s8⟩:∃ q,(uO ⟨some (a,b),sl,tr⟩ 1000000 false).tr=q:=⟨_,rfl⟩;have hsa:uO ⟨some (a,b),sl,tr⟩ 1000000 false=⟨some (a+1,b+1),Ic,Gz⟩:=(by rw[<- iz,<- s8];rfl);rw[hsa]at hA kx;have aE:=hK (a+1,b+1,Ic,Gz) kx;have Yq:j<(nX (dJ dj.length k) k j).length:=(by rw[De fL (dG hj)];exact hj);have lO:=Ap fL hj Yq;rw[EA,<- jx]at lO;have Aj:(j*5) / 5=j:=(by omega);have Nl:(j*5) % 5=0:=(by omega);simp only at hA;generalize fU (sl.length:Int)=y at hA lO;cases y;simp[kZ]at lO;simp[-mr,-mq]at hA;simp[-mr,-mq,kM,U,hF,hn,lb,hj,gO,hA,cr,Yq,Aj,Nl,lO,aK,-Int.natCast_add];exact aE _ _ (aw.auto)
 | cons t0 l =>
   rw[dx];rw[aL]at r0;have N0:(V.int .i64 ((l.length:Int)+1)).nat?=some (l.length+1):=(by rfl);let⟨zNM,zNK,zNN,zNO,zNL⟩:=t0;simp[U,hi,hD,m1,m2,aT,zF2,r1,r2,aK]
   try refine⟨rfl,?_⟩
   refine rA hρ U aq k (nn:=6) (λj (_:Nat×Nat×Z Slot×Z Change)=>[(0,.ptr 0 0 0),(2,.int .i64 (i:Int)),(4,.ptr 4 0 0),(6,.a8),(7,.bool false),(8,.own 5 0 0 k (some k)),(21,.int .i64 (k:Int)),(22,.int .i64 (j:Int))])
    (λj st=>[(0,.arr (n+4) 0 [.sl (D.map aT) false::.own 1 st.1 0 st.2.2.1.length none::.own 2 st.2.1 0 st.2.2.2.length none::.own 3 l.length 0 (l.length+1) none::jT 4 n] true false false),(1,.arr 8 st.1 (st.2.2.1.map dK) false false true),(2,.arr 10 st.2.1 (st.2.2.2.map bW) false false true),(3,.arr 5 l.length (aA (.mk zNM zNK zNN zNO zNL)::l.map aA) false false true),(4,box (aA (.mk tk tn ti th tl))),(5,.arr 5 0 (nX (dJ dj.length k) k j) true false true)])
    (λj st=>jB ⟨some (a0,b0),dj,fc⟩ j=⟨some (st.1,st.2.1),st.2.2.1,st.2.2.2⟩) (a0,b0,dj,fc)
    (aw.auto (hH:=by simp[Ao,Zl])) rfl ?_ ?_
   rintro ⟨a,b,sl,tr⟩ tU K;simp only at tU;rw[M]at tU;cases tU;rw[Aq fL];have kA:k<=(dJ dj.length k).length:=(by omega);have gE:List.take k ((dJ dj.length k).map aA)=(dJ dj.length k).map aA:=aP (by rw[aN];omega);have hvk:(dJ dj.length k).length<=1000:=(by omega);generalize dJ dj.length k=vs at O fL kA gE hvk;simp[kM,U];refine bM.mk (aw.auto (TL:=[(0,.ptr 0 0 0),(2,.int .i64 (i:Int)),(4,.ptr 4 0 0),(8,.own 5 0 0 k (some k))]) (HL:=[(0,.arr (n+4) 0 [.sl (D.map aT) false::.own 1 a1 0 dv.length none::.own 2 b1 0 nR.length none::.own 3 l.length 0 (l.length+1) none::jT 4 n] true false false),(1,.arr 8 a1 (dv.map dK) false false true),(2,.arr 10 b1 (nR.map bW) false false true),(3,.arr 5 l.length (aA (.mk zNM zNK zNN zNO zNL)::l.map aA) false false true),(4,box (aA (.mk tk tn ti th tl))),(5,.arr 5 0 (vs.map aA) true false true)]) (n:=6)) ?_;simp at O
   cases vs with
   | nil =>cases fL;simp at O;simp[U,hC,hQ,hn,lb,hi,m1,m4,aT,oA,hz,r0,N0,bf,O,Lm,aK];exact .inr (wH.bw)
   | cons v vs =>cases fL;simp at O gE hvk;simp[U,hC,DZ,hQ,hn,lb,hi,m1,m4,aT,oA,hz,r0,N0,bf,O,hvk,gE,aK];exact .inr (wH.bw)
   rintro j ⟨a,b,sl,tr⟩ hj C K hK;simp only at C;have gO:(j:Int)<k:=(by omega);have cr:=bG (i:=j);have jx:sl.length=dj.length+j:=(by have:=FW ⟨some (a0,b0),dj,fc⟩ j;rw[C]at this;exact this);have oR:tr.length=fc.length+j:=(by have:=FV ⟨some (a0,b0),dj,fc⟩ j;rw[C]at this;exact this);have hA:=O7 (s:=⟨some (a,b),sl,tr⟩) (h:=1000000) (b:=false) (by simp only;omega) (by simp only;omega);have kx:jB ⟨some (a0,b0),dj,fc⟩ (j+1)=uO ⟨some (a,b),sl,tr⟩ 1000000 false:=(by show uO (jB _ j) _ _=_;rw[C]);obtain⟨Ic,iz⟩:∃ q,(uO ⟨some (a,b),sl,tr⟩ 1000000 false).sl=q:=⟨_,rfl⟩;obtain⟨Gz,s8⟩:∃ q,(uO ⟨some (a,b),sl,tr⟩ 1000000 false).tr=q:=⟨_,rfl⟩;have hsa:uO ⟨some (a,b),sl,tr⟩ 1000000 false=⟨some (a+1,b+1),Ic,Gz⟩:=(by rw[<- iz,<- s8];rfl);rw[hsa]at hA kx;have aE:=hK (a+1,b+1,Ic,Gz) kx;have Yq:j<(nX (dJ dj.length k) k j).length:=(by rw[De fL (dG hj)];exact hj);have lO:=Ap fL hj Yq;rw[EA,<- jx]at lO;have Aj:(j*5) / 5=j:=(by omega);have Nl:(j*5) % 5=0:=(by omega);simp only at hA;generalize fU (sl.length:Int)=y at hA lO;cases y;simp[kZ]at lO;simp[-mr,-mq]at hA;simp[-mr,-mq,kM,U,hF,hn,lb,hj,gO,hA,cr,Yq,Aj,Nl,lO,aK,-Int.natCast_add];exact aE _ _ (aw.auto)
end
def yZ (d f:Nat) (D:Z Decl) (s:MS) (l:Z G) (args:Z V):Y (V×MS×Z G):=match args with
 | [tv,.int .i64 i]=>ob (bo.dec tv:Y G) λt=>ob D[i.toNat]? λdd=>(match s.z with
   |none=>none
   | some _=>if 0<=i/\D.length<=1000/\dd.params.length<=1000/\l.length<=10000/\s.sl.length+dd.params.length<=10000/\s.tr.length+dd.params.length<=8000 then
     ob (kQ d f (jB s dd.params.length) [enc t,enc (G.mk 4 dd.name 0 0 (dJ s.sl.length dd.params.length))]) λq=>(match q.1 with
      |.bool e=>some (.tuple [.sl ((dJ s.sl.length dd.params.length).map aA) false,.bool e],q.2,l++[t])
      |_=>none)else none)
 |_=>none
omit hρ in
def Hz     {args:Z V}  (h:yZ d f D s l args=some q):∃ (t:G) (i:Nat) (hi:i<D.length) (a0 b0 a2 b2:Nat) (cV:Z Slot) (cC:Z Change) (e:Bool),
 args=[enc t,.int .i64 (i:Int)]/\s.z=some (a0,b0)/\D.length<=1000/\D[i].params.length<=1000/\l.length<=10000/\s.sl.length+D[i].params.length<=10000/\s.tr.length+D[i].params.length<=8000 /\
 kQ d f (jB s D[i].params.length) [enc t,enc (G.mk 4 D[i].name 0 0 (dJ s.sl.length D[i].params.length))]=some (.bool e,⟨some (a2,b2),cV,cC⟩)/\q=(.tuple [.sl ((dJ s.sl.length D[i].params.length).map aA) false,.bool e],⟨some (a2,b2),cV,cC⟩,l++[t]):=by
 unfold yZ at h;split at h;rename_i tv i;simp only[aC]at h;obtain⟨t,ht,dd,jz,h⟩:=h;have e1:=bo.bB _ _ ht;subst e1;split at h;cases h;rename_i z hz;split at h;rename_i hh;simp only[aC]at h;obtain⟨q1,M,h⟩:=h;obtain⟨hi,rfl⟩:=aM.1 jz;obtain⟨e,a2,b2,cV,cC,rfl⟩:=VQ M;cases h;obtain⟨a0,b0⟩:=z;exact⟨t,i.toNat,hi,a0,b0,a2,b2,cV,cC,e,by rw[Int.toNat_of_nonneg hh.1],hz,hh.2.1,hh.2.2.1,hh.2.2.2.1,hh.2.2.2.2.1,hh.2.2.2.2.2,M,rfl⟩;cases h;cases h
omit hρ in
def zcZ(h:s.z=some (a,b)):∀ k,∃ (a2 b2:Nat) (cV:Z Slot) (cC:Z Change),jB s k=⟨some (a2,b2),cV,cC⟩
 | 0=>by let⟨z,sl,tr⟩:=s;cases h;exact⟨_,_,_,_,rfl⟩
 | k+1=>by
   show ∃ a2 b2 cV cC,uO (jB s k) 1000000 false=_;exact⟨_,_,_,_,rfl⟩
def zeG(d f:Nat):Valid I Pg 203 (fu (Xa (yZ d f))):=by
 refine Valid.sym (fo Tryz.func203 mP.2) λvs C D h=>?_;obtain⟨args,n,Ds,s,s',l,l',r,ds,b,c,dd,e,hF,hz,GP,Co,rfl,_,hr,hg,b4⟩:=KI h;obtain⟨t,i,hi,a0,b0,a2,b2,cV,cC,e,rfl,cd,M,O,h3,h4,h5,h6,hq⟩:=Hz hF;cases hq
 have cR:∀ ρ',J.Good ρ'->bK ρ' (EL [(200,fu (DC 0 Fu)),(88,LJ),(167,fu (DC 0 (kQ d f)))]):=λρ' fI =>
  aj (ae (Ui fI) (ae (zmX fI) (ae (Nq fI d f) aH)))
 let⟨a1,b1,dv,nR,hm⟩:=zcZ cd Ds[i].params.length;cases s;simp only at cd;subst cd;rw[hm]at h6;exact Uo hρ follows named Tryz.func203 mP.2 rfl hg (λρ' fI=>⟨_,rfl,cR ρ' fI,OW fI rfl (cR ρ' fI) rfl rfl rfl Co hi M rfl O h3 h4 h5 hm h6⟩) (λ_ _ h=>h) b4
end
def AA(sl:Z Slot)(tr:Z Change)(t:G):Bool:=decide (200<sz (ao.w ⟨sl,tr⟩) t 200)
def Sx(R:ud)(v:V):Y V:=ob (bo.dec v:Y G) λt=>if (⟨R.sl,R.tr⟩:ao).mF/\t.ok=true then some (.bool (AA R.sl R.tr t))else none
def zu4{R:ud}(M:(⟨R.sl,R.tr⟩:ao).mF)(O:t.ok=true):Sx R (enc t)=some (.bool (AA R.sl R.tr t)):=by
 unfold Sx;rw[bo.dD,eQ,if_pos ⟨M,O⟩]
def zqv{R:ud}{q:V}(h:Sx R v=some q):∃ t:G,v=enc t/\(⟨R.sl,R.tr⟩:ao).mF/\t.ok=true/\q=.bool (AA R.sl R.tr t):=by
 unfold Sx at h;simp only[aC]at h;let⟨t,ht,h⟩:=h;obtain⟨M,rfl⟩:=bF h;exact⟨t,(bo.bB _ _ ht).symm ▸ rfl,M.1,M.2,rfl⟩
def zio(R:ud):Y V:=if (⟨R.sl,R.tr⟩:ao).mF/\(∀ t∈R.t::R.l,t.ok=true)/\R.l.length<=20000 then some (.int .i64 (gY (AA R.sl R.tr) (R.t::R.l) 0))else none
def ziY(R:ud):Y V:=if (⟨R.sl,R.tr⟩:ao).mF/\(∀ t∈R.t::R.l,t.ok=true)/\R.l.length<=20000 then some (.bool ((R.t::R.l).any (AA R.sl R.tr)))else none
def Mm(_:Z Decl)(s:MS)(l:Z G)(args:Z V):Y (V×MS×Z G):=match args,s.z,l with
 | [],some _,t::l=>if (⟨s.sl,s.tr⟩:ao).mF/\(∀ u∈t::l,u.ok=true)/\l.length<=20000 then some (.bool (!(t::l).any (AA s.sl s.tr)),s,t::l)else none
 |_,_,_=>none
def zeY{args:Z V}(h:Mm D s l args=some q):∃ a b t l',args=[]/\s.z=some (a,b)/\l=t::l'/\(⟨s.sl,s.tr⟩:ao).mF/\(∀ u∈t::l',u.ok=true)/\l'.length<=20000/\q=(.bool (!(t::l').any (AA s.sl s.tr)),s,t::l'):=by
 unfold Mm at h;split at h;rename_i z t l' hz;obtain⟨M,rfl⟩:=bF h;let⟨a,b⟩:=z;exact⟨a,b,t,l',rfl,hz,rfl,M.1,M.2.1,M.2.2,rfl⟩;cases h
section
variable {I:Nat->Value}(hρ:J.Good I)
include hρ
section
variable {E:Env}(U:E.P=Pg)(aq:bK I E)
include U aq
theorem QK(hZ:E.dA 132=qd){R:ud}(M:(⟨R.sl,R.tr⟩:ao).mF)(O:t.ok=true) :
 Wp I E 5 11 qa.1 ((PT.leaf.set 0 (enc t)).set 1 (.ptr 0 0 0)) { H:=dP (Dp R),n:=5,log:=[] } (J.Leaves E.P Tryz.f131 (aJ 5 (.bool (AA R.sl R.tr t)) (Dp R))):=by
 let⟨⟨n,hn⟩,D,ga,gb,sl,tr,ts,l⟩:=R;obtain⟨q,hq⟩:∃ q,sz (ao.w ⟨sl,tr⟩) t 200=q:=⟨_,rfl⟩;simp only[AA];rw[hq];have e2:(max (200:Int) 0).toNat=200:=by decide
 have e:decide ((200:Int)<(q:Int))=decide (200<q):=by by_cases h:200<q;rw[decide_eq_true h,decide_eq_true (by omega)];rw[decide_eq_false h,decide_eq_false (by omega)]
 rw[<- e];simp only at M;cases t;simp[U,hZ,qd,M,O,e2,hq];exact aJ.fC rfl rfl rfl (by simp)
def QI(hC:E.dA 131=ZF (zjJ Sx)){R:ud}(M:(⟨R.sl,R.tr⟩:ao).mF)(O:∀ t∈R.t::R.l,t.ok=true)(h3:R.l.length<=20000) :
 Wp I E 5 19 bL.1 ((PT.leaf.set 0 (.own 4 R.l.length 0 (R.l.length+1) none)).set 1 (.func 131 [.ptr 0 0 0])) { H:=dP (Dp R),n:=5,log:=[] }
  (J.Leaves E.P Tryz.f205 (aJ 5 (.int .i64 (gY (AA R.sl R.tr) (R.t::R.l) 0)) (Dp R))):=by
 obtain⟨r,hr⟩:∃ r,gY (AA R.sl R.tr) (R.t::R.l) 0=r:=⟨_,rfl⟩;rw[hr];have b7:∀ t∈R.t::R.l,Sx R (enc t)=some (.bool (AA R.sl R.tr t)):=λt ht=>zu4 M (O t ht);let⟨⟨n,hn⟩,D,ga,gb,sl,tr,ts,l⟩:=R;simp only at hr M O h3 b7 ⊢;generalize hbg:AA sl tr=bg at hr b7;obtain⟨L,hL⟩:∃ L,ts::l=L:=⟨_,rfl⟩;have Em:L.length=l.length+1:=by rw[<- hL];rfl
 have Ix:L.map aA=aA ts::l.map aA:=by rw[<- hL];rfl
 rw[hL]at hr b7;let⟨tk,tn,ti,th,tl⟩:=ts;simp[U]
 refine rA hρ U aq L.length (nn:=5) (λi (_:Unit)=>[(0,.own 4 l.length 0 (l.length+1) none),(1,.func 131 [.ptr 0 0 0]),(7,.int .i64 (L.length:Int)),(8,.int .i64 (i:Int))])
  (λi _=>[(0,jw (.ptr 1 0 0)),(1,.arr (n+4) 0 [.sl (D.map aT) false::.own 2 ga 0 sl.length none::.own 3 gb 0 tr.length none::.own 4 l.length 0 (l.length+1) none::jT 4 n] true false false),(2,.arr 8 ga (sl.map dK) false false true),(3,.arr 10 gb (tr.map bW) false false true),(4,.arr 5 l.length (L.map aA) false false true)])
  (λi _=>gY bg (L.drop i) (i:Int)=r) ()
  (aw.auto (by simp[Em]) (by simp[Ix])) (by simpa using hr) ?_ ?_
 intro _ h K;rw[bz,gY]at h;simp[bD,U];refine bM.mk (aw.auto (TL:=[]) (HL:=Dp ⟨⟨n,hn⟩,D,ga,gb,sl,tr,.mk tk tn ti th tl,l⟩) (n:=5) (hH:=by simp[Ix])) ?_;simp[U,<- h];exact aJ.fC rfl rfl rfl (by simp);intro i _ hi h K hK;have ra:i<l.length+1:=by omega
 have HK:(i:Int)<(l.length:Int)+1:=by omega
 have cr:=bG (i:=i);have Aj:(i*5) / 5=i:=by omega
 have Nl:(i*5) % 5=0:=by omega
 have hb:=b7 L[i] (ax hi);rw[aG hi,gY]at h;have zL4:(L.map aA)[i]?=some (aA L[i]):=by rw[bC,az hi];rfl
 obtain⟨y,hy⟩:∃ y,L[i]=y:=⟨_,rfl⟩;rw[hy]at hb h zL4;obtain⟨q,hq⟩:∃ q,bg y=q:=⟨_,rfl⟩;rw[hq]at hb h;let⟨yk,yn,yi,yh,yl⟩:=y;have zFW:∀ h,([.int .i64 tk,.str tn,.int .i64 ti,.int .i64 th,.sl (tl.map aA) false]::l.map aA)[i]'h=[.int .i64 yk,.str yn,.int .i64 yi,.int .i64 yh,.sl (yl.map aA) false]:=by intro h;rw[Ix,kZ,kZ]at zL4;exact(aM.1 zL4).2
 simp at hb
 cases q with
 | true =>rw[if_pos rfl]at h;simp[bD,U,hi,ra,HK,Aj,Nl,zFW,Em,hC,hn,Ix,hb];refine bM.mk (aw.auto (TL:=[(4,.int .i64 (i:Int))]) (HL:=Dp ⟨⟨n,hn⟩,D,ga,gb,sl,tr,.mk tk tn ti th tl,l⟩) (n:=5) (hH:=by simp[Ix])) ?_;simp[U,<- h];exact aJ.fC rfl rfl rfl (by simp)
 | false =>
   rw[if_neg (by decide)]at h;have aE:=hK () h;simp[bD,U,hi,ra,HK,Aj,Nl,zFW,Em,hC,hn,Ix,hb,cr,-Int.natCast_add];exact aE _ _ (aw.auto (by simp[Em,-Int.natCast_add]) (by simp[Ix]))
theorem QJ(hC:E.dA 205=ZF (ZJ 131 zio)){R:ud}(M:(⟨R.sl,R.tr⟩:ao).mF)(O:∀ t∈R.t::R.l,t.ok=true)(h3:R.l.length<=20000) :
 Wp I E 5 9 bY.1 ((PT.leaf.set 0 (.own 4 R.l.length 0 (R.l.length+1) none)).set 1 (.func 131 [.ptr 0 0 0])) { H:=dP (Dp R),n:=5,log:=[] }
  (J.Leaves E.P Tryz.f130 (aJ 5 (.bool ((R.t::R.l).any (AA R.sl R.tr))) (Dp R))):=by
 have rK:=AZ (AA R.sl R.tr) (R.t::R.l) 0 (fM _);have hv:zio R=some (.int .i64 (gY (AA R.sl R.tr) (R.t::R.l) 0)):=if_pos ⟨M,O,h3⟩;generalize gY (AA R.sl R.tr) (R.t::R.l) 0=x at rK hv;rw[<- rK];let⟨⟨n,hn⟩,D,ga,gb,sl,tr,ts,l⟩:=R;cases ts;simp[U,hC,hn,hv];exact aJ.fC rfl rfl rfl (by simp)
theorem Tn(hC:E.dA 130=ZF (ZJ 131 ziY)){n:MN}{ga gb:Nat}(M:(⟨sl,tr⟩:ao).mF)(O:∀ u∈t::l,u.ok=true)(h3:l.length<=20000) :
 Wp I E 4 10 rM.1 (PT.leaf.set 0 (.ptr 0 0 0)) { H:=dP (uI n D ⟨some (ga,gb),sl,tr⟩ (t::l)),n:=4,log:=[] } (J.Leaves E.P Tryz.f61 (aJ 4 (.bool (!(t::l).any (AA sl tr))) (uI n D ⟨some (ga,gb),sl,tr⟩ (t::l)))):=by
 let⟨n,hn⟩:=n;have hv:ziY ⟨⟨n,hn⟩,D,ga,gb,sl,tr,t,l⟩=some (.bool ((t::l).any (AA sl tr))):=if_pos ⟨M,O,h3⟩;generalize (t::l).any (AA sl tr)=q at hv;cases t;simp[U,hC,hn,hv];exact aJ.fC rfl rfl rfl (by simp)
end
def zjs:Valid I Pg 131 (ZF (zjJ Sx)):=by
 refine Valid.ZF (fo Tryz.func131 qa.2) λvs C D h hp=>?_;obtain⟨t,R,r,ds,a,b,c,d,e,hF,rfl,hg,b4⟩:=znI h;obtain⟨t,rfl,M,O,rfl⟩:=zqv hF;exact Uq hρ follows named Tryz.func131 qa.2 rfl hg rfl hp (λρ' fI=>⟨EL [(132,qd)],rfl,aj (ae (Zo fI) aH),QK fI rfl (aj (ae (Zo fI) aH)) rfl M O⟩) b4
def zjq:Valid I Pg 205 (ZF (ZJ 131 zio)):=by
 refine Valid.ZF (fo Tryz.func205 bL.2) λvs C D h hp=>?_;obtain⟨R,r,ds,a,b,c,d,e,hF,rfl,hg,b4⟩:=zca h;obtain⟨⟨M,O,h3⟩,rfl⟩:=bF hF;have cR:∀ ρ',J.Good ρ'->bK ρ' (EL [(131,ZF (zjJ Sx))]):=λρ' fI=>aj (ae (zjs fI) aH);exact Uq hρ follows named Tryz.func205 bL.2 rfl hg rfl hp (λρ' fI=>⟨_,rfl,cR ρ' fI,QI fI rfl (cR ρ' fI) rfl M O h3⟩) b4
def zjr:Valid I Pg 130 (ZF (ZJ 131 ziY)):=by
 refine Valid.ZF (fo Tryz.func130 bY.2) λvs C D h hp=>?_;obtain⟨R,r,ds,a,b,c,d,e,hF,rfl,hg,b4⟩:=zca h;obtain⟨⟨M,O,h3⟩,rfl⟩:=bF hF;have cR:∀ ρ',J.Good ρ'->bK ρ' (EL [(205,ZF (ZJ 131 zio))]):=λρ' fI=>aj (ae (zjq fI) aH);exact Uq hρ follows named Tryz.func130 bY.2 rfl hg rfl hp (λρ' fI=>⟨_,rfl,cR ρ' fI,QJ fI rfl (cR ρ' fI) rfl M O h3⟩) b4
def znb:Valid I Pg 61 (fu (Xa Mm)):=by
 refine Valid.sym (fo Tryz.func61 rM.2) λvs C D h=>?_;obtain⟨args,n,Ds,s,s',l,l',r,ds,b,c,dd,e,hF,hz,GP,Co,rfl,_,hr,hg,b4⟩:=KI h;obtain⟨a,b,t,l2,rfl,cd,rfl,M,O,h3,hq⟩:=zeY hF;cases hq;have cR:∀ ρ',J.Good ρ'->bK ρ' (EL [(130,ZF (ZJ 131 ziY))]):=λρ' fI=>aj (ae (zjr fI) aH);cases s;simp only at cd;subst cd;exact sy hρ Tryz.func61 rM.2 rfl hg (λρ' fI=>⟨_,rfl,cR ρ' fI,Tn fI rfl (cR ρ' fI) rfl M O h3⟩) b4
end
abbrev CS:=MS×Z G
def Ct (rec:G->Xp->CS->Y (Bool×CS)):Bool->Z G->Z Xp->CS->Y (Bool×CS)
 |is,_,[],s=>some (is,s)
 | is,gs,x::xs,s=>if is=true then (match gs with
   | []=>none
   |g::gs=>ob (rec g x s) λq=>Ct rec q.1 gs xs q.2)else some (false,s)
def AB{rec:G->Xp->CS->Y (Bool×CS)}{is:Bool}{gs:Z G}{s:CS}:Ct rec is gs [] s=some (is,s):=by cases gs<;>rfl
def uM{rec:G->Xp->CS->Y (Bool×CS)}{gs:Z G}{xs:Z Xp}{s:CS}:Ct rec false gs (x::xs) s=some (false,s):=by cases gs<;>rfl
def Ng{rec:G->Xp->CS->Y (Bool×CS)}{xs:Z Xp}{s:CS}:Ct rec true [] (x::xs) s=none:=by rfl
def Ea{rec:G->Xp->CS->Y (Bool×CS)}{gs:Z G}{xs:Z Xp}{s:CS}:Ct rec true (g::gs) (x::xs) s=ob (rec g x s) λq=>Ct rec q.1 gs xs q.2:=by rfl
def Dv:Z (Z Nat)->Z (Z Nat)->Z G->Z Entry->Y (Z Entry)
 |_,[],_,c=>some c
 | done,v::vs,fs,c=>if v∈done then none else match fs with
   | []=>some c
   |f::fs=>Dv (done++[v]) vs fs (c++[⟨v,mono f⟩])
def yX (rec:Z Entry->G->Xp->CS->Y (Bool×CS)) (D:Z Decl) (args:Z G) (ctx:Z Entry) (g:G):Bool->Z Am->CS->Y (Bool×CS)
 |is,[],s=>some (is,s)
 | is,a::l,s=>if is=false\/(pG D a.dA args).1.length≠a.vars.length then some (false,s)else match Dv [] a.vars (pG D a.dA args).1 ctx with
   |none=>some (false,s)
   |some c=>ob (rec c g a.body s) λq=>yX rec D args ctx g q.1 l q.2
def QW (d f:Nat) (D:Z Decl) (rec:Z Entry->G->Xp->CS->Y (Bool×CS)) (ctx:Z Entry) (g:G) (e:Xp) (s:CS):Y (Bool×CS):=match e.kids with
 | []=>none
 | k0::_=>if (uD ctx k0.name).2=false\/(Cs D e.b8).2=false\/(uD ctx k0.name).1.count≠0 then some (false,s)else
   ob (Bw d f s.1 [enc g]) λq=>(match q.1 with
    | .bool true=>ob (yZ d f D q.2 s.2 [enc (uD ctx k0.name).1.type,.int .i64 (Cs D e.b8).1]) λr=>(match r.1 with
      |.tuple [av,.bool is]=>ob (bo.dec av:Y (Z G)) λargs=>yX rec D args ctx g is e.b8 (r.2.1,r.2.2)
      |_=>none)
    |.bool false=>some (false,(q.2,s.2))
    |_=>none)
def WX(D:Z Decl)(ctx:Z Entry)(e:Xp):Prop:=Gu D/\ctx.length<=900/\e.depth<=1000/\e.b8.length<=1000/\(∀ a∈e.b8,a.vars.length<=90)/\(dE e).2.length<=1000
open Classical in
def gZ(d f:Nat)(D:Z Decl):Nat->Z Entry->G->Xp->CS->Y (Bool×CS)
 | 0,_,_,_,_=>none
 | n + 1,ctx,g,e,s=>if WX D ctx e then (
     if e.kind=4 then (match e.kids with
      | []=>none
      | k0::_=>ob (jG d f s.1 [enc g]) λq=>(match q.1 with
        |.tuple [av,bv,.bool true]=>ob (bo.dec av:Y G) λa=>ob (bo.dec bv:Y G) λb=>gZ d f D n (ctx++[⟨e.name,mono a⟩]) b k0 (q.2,s.2)
        |.tuple [_,_,.bool false]=>some (false,(q.2,s.2))
        |_=>none))
     else if e.kind=8 then QW d f D (gZ d f D n) ctx g e s
     else if (ED D ctx (dE e).1).2=true then
      ob (Ij d f D s.1 s.2 [enc (ED D ctx (dE e).1).1,.int .i64 ((dE e).2.length:Int),enc g]) λr=>(match r.1 with
       |.tuple [lv,.bool is]=>ob (bo.dec lv:Y (Z G)) λl=>if is=true/\l.length≠(dE e).2.length then none else Ct (gZ d f D n ctx) is l (dE e).2 (r.2.1,r.2.2)
       |_=>none)
     else some (false,s))else none
def Fp(d f n:Nat)(D:Z Decl)(s:MS)(l:Z G)(args:Z V):Y (V×MS×Z G):=match args with
 | [cv,gv,ev]=>ob (bo.dec cv:Y (Z Entry)) λctx=>ob (bo.dec gv:Y G) λg=>ob (bo.dec ev:Y Xp) λe=>ob (gZ d f D n ctx g e (s,l)) λr=>some (.bool r.1,r.2.1,r.2.2)
 |_=>none
open Classical in
def Sf(d f n:Nat)(D:Z Decl)(s:MS)(l:Z G)(args:Z V):Y (V×MS×Z G):=match args with
 | [cv,gv,ev]=>ob (bo.dec cv:Y (Z Entry)) λctx=>ob (bo.dec gv:Y G) λg=>ob (bo.dec ev:Y Xp) λe=>if WX D ctx e then ob (QW d f D (gZ d f D n) ctx g e (s,l)) λr=>some (.bool r.1,r.2.1,r.2.2)else none
 |_=>none
theorem Kw{n:Nat}{ctx:Z Entry}{r:Bool×CS}(h:gZ d f D n ctx g e (s,l)=some r):Fp d f n D s l [enc ctx,enc g,enc e]=some (.bool r.1,r.2.1,r.2.2):=by
 show ob (bo.dec (enc ctx):Y (Z Entry)) (λctx=>ob (bo.dec (enc g):Y G) λg=>ob (bo.dec (enc e):Y Xp) λe=>ob (gZ d f D n ctx g e (s,l)) λr=>some (V.bool r.1,r.2.1,r.2.2))=_;simp_all
def VB{n:Nat}{args:Z V}(h:Fp d f n D s l args=some q):∃ (ctx:Z Entry) (g:G) (e:Xp) (r:Bool×CS),args=[enc ctx,enc g,enc e]/\gZ d f D n ctx g e (s,l)=some r/\q=(.bool r.1,r.2.1,r.2.2):=by
 unfold Fp at h;split at h;simp only[aC]at h;let⟨ctx,M,g,O,e,h3,r,h4,h⟩:=h;cases h;exact⟨ctx,g,e,r,by rw[bo.bB _ _ M,bo.bB _ _ O,bo.bB _ _ h3],h4,rfl⟩;cases h
theorem zvb{n:Nat}{ctx:Z Entry}{r:Bool×CS}(hp:WX D ctx e)(h:QW d f D (gZ d f D n) ctx g e (s,l)=some r):Sf d f n D s l [enc ctx,enc g,enc e]=some (.bool r.1,r.2.1,r.2.2):=by
 unfold Sf;simp_all
def zqI{n:Nat}{args:Z V}(h:Sf d f n D s l args=some q):∃ (ctx:Z Entry) (g:G) (e:Xp) (r:Bool×CS),args=[enc ctx,enc g,enc e]/\WX D ctx e/\QW d f D (gZ d f D n) ctx g e (s,l)=some r/\q=(.bool r.1,r.2.1,r.2.2):=by
 unfold Sf at h;split at h;simp only[aC]at h;let⟨ctx,M,g,O,e,h3,h⟩:=h;split at h;rename_i hp;simp only[aC]at h;let⟨r,h4,h⟩:=h;cases h;exact⟨ctx,g,e,r,by rw[bo.bB _ _ M,bo.bB _ _ O,bo.bB _ _ h3],hp,h4,rfl⟩;cases h;cases h
def vY(s s':CS):Prop:=(∀ a b,s.1.z=some (a,b)->∃ a2 b2,s'.1.z=some (a2,b2))/\(s.2≠[]->s'.2≠[])
theorem vY.refl(s:CS):vY s s:=⟨λa b h=>⟨a,b,h⟩,id⟩
def vY.trans{s s' s2:CS}(h:vY s s')(h':vY s' s2):vY s s2:=⟨λa b e=>by let⟨a2,b2,e2⟩:=h.1 a b e;exact h'.1 _ _ e2,λe=>h'.2 (h.2 e)⟩
def Hy {rec:G->Xp->CS->Y (Bool×CS)} (hr:∀ g x s q,rec g x s=some q->vY s q.2):∀ {xs:Z Xp} {is:Bool} {gs:Z G} {s:CS} {q:Bool×CS},Ct rec is gs xs s=some q->vY s q.2
 | [],is,gs,s,q,h=>by rw[AB]at h;cases h;exact .refl _
 | x :: xs,is,gs,s,q,h=>by
   cases is with
   |false=>rw[uM]at h;cases h;exact .refl _
   | true =>
     cases gs with
     |nil=>rw[Ng]at h;cases h
     | cons g gs =>
       rw[Ea]at h;simp only[aC]at h;let⟨p,hp,h⟩:=h;exact(hr _ _ _ _ hp).trans (Hy hr h)
def Hw {rec:Z Entry->G->Xp->CS->Y (Bool×CS)} (hr:∀ c g x s q,rec c g x s=some q->vY s q.2)  {args:Z G} {ctx:Z Entry} :∀ {l:Z Am} {is:Bool} {s:CS} {q:Bool×CS},yX rec D args ctx g is l s=some q->vY s q.2
 | [],is,s,q,h=>by cases h;exact .refl _
 | a :: l,is,s,q,h=>by
   rw[yX]at h;split at h;cases h;exact .refl _;split at h;cases h;exact .refl _;simp only[aC]at h;let⟨p,hp,h⟩:=h;exact(hr _ _ _ _ _ hp).trans (Hw hr h)
def zgJ{args:Z V}{q:V×MS}(h:Bw d f s args=some q):vY (s,l) (q.2,l):=by
 obtain⟨e,a,b,sl,tr,rfl⟩:=KP h;exact⟨λ_ _ _=>⟨_,_,rfl⟩,id⟩
def VL{args:Z V}{q:V×MS}(h:jG d f s args=some q):vY (s,l) (q.2,l):=by
 let⟨z,sl,tr⟩:=s
 cases z with
 |none=>obtain⟨x,y,r,rfl⟩:=yP h;exact .refl _
 | some z =>
   cases z;let⟨x,y,r,_,a2,b2,e2⟩:=A7 h;exact⟨λ_ _ _=>⟨_,_,e2⟩,id⟩
def LP{args:Z V}(h:yZ d f D s l args=some q):vY (s,l) (q.2.1,q.2.2)/\(∃ a2 b2,q.2.1.z=some (a2,b2))/\q.2.2≠[]:=by
 obtain⟨t,i,hi,a0,b0,a2,b2,cV,cC,e,_,_,_,_,_,_,_,_,rfl⟩:=Hz h;exact⟨⟨λ_ _ _=>⟨_,_,rfl⟩,λ_=>by simp⟩,⟨_,_,rfl⟩,by simp⟩
def MU{args:Z V}(h:Ij d f D s l args=some q):vY (s,l) (q.2.1,q.2.2)/\q.2.2≠[]/\∀ v,q.1=.tuple [v,.bool true]->∃ a2 b2,q.2.1.z=some (a2,b2):=by
 obtain⟨c,k,g,r0,s1,s2,R,acc,e,rfl,hk,hl,M,O,h3,rfl⟩:=Yr h;refine⟨⟨λa b hz=>?_,λ_=>by simp⟩,by simp,λv hv=>?_⟩;let⟨a1,b1,e1⟩:=(UY M).1 _ _ hz;let⟨a2,b2,e2⟩:=(G5 O).1 _ _ e1;exact Yy h3 e2;let⟨R,s3⟩:=R
 cases R with
 | none =>obtain⟨_,rfl,_⟩:=KD h3;simp at hv
 | some p =>
   cases p;let⟨_,e1,a1,b1,dv,nR,_,hh⟩:=Ha h3;rcases hh with⟨_,_,rfl⟩|⟨_,e2,a2,b2,cV,cC,_,⟨_,_,rfl⟩|⟨_,a3,b3,Ic,Gz,_,rfl⟩⟩;exact⟨_,_,rfl⟩;exact⟨_,_,rfl⟩;exact⟨_,_,rfl⟩
def zmb   {rec:Z Entry->G->Xp->CS->Y (Bool×CS)} (hr:∀ c g x s q,rec c g x s=some q->vY s q.2) {ctx:Z Entry}   {s:CS} {q:Bool×CS} (h:QW d f D rec ctx g e s=some q):vY s q.2:=by
 unfold QW at h;split at h;cases h;split at h;cases h;exact .refl _;simp only[aC]at h;let⟨p,hp,h⟩:=h;have hg:=zgJ (l:=s.2) hp;split at h;simp only[aC]at h;let⟨r,qS,h⟩:=h;split at h;simp only[aC]at h;let⟨args,_,h⟩:=h;exact(hg.trans (LP qS).1).trans (Hw hr h);cases h;cases h;exact hg;cases h
def mZ  :∀ {n:Nat} {ctx:Z Entry} {g:G} {e:Xp} {s:CS} {q:Bool×CS},gZ d f D n ctx g e s=some q->vY s q.2
 | 0,ctx,g,e,s,q,h=>by cases h
 | n + 1,ctx,g,e,s,q,h=>by
   rw[gZ]at h;split at h;split at h;split at h;cases h;simp only[aC]at h;let⟨p,hp,h⟩:=h;have hg:=VL (l:=s.2) hp;split at h;simp only[aC]at h;let⟨a,_,b,_,h⟩:=h;exact hg.trans (mZ h);cases h;exact hg;cases h;split at h;exact zmb (λc g x s q h=>mZ h) h;split at h;simp only[aC]at h;let⟨r,qS,h⟩:=h;split at h;simp only[aC]at h;let⟨l,_,h⟩:=h;split at h;cases h;exact(MU qS).1.trans (Hy (λg x s q h=>mZ h) h);cases h;cases h;exact .refl _;cases h
def zdj{s2:MS}(hz:s.z=none->s.sl=[]/\s.tr=[]/\l=[])(hg:vY (s,l) (s2,l2)):(s=⟨none,[],[]⟩/\l=[])\/∃ a b sl tr a2 b2 cV cC,s=⟨some (a,b),sl,tr⟩/\s2=⟨some (a2,b2),cV,cC⟩:=by
 rcases Bu hz with h|⟨a,b,sl,tr,rfl⟩;exact .inl h;let⟨a2,b2,e2⟩:=hg.1 _ _ rfl;cases s2;cases e2;exact .inr ⟨_,_,_,_,_,_,_,_,rfl,rfl⟩
def zdo{s1 s2:MS}{args:Z V}(hz:s.z=none->s.sl=[]/\s.tr=[]/\l=[])(h:jG d f s args=some (v,s1))(hg:vY (s1,l) (s2,l2)) :
 (s=⟨none,[],[]⟩/\l=[]/\s1=⟨none,[],[]⟩)\/∃ a b sl tr a1 b1 dv nR a2 b2 cV cC,s=⟨some (a,b),sl,tr⟩/\s1=⟨some (a1,b1),dv,nR⟩/\s2=⟨some (a2,b2),cV,cC⟩:=by
 rcases Bu hz with⟨rfl,rfl⟩|⟨a,b,sl,tr,rfl⟩;let⟨_,_,_,e1⟩:=yP h;cases e1;exact .inl ⟨rfl,rfl,rfl⟩;let⟨_,_,_,_,a1,b1,e1⟩:=A7 h;cases s1;cases e1;let⟨a2,b2,e2⟩:=hg.1 _ _ rfl;cases s2;cases e2;exact .inr ⟨_,_,_,_,_,_,_,_,_,_,_,_,rfl,rfl,rfl⟩
section
variable {I:Nat->Value}(hρ:J.Good I)
include hρ
section
variable {E:Env}(U:E.P=Pg)(aq:bK I E)
include U aq
def SX(I:Nat->Value)(E:Env)(n:MN)(D:Z Decl)(ctx:Z Entry)(g:G)(e:Xp)(s:MS)(l:Z G)(r:Bool)(s2:MS)(l2:Z G):Prop :=
 Wp I E (K6 s.z l) 99 lF.1 ((((PT.leaf.set 0 (.ptr 0 0 0)).set 1 (enc ctx)).set 2 (enc g)).set 3 (enc e)) { H:=dP (uI n D s l),n:=K6 s.z l,log:=[] } (J.Leaves E.P Tryz.f60 (aJ (K6 s.z l) (.bool r) (uI n D s2 l2)))
variable (hF:E.dA 125=fu (DC 0 (jG d f)))(hM:E.dA 127=Fe)(hP:E.dA 126=Fw)(hA:E.dA 128=fu (Xa (Sf d f m)))(hSp:E.dA 118=dC (cz Fb))(hNf:E.dA 129=Mx)(hHd:E.dA 81=fu (Xa (Ij d f)))(hH:E.dA 60=fu (Xa (Fp d f m)))
 {n:MN} (Co:n.n<=900)  {ctx:Z Entry}   {s1 s2:MS} {l1:Z G}  (hz:s.z=none->s.sl=[]/\s.tr=[]/\l=[])
include hF hM hP hA hSp hNf hHd hH Co hz
theorem zfM{x:G}(hk:e.kind=4)(M:jG d f s [enc g]=some (.tuple [enc x,enc y,.bool false],s1)):SX I E n D ctx g e s l false s1 l:=by
 let⟨n,hn⟩:=n;simp only at Co;have lb:n+1<=1000:=by omega
 cases g;cases x;cases y;let⟨ek,ep,en,em,cS,RZ,⟨m8,mL,m9,nq,m7⟩⟩:=e;simp only[Xp.fH]at hk;subst hk;unfold SX;rcases zdo hz M (.refl _)with⟨rfl,rfl,rfl⟩|⟨a,b,sl,tr,a1,b1,dv,nR,a2,b2,cV,cC,rfl,rfl,_⟩
 any_goals rcases l with _|⟨⟨tk,tn,ti,th,tl⟩,l⟩
 all_goals
  simp at M;simp[U,bq,hF,hn,lb,Co,M,aK]
  first|(refine aJ.fC rfl rfl rfl ?_;simp;done)|exact aJ.auto
theorem zk3{x:G}(hk:e.kind=4)(ew:ctx.length<=900)(rp:e.kids=k0::ks)
 (M:jG d f s [enc g]=some (.tuple [enc x,enc y,.bool true],s1)) (O:Fp d f m D s1 l [enc (ctx++[⟨e.name,mono x⟩]),enc y,enc k0]=some (.bool r,s2,l2)) (hg:vY (s1,l) (s2,l2)):SX I E n D ctx g e s l r s2 l2:=by
 let⟨n,hn⟩:=n;simp only at Co;have lb:n+1<=1000:=by omega
 have zy8:ctx.length<=1000:=by omega
 cases g;cases x;cases y;let⟨ek,ep,en,em,cS,RZ,⟨m8,mL,m9,nq,m7⟩⟩:=e;simp only[Xp.fH,Xp.j4,Xp.kL]at hk rp O;subst hk rp;let⟨kk,kp,kn,km,zoV,zoZ,⟨zLp,zLn,zLq,zLr,zLo⟩⟩:=k0;unfold SX;rcases zdo hz M hg with⟨rfl,rfl,rfl⟩|⟨a,b,sl,tr,a1,b1,dv,nR,a2,b2,cV,cC,rfl,rfl,rfl⟩
 any_goals obtain⟨_|⟨a2,b2⟩,cV,cC⟩:=s2
 any_goals rcases l with _|⟨⟨tk,tn,ti,th,tl⟩,l⟩
 all_goals
  rcases l2 with _|⟨⟨zPw,zPu,zPx,zPy,zPv⟩,l2⟩
  all_goals try exact absurd rfl (hg.2 (List.cons_ne_nil _ _))
 all_goals
  simp[mono,dV,bq]at M O;simp[U,bq,mono,dV,hF,hM,Fe,hP,Fw,zy8,hH,hn,lb,Co,M,O,aK]
  first|(refine aJ.fC rfl rfl rfl ?_;simp;done)|exact aJ.auto
theorem zk4(hk:e.kind=8)(O:Sf d f m D s l [enc ctx,enc g,enc e]=some (.bool r,s2,l2))(hg:vY (s,l) (s2,l2)):SX I E n D ctx g e s l r s2 l2:=by
 let⟨n,hn⟩:=n;simp only at Co;cases g;let⟨ek,ep,en,em,cS,RZ,⟨m8,mL,m9,nq,m7⟩⟩:=e;simp only[Xp.fH]at hk;subst hk;unfold SX;rcases zdj hz hg with⟨rfl,rfl⟩|⟨a,b,sl,tr,a2,b2,cV,cC,rfl,rfl⟩
 any_goals obtain⟨_|⟨a2,b2⟩,cV,cC⟩:=s2
 any_goals rcases l with _|⟨⟨tk,tn,ti,th,tl⟩,l⟩
 all_goals
  rcases l2 with _|⟨⟨zPw,zPu,zPx,zPy,zPv⟩,l2⟩
  all_goals try exact absurd rfl (hg.2 (List.cons_ne_nil _ _))
 all_goals
  simp[bq]at O;simp[U,bq,hA,hn,Co,O,aK]
  first|(refine aJ.fC rfl rfl rfl ?_;simp;done)|exact aJ.auto
section
variable {args:Z Xp}{acc:Z G}(An:e.kind≠4)(v9:e.kind≠8)(h0:Fb e=some (hd,args))
include An v9 h0
theorem zaF(M:MB D ctx hd=some (sc,false)):SX I E n D ctx g e s l false s l:=by
 let⟨n,hn⟩:=n;simp only at Co;cases g;let⟨ek,ep,en,em,cS,RZ,⟨m8,mL,m9,nq,m7⟩⟩:=e;let⟨hdk,hdp,hdn,VG,zpx,zpy,⟨gE,htn,hti,hth,sf⟩⟩:=hd;let⟨scc,⟨sk,sn,si,sh,sl⟩⟩:=sc;simp only[Xp.fH]at An v9;unfold SX;rcases Bu hz with⟨rfl,rfl⟩|⟨a,b,sl,tr,rfl⟩
 any_goals rcases l with _|⟨⟨tk,tn,ti,th,tl⟩,l⟩
 all_goals
  simp[U,bq,An,v9,hSp,h0,hNf,Mx,M,hn,Co,aK];exact aJ.fC rfl rfl rfl (by simp)
theorem zdb(s4:args.length<=1000)(M:MB D ctx hd=some (sc,true))(O:Ij d f D s l [enc sc,.int .i64 (args.length:Int),enc g]=some (.tuple [.sl (acc.map aA) false,.bool false],s2,t2::l2))(hg:vY (s,l) (s2,t2::l2)):SX I E n D ctx g e s l false s2 (t2::l2):=by
 let⟨n,hn⟩:=n;simp only at Co;cases g;cases t2;let⟨ek,ep,en,em,cS,RZ,⟨m8,mL,m9,nq,m7⟩⟩:=e;let⟨hdk,hdp,hdn,VG,zpx,zpy,⟨gE,htn,hti,hth,sf⟩⟩:=hd;let⟨scc,⟨sk,sn,si,sh,zHW⟩⟩:=sc;simp only[Xp.fH]at An v9;unfold SX;rcases zdj hz hg with⟨rfl,rfl⟩|⟨a,b,sl,tr,a2,b2,cV,cC,rfl,rfl⟩
 any_goals obtain⟨_|⟨a2,b2⟩,cV,cC⟩:=s2
 any_goals rcases l with _|⟨⟨tk,tn,ti,th,tl⟩,l⟩
 all_goals
  simp at O;simp[U,bq,An,v9,hSp,h0,hNf,Mx,M,hHd,O,hn,Co,aK];refine qy (lp (n:=0) hρ U aq λK _=>?_);simp[jL,U]
  first|(refine aJ.fC rfl rfl rfl ?_;simp;done)|exact aJ.auto
end
end
section
variable {E:Env}(U:E.P=Pg)(aq:bK I E)
include U aq
def zfL  (hH:E.dA 60=fu (Xa (Fp d f m))) {n:Nat} (hn:n<=1000) (Co:n<=900)  {ctx:Z Entry}  {X:Z Xp}  (lR:kk=1\/kk=3\/kk=4) (hGX:cN.length=X.length) (hX:X.length<=1000)
       (hR:Ct (gZ d f D m ctx) true cN X (⟨some (a0,b0),dj,fc⟩,t0::l0)=some (r,(⟨some (a2,b2),cV,cC⟩,t2::l2)))
 {sz:Nat} (cd:sz=99)   
 (hT:aw kk T C (dP [(0,.ptr 0 0 0),(1,.sl (ctx.map dV) false),(13,.sl (X.map bP) false),(15,.bool true),(16,.sl (cN.map aA) false),(17,.int .i64 ((0:Nat):Int))]) { H:=dP [(0,.arr (n+4) 0 [.sl (D.map aT) false::.own 1 a0 0 dj.length none::.own 2 b0 0 fc.length none::.own 3 l0.length 0 (l0.length+1) none::jT 4 n] true false false),(1,.arr 8 a0 (dj.map dK) false false true),(2,.arr 10 b0 (fc.map bW) false false true),(3,.arr 5 l0.length (aA t0::l0.map aA) false false true)],n:=4,log:=[] })
 (hQ:Q (.exit 1) (dP [(15,.bool r)]) { H:=dP [(0,.arr (n+4) 0 [.sl (D.map aT) false::.own 1 a2 0 cV.length none::.own 2 b2 0 cC.length none::.own 3 l2.length 0 (l2.length+1) none::jT 4 n] true false false),(1,.arr 8 a2 (cV.map dK) false false true),(2,.arr 10 b2 (cC.map bW) false false true),(3,.arr 5 l2.length (aA t2::l2.map aA) false false true)],n:=4,log:=[] }) :
 Ls I E kk sz (.loop jL) T C Q:=by
 subst cd;rcases lR with rfl|rfl|rfl
 all_goals
  refine rA hρ U aq X.length (nn:=4) (λi (st:Bool×Nat×Nat×Z Slot×Z Change×G×Z G)=>[(0,.ptr 0 0 0),(1,.sl (ctx.map dV) false),(13,.sl (X.map bP) false),(15,.bool st.1),(16,.sl (cN.map aA) false),(17,.int .i64 (i:Int))])
   (λi st=>[(0,.arr (n+4) 0 [.sl (D.map aT) false::.own 1 st.2.1 0 st.2.2.2.1.length none::.own 2 st.2.2.1 0 st.2.2.2.2.1.length none::.own 3 st.2.2.2.2.2.2.length 0 (st.2.2.2.2.2.2.length+1) none::jT 4 n] true false false),(1,.arr 8 st.2.1 (st.2.2.2.1.map dK) false false true),(2,.arr 10 st.2.2.1 (st.2.2.2.2.1.map bW) false false true),(3,.arr 5 st.2.2.2.2.2.2.length (aA st.2.2.2.2.2.1::st.2.2.2.2.2.2.map aA) false false true)])
   (λi st=>Ct (gZ d f D m ctx) st.1 (cN.drop i) (X.drop i) (⟨some (st.2.1,st.2.2.1),st.2.2.2.1,st.2.2.2.2.1⟩,st.2.2.2.2.2.1::st.2.2.2.2.2.2)=some (r,(⟨some (a2,b2),cV,cC⟩,t2::l2))) (true,a0,b0,dj,fc,t0,l0) (by simpa using hT) hR ?_ ?_
  rintro ⟨is,a,b,sl,tr,t,l⟩ M K;simp only[bz]at M;rw[AB]at M;cases M;cases t2
  cases r <;>
  (simp[jL,U];exact bM.mk (aw.auto) hQ);rintro i ⟨is,a,b,sl,tr,t,l⟩ hi M K hK;simp only at M;have cm:(i:Int)<X.length:=by omega
  have ra:i<cN.length:=by omega
  have cr:=bG (i:=i);have m1:i*5 / 5=i:=by omega
  have m3:i*11 / 11=i:=by omega
  rw[aG hi,aG ra]at M
  cases is with
  | false =>rw[uM]at M;cases M;cases t2;simp[jL,U,cm];exact bM.mk (aw.auto) hQ
  | true =>
    rw[Ea]at M;simp only[aC]at M;let⟨⟨zLu,⟨z3,Ic,Gz⟩,l3⟩,O,h3⟩:=M;have hg:=mZ O;let⟨a3,b3,e3⟩:=hg.1 _ _ rfl;have e4:l3≠[]:=hg.2 (by simp);obtain⟨t3,l4,rfl⟩:∃ t4 l4,l3=t4::l4:=cK e4;simp only at e3;subst e3;have h4:=Kw O;have aE:=hK (zLu,a3,b3,Ic,Gz,t3,l4) h3;clear O h3 hg;obtain⟨gx,hgx⟩:∃ gx,cN[i]=gx:=⟨_,rfl⟩;obtain⟨xx,zOg⟩:∃ xx,X[i]=xx:=⟨_,rfl⟩;rw[hgx,zOg]at h4;cases gx;let⟨xk,xp,xn,xm,zvx,zvy,⟨zNq,zNo,zNr,zNs,zNp⟩⟩:=xx;cases t;cases t3;simp[bq]at h4;simp[jL,U,hi,cm,ra,cr,m1,m3,hgx,zOg,bq,hH,hn,Co,h4,aK,-Int.natCast_add];exact aE _ _ (aw.auto)
def zfN(hF:E.dA 125=fu (DC 0 (jG d f)))(hM:E.dA 127=Fe)(hP:E.dA 126=Fw)(hA:E.dA 128=fu (Xa (Sf d f m)))(hSp:E.dA 118=dC (cz Fb))(hNf:E.dA 129=Mx)(hHd:E.dA 81=fu (Xa (Ij d f)))(hH:E.dA 60=fu (Xa (Fp d f m)))
 {n:MN} (Co:n.n<=900)  {ctx:Z Entry}    {l1:Z G}  (hz:s.z=none->s.sl=[]/\s.tr=[]/\l=[])    {t1:G}  {args:Z Xp}  {acc:Z G} (An:e.kind≠4) (v9:e.kind≠8) (h0:Fb e=some (hd,args)) (s4:args.length<=1000) (hac:acc.length=args.length) (M:MB D ctx hd=some (sc,true)) (O:Ij d f D s l [enc sc,.int .i64 (args.length:Int),enc g]=some (.tuple [.sl (acc.map aA) false,.bool true],⟨some (a1,b1),dv,nR⟩,t1::l1))
 (h3:Ct (gZ d f D m ctx) true acc args (⟨some (a1,b1),dv,nR⟩,t1::l1)=some (r,(⟨some (a2,b2),cV,cC⟩,t2::l2))):SX I E n D ctx g e s l r ⟨some (a2,b2),cV,cC⟩ (t2::l2):=by
 let⟨n,hn⟩:=n;simp only at Co;have sr:=λkk lR T C Q=>zfL hρ U aq hH hn Co (kk:=kk) lR hac s4 h3 (sz:=99) rfl (T:=T) (C:=C) (Q:=Q);clear h3;cases g;cases t1;cases t2;let⟨ek,ep,en,em,cS,RZ,⟨m8,mL,m9,nq,m7⟩⟩:=e;let⟨hdk,hdp,hdn,VG,zpx,zpy,⟨gE,htn,hti,hth,sf⟩⟩:=hd;let⟨scc,⟨sk,sn,si,sh,zHW⟩⟩:=sc;simp only[Xp.fH]at An v9;unfold SX;rcases Bu hz with⟨rfl,rfl⟩|⟨a,b,sl,tr,rfl⟩
 any_goals rcases l with _|⟨⟨tk,tn,ti,th,tl⟩,l⟩
 all_goals
  simp at O;simp[U,bq,An,v9,hSp,h0,hNf,Mx,M,hHd,O,hn,Co,aK];refine sr _ (by decide) _ _ _ (aw.auto) ?_;simp[U];exact aJ.fC rfl rfl rfl (by simp)
def zma (Oz:E.dA 120=rD) (hM:E.dA 127=Fe) (hP:E.dA 126=Fw) {n:Nat}  {ctx:Z Entry}  {args fs:Z G}  {am:Am}   (lR:kk=1\/kk=3\/kk=4)
 (hc:ctx.length<=900) (hv:am.vars.length<=90) (hfv:fs.length=am.vars.length)      {R:Y (Z Entry)} (hR:Dv [] am.vars fs ctx=R)
 {sz:Nat} (cd:sz=127)   
 (hT:aw kk T C (dP [(0,.ptr 0 0 0),(1,.sl (ctx.map dV) false),(6,.ptr 4 0 0),(13,.sl (args.map aA) false),(14,.bool true),(16,.ptr 5 0 0),(17,.sl (fs.map aA) false),(19,.sl (ctx.map dV) false),(68,.sl (X.map dW) false),(69,.int .i64 (X.length:Int)),(70,.int .i64 (i:Int)),(97,.sl (am.vars.map b5) false),(98,.int .i64 (am.vars.length:Int)),(99,.int .i64 ((0:Nat):Int))]) { H:=dP ([(0,.arr (n+4) 0 [.sl (D.map aT) false::.own 1 a0 0 dj.length none::.own 2 b0 0 fc.length none::.own 3 l0.length 0 (l0.length+1) none::jT 4 n] true false false),(1,.arr 8 a0 (dj.map dK) false false true),(2,.arr 10 b0 (fc.map bW) false false true),(3,.arr 5 l0.length (aA t0::l0.map aA) false false true),(4,box (aA g))]++[(5,box (dW am))]),n:=6,log:=[] })
 (GB:R=none->Q .ret (dP [(8,.bool false)]) { H:=dP [(0,.arr (n+4) 0 [.sl (D.map aT) false::.own 1 a0 0 dj.length none::.own 2 b0 0 fc.length none::.own 3 l0.length 0 (l0.length+1) none::jT 4 n] true false false),(1,.arr 8 a0 (dj.map dK) false false true),(2,.arr 10 b0 (fc.map bW) false false true),(3,.arr 5 l0.length (aA t0::l0.map aA) false false true)],n:=6,log:=[] })
 (Hj:∀ c,R=some c->c.length<=1000->Q (.exit 2) (dP [(0,.ptr 0 0 0),(1,.sl (ctx.map dV) false),(6,.ptr 4 0 0),(13,.sl (args.map aA) false),(16,.ptr 5 0 0),(19,.sl (c.map dV) false),(68,.sl (X.map dW) false),(69,.int .i64 (X.length:Int)),(70,.int .i64 (i:Int))]) { H:=dP ([(0,.arr (n+4) 0 [.sl (D.map aT) false::.own 1 a0 0 dj.length none::.own 2 b0 0 fc.length none::.own 3 l0.length 0 (l0.length+1) none::jT 4 n] true false false),(1,.arr 8 a0 (dj.map dK) false false true),(2,.arr 10 b0 (fc.map bW) false false true),(3,.arr 5 l0.length (aA t0::l0.map aA) false false true),(4,box (aA g))]++[(5,box (dW am))]),n:=6,log:=[] }) :
 Ls I E kk sz (.loop ko) T C Q:=by
 subst cd;rcases lR with rfl|rfl|rfl
 all_goals
  refine rA hρ U aq am.vars.length (nn:=6) (λj (c:Z Entry)=>[(0,.ptr 0 0 0),(1,.sl (ctx.map dV) false),(6,.ptr 4 0 0),(13,.sl (args.map aA) false),(14,.bool true),(16,.ptr 5 0 0),(17,.sl (fs.map aA) false),(19,.sl (c.map dV) false),(68,.sl (X.map dW) false),(69,.int .i64 (X.length:Int)),(70,.int .i64 (i:Int)),(97,.sl (am.vars.map b5) false),(98,.int .i64 (am.vars.length:Int)),(99,.int .i64 (j:Int))])
   (λj c=>[(0,.arr (n+4) 0 [.sl (D.map aT) false::.own 1 a0 0 dj.length none::.own 2 b0 0 fc.length none::.own 3 l0.length 0 (l0.length+1) none::jT 4 n] true false false),(1,.arr 8 a0 (dj.map dK) false false true),(2,.arr 10 b0 (fc.map bW) false false true),(3,.arr 5 l0.length (aA t0::l0.map aA) false false true),(4,box (aA g))]++[(5,box (dW am))])
   (λj c=>Dv (am.vars.take j) (am.vars.drop j) (fs.drop j) c=R/\c.length=ctx.length+j) ctx (by simpa using hT) ⟨by simpa using hR,rfl⟩ ?_ ?_
  rintro c ⟨M,O⟩ K;rw[bz,Dv]at M;have cM:=Hj c M.symm (by omega);obtain⟨ap,ac,av,⟨bk,bp,bn,bm,OY,O1,⟨Lk,Lo,K2,K1,Ln⟩⟩⟩:=am;cases g;cases t0;simp[ko,U,ik];exact bM.mk (aw.auto (hH:=by simp[ik])) cM;rintro j c hj ⟨M,O⟩ K hK;have gO:(j:Int)<am.vars.length:=by omega
  have rB:j<=am.vars.length:=by omega
  have wi:j<fs.length:=by omega
  have ew:c.length<=1000:=by omega
  have cr:=bG (i:=j);have m1:j*5 / 5=j:=by omega
  have sf:(am.vars.take j).length<=1000000:=by rw[dR];omega
  rw[aG hj,aG wi,Dv]at M;obtain⟨v,OF⟩:∃ v,am.vars[j]=v:=⟨_,rfl⟩;obtain⟨fx,hfx⟩:∃ fx,fs[j]=fx:=⟨_,rfl⟩;rw[OF,hfx]at M;by_cases eE:v∈am.vars.take j;rw[if_pos eE]at M;have cM:=GB M.symm;have VG:decide (v∈am.vars.take j)=true:=decide_eq_true eE;obtain⟨ap,ac,av,⟨bk,bp,bn,bm,OY,O1,⟨Lk,Lo,K2,K1,Ln⟩⟩⟩:=am;cases g;cases t0;simp only[Am.AQ]at hj gO rB sf VG OF;obtain⟨tv,D1⟩:∃ tv,av.take j=tv:=⟨_,rfl⟩;have zFL:List.take j (av.map b5)=tv.map b5:=by rw[<- qB,D1]
  rw[D1]at sf VG;simp[ko,U,ik,hj,gO,rB,OF,xE,Cy,bounds,NZ,fE,Ab,zFL,Oz,rD,sf,VG,-List.map_take];exact bM.mk (aw.auto) cM;rw[if_neg eE]at M;have VG:decide (v∈am.vars.take j)=false:=decide_eq_false eE;have gE:am.vars.take (j+1)=am.vars.take j++[v]:=by rw[df hj,OF]
  have aE:=hK (c++[⟨v,mono fx⟩]) ⟨by rw[gE];exact M,by rw[aR,O];rfl⟩;obtain⟨ap,ac,av,⟨bk,bp,bn,bm,OY,O1,⟨Lk,Lo,K2,K1,Ln⟩⟩⟩:=am;cases g;cases t0;cases fx;simp only[Am.AQ]at hj gO rB sf VG OF;obtain⟨tv,D1⟩:∃ tv,av.take j=tv:=⟨_,rfl⟩;have zFL:List.take j (av.map b5)=tv.map b5:=by rw[<- qB,D1]
  rw[D1]at sf VG;simp[ko,U,ik,hj,gO,rB,wi,OF,hfx,m1,xE,Cy,bounds,NZ,fE,Ab,zFL,Oz,rD,sf,VG,hM,Fe,mono,hP,Fw,ew,cr,-List.map_take,-Int.natCast_add];exact aE _ _ (aw.auto (by simp[dV,mono,-Int.natCast_add]) (by simp[ik]))
def zqF  (v8:E.dA 204=EE) (Oz:E.dA 120=rD) (hM:E.dA 127=Fe) (hP:E.dA 126=Fw) (hH:E.dA 60=fu (Xa (Fp d f m)))
 {n:Nat} (hn:n<=1000) (Co:n<=900)  (hD:Gu D) {ctx:Z Entry} (hc:ctx.length<=900)  {args:Z G} (s4:args.length<=100000)  (hX:X.length<=1000) (Wg:∀ a∈X,a.vars.length<=90)  (lR:kk=1\/kk=3\/kk=4)
      {zLv:Bool} (hR:yX (gZ d f D m) D args ctx g zLv X (⟨some (a0,b0),dj,fc⟩,t0::l0)=some (r,(⟨some (a2,b2),cV,cC⟩,t2::l2)))
 {sz:Nat} (cd:sz=127)   
 (hT:aw kk T C (dP [(0,.ptr 0 0 0),(1,.sl (ctx.map dV) false),(6,.ptr 4 0 0),(13,.sl (args.map aA) false),(14,.bool zLv),(68,.sl (X.map dW) false),(69,.int .i64 (X.length:Int)),(70,.int .i64 ((0:Nat):Int))]) { H:=dP [(0,.arr (n+4) 0 [.sl (D.map aT) false::.own 1 a0 0 dj.length none::.own 2 b0 0 fc.length none::.own 3 l0.length 0 (l0.length+1) none::jT 4 n] true false false),(1,.arr 8 a0 (dj.map dK) false false true),(2,.arr 10 b0 (fc.map bW) false false true),(3,.arr 5 l0.length (aA t0::l0.map aA) false false true),(4,box (aA g))],n:=5,log:=[] })
 (GB:r=false->Q .ret (dP [(8,.bool false)]) { H:=dP [(0,.arr (n+4) 0 [.sl (D.map aT) false::.own 1 a2 0 cV.length none::.own 2 b2 0 cC.length none::.own 3 l2.length 0 (l2.length+1) none::jT 4 n] true false false),(1,.arr 8 a2 (cV.map dK) false false true),(2,.arr 10 b2 (cC.map bW) false false true),(3,.arr 5 l2.length (aA t2::l2.map aA) false false true)],n:=5,log:=[] })
 (Hj:Q (.exit 0) (dP [(14,.bool r)]) { H:=dP [(0,.arr (n+4) 0 [.sl (D.map aT) false::.own 1 a2 0 cV.length none::.own 2 b2 0 cC.length none::.own 3 l2.length 0 (l2.length+1) none::jT 4 n] true false false),(1,.arr 8 a2 (cV.map dK) false false true),(2,.arr 10 b2 (cC.map bW) false false true),(3,.arr 5 l2.length (aA t2::l2.map aA) false false true)],n:=5,log:=[] }) :
 Ls I E kk sz (.loop fZ) T C Q:=by
 subst cd;rcases lR with rfl|rfl|rfl
 all_goals
  refine rA hρ U aq X.length (nn:=5) (λi (st:Bool×Nat×Nat×Z Slot×Z Change×G×Z G)=>[(0,.ptr 0 0 0),(1,.sl (ctx.map dV) false),(6,.ptr 4 0 0),(13,.sl (args.map aA) false),(14,.bool st.1),(68,.sl (X.map dW) false),(69,.int .i64 (X.length:Int)),(70,.int .i64 (i:Int))])
   (λi st=>[(0,.arr (n+4) 0 [.sl (D.map aT) false::.own 1 st.2.1 0 st.2.2.2.1.length none::.own 2 st.2.2.1 0 st.2.2.2.2.1.length none::.own 3 st.2.2.2.2.2.2.length 0 (st.2.2.2.2.2.2.length+1) none::jT 4 n] true false false),(1,.arr 8 st.2.1 (st.2.2.2.1.map dK) false false true),(2,.arr 10 st.2.2.1 (st.2.2.2.2.1.map bW) false false true),(3,.arr 5 st.2.2.2.2.2.2.length (aA st.2.2.2.2.2.1::st.2.2.2.2.2.2.map aA) false false true),(4,box (aA g))])
   (λi st=>yX (gZ d f D m) D args ctx g st.1 (X.drop i) (⟨some (st.2.1,st.2.2.1),st.2.2.2.1,st.2.2.2.2.1⟩,st.2.2.2.2.2.1::st.2.2.2.2.2.2)=some (r,(⟨some (a2,b2),cV,cC⟩,t2::l2))) (zLv,a0,b0,dj,fc,t0,l0) (by simpa using hT) hR ?_ ?_
  rintro ⟨is,a,b,sl,tr,t,l⟩ M K;simp only[bz]at M;rw[yX]at M;cases M;cases g;cases t2;simp[fZ,U];exact bM.mk (aw.auto) Hj;rintro i ⟨is,a,b,sl,tr,t,l⟩ hi M K hK;simp only at M;have cm:(i:Int)<X.length:=by omega
  have cr:=bG (i:=i);have m1:i*14 / 14=i:=by omega
  have m2:i*14 % 14=0:=by omega
  rw[aG hi,yX]at M;have Wk:=Wg _ (ax hi);obtain⟨am,GC⟩:∃ am,X[i]=am:=⟨_,rfl⟩;rw[GC]at M Wk;have hF:zaT D am.dA args=some (pG D am.dA args):=if_pos ⟨hD,s4⟩;obtain⟨fs,fb,HN⟩:∃ fs fb,pG D am.dA args=(fs,fb):=⟨_,_,rfl⟩;rw[HN]at hF M;simp only at M;by_cases hcond:is=false\/fs.length≠am.vars.length;rw[if_pos hcond]at M;cases M;have cM:=GB rfl;obtain⟨ap,ac,av,⟨bk,bp,bn,bm,OY,O1,⟨Lk,Lo,K2,K1,Ln⟩⟩⟩:=am;cases g;cases t2;simp only[Am.JW,Am.AQ]at hF hcond
  cases is with
  | false =>simp[fZ,U,hi,cm,m1,m2,GC,ik,v8,EE,hF];exact bM.mk (aw.auto) cM
  | true =>have hlen:¬ fs.length=av.length:=(by simpa using hcond);have Lu:¬ (fs.length:Int)=(av.length:Int):=(by omega);simp[fZ,U,hi,cm,m1,m2,GC,ik,v8,EE,hF,hlen,Lu];exact bM.mk (aw.auto) cM
  rw[if_neg hcond]at M;have his:is=true:=by cases is with|true=>rfl|false=>exact absurd (.inl rfl) hcond
  subst his;have hlen:fs.length=am.vars.length:=aY λh=>hcond (.inr h);have Qo:=λkk lR R hR T C Q=>zma hρ U aq Oz hM hP (n:=n) (D:=D) (ctx:=ctx) (g:=g) (args:=args) (fs:=fs) (X:=X) (am:=am) (i:=i) (kk:=kk) lR hc Wk hlen (a0:=a) (b0:=b) (dj:=sl) (fc:=tr) (t0:=t) (l0:=l) (R:=R) hR (sz:=127) rfl (T:=T) (C:=C) (Q:=Q)
  cases S4:Dv [] am.vars fs ctx with
  | none =>rw[S4]at M;cases M;have cM:=GB rfl;have hin2:=λkk lR=>Qo kk lR _ S4;clear Qo;obtain⟨ap,ac,av,⟨bk,bp,bn,bm,OY,O1,⟨Lk,Lo,K2,K1,Ln⟩⟩⟩:=am;cases g;cases t2;simp only[Am.JW,Am.AQ]at hF hlen;have Lu:(fs.length:Int)=(av.length:Int):=(by omega);simp[fZ,U,hi,cm,m1,m2,GC,ik,v8,EE,hF,hlen,Lu];refine hin2 _ (by decide) _ _ _ (aw.auto (hH:=by simp[ik])) ?_ (λc C0=>by cases C0);intro _;exact bM.mk (aw.auto) cM
  | some c =>
    rw[S4]at M;simp only[aC]at M;obtain⟨⟨zLu,⟨z3,Ic,Gz⟩,l3⟩,O,h3⟩:=M;have hg:=mZ O;obtain⟨a3,b3,e3⟩:=hg.1 _ _ rfl;have e4:l3≠[]:=hg.2 (by simp);obtain⟨t3,l4,rfl⟩:∃ t4 l4,l3=t4::l4:=cK e4;simp only at e3;subst e3;have h4:=Kw O;have aE:=hK (zLu,a3,b3,Ic,Gz,t3,l4) h3;clear O h3 hg;have hin2:=λkk lR=>Qo kk lR _ S4;clear Qo;obtain⟨ap,ac,av,⟨bk,bp,bn,bm,OY,O1,⟨Lk,Lo,K2,K1,Ln⟩⟩⟩:=am;cases g;cases t;cases t3;simp only[Am.JW,Am.AQ,Am.EO]at hF hlen h4;have Lu:(fs.length:Int)=(av.length:Int):=(by omega);simp[bq]at h4;simp[fZ,U,hi,cm,m1,m2,GC,ik,v8,EE,hF,hlen,Lu];refine hin2 _ (by decide) _ _ _ (aw.auto (hH:=by simp[ik])) (λjs=>by cases js) ?_;rintro c2 C0 _;cases C0;simp[fZ,U,ik,hH,hn,Co,h4,cr,aK,-Int.natCast_add];exact aE _ _ (aw.auto)
def zjY(I:Nat->Value)(E:Env)(n:MN)(D:Z Decl)(ctx:Z Entry)(g:G)(e:Xp)(s:MS)(l:Z G)(r:Bool)(s2:MS)(l2:Z G):Prop :=
 Wp I E (K6 s.z l) 127 jM.1 ((((PT.leaf.set 0 (.ptr 0 0 0)).set 1 (enc ctx)).set 2 (enc g)).set 3 (enc e)) { H:=dP (uI n D s l),n:=K6 s.z l,log:=[] } (J.Leaves E.P Tryz.f128 (aJ (K6 s.z l) (.bool r) (uI n D s2 l2)))
variable (hL:E.dA 202=JA)(T5:E.dA 196=J6)(hB:E.dA 166=fu (DC 0 (Bw d f)))(hAn:E.dA 203=fu (Xa (yZ d f)))(v8:E.dA 204=EE)(Oz:E.dA 120=rD)(hM:E.dA 127=Fe)(hP:E.dA 126=Fw)(hH:E.dA 60=fu (Xa (Fp d f m)))
 {n:MN} (Co:n.n<=900)  {ctx:Z Entry}   {s1:MS}   (hz:s.z=none->s.sl=[]/\s.tr=[]/\l=[])   (rp:e.kids=k0::ks) (ew:ctx.length<=100000)  {fd kb:Bool} {ki:Int} (te:uD ctx k0.name=(sc,fd)) (j7:zd6 D e.b8=some (ki,kb))
include hL T5 hB hAn v8 Oz hM hP hH Co hz rp ew te j7
theorem zAh (js:fd=false\/kb=false\/sc.count≠0):zjY I E n D ctx g e s l false s l:=by
 let⟨n,hn⟩:=n;simp only at Co;cases g;let⟨ek,ep,en,em,cS,RZ,⟨m8,mL,m9,nq,m7⟩⟩:=e;simp only[Xp.kL,Xp.lh]at rp j7;subst rp;let⟨kk,kp,kn,km,zoV,zoZ,⟨zLp,zLn,zLq,zLr,zLo⟩⟩:=k0;let⟨scc,⟨sk,sn,si,sh,zHW⟩⟩:=sc;simp only[Xp.j4]at te;unfold zjY;rcases Bu hz with⟨rfl,rfl⟩|⟨a,b,sl,tr,rfl⟩
 any_goals rcases l with _|⟨⟨tk,tn,ti,th,tl⟩,l⟩
 all_goals
  cases fd with
  | false =>simp[U,bq,hL,JA,ew,te,T5,J6,j7,hn,aK];exact aJ.fC rfl rfl rfl (by simp)
  | true =>
    cases kb with
    | false =>simp[U,bq,hL,JA,ew,te,T5,J6,j7,hn,aK];exact aJ.fC rfl rfl rfl (by simp)
    | true =>
      have tf:¬ scc=0:=(by simpa using js);simp[U,bq,hL,JA,ew,te,T5,J6,j7,tf,hn,aK];exact aJ.fC rfl rfl rfl (by simp)
section
variable (uv:fd=true)(Tb:kb=true)(tf:sc.count=0)
include uv Tb tf
theorem zqH(M:Bw d f s [enc g]=some (.bool false,⟨some (a1,b1),dv,nR⟩)):zjY I E n D ctx g e s l false ⟨some (a1,b1),dv,nR⟩ l:=by
 subst uv Tb;let⟨n,hn⟩:=n;simp only at Co;have lb:n+1<=1000:=by omega
 cases g;let⟨ek,ep,en,em,cS,RZ,⟨m8,mL,m9,nq,m7⟩⟩:=e;simp only[Xp.kL,Xp.lh]at rp j7;subst rp;let⟨kk,kp,kn,km,zoV,zoZ,⟨zLp,zLn,zLq,zLr,zLo⟩⟩:=k0;let⟨scc,⟨sk,sn,si,sh,zHW⟩⟩:=sc;simp only[Xp.j4]at te tf;subst tf;unfold zjY;rcases Bu hz with⟨rfl,rfl⟩|⟨a,b,sl,tr,rfl⟩
 any_goals rcases l with _|⟨⟨tk,tn,ti,th,tl⟩,l⟩
 all_goals
  simp at M;simp[U,bq,hL,JA,ew,te,T5,J6,j7,hB,M,hn,lb,aK]
  first|(refine aJ.fC rfl rfl rfl ?_;simp;done)|exact aJ.auto
theorem zAi{Ic:Z Slot}{a3 b3:Nat}{t3:G}{args:Z G}{is:Bool}(hD:Gu D)(zGf:ctx.length<=900)(hX:e.b8.length<=1000)(Wg:∀ a∈e.b8,a.vars.length<=90)(s4:args.length<=100000)(M:Bw d f s [enc g]=some (.bool true,⟨some (a1,b1),dv,nR⟩))(O:yZ d f D ⟨some (a1,b1),dv,nR⟩ l [enc sc.type,.int .i64 ki]=some (.tuple [.sl (args.map aA) false,.bool is],⟨some (a2,b2),cV,cC⟩,t2::l2))
 (h3:yX (gZ d f D m) D args ctx g is e.b8 (⟨some (a2,b2),cV,cC⟩,t2::l2)=some (r,(⟨some (a3,b3),Ic,Gz⟩,t3::l3))):zjY I E n D ctx g e s l r ⟨some (a3,b3),Ic,Gz⟩ (t3::l3):=by
 subst uv Tb;obtain⟨n,hn⟩:=n;simp only at Co;have lb:n+1<=1000:=by omega
 have sr:=λkk lR T C Q=>zqF hρ U aq v8 Oz hM hP hH hn Co hD zGf s4 hX Wg (kk:=kk) lR h3 (sz:=127) rfl (T:=T) (C:=C) (Q:=Q);clear h3;cases g;cases t2;cases t3;obtain⟨ek,ep,en,em,cS,RZ,⟨m8,mL,m9,nq,m7⟩⟩:=e;simp only[Xp.kL,Xp.lh]at rp j7 hX Wg sr;subst rp;obtain⟨kk,kp,kn,km,zoV,zoZ,⟨zLp,zLn,zLq,zLr,zLo⟩⟩:=k0;obtain⟨scc,⟨sk,sn,si,sh,zHW⟩⟩:=sc;simp only[Xp.j4]at te tf;subst tf;unfold zjY;rcases Bu hz with⟨rfl,rfl⟩|⟨a,b,sl,tr,rfl⟩
 any_goals rcases l with _|⟨⟨tk,tn,ti,th,tl⟩,l⟩
 all_goals
  simp at M O;simp[U,bq,hL,JA,ew,te,T5,J6,j7,hB,M,hAn,O,hn,lb,Co,aK];refine sr _ (by decide) _ _ _ (aw.auto) ?_ ?_;rintro rfl;simp[U];exact aJ.fC rfl rfl rfl (by simp);simp[U];exact aJ.fC rfl rfl rfl (by simp)
end
end
end
end Go.Proofs.YtfloillkpbhhhaaGreat
