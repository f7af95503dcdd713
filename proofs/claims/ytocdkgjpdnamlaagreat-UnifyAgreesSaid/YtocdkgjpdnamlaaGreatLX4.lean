import Derived.Test.YtocdkgjpdnamlaaGreatLX1
import Derived.Test.YtocdkgjpdnamlaaGreatJN
set_option linter.all false
noncomputable section
namespace Go.Proofs.YtocdkgjpdnamlaaGreat
open Go.J
open Go.J.Enc (enc)
set_option maxRecDepth 100000
set_option maxHeartbeats 4000000
def EJ(d:Nat)(s:Store)(t:Ty):Option Ty:=if s.dF/\t.ok=true/\sz s.w16 t d<=d then some (full s.w16 t)else none
def Gz(r:Nat)(u:Ty)(L:List Ty):J.Obj:=.arr 5 0 [[.int .i64 u.kind,.str u.name,.int .i64 u.id,.int .i64 u.home,oV r (L.map ax)]] true false false
def F7:J.Obj:=.arr 5 0 [[.int .i64 0,.str [],.int .i64 0,.int .i64 0,.snil]] true false false
section
variable {ρ:Nat->Value}(hρ:J.Good ρ){E:Env}(hE:E.P=Tryz.prog)(hcon:aZ ρ E)
include hρ hE hcon
theorem zZ {d:Nat} (hc:E.dS 44=bZ (bz (EJ d))) (hd:d<=10000) {s:Store} (hs:s.dF) {u:Ty} (hu:u.ok=true) {M:List Ty} (hM:wG s.w16 u.args M) (zOL:Ty.sizes M<=d) {Q:Ex->PT V->HS->Prop}
 (hQ:Q (.exit 0) (di [(5,.ptr 3 0 0),(4,.ptr 2 0 0)]) { H:=di ([(2,F7),(3,Gz 4 u M)]++oH 4 5 (M.map ax)),n:=5,log:=[] }) :
 ∀ (n i:Nat) (L:List Ty),i+n=u.args.length->L=M.take i ->
   Cj ρ E 0 32 H7 (bq 0 Q) (n+1) (di [(6,.int .i64 (i:Int)),(3,.ptr 1 0 0),(5,.ptr 3 0 0),(4,.ptr 2 0 0),(2,.ptr 0 0 0)])
    { H:=di ([(0,box (bB s)),(1,box (ax u)),(2,F7),(3,Gz 4 u L)]++oH 4 5 (L.map ax)),n:=5,log:=[] }:=by
 intro n
 induction n with
 | zero =>
   intro i L hi hL;have hil:¬ (i:Int)<u.args.length:=by omega
   have e:L=M:=by rw[hL,List.take_of_length_le (by rw[<- hM.oo];omega)]
   subst e;refine lp hρ hE hcon fun K hK=>?_
   rcases L with _|⟨x,L⟩<;>simp [H7,hE,hil,Gz,F7]<;>exact bq.mk (Less.keep 5 (by simp) (by simp[Gz,F7]) rfl rfl) hQ
 | succ n ih =>
   intro i L hi hL;have hil:i<u.args.length:=by omega
   have gB:(i:Int)<u.args.length:=by omega
   have hlen:=Ty.lH hu;have hw:IntKind.i64.wrap ((i:Int)+1)=((i+1:Nat):Int):=bu (by omega);have hm:=List.getElem_mem hil;have hx:=Ty.mH hu hm;have hMl:=hM.oo;have hiM:i<M.length:=by omega
   obtain⟨y,hy,hys⟩:=hM.pF _ hm
   have zRi:M[i]=y:=by
    have e:=hM.map;have:M[i]=full s.w16 u.args[i]:=by simp[e]
    rw[this,full_of hy]
   have hnew:L++[y]=M.take (i+1):=by rw[List.take_add_one,List.getElem?_eq_getElem hiM,hL,zRi];rfl
   have zrc:L.length<=10000:=by rw[hL,List.length_take];omega
   have hF:EJ d s u.args[i]=some y:=by
    unfold EJ;rw[if_pos ⟨hs,hx,gp.2 ⟨y,hy,by omega⟩⟩,full_of hy]
   generalize hX:u.args[i]=x at hF;refine lp hρ hE hcon fun K hK=>?_
   rcases L with _|⟨z,L⟩
   . simp [H7,hE,hil,gB,hX,hc,hF,hw,Gz,F7,-Int.natCast_add];exact hK _ _ (aY (Less.lit (fun k=>if k=4 then 20 else k) 5 (by simp[-Int.natCast_add]) (by simp[Gz,F7]) rfl rfl) (ih (i+1) _ (by omega) hnew))
   . have zRH:L.length+1<=10000:=by simpa using zrc
     have h64:(L.length+1+1)*64<=1048576:=by omega
     simp [H7,hE,hil,gB,hX,hc,hF,hw,Gz,F7,h64,Nat.not_succ_le_self,-Int.natCast_add];exact hK _ _ (aY (Less.keep 5 (by simp[-Int.natCast_add]) (by simp[Gz,F7]) rfl rfl) (ih (i+1) _ (by omega) hnew))
theorem Bf{d:Nat}(hc:E.dS 44=bZ (bz (EJ d)))(hd:d<=10000)(hw:E.dS 59=bZ (bz fun (s:Store) (t:Ty)=>if s.slots.length<=1000000 then some (s.w16 t)else none))
 {s:Store} {t r:Ty} (hR:EJ (d+1) s t=some r) (hs0:HS):aA ρ Tryz.prog 44 [enc s,enc t] hs0 (enc r) hs0:=by
 refine fn hρ hE hcon Tryz.func44 zvM rfl (by simp) ?_ hs0;unfold EJ at hR;split at hR
 case isFalse=>cases hR
 rename_i hp;obtain⟨hs,ht,hsz⟩:=hp;obtain⟨q,hq,zRv⟩:=gp.1 hsz;rw[full_of hq]at hR;cases hR;obtain⟨M,hM,rfl⟩:=gH.1 hq;have zOL:Ty.sizes M<=d:=by simp only[Ty.size_eq,Ty.cZ]at zRv;omega
 have h1:s.slots.length<=1000000:=by have:=hs.1;omega
 have hu:(s.w16 t).ok=true:=Store.lL hs _ ht;generalize hU:s.w16 t=u at hu hM;simp [hE,hw,h1,hU]
 refine dJ (eU (aY (Less.lit (fun k=>if k=3 then 8 else k) 5 (TL:=[(6,.int .i64 ((0:Nat):Int)),(3,.ptr 1 0 0),(5,.ptr 3 0 0),(4,.ptr 2 0 0),(2,.ptr 0 0 0)])
  (HL:=[(0,box (bB s)),(1,box (ax u)),(2,F7),(3,Gz 4 u [])]++oH 4 5 (([]:List Ty).map ax)) (by simp) (by simp[Gz,F7]) rfl rfl)
  (zZ hρ hE hcon hc hd hs hu hM zOL ?_ u.args.length 0 [] (by omega) rfl)))
 rcases M with _|⟨x,M⟩<;>simp [hE,Gz,F7]
end
def ztl(d:Nat)(s:Store)(t:Ty)(m:Int):Option Int:=if s.dF/\t.ok=true/\0<=m/\m<d then some ((sz s.w t (max m 0).toNat:Nat):Int)else none
section
variable {ρ:Nat->Value}(hρ:J.Good ρ){E:Env}(hE:E.P=Tryz.prog)(hcon:aZ ρ E)
include hρ hE hcon
theorem Bg(hS:E.dS 21=bZ (dH fun (s:Store) (t:Ty) (m:Int)=>if s.dF/\t.ok=true/\m<1000000 then some ((sz s.w16 t (max m 0).toNat:Nat):Int)else none))(hr:E.dS 44=bZ (bz (EJ 4000)))
 {s:Store} (hs:s.dF) {t:Ty} (ht:t.ok=true) (hs0:HS):aA ρ Tryz.prog 15 [enc s,enc t] hs0 (enc (bK s.w16 t)) hs0:=by
 refine fn hρ hE hcon Tryz.func15 zEN rfl (by simp) ?_ hs0;have e:(max (4000:Int) 0).toNat=4000:=rfl;unfold bK;by_cases h:sz s.w16 t 4000<=4000
 . have h':¬ (4000:Int)<((sz s.w16 t 4000:Nat):Int):=by omega
   have hF:EJ 4000 s t=some (full s.w16 t):=by unfold EJ;rw[if_pos ⟨hs,ht,h⟩]
   simp [hE,hS,hs,ht,e,h,h',hr,hF]
 . have h':(4000:Int)<((sz s.w16 t 4000:Nat):Int):=by omega
   simp [hE,hS,hs,ht,e,h,h',Nv]
theorem EH {d:Nat} (hc:E.dS 46=bZ (dH (ztl d))) (hd:d<=1000000) {s:Store} (hs:s.dF) {l:List Ty} (hu:Ty.oks l=true) (hlen:l.length<=10000) {m:Nat} (hm:m<=d) {R:Nat} {Q:Ex->PT V->HS->Prop}
 (hQ:Q (.exit 0) (di [(7,.int .i64 (R:Int)),(2,.int .i64 (m:Int))]) { H:=di [],n:=0,log:=[] }) :
 ∀ (n i r:Nat),i+n=l.length->1<=r->r<=m+1->Fw (sz s.w) m (l.drop i) r=R ->
   Cj ρ E 0 39 H5 (bq 0 Q) (n+1) (di [(17,.int .i64 (i:Int)),(16,.int .i64 (l.length:Int)),(15,.sl (l.map ax) false),(7,.int .i64 (r:Int)),(2,.int .i64 (m:Int)),(3,.ptr 0 0 0)]) { H:=di [(0,box (bB s))],n:=1,log:=[] }:=by
 intro n
 induction n with
 | zero =>
   intro i r hi hr1 hr2 hR;have hil:¬ (i:Int)<l.length:=by omega
   rw[List.drop_of_length_le (by omega)]at hR;simp only[Fw]at hR;subst hR;refine lp hρ hE hcon fun K hK=>?_
   simp [H5,hE,hil];exact bq.mk (Less.keep 0 (by simp) (by simp) rfl rfl) hQ
 | succ n ih =>
   intro i r hi hr1 hr2 hR;have hil:i<l.length:=by omega
   have gB:(i:Int)<l.length:=by omega
   have hw:IntKind.i64.wrap ((i:Int)+1)=((i+1:Nat):Int):=bu (by omega);have hx:=Ty.gT.1 hu _ (List.getElem_mem hil);rw[List.drop_eq_getElem_cons hil]at hR;generalize hX:l[i]=x at hx hR;refine lp hρ hE hcon fun K hK=>?_
   unfold Fw at hR;by_cases hrm:r<=m
   . rw[if_pos hrm]at hR;have RJ:¬ (m:Int)<(r:Int):=by omega
     have hsub:IntKind.i64.wrap ((m:Int)-(r:Int))=((m-r:Nat):Int):=by rw[wrap_i64 (by omega) (by omega)];omega
     have hF:ztl d s x ((m-r:Nat):Int)=some ((sz s.w x (m-r):Nat):Int):=by
      unfold ztl;rw[if_pos ⟨hs,hx,by omega,by omega⟩,show (max ((m-r:Nat):Int) 0).toNat=m-r by omega]
     have hle:=zu (w:=s.w) x (m-r);generalize sz s.w x (m-r)=q at hF hle hR;have hadd:IntKind.i64.wrap ((r:Int)+(q:Int))=((r+q:Nat):Int):=by rw[wrap_i64 (by omega) (by omega)];omega
     have zK7:¬ m<r:=by omega
     simp [H5,hE,hil,gB,RJ,hX,hsub,hc,hF,hadd,hw,-Int.natCast_add];exact hK _ _ (aY (Less.keep 1 (by simp[-Int.natCast_add]) (by simp) rfl rfl) (ih (i+1) (r+q) (by omega) (by omega) (by omega) hR))
   . rw[if_neg hrm]at hR;subst hR;have RJ:(m:Int)<(r:Int):=by omega
     have zK7:m<r:=by omega
     simp [H5,hE,hil,gB,RJ,hX];exact bq.mk (Less.keep 0 (by simp) (by simp) rfl rfl) hQ
theorem FY{d:Nat}(hc:E.dS 46=bZ (dH (ztl d)))(hd:d<=1000000)(hw:E.dS 67=bZ (bz fun (s:Store) (t:Ty)=>if s.slots.length<=1000000 then some (s.w t)else none))
 {s:Store} (hs:s.dF) {t:Ty} (ht:t.ok=true) {m0:Int} (hm0:m0<d+1) (hs0:HS):aA ρ Tryz.prog 46 [enc s,enc t,enc m0] hs0 (enc ((sz s.w t (max m0 0).toNat:Nat):Int)) hs0:=by
 refine fn hρ hE hcon Tryz.func46 zoZ rfl (by simp) ?_ hs0;have h1:s.slots.length<=1000000:=by have:=hs.1;omega
 have hu:(s.w t).ok=true:=Store.lL hs _ ht;have em:(if m0<0 then 0 else m0)=(((max m0 0).toNat:Nat):Int):=by split<;>omega
 have hm:(max m0 0).toNat<=d:=by omega
 generalize (max m0 0).toNat=m at em hm;have e:=Tz (w:=s.w) t m;have hadd:IntKind.i64.wrap ((m:Int)+1)=((m+1:Nat):Int):=bu (by omega);generalize hU:s.w t=u at hu e;have ZM:Ty.oks u.args=true:=by rw[Ty.gT];exact fun x hx=>Ty.mH hu hx
 simp [hE,hw,h1,hU,em]
 refine dJ (eU (aY (Less.keep (TL:=[(17,.int .i64 ((0:Nat):Int)),(16,.int .i64 (u.args.length:Int)),(15,.sl (u.args.map ax) false),(7,.int .i64 ((1:Nat):Int)),(2,.int .i64 (m:Int)),(3,.ptr 0 0 0)]) (HL:=[(0,box (bB s))]) 1 (by simp) (by simp) rfl rfl)
  (EH hρ hE hcon hc hd hs ZM (Ty.lH hu) hm (R:=Fw (sz s.w) m u.args 1) ?_ u.args.length 0 1 (by omega) (by omega) (by omega) rfl)))
 generalize Fw (sz s.w) m u.args 1=q at e;rw[e];by_cases hq:m<q
 . have hq':(m:Int)<q:=by omega
   have e3:min q (m+1)=m+1:=by omega
   rw[e3];simp [hE,hq',hadd,-Int.natCast_add]
 . have hq':¬ (m:Int)<q:=by omega
   have e3:min q (m+1)=q:=by omega
   rw[e3];simp [hE,hq']
end
def iY(s:Store)(n:Nat)(st:List Int×List Bool):List (Nat×J.Obj):=[(0,iH s (oV 2 (st.1.map encI)) (.own 1 0 0 n (some n))),(1,nS 1 (st.2.map qy))]++oH 2 1 (st.1.map encI)
section
variable {ρ:Nat->Value}(hρ:J.Good ρ){E:Env}(hE:E.P=Tryz.prog)(hcon:aZ ρ E)
include hρ hE hcon
theorem mU {d k:Nat} (hk:k=2\/k=3) (hc:E.dS 105=dN (Ja (zO d))) {s:Store} (hs:s.dF) {t:Ty} (ht:t.ok=true) {st0 R:List Int×List Bool} (hk0:k=3->st0.1≠[]) (hdl:st0.2.length=s.slots.length)
 (hb:st0.1.length+t.size+und s.slots st0.2<=100000) (hm:t.size+und s.slots st0.2<=d+1) {Q:Ex->PT V->HS->Prop}
 (hQ:Q (.exit 1) (di []) { H:=di (iY s st0.2.length R),n:=4,log:=[] }) :
 ∀ (n i:Nat) (st:List Int×List Bool),i+n=t.args.length->Fh s (Ty.sizes (t.args.take i)) st0 st->(t.args.drop i).foldl (fun st x=>pY s d x st) st=R ->
   Cj ρ E k 78 tO (bq k Q) (n+1) (di [(4,.int .i64 (i:Int)),(3,.ptr 3 0 0),(0,.ptr 0 0 0)])
    { H:=di (iY s st0.2.length st++[(3,box (ax t))]),n:=4,log:=[] }:=by
 intro n
 induction n with
 | zero =>
   intro i st hi hst hR;have hil:¬ (i:Int)<t.args.length:=by omega
   rw[List.drop_of_length_le (by omega)]at hR;simp only[List.foldl_nil]at hR;subst hR;refine lp hρ hE hcon fun K hK=>?_
   obtain⟨out,done⟩:=st
   have hne:k=3->out≠[]:=by
    intro h e;have:=hst.2.1;subst e;exact hk0 h (List.eq_nil_of_length_eq_zero (by simpa using this))
   rcases hk with rfl|rfl
   . rcases out with _|⟨x,out⟩<;>simp [tO,hE,hil,iY,iH,nS] <;>
     exact bq.mk (Less.keep 4 (by simp) (by simp[iY,iH,nS]) rfl rfl) hQ
   . rcases out with _|⟨x,out⟩
     . exact absurd rfl (hne rfl)
     . simp [tO,hE,hil,iY,iH,nS];exact bq.mk (Less.keep 4 (by simp) (by simp[iY,iH,nS]) rfl rfl) hQ
 | succ n ih =>
   intro i st hi hst hR;have hil:i<t.args.length:=by omega
   have gB:(i:Int)<t.args.length:=by omega
   have hlen:=Ty.lH ht;have hw:IntKind.i64.wrap ((i:Int)+1)=((i+1:Nat):Int):=bu (by omega);have hm0:=List.getElem_mem hil;have hx:=Ty.mH ht hm0
   have hsz:Ty.sizes (t.args.take (i+1))=Ty.sizes (t.args.take i)+t.args[i].size:=by
    rw[List.take_add_one,List.getElem?_eq_getElem hil,rf];simp[Ty.sizes]
   have hsz2:=lQ t.args (i+1);have zK3:=Ty.size_eq t;rw[List.drop_eq_getElem_cons hil,List.foldl_cons]at hR;have hstep:=Co s d t.args[i] st;have hnx:=hst.trans hstep;rw[<- hsz]at hnx
   have hF:zO d s st.1 st.2 t.args[i]=some (pY s d t.args[i] st):=by
    obtain⟨g1,g2,g3,g4⟩:=hst;unfold zO;rw[if_pos ⟨hs,hx,by omega,by omega,by omega⟩]
   have hnew:=ih (i+1) (pY s d t.args[i] st) (by omega) hnx hR;have hd1:st.2.length=st0.2.length:=hst.1;generalize hX:t.args[i]=x at *;generalize pY s d x st=st' at *;obtain⟨out,done⟩:=st;obtain⟨out',done'⟩:=st';obtain⟨g1,g2,_,_⟩:=hstep;simp only at g1 g2 hd1 hF
   have hne:k=3->out≠[]:=by
    intro h e;have:=hst.2.1;subst e;exact hk0 h (List.eq_nil_of_length_eq_zero (by simpa using this))
   refine lp hρ hE hcon fun K hK=>?_
   rcases out with _|⟨a,out⟩
   . obtain rfl:k=2:=by rcases hk with h|h;exact h;exact absurd rfl (hne h)
     rcases out' with _|⟨b,out'⟩
     . simp [tO,hE,hil,gB,hX,hc,hF,iY,iH,nS,hd1,g1,hw,ae,-Int.natCast_add];exact hK _ _ (aY (Less.keep 4 (by simp[iY,-Int.natCast_add]) (by simp[iY,iH,nS]) rfl rfl) hnew)
     . simp [tO,hE,hil,gB,hX,hc,hF,iY,iH,nS,hd1,g1,hw,ae,-Int.natCast_add];exact hK _ _ (aY (Less.lit (fun k=>if k=2 then 16 else k) 4 (by simp[iY,-Int.natCast_add]) (by simp[iY,iH,nS]) rfl rfl) hnew)
   . rcases out' with _|⟨b,out'⟩
     . simp at g2
     . have g2':out.length<=out'.length:=by simpa using g2
       rcases hk with rfl|rfl
       . simp [tO,hE,hil,gB,hX,hc,hF,iY,iH,nS,hd1,g1,g2',hw,ae,-Int.natCast_add];exact hK _ _ (aY (Less.keep 4 (by simp[iY,-Int.natCast_add]) (by simp[iY,iH,nS]) rfl rfl) hnew)
       . simp [tO,hE,hil,gB,hX,hc,hF,iY,iH,nS,hd1,g1,g2',hw,ae,-Int.natCast_add];exact hK _ _ (aY (Less.keep 4 (by simp[iY,-Int.natCast_add]) (by simp[iY,iH,nS]) rfl rfl) hnew)
theorem vI {d:Nat} (hc:E.dS 105=dN (Ja (zO d))) (hbd:E.dS 77=bZ (bz fun (s:Store) (t:Ty)=>some (s.bound t))) (Mh:E.dS 66=E9 (bz fun (l:List Int) (x:Int)=>if l.length<=1000000 then some (decide (x∈l))else none))
 {s:Store} {out:List Int} {done:List Bool} {t:Ty} {R:List Int×List Bool} (hR:zO (d+1) s out done t=some R) {id rd ro:Nat} {vs:List V} {hs:HS} (hfit:(nX s (enc t) done.length id rd ro out R.1 done R.2).Fits vs hs) :
 aA ρ Tryz.prog 105 vs hs ((nX s (enc t) done.length id rd ro out R.1 done R.2).val hs) ((nX s (enc t) done.length id rd ro out R.1 done R.2).heap hs):=by
 unfold zO at hR;split at hR
 case isFalse=>cases hR
 rename_i hp;obtain⟨hs0,ht,hdl,hb,hm⟩:=hp;cases hR;have hok:=Co s (d+1) t (out,done);refine em hρ hE hcon Tryz.func105 zkD rfl (JN hok.2.1) ?_ hfit;generalize hR:pY s (d+1) t (out,done)=R at hok;rw[pY]at hR;have hol:out.length<=100000:=by omega
 have zCX:out.length<=1000000:=by omega
 obtain⟨tk,tn,ti,th,ta⟩:=t;simp only[Ty.dx,Ty.gz,Ty.cZ]at hR;by_cases hk:tk=1
 . subst hk;rw[if_pos rfl]at hR
   cases hbt:s.bound (Ty.mk 1 tn ti th ta)with
   | false =>
     rw[hbt]at hR;simp at hR;by_cases hmem:ti∈out
     . rw[if_pos hmem]at hR;subst hR;rcases out with _|⟨a,out⟩
       . cases hmem
       . have zuZ:out.length+1<=1000000:=by simpa using zCX
         have hmem':=List.mem_cons.1 hmem;simp [hE,hbd,hbt,Mh,hmem',zuZ,iH,nS];exact aj.bO rfl rfl rfl (by simp)
     . rw[if_neg hmem]at hR;subst hR;rcases out with _|⟨a,out⟩
       . simp [hE,hbd,hbt,Mh,iH,nS];exact aj.JB (fun k=>if k=2 then 30 else k) rfl rfl ⟨rfl,rfl⟩ (by simp)
       . have zuZ:out.length+1<=1000000:=by simpa using zCX
         have h64:(out.length+1+1)*8<=1048576:=by simp at hol;omega
         have zC0:¬ ti=a:=fun e=>hmem (e ▸ List.mem_cons_self ..)
         have zCZ:¬ ti∈out:=fun e=>hmem (List.mem_cons_of_mem _ e)
         simp [hE,hbd,hbt,Mh,zC0,zCZ,zuZ,h64,Nat.not_succ_le_self,iH,nS];exact aj.bO rfl rfl rfl (by simp)
   | true =>
     rw[hbt]at hR;simp only[if_true]at hR;obtain⟨_,i,x,hi,hl,hx,hxb,hto⟩:=Store.gG hbt;simp only[Ty.gz]at hi;subst hi;rw[Int.toNat_natCast]at hR;have hid:i<done.length:=by omega
     have hd0:done[i]?=some done[i]:=List.getElem?_eq_getElem hid;have hx0:s.slots[i]=x:=(List.getElem?_eq_some_iff.1 hx).2;have hi1:i*8 / 8=i:=by omega
     have hi2:i*8 % 8=0:=by omega
     have hi3:(i*8+1) / 8=i:=by omega
     have hi4:(i*8+1) % 8=1:=by omega
     cases zyJ:done[i]with
     | true =>
       rw[hd0,zyJ]at hR;simp at hR;subst hR
       rcases out with _|⟨a,out⟩<;>simp [hE,hbd,hbt,hid,zyJ,Nat.mod_one,iH,nS] <;>
       exact aj.bO rfl rfl rfl (by simp)
     | false =>
       rw[zyJ]at hd0;rw[hd0,hto]at hR;simp only[if_true]at hR;have hxm:x∈s.slots:=hx0 ▸ List.getElem_mem hl;have hu:=Fu hx hd0
       have hF:zO d s out (done.set i true) x.type=some R:=by
        unfold zO;rw[if_pos ⟨hs0,hs0.2 x hxm,by rw[List.length_set];exact hdl,by omega,by have:=Ty.size_pos (Ty.mk 1 tn (i:Int) th ta);omega⟩,hR]
       have hRl:R.2.length=done.length:=hok.1;have zra:out.length<=R.1.length:=hok.2.1;obtain⟨out',done'⟩:=R;simp only at hRl zra hF;have e1:(done.map qy).set i [.bool true]=(done.set i true).map qy:=by rw[List.map_set]
       rcases out with _|⟨a,out⟩
       . rcases out' with _|⟨b,out'⟩
         . simp [hE,hbd,hbt,hid,zyJ,hl,hx0,Nat.mod_one,e1,hc,hF,hRl,ae,iH,nS,-List.map_set];exact aj.bO rfl rfl rfl (by simp)
         . simp [hE,hbd,hbt,hid,zyJ,hl,hx0,Nat.mod_one,e1,hc,hF,hRl,ae,iH,nS,-List.map_set];exact aj.JB (fun k=>if k=2 then 44 else k) rfl rfl ⟨rfl,rfl⟩ (by simp)
       . rcases out' with _|⟨b,out'⟩
         . simp at zra
         . have zLw:out.length<=out'.length:=by simpa using zra
           simp [hE,hbd,hbt,hid,zyJ,hl,hx0,Nat.mod_one,e1,hc,hF,hRl,zLw,ae,iH,nS,-List.map_set];exact aj.bO rfl rfl rfl (by simp)
 . rw [if_neg hk]at hR;have zra:out.length<=R.1.length:=hok.2.1;have zCT:Fh s (Ty.sizes ((Ty.mk tk tn ti th ta).args.take 0)) (out,done) (out,done):=.refl;rcases out with _|⟨a,out⟩
   . simp [hE,hk,iH,nS]
     refine dJ (eU (aY (Less.lit (fun k=>if k=3 then 2 else k) 4 (TL:=[(4,.int .i64 ((0:Nat):Int)),(3,.ptr 3 0 0),(0,.ptr 0 0 0)]) (HL:=iY s done.length ([],done)++[(3,box (ax (.mk tk tn ti th ta)))]) (by simp[iY]) (by simp[iY,iH,nS]) rfl rfl)
      (mU hρ hE hcon (.inl rfl) hc hs0 ht (st0:=([],done)) (R:=R) (by simp) hdl hb hm ?_ ta.length 0 ([],done) (by simp) zCT (by simpa using hR))))
     obtain⟨out',done'⟩:=R;rcases out' with _|⟨b,out'⟩<;>simp [hE,iY,iH,nS]<;>exact aj.bO rfl rfl rfl (by simp)
   . simp [hE,hk,iH,nS]
     refine dJ (eU (aY (Less.keep 4 (TL:=[(4,.int .i64 ((0:Nat):Int)),(3,.ptr 3 0 0),(0,.ptr 0 0 0)]) (HL:=iY s done.length (a::out,done)++[(3,box (ax (.mk tk tn ti th ta)))]) (by simp[iY]) (by simp[iY,iH,nS]) rfl rfl)
      (mU hρ hE hcon (.inr rfl) hc hs0 ht (st0:=(a::out,done)) (R:=R) (by simp) hdl hb hm ?_ ta.length 0 (a::out,done) (by simp) zCT (by simpa using hR))))
     obtain⟨out',done'⟩:=R;rcases out' with _|⟨b,out'⟩
     . simp at zra
     . simp [hE,iY,iH,nS];exact aj.bO rfl rfl rfl (by simp)
end
section
variable {ρ:Nat->Value}(hρ:J.Good ρ){E:Env}(hE:E.P=Tryz.prog)(hcon:aZ ρ E)
include hρ hE hcon
theorem EU (hc:E.dS 105=dN (Ja (zO 100000))) {s:Store} (hs:s.dF) {l:List Ty} (hl:Ty.oks l=true) (hll:l.length<=10000) {st0 R:List Int×List Bool} (hdl:st0.2.length=s.slots.length)
 (hb:st0.1.length+Ty.sizes l+und s.slots st0.2<=100000) {Q:Ex->PT V->HS->Prop}
 (hQ:Q (.exit 0) (di [(5,.ptr 0 0 0)]) { H:=di (iY s st0.2.length R),n:=4,log:=[] }) :
 ∀ (n i:Nat) (st:List Int×List Bool),i+n=l.length->Fh s (Ty.sizes (l.take i)) st0 st->(l.drop i).foldl (fun st x=>pY s 100000 x st) st=R ->
   Cj ρ E 0 30 Dc (bq 0 Q) (n+1) (di [(6,.int .i64 (i:Int)),(1,.sl (l.map ax) false),(5,.ptr 0 0 0)])
    { H:=di (iY s st0.2.length st),n:=4,log:=[] }:=by
 intro n
 induction n with
 | zero =>
   intro i st hi hst hR;have hil:¬ (i:Int)<l.length:=by omega
   rw[List.drop_of_length_le (by omega)]at hR;simp only[List.foldl_nil]at hR;subst hR;refine lp hρ hE hcon fun K hK=>?_
   obtain⟨out,done⟩:=st
   rcases out with _|⟨x,out⟩<;>simp [Dc,hE,hil,iY,iH,nS] <;>
   exact bq.mk (Less.keep 4 (by simp[iY]) (by simp[iY,iH,nS]) rfl rfl) hQ
 | succ n ih =>
   intro i st hi hst hR;have hil:i<l.length:=by omega
   have gB:(i:Int)<l.length:=by omega
   have hw:IntKind.i64.wrap ((i:Int)+1)=((i+1:Nat):Int):=bu (by omega);have hx:=Ty.gT.1 hl _ (List.getElem_mem hil)
   have hsz:Ty.sizes (l.take (i+1))=Ty.sizes (l.take i)+l[i].size:=by
    rw[List.take_add_one,List.getElem?_eq_getElem hil,rf];simp[Ty.sizes]
   have hsz2:=lQ l (i+1);rw[List.drop_eq_getElem_cons hil,List.foldl_cons]at hR;have hstep:=Co s 100000 l[i] st;have hnx:=hst.trans hstep;rw[<- hsz]at hnx
   have hF:zO 100000 s st.1 st.2 l[i]=some (pY s 100000 l[i] st):=by
    obtain⟨g1,g2,g3,g4⟩:=hst;unfold zO;rw[if_pos ⟨hs,hx,by omega,by omega,by omega⟩]
   have hnew:=ih (i+1) (pY s 100000 l[i] st) (by omega) hnx hR;have hd1:st.2.length=st0.2.length:=hst.1;generalize hX:l[i]=x at *;generalize pY s 100000 x st=st' at *;obtain⟨out,done⟩:=st;obtain⟨out',done'⟩:=st';obtain⟨g1,g2,_,_⟩:=hstep;simp only at g1 g2 hd1 hF;refine lp hρ hE hcon fun K hK=>?_
   rcases out with _|⟨a,out⟩
   . rcases out' with _|⟨b,out'⟩
     . simp [Dc,hE,hil,gB,hX,hc,hF,iY,iH,nS,hd1,g1,hw,ae,-Int.natCast_add];exact hK _ _ (aY (Less.keep 4 (by simp[iY,-Int.natCast_add]) (by simp[iY,iH,nS]) rfl rfl) hnew)
     . simp [Dc,hE,hil,gB,hX,hc,hF,iY,iH,nS,hd1,g1,hw,ae,-Int.natCast_add];exact hK _ _ (aY (Less.lit (fun k=>if k=2 then 14 else k) 4 (by simp[iY,-Int.natCast_add]) (by simp[iY,iH,nS]) rfl rfl) hnew)
   . rcases out' with _|⟨b,out'⟩
     . simp at g2
     . have g2':out.length<=out'.length:=by simpa using g2
       simp [Dc,hE,hil,gB,hX,hc,hF,iY,iH,nS,hd1,g1,g2',hw,ae,-Int.natCast_add];exact hK _ _ (aY (Less.keep 4 (by simp[iY,-Int.natCast_add]) (by simp[iY,iH,nS]) rfl rfl) hnew)
theorem Gj(hc:E.dS 105=dN (Ja (zO 100000))){s:Store}{l:List Ty}(hv:iO s l)(hs0:HS):aA ρ Tryz.prog 79 [enc s,enc l] hs0 (enc (dz s l)) hs0:=by
 refine fn hρ hE hcon Tryz.func79 zEe rfl (by simp) ?_ hs0;obtain⟨hs,hl,hll,hb⟩:=hv;have hn:=hs.1;have hroom:s.slots.length<=1048576:=by omega
 have zK6:s.slots.length*8<=1048576:=by omega
 unfold dz;have lo:=fun Q=>EU hρ hE hcon hc hs hl hll (st0:=([],List.replicate s.slots.length false)) (R:=l.foldl (fun st x=>pY s 100000 x st) (([]:List Int),List.replicate s.slots.length false)) (by simp) (by simpa using hb) (Q:=Q)
 have hlo:(l.drop 0).foldl (fun st x=>pY s 100000 x st) (([]:List Int),List.replicate s.slots.length false)=l.foldl (fun st x=>pY s 100000 x st) (([]:List Int),List.replicate s.slots.length false):=rfl;generalize l.foldl (fun st x=>pY s 100000 x st) (([]:List Int),List.replicate s.slots.length false)=R at lo hlo;simp [hE,hroom];refine⟨rfl,?_⟩
 refine dJ (nQ (Less.auto (n:=4) (TL:=[(6,.int .i64 ((0:Nat):Int)),(1,.sl (l.map ax) false),(5,.ptr 0 0 0)]) (HL:=iY s (([]:List Int),List.replicate s.slots.length false).2.length (([]:List Int),List.replicate s.slots.length false))
  (by simp[iY,iH,nS]) (by simp[iY,iH,nS]) (by simp[iY,iH,nS]) (by simp[iY,iH,nS])) (eU
  (lo _ ?_ l.length 0 ([],List.replicate s.slots.length false) (by omega) (by simp;exact .refl) hlo)))
 obtain⟨out',done'⟩:=R;rcases out' with _|⟨b,out'⟩<;>simp [hE,iY,iH,nS]
end
section
variable {ρ:Nat->Value}(hρ:J.Good ρ){E:Env}(hE:E.P=Tryz.prog)(hcon:aZ ρ E)
include hρ hE hcon
theorem Gd {s:Store} {t:Ty} (hs:HS):aA ρ Tryz.prog 60 [enc s,enc t] hs (enc (s.bG t)) hs:=by
 refine fn hρ hE hcon Tryz.func60 zEq rfl (by simp) ?_ hs;obtain⟨k,nm,i,h,l⟩:=t
 have e:(s.slot? i).isSome=(decide (0<=i)&&decide (i<s.slots.length)):=by
  cases h:s.slot? i with
  | none =>
    have:=Store.slot?_none h;by_cases h0:0<=i
    . have h1:¬ i<s.slots.length:=by omega
      simp[h0,h1]
    . simp[h0]
  |some x=>obtain⟨j,rfl,hj,_⟩:=Store.slot?_some h;simp[hj]
 have e2:s.bG (Ty.mk k nm i h l)=(decide (k=1)&&(decide (0<=i)&&decide (i<s.slots.length))):=by rw[<- e];rfl
 rw[e2];by_cases h1:k=1<;>by_cases h2:0<=i<;>by_cases h3:i<s.slots.length<;>simp [hE,h1,h2,h3]
theorem Gf (Ht:E.dS 78=bZ (dH fun (s:Store) (i:Int) (x:Slot)=>if s.small then some (s.set i x)else none)) (zDh:E.dS 16=bZ (fO fun i:Int=>some (aM i)))
 {s:Store} {x y:Ty} (hs:s.slots.length<=1000/\s.trail.length<=990) (hx:s.bG x=true) (hy:s.bG y=true) (hs0:HS):aA ρ Tryz.prog 61 [enc s,enc x,enc y] hs0 (enc (s.join x.id y.id)) hs0:=by
 refine fn hρ hE hcon Tryz.func61 zEp rfl (by simp) ?_ hs0;obtain⟨k,nm,i,h,l⟩:=x;obtain⟨k',zKu,j,h',l'⟩:=y;unfold Store.bG at hx hy;simp only[Ty.dx,Ty.gz,Bool.and_eq_true,decide_eq_true_eq]at hx hy ⊢;obtain⟨rfl,hx⟩:=hx;obtain⟨rfl,hy⟩:=hy;by_cases hij:i=j
 . subst hij;simp [hE,Store.join]
 . obtain⟨xi,hxi⟩:=Option.isSome_iff_exists.1 hx;obtain⟨xj,hxj⟩:=Option.isSome_iff_exists.1 hy;obtain⟨a,ha,rfl,hax⟩:=Store.slot?_at hxi;obtain⟨b,hb,rfl,hbx⟩:=Store.slot?_at hxj;have hsm:s.small:=⟨hs.1,by omega⟩;have hd1:∀ a:Nat,a*8 / 8=a:=by omega
   have hd2:∀ a:Nat,a*8 % 8=0:=by omega
   by_cases hlt:a<b
   . have h1:¬ (b:Int)<a:=by omega
     have h2:(a:Int)<b:=by omega
     have h3:¬ b<a:=by omega
     have hs2:∀ x,(s.set (a:Int) x).1.small:=by
      intro x;unfold Store.set;rw[hxi];exact⟨by simpa using hs.1,by simp;omega⟩
     obtain⟨b1,t1,o1,g1⟩:=xi;obtain⟨b2,t2,o2,g2⟩:=xj
     have ej:s.join a b=((s.set a ⟨b1,t1,min o1 o2,g1||g2⟩).1.set b ⟨true,aM a,o2,g2⟩).1:=by
      unfold Store.join;rw[if_neg hij];have m1:min (a:Int) b=a:=by omega
      have m2:max (a:Int) b=b:=by omega
      unfold Store.joinL Store.xE Store.aJ;rw[m1,m2,hxi,hxj];rfl
     have zM5:s.join (Ty.mk 1 nm (a:Int) h l).id (Ty.mk 1 zKu (b:Int) h' l').id=_:=ej;rw[zM5,show min o1 o2=(if o2<o1 then o2 else o1) by split<;>omega];cases g1<;>cases g2<;>simp [hE,hij,h1,h2,ha,hb,hax,hbx,Ht,zDh,hsm,hs2,uS]
   . have h1:(b:Int)<a:=by omega
     have h2:¬ (a:Int)<b:=by omega
     have h3:b<a:=by omega
     have hs2:∀ x,(s.set (b:Int) x).1.small:=by
      intro x;unfold Store.set;rw[hxj];exact⟨by simpa using hs.1,by simp;omega⟩
     obtain⟨b1,t1,o1,g1⟩:=xi;obtain⟨b2,t2,o2,g2⟩:=xj
     have ej:s.join a b=((s.set b ⟨b2,t2,min o2 o1,g2||g1⟩).1.set a ⟨true,aM b,o1,g1⟩).1:=by
      unfold Store.join;rw[if_neg hij];have m1:min (a:Int) b=b:=by omega
      have m2:max (a:Int) b=a:=by omega
      unfold Store.joinL Store.xE Store.aJ;rw[m1,m2,hxi,hxj];rfl
     have zM5:s.join (Ty.mk 1 nm (a:Int) h l).id (Ty.mk 1 zKu (b:Int) h' l').id=_:=ej;rw[zM5,show min o2 o1=(if o1<o2 then o1 else o2) by split<;>omega];cases g1<;>cases g2<;>simp [hE,hij,h1,h2,ha,hb,hax,hbx,Ht,zDh,hsm,hs2,uS]
end
section
variable {ρ:Nat->Value}(hρ:J.Good ρ){E:Env}(hE:E.P=Tryz.prog)(hcon:aZ ρ E)
include hρ hE hcon
theorem CR {s:Store} {v:Slot} {t:Ty} {id:Int} {vars:List Int} {l:List Ty} (hl:l.length<=10000) {Q:Ex->PT V->HS->Prop}
 (hf:(∃ x∈l,v.home<x.home)->Q .ret (di [(6,.ptr 2 0 0),(7,.int .i64 13)]) { H:=di [(2,box (bB s))],n:=4,log:=[] })
 (ht:(¬ ∃ x∈l,v.home<x.home)->Q (.exit 0) (di [(1,.int .i64 id),(3,.ptr 0 0 0),(5,.ptr 1 0 0),(6,.ptr 2 0 0),(8,.ptr 3 0 0),(9,.sl (vars.map encI) false)]) { H:=di [(0,box (bB s)),(1,box (ax t)),(2,.arr 2 0 [[.snil,.snil]] true false false),(3,box (aX v))],n:=4,log:=[] }) :
 ∀ (n i:Nat),i+n=l.length->(¬ ∃ x∈l.take i,v.home<x.home) ->
   Cj ρ E 0 149 HV (bq 0 Q) (n+1) (di [(16,.int .i64 (i:Int)),(15,.sl (l.map ax) false),(1,.int .i64 id),(3,.ptr 0 0 0),(5,.ptr 1 0 0),(6,.ptr 2 0 0),(8,.ptr 3 0 0),(9,.sl (vars.map encI) false)])
    { H:=di [(0,box (bB s)),(1,box (ax t)),(2,.arr 2 0 [[.snil,.snil]] true false false),(3,box (aX v))],n:=4,log:=[] }:=by
 intro n
 induction n with
 | zero =>
   intro i hi he;have hil:¬ (i:Int)<l.length:=by omega
   rw[List.take_of_length_le (by omega)]at he;refine lp hρ hE hcon fun K hK=>?_
   simp [HV,hE,hil];exact bq.mk (Less.keep 4 (by simp) (by simp) rfl rfl) (ht he)
 | succ n ih =>
   intro i hi he;have hil:i<l.length:=by omega
   have gB:(i:Int)<l.length:=by omega
   have hw:IntKind.i64.wrap ((i:Int)+1)=((i+1:Nat):Int):=bu (by omega);refine lp hρ hE hcon fun K hK=>?_
   by_cases hb:v.home<l[i].home
   . simp [HV,hE,gB,hil,hb];exact bq.mk (Less.keep 4 (by simp) (by simp) rfl rfl) (hf ⟨_,List.getElem_mem hil,hb⟩)
   . have hnx:¬ ∃ x∈l.take (i+1),v.home<x.home:=by
      have he':∀ x∈l.take i,¬ v.home<x.home:=fun x hx h=>he ⟨x,hx,h⟩
      exact fun ⟨x,hx,h⟩=>uR hil he' hb x hx h
     simp [HV,hE,gB,hil,hb,hw,-Int.natCast_add];exact hK _ _ (aY (Less.keep 4 (by simp[-Int.natCast_add]) (by simp) rfl rfl) (ih (i+1) (by omega) hnx))
theorem CQ {s:Store} {v:Slot} {t:Ty} {id:Int} {vars:List Int} (hl:vars.length<=100000) {Q:Ex->PT V->HS->Prop}
 (hf:(∃ x∈vars,(s.slots.length:Int)<=x/\v.home<0)->Q .ret (di [(6,.ptr 2 0 0),(7,.int .i64 13)]) { H:=di [(2,box (bB s))],n:=4,log:=[] })
 (ht:(¬ ∃ x∈vars,(s.slots.length:Int)<=x/\v.home<0)->Q (.exit 2) (di [(1,.int .i64 id),(3,.ptr 0 0 0),(5,.ptr 1 0 0),(6,.ptr 2 0 0),(8,.ptr 3 0 0),(9,.sl (vars.map encI) false)]) { H:=di [(0,box (bB s)),(1,box (ax t)),(2,.arr 2 0 [[.snil,.snil]] true false false),(3,box (aX v))],n:=4,log:=[] }) :
 ∀ (n i:Nat),i+n=vars.length->(¬ ∃ x∈vars.take i,(s.slots.length:Int)<=x/\v.home<0) ->
   Cj ρ E 0 149 Df (bq 0 Q) (n+1) (di [(17,.int .i64 (i:Int)),(1,.int .i64 id),(3,.ptr 0 0 0),(5,.ptr 1 0 0),(6,.ptr 2 0 0),(8,.ptr 3 0 0),(9,.sl (vars.map encI) false)])
    { H:=di [(0,box (bB s)),(1,box (ax t)),(2,.arr 2 0 [[.snil,.snil]] true false false),(3,box (aX v))],n:=4,log:=[] }:=by
 intro n
 induction n with
 | zero =>
   intro i hi he;have hil:¬ (i:Int)<vars.length:=by omega
   rw[List.take_of_length_le (by omega)]at he;refine lp hρ hE hcon fun K hK=>?_
   simp [Df,hE,hil];exact bq.mk (Less.keep 4 (by simp) (by simp) rfl rfl) (ht he)
 | succ n ih =>
   intro i hi he;have hil:i<vars.length:=by omega
   have gB:(i:Int)<vars.length:=by omega
   have hw:IntKind.i64.wrap ((i:Int)+1)=((i+1:Nat):Int):=bu (by omega)
   have hnx:¬ ((s.slots.length:Int)<=vars[i]/\v.home<0)->¬ ∃ x∈vars.take (i+1),(s.slots.length:Int)<=x/\v.home<0:=by
    intro hb;have he':∀ x∈vars.take i,¬ ((s.slots.length:Int)<=x/\v.home<0):=fun x hx h=>he ⟨x,hx,h⟩
    exact fun ⟨x,hx,h⟩=>uR hil he' hb x hx h
   refine lp hρ hE hcon fun K hK=>?_
   by_cases h1:(s.slots.length:Int)<=vars[i]
   . by_cases h2:v.home<0
     . simp [Df,hE,gB,hil,h1,h2];exact bq.mk (Less.keep 4 (by simp) (by simp) rfl rfl) (hf ⟨_,List.getElem_mem hil,h1,h2⟩)
     . simp [Df,hE,gB,hil,h1,h2,hw,-Int.natCast_add];exact hK _ _ (aY (Less.keep 4 (by simp[-Int.natCast_add]) (by simp) rfl rfl) (ih (i+1) (by omega) (hnx fun h=>h2 h.2)))
   . simp [Df,hE,gB,hil,h1,hw,-Int.natCast_add];exact hK _ _ (aY (Less.keep 4 (by simp[-Int.natCast_add]) (by simp) rfl rfl) (ih (i+1) (by omega) (hnx fun h=>h1 h.1)))
theorem oD (Ht:E.dS 78=bZ (dH fun (s:Store) (i:Int) (x:Slot)=>if s.small then some (s.set i x)else none)) {v:Slot} {t:Ty} {id:Int} {vars:List Int} {len:Nat} (hlen:len<=1000) (hv0:∀ x∈vars,0<=x) (hl:vars.length<=1000) {R:Store} {Q:Ex->PT V->HS->Prop}
 (ht:Q (.exit 4) (di [(1,.int .i64 id),(3,.ptr 0 0 0),(5,.ptr 1 0 0),(6,.ptr 2 0 0),(8,.ptr 3 0 0)]) { H:=di [(0,box (bB R)),(1,box (ax t)),(2,.arr 2 0 [[.snil,.snil]] true false false),(3,box (aX v))],n:=4,log:=[] }) :
 ∀ (n i:Nat) (s:Store),i+n=vars.length->s.slots.length=len->s.trail.length+n<=1000->(vars.drop i).foldl (Store.bf v.home) s=R ->
   Cj ρ E 0 149 De (bq 0 Q) (n+1) (di [(18,.int .i64 (i:Int)),(1,.int .i64 id),(3,.ptr 0 0 0),(5,.ptr 1 0 0),(6,.ptr 2 0 0),(8,.ptr 3 0 0),(9,.sl (vars.map encI) false)])
    { H:=di [(0,box (bB s)),(1,box (ax t)),(2,.arr 2 0 [[.snil,.snil]] true false false),(3,box (aX v))],n:=4,log:=[] }:=by
 intro n
 induction n with
 | zero =>
   intro i s hi hsl htr hR;have hil:¬ (i:Int)<vars.length:=by omega
   rw[List.drop_of_length_le (by omega)]at hR;simp only[List.foldl_nil]at hR;subst hR;refine lp hρ hE hcon fun K hK=>?_
   simp [De,hE,hil];exact bq.mk (Less.keep 4 (by simp) (by simp) rfl rfl) ht
 | succ n ih =>
   intro i s hi hsl htr hR;have hil:i<vars.length:=by omega
   have gB:(i:Int)<vars.length:=by omega
   have hw:IntKind.i64.wrap ((i:Int)+1)=((i+1:Nat):Int):=bu (by omega);have hx0:=hv0 _ (List.getElem_mem hil);rw[List.drop_eq_getElem_cons hil,List.foldl_cons]at hR;obtain⟨k,hk⟩:=Int.eq_ofNat_of_zero_le hx0;rw[hk]at hR;refine lp hρ hE hcon fun K hK=>?_
   by_cases h1:(k:Int)<s.slots.length
   . have hkl:k<s.slots.length:=by omega
     have hsd:s.slot? (k:Int)=some s.slots[k]:=by rw[Store.slot?_nat,List.getElem?_eq_getElem hkl]
     have zCS:s.aJ (k:Int)=s.slots[k]:=by unfold Store.aJ;rw[hsd];rfl
     generalize hX:s.slots[k]=x at hsd zCS;have hd1:(k*8+6) / 8=k:=by omega
     have hd2:(k*8+6) % 8=6:=by omega
     by_cases h2:v.home<x.home
     . have hlo:Store.bf v.home s k=(s.set k { x with home:=v.home }).1:=by
        unfold Store.bf;rw[zCS,if_pos ⟨h1,h2⟩]
       rw[hlo]at hR;have hsm:s.small:=⟨by omega,by omega⟩
       have hset:(s.set (k:Int) { x with home:=v.home }).1.slots.length=s.slots.length/\(s.set (k:Int) { x with home:=v.home }).1.trail.length=s.trail.length+1:=by
        unfold Store.set;rw[hsd];simp
       obtain⟨xb,xt,xh,xg⟩:=x;simp only at h2 hR hset;simp [De,hE,gB,hil,hk,hkl,h1,h2,hX,Ht,hsm,uS,hw,-Int.natCast_add];exact hK _ _ (aY (Less.keep 4 (by simp[-Int.natCast_add]) (by simp) rfl rfl) (ih (i+1) _ (by omega) (by omega) (by omega) hR))
     . have hlo:Store.bf v.home s k=s:=by
        unfold Store.bf;rw[zCS,if_neg fun h=>h2 h.2]
       rw[hlo]at hR;simp [De,hE,gB,hil,hk,hkl,h1,h2,hX,hw,-Int.natCast_add];exact hK _ _ (aY (Less.keep 4 (by simp[-Int.natCast_add]) (by simp) rfl rfl) (ih (i+1) _ (by omega) (by omega) (by omega) hR))
   . have hlo:Store.bf v.home s k=s:=by
      unfold Store.bf;rw[if_neg fun h=>h1 h.1]
     rw[hlo]at hR;have hkl:¬ k<s.slots.length:=by omega
     simp [De,hE,gB,hil,hk,h1,hw,-Int.natCast_add];exact hK _ _ (aY (Less.keep 4 (by simp[-Int.natCast_add]) (by simp) rfl rfl) (ih (i+1) _ (by omega) (by omega) (by omega) hR))
omit hρ hE hcon in
theorem xz:∀ (l:List Int) (h:Int) (s:Store),(l.foldl (Store.bf h) s).slots.length=s.slots.length/\(l.foldl (Store.bf h) s).trail.length<=s.trail.length+l.length:=by
 intro l
 induction l with
 |nil=>intro h s;exact⟨rfl,Nat.le_refl _⟩
 | cons v l ih =>
   intro h s
   have hset:∀ (i:Int) (x:Slot),(s.set i x).1.slots.length=s.slots.length/\(s.set i x).1.trail.length<=s.trail.length+1:=by
    intro i x;unfold Store.set;split
    . exact⟨by simp,by simp⟩
    . exact⟨rfl,Nat.le_succ _⟩
   have h1:(Store.bf h s v).slots.length=s.slots.length/\(Store.bf h s v).trail.length<=s.trail.length+1:=by
    unfold Store.bf;split
    . exact hset _ _
    . exact⟨rfl,Nat.le_succ _⟩
   have h2:=ih h (Store.bf h s v);rw[List.foldl_cons,List.length_cons];exact⟨h2.1.trans h1.1,by omega⟩
theorem Gg (Ht:E.dS 78=bZ (dH fun (s:Store) (i:Int) (x:Slot)=>if s.small then some (s.set i x)else none)) (hVars:E.dS 79=bZ (bz fun (s:Store) (l:List Ty)=>if iO s l then some (dz s l)else none))
 (Mh:E.dS 66=E9 (bz fun (l:List Int) (x:Int)=>if l.length<=1000000 then some (decide (x∈l))else none)) (zoQ:E.dS 17=bZ (fO fun t:Ty=>some (isArrow t)))
 (zve:E.dS 15=bZ (bz fun (s:Store) (t:Ty)=>if s.dF/\t.ok=true then some (bK s.w16 t)else none)) (zvd:E.dS 18=bZ (fO fun l:List Ty=>if Ty.oks l=true/\l.length<=10000/\Ty.sizes l<=10000 then some (iD l)else none))
 {s:Store} {id:Int} {t:Ty} (hs:s.dF) (ht:t.ok=true) (hv:iO s [t]) (hv0:∀ x∈dz s [t],0<=x) (hl:s.trail.length+(dz s [t]).length<1000) (hid:(s.slot? id).isSome=true) (hrr:(bK s.w16 t).1.ok=true/\(bK s.w16 t).1.size<=10000) (hs0:HS) :
 aA ρ Tryz.prog 62 [enc s,enc id,enc t] hs0 (enc (s.bindM id t)) hs0:=by
 refine fn hρ hE hcon Tryz.func62 zEo rfl (by simp) ?_ hs0;obtain⟨v,hv1⟩:=Option.isSome_iff_exists.1 hid;obtain⟨a,ha,rfl,zDd⟩:=Store.slot?_at hv1;have zCS:s.aJ (a:Int)=v:=by unfold Store.aJ;rw[hv1];rfl
 have hd1:a*8 / 8=a:=by omega
 have hd2:a*8 % 8=0:=by omega
 unfold Store.bindM;rw[zCS];generalize hvs:dz s [t]=vars at *;have hvl:vars.length<=1000000:=by omega
 by_cases h1:(a:Int)∈vars
 . rw[if_pos h1];simp [hE,ha,zDd,hVars,hv,hvs,Mh,hvl,h1]
 rw[if_neg h1];by_cases h2:(isArrow t).c=true/\v.base=true
 . rw[if_pos h2];obtain⟨zLD,zOQ⟩:=h2;generalize hq:isArrow t=q at zLD;obtain⟨qa,qb,qc⟩:=q;simp only at zLD;subst zLD;obtain⟨vb,vt,vh,vg⟩:=v;simp only at zOQ;subst zOQ;simp [hE,ha,zDd,hVars,hv,hvs,Mh,hvl,h1,zoQ,hq]
 rw[if_neg h2];have ZM:Ty.oks [(bK s.w16 t).1]=true:=by simp[Ty.oks,hrr.1]
 have zoE:Ty.sizes [(bK s.w16 t).1]<=10000:=by simp[Ty.sizes];exact hrr.2
 generalize hrs:bK s.w16 t=rs at *;obtain⟨rt,rb⟩:=rs;simp only at ZM zoE
 have hrl:(iD [rt]).length<=10000:=by
  have:=(iK 3 [rt] []).2;simp only[List.length_nil]at this;have h2:(iD [rt]).length=(aP 3 [rt] []).length:=rfl;omega
 have zCL:vars.length<=100000:=by omega
 have zKI:=fun Q=>CR hρ hE hcon (s:=s) (v:=v) (t:=t) (id:=(a:Int)) (vars:=vars) (l:=iD [rt]) hrl (Q:=Q)
 have lo1:=fun Q=>CQ hρ hE hcon (s:=s) (v:=v) (t:=t) (id:=(a:Int)) (vars:=vars) zCL (Q:=Q)
 have hcase:∀ q,isArrow t=q->¬ (q.c=true/\v.base=true):=fun q e=>e ▸ h2
 generalize hq:isArrow t=q at h2;obtain⟨qa,qb,qc⟩:=q;obtain⟨vb,vt,vh,vg⟩:=v;simp only at h2;cases qc<;>cases vg<;>simp at h2
 . simp [hE,ha,zDd,hVars,hv,hvs,Mh,hvl,h1,zoQ,hq,zve,hs,ht,hrs,zvd,ZM,zoE];refine dJ (nQ (Less.auto (TL:=[(16,.int .i64 ((0:Nat):Int)),(15,.sl ((iD [rt]).map ax) false),(1,.int .i64 (a:Int)),(3,.ptr 0 0 0),(5,.ptr 1 0 0),(6,.ptr 2 0 0),(8,.ptr 3 0 0),(9,.sl (vars.map encI) false)]) (HL:=[(0,box (bB s)),(1,box (ax t)),(2,.arr 2 0 [[.snil,.snil]] true false false),(3,box (aX ⟨vb,vt,vh,false⟩))]) (n:=4) (by simp) (by simp) (by simp) (by simp)) (eU (zKI _ ?_ ?_ (iD [rt]).length 0 (by omega) (by simp))))
   . intro h3;simp only at h3;simp [hE,h3]
   . intro h3;simp only at h3;simp;refine dJ (nQ (Less.auto (TL:=[(17,.int .i64 ((0:Nat):Int)),(1,.int .i64 (a:Int)),(3,.ptr 0 0 0),(5,.ptr 1 0 0),(6,.ptr 2 0 0),(8,.ptr 3 0 0),(9,.sl (vars.map encI) false)]) (HL:=[(0,box (bB s)),(1,box (ax t)),(2,.arr 2 0 [[.snil,.snil]] true false false),(3,box (aX ⟨vb,vt,vh,false⟩))]) (n:=4) (by simp) (by simp) (by simp) (by simp)) (eU (lo1 _ ?_ ?_ vars.length 0 (by omega) (by simp))))
     . intro h4;simp only at h4;simp [hE,h3,h4]
     . intro h4;simp only at h4;rw[if_neg h3,if_neg h4];simp;refine dJ (nQ (Less.auto (TL:=[(18,.int .i64 ((0:Nat):Int)),(1,.int .i64 (a:Int)),(3,.ptr 0 0 0),(5,.ptr 1 0 0),(6,.ptr 2 0 0),(8,.ptr 3 0 0),(9,.sl (vars.map encI) false)]) (HL:=[(0,box (bB s)),(1,box (ax t)),(2,.arr 2 0 [[.snil,.snil]] true false false),(3,box (aX ⟨vb,vt,vh,false⟩))]) (n:=4) (by simp) (by simp) (by simp) (by simp)) (eU (oD hρ hE hcon Ht (v:=⟨vb,vt,vh,false⟩) (R:=vars.foldl (Store.bf vh) s) (len:=s.slots.length) hs.1 hv0 (by omega) ?_ vars.length 0 s (by omega) rfl (by omega) (by simp))));have hR:=xz vars vh s;generalize vars.foldl (Store.bf vh) s=R at hR;have hRs:R.small:=⟨by rw[hR.1];exact hs.1,by omega⟩;have zOI:(R.slot? (a:Int)).isSome=true:=by rw[Store.slot?_nat];simp[hR.1,ha]
       simp [hE,Ht,hRs,uS]
 . simp [hE,ha,zDd,hVars,hv,hvs,Mh,hvl,h1,zoQ,hq,zve,hs,ht,hrs,zvd,ZM,zoE];refine dJ (nQ (Less.auto (TL:=[(16,.int .i64 ((0:Nat):Int)),(15,.sl ((iD [rt]).map ax) false),(1,.int .i64 (a:Int)),(3,.ptr 0 0 0),(5,.ptr 1 0 0),(6,.ptr 2 0 0),(8,.ptr 3 0 0),(9,.sl (vars.map encI) false)]) (HL:=[(0,box (bB s)),(1,box (ax t)),(2,.arr 2 0 [[.snil,.snil]] true false false),(3,box (aX ⟨vb,vt,vh,true⟩))]) (n:=4) (by simp) (by simp) (by simp) (by simp)) (eU (zKI _ ?_ ?_ (iD [rt]).length 0 (by omega) (by simp))))
   . intro h3;simp only at h3;simp [hE,h3]
   . intro h3;simp only at h3;simp;refine dJ (nQ (Less.auto (TL:=[(17,.int .i64 ((0:Nat):Int)),(1,.int .i64 (a:Int)),(3,.ptr 0 0 0),(5,.ptr 1 0 0),(6,.ptr 2 0 0),(8,.ptr 3 0 0),(9,.sl (vars.map encI) false)]) (HL:=[(0,box (bB s)),(1,box (ax t)),(2,.arr 2 0 [[.snil,.snil]] true false false),(3,box (aX ⟨vb,vt,vh,true⟩))]) (n:=4) (by simp) (by simp) (by simp) (by simp)) (eU (lo1 _ ?_ ?_ vars.length 0 (by omega) (by simp))))
     . intro h4;simp only at h4;simp [hE,h3,h4]
     . intro h4;simp only at h4;rw[if_neg h3,if_neg h4];simp;refine dJ (nQ (Less.auto (TL:=[(18,.int .i64 ((0:Nat):Int)),(1,.int .i64 (a:Int)),(3,.ptr 0 0 0),(5,.ptr 1 0 0),(6,.ptr 2 0 0),(8,.ptr 3 0 0),(9,.sl (vars.map encI) false)]) (HL:=[(0,box (bB s)),(1,box (ax t)),(2,.arr 2 0 [[.snil,.snil]] true false false),(3,box (aX ⟨vb,vt,vh,true⟩))]) (n:=4) (by simp) (by simp) (by simp) (by simp)) (eU (oD hρ hE hcon Ht (v:=⟨vb,vt,vh,true⟩) (R:=vars.foldl (Store.bf vh) s) (len:=s.slots.length) hs.1 hv0 (by omega) ?_ vars.length 0 s (by omega) rfl (by omega) (by simp))));have hR:=xz vars vh s;generalize vars.foldl (Store.bf vh) s=R at hR;have hRs:R.small:=⟨by rw[hR.1];exact hs.1,by omega⟩;have zOI:(R.slot? (a:Int)).isSome=true:=by rw[Store.slot?_nat];simp[hR.1,ha]
       simp [hE,Ht,hRs,uS]
 . simp [hE,ha,zDd,hVars,hv,hvs,Mh,hvl,h1,zoQ,hq,zve,hs,ht,hrs,zvd,ZM,zoE];refine dJ (nQ (Less.auto (TL:=[(16,.int .i64 ((0:Nat):Int)),(15,.sl ((iD [rt]).map ax) false),(1,.int .i64 (a:Int)),(3,.ptr 0 0 0),(5,.ptr 1 0 0),(6,.ptr 2 0 0),(8,.ptr 3 0 0),(9,.sl (vars.map encI) false)]) (HL:=[(0,box (bB s)),(1,box (ax t)),(2,.arr 2 0 [[.snil,.snil]] true false false),(3,box (aX ⟨vb,vt,vh,false⟩))]) (n:=4) (by simp) (by simp) (by simp) (by simp)) (eU (zKI _ ?_ ?_ (iD [rt]).length 0 (by omega) (by simp))))
   . intro h3;simp only at h3;simp [hE,h3]
   . intro h3;simp only at h3;simp;refine dJ (nQ (Less.auto (TL:=[(17,.int .i64 ((0:Nat):Int)),(1,.int .i64 (a:Int)),(3,.ptr 0 0 0),(5,.ptr 1 0 0),(6,.ptr 2 0 0),(8,.ptr 3 0 0),(9,.sl (vars.map encI) false)]) (HL:=[(0,box (bB s)),(1,box (ax t)),(2,.arr 2 0 [[.snil,.snil]] true false false),(3,box (aX ⟨vb,vt,vh,false⟩))]) (n:=4) (by simp) (by simp) (by simp) (by simp)) (eU (lo1 _ ?_ ?_ vars.length 0 (by omega) (by simp))))
     . intro h4;simp only at h4;simp [hE,h3,h4]
     . intro h4;simp only at h4;rw[if_neg h3,if_neg h4];simp;refine dJ (nQ (Less.auto (TL:=[(18,.int .i64 ((0:Nat):Int)),(1,.int .i64 (a:Int)),(3,.ptr 0 0 0),(5,.ptr 1 0 0),(6,.ptr 2 0 0),(8,.ptr 3 0 0),(9,.sl (vars.map encI) false)]) (HL:=[(0,box (bB s)),(1,box (ax t)),(2,.arr 2 0 [[.snil,.snil]] true false false),(3,box (aX ⟨vb,vt,vh,false⟩))]) (n:=4) (by simp) (by simp) (by simp) (by simp)) (eU (oD hρ hE hcon Ht (v:=⟨vb,vt,vh,false⟩) (R:=vars.foldl (Store.bf vh) s) (len:=s.slots.length) hs.1 hv0 (by omega) ?_ vars.length 0 s (by omega) rfl (by omega) (by simp))));have hR:=xz vars vh s;generalize vars.foldl (Store.bf vh) s=R at hR;have hRs:R.small:=⟨by rw[hR.1];exact hs.1,by omega⟩;have zOI:(R.slot? (a:Int)).isSome=true:=by rw[Store.slot?_nat];simp[hR.1,ha]
       simp [hE,Ht,hRs,uS]
end
end Go.Proofs.YtocdkgjpdnamlaaGreat
