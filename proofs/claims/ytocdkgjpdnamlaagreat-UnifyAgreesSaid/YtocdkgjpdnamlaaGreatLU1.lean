import Derived.Test.YtocdkgjpdnamlaaGreatLNN
import Derived.Test.YtocdkgjpdnamlaaGreatJY
set_option linter.all false
noncomputable section
/- The fQ iJ and unification of zFo 13 and 15. -/
namespace Go.Proofs.YtocdkgjpdnamlaaGreat
open Go.J
open Go.J.Enc (enc)
set_option maxRecDepth 100000
set_option maxHeartbeats 4000000
def wW(t:Ty)(s:List Assign):Option Ty:=if t.ok=true/\s.length<=100000 then some (t.dZ s)else none
def MN(s:List Assign)(t:Ty):Option Ty:=if t.ok=true/\s.length<=100000 then some (t.dZ s)else none
def zob(x:Int)(t:Ty):Option Bool:=if t.ok=true/\(aP 1 [t] []).length<=10000 then some (decide (x∈ji [t]))else none
open Classical in
def zIP(a b:List Assign):Option (List Assign):=if Zx a/\a.length+b.length<=8000 then some (zkN a b)else none
open Classical in
def zld(x:Int)(t:Ty)(s:List Assign):Option (List Assign×Int):=if t.ok=true/\(aP 1 [t] []).length<=10000/\Zx s/\s.length+1<=8000 then some (if x∈ji [t]then ([],12)else (zkN s [⟨x,t⟩],0))else none
open Classical in
def zma(f:Nat)(a b:Ty)(s:List Assign):Option (List Assign×Int):=if ∃ V,zaT V s/\a.ok=true/\b.ok=true/\a.ay=true/\b.ay=true/\cl V (jq s) a/\cl V (jq s) b then (IY f a b s).map fun r=>(r.2,r.1)else none
theorem TR{f:Nat}{a b:Ty}{s:List Assign}{q:List Assign×Int}(h:zma f a b s=some q):∃ V,zaT V s/\a.ok=true/\b.ok=true/\a.ay=true/\b.ay=true/\cl V (jq s) a/\cl V (jq s) b/\IY f a b s=some (q.2,q.1):=by
 unfold zma at h;split at h
 . rename_i hh;obtain⟨V,h1,h2,h3,h4,h5,h6,h7⟩:=hh;obtain⟨r,hr,rfl⟩:=Option.map_eq_some_iff.1 h;exact⟨V,h1,h2,h3,h4,h5,h6,h7,hr⟩
 . cases h
theorem zce{f:Nat}{a b:Ty}{s:List Assign}{V:List Int}{e:Int}{s':List Assign}(h1:zaT V s)(h2:a.ok=true)(h3:b.ok=true)(h4:a.ay=true)(h5:b.ay=true)(h6:cl V (jq s) a)(h7:cl V (jq s) b)(h:IY f a b s=some (e,s')):zma f a b s=some (s',e):=by
 unfold zma;rw[if_pos ⟨V,h1,h2,h3,h4,h5,h6,h7⟩,h];rfl
def RU(a b:Ty)(p:List Assign×Int):Prop:=∃ f,IY f a b []=some (p.2,p.1)
open Classical in
def EI(a b:Ty):List Assign×Int:=if h:∃ p,RU a b p then h.choose else ([],0)
theorem zb8{a b:Ty}(ha:a.ay=true)(hb:b.ay=true):RU a b (EI a b):=by
 have hex:∃ p,RU a b p:=by
  obtain⟨f,e,s,h,_⟩:=znN ha hb;exact⟨(s,e),f,h⟩
 unfold EI;rw[dif_pos hex];exact hex.choose_spec
def znM(a b:Ty):Option (List Assign×Int):=if a.ok=true/\b.ok=true/\a.ay=true/\b.ay=true/\a.size+b.size<=8000 then some (EI a b)else none
section
variable {ρ:Nat->Value}(hρ:J.Good ρ)
include hρ
section
variable {E:Env}(hE:E.P=Tryz.prog)(hcon:aZ ρ E)
include hE hcon
theorem CU(hc:E.dS 31=bZ (bz wW)){s:List Assign}{t:Ty}(h1:t.ok=true)(h3:s.length<=100000)(hs:HS):aA ρ Tryz.prog 111 [enc s,enc t] hs (enc (t.dZ s)) hs:=by
 refine fn hρ hE hcon Tryz.func111 Ye rfl (by simp) ?_ hs;have hF:wW t s=some (t.dZ s):=if_pos ⟨h1,h3⟩;generalize t.dZ s=r at hF;simp [hE,hc,hF]
theorem CO(zH9:E.dS 66=sj)(hc:E.dS 42=SX){x:Int}{t:Ty}(ht:t.ok=true)(hl:(aP 1 [t] []).length<=10000)(hs:HS):aA ρ Tryz.prog 96 [enc x,enc t] hs (enc (decide (x∈ji [t]))) hs:=by
 refine fn hρ hE hcon Tryz.func96 zEd rfl (by simp) ?_ hs
 have h1:(ji [t]).length<=1000000:=by
  have:=yK (aP 1 [t] []);unfold ji;omega
 simp [hE,hc,zH9,sj,SX,Ty.oks,ht,hl,h1]
theorem Bi (hA:E.dS 111=bZ (bz MN)) (hH:E.dS 110=qp) {a b:List Assign} (ha:Zx a) (hl:a.length+b.length<=8000) (hs:HS):aA ρ Tryz.prog 97 [enc a,enc b] hs (enc (zkN a b)) hs:=by
 refine fn hρ hE hcon Tryz.func97 zEc rfl (by simp) ?_ hs;have hal:a.length<=100000:=by omega
 have hbl:b.length<=100000:=by omega
 generalize hR:zkN a b=R;simp
 refine DV hρ hE hcon a.length (nn:=1) (fun i (out:List Assign)=>[(0,.sl (a.map bF) false),(1,.sl (b.map bF) false),(5,oV 0 (out.map bF)),(6,.int .i64 (i:Int))]) (fun i out=>oH 0 6 (out.map bF)) (fun i out=>out=(a.take i).map fun x=>(⟨x.id,x.type.dZ b⟩:Assign)) []
  (Less.auto (by simp) (by simp) (by first|rfl|simp) (by first|rfl|simp)) rfl ?_ ?_
 . intro out ho K;rw[List.take_length]at ho;have hlo:out.length=a.length:=by rw[ho,List.length_map]
   have h2 : ∀ (T0:PT V) (hs0:HS) (Q:Ex->PT V->HS->Prop),Less 0 T0 hs0 (di [(0,.sl (a.map bF) false),(1,.sl (b.map bF) false),(5,oV 0 (out.map bF)),(7,.int .i64 ((0:Nat):Int))]) { H:=di (oH 0 6 (out.map bF)),n:=1,log:=[] } ->
    Q (.exit 2) (di [(5,oV 0 (R.map bF))]) { H:=di (oH 0 6 (R.map bF)),n:=1,log:=[] }->Ls ρ E 0 52 (.loop Db) T0 hs0 Q:=by
    intro T0 hs0 Q h0 hQ
    refine DV hρ hE hcon b.length (nn:=1) (fun i (o:List Assign)=>[(0,.sl (a.map bF) false),(1,.sl (b.map bF) false),(5,oV 0 (o.map bF)),(7,.int .i64 (i:Int))]) (fun i o=>oH 0 6 (o.map bF)) (fun i o=>o=out++(b.take i).filter fun x=>!qo a x.id) out
     h0 (by simp) ?_ ?_
    . intro o h K;rw[List.take_length]at h;have zra:o=R:=by rw[h,ho,<- hR];rfl
      rw[<- zra]at hQ;clear zra h hR h0;rcases o with _|⟨x,o⟩
      all_goals
       simp [Db,hE];exact bq.mk (Less.auto (n:=1) (by simp) (by simp) (by first|rfl|simp) (by first|rfl|simp)) hQ
    . intro i o hi h K hK;have hi':(i:Int)<b.length:=by omega
      have hw2:IntKind.i64.wrap ((i:Int)+1)=((i+1:Nat):Int):=bu (by omega);have zoH:(i*6) / 6=i:=by omega
      have zoG:(i*6) % 6=0:=by omega
      have hol:o.length<=a.length+i:=by
       rw[h,List.length_append,hlo];have:=List.length_filter_le (fun x:Assign=>!qo a x.id) (b.take i);rw[List.length_take]at this;omega
      have hnx:∀ q:Bool,qo a b[i].id=q->(out++(b.take (i+1)).filter fun x=>!qo a x.id)=if q=true then o else o++[b[i]]:=fun q hq=>by
       rw[List.take_add_one,List.getElem?_eq_getElem hi,Option.toList_some,List.filter_append,List.filter_cons,hq,h];cases q<;>simp
      obtain⟨x,hx⟩:∃ x,b[i]=x:=⟨_,rfl⟩;rw[hx]at hnx;have hF:RV a x.id=some (qo a x.id):=if_pos hal;have hnew:=fun (o':List Assign) (h':o'=out++(b.take (i+1)).filter fun x=>!qo a x.id)=>hK o' h'
      clear hK h h0 hQ;obtain⟨xi,xt⟩:=x
      cases hq:qo a xi with
      | true =>
        have hnew:=hnew o (by rw[hnx true hq,if_pos rfl]);simp only[hq]at hF;rcases o with _|⟨y,o⟩
        all_goals
         simp [Db,hE,hi,hi',hx,hH,qp,hF,hw2,-Int.natCast_add];exact hnew _ _ (Less.auto (by simp[-Int.natCast_add]) (by simp) (by first|rfl|simp) (by first|rfl|simp))
      | false =>
        have hnew:=hnew (o++[⟨xi,xt⟩]) (by rw[hnx false hq,if_neg (by decide)]);simp only[hq]at hF;rcases o with _|⟨y,o⟩
        . simp [Db,hE,hi,hi',hx,hH,qp,hF,hw2,-Int.natCast_add];exact hnew _ _ (Less.auto (by simp[-Int.natCast_add]) (by simp) (by first|rfl|simp) (by first|rfl|simp))
        . have zuU:(o.length+1+1)*72<=1048576:=Nat.le_trans (Nat.mul_le_mul_right 72 (show o.length+1+1<=8002 by simp only[List.length_cons]at hol;omega)) (by decide);simp [Db,hE,hi,hi',hx,hH,qp,hF,zuU,Nat.not_succ_le_self,hw2,-Int.natCast_add];exact hnew _ _ (Less.auto (by simp[-Int.natCast_add]) (by simp) (by first|rfl|simp) (by first|rfl|simp))
   clear ho hlo hR;rcases out with _|⟨x,out⟩
   . simp [Hy,hE];refine bq.mk (Less.auto (TL:=[(0,.sl (a.map bF) false),(1,.sl (b.map bF) false),(5,.snil)]) (HL:=[]) (n:=1) (by simp) (by simp) (by first|rfl|simp) (by first|rfl|simp)) ?_;simp;refine h2 _ _ _ (Less.auto (by simp) (by simp) (by first|rfl|simp) (by first|rfl|simp)) ?_;clear h2;rcases R with _|⟨r,R⟩<;>simp [hE]
   . simp [Hy,hE];refine bq.mk (Less.auto (TL:=[(0,.sl (a.map bF) false),(1,.sl (b.map bF) false),(5,oV 0 ((x::out).map bF))]) (HL:=oH 0 6 ((x::out).map bF)) (n:=1) (by simp) (by simp) (by first|rfl|simp) (by first|rfl|simp)) ?_;simp;refine h2 _ _ _ (Less.auto (by simp) (by simp) (by first|rfl|simp) (by first|rfl|simp)) ?_;clear h2;rcases R with _|⟨r,R⟩<;>simp [hE]
 . intro i out hi ho K hK;have hi':(i:Int)<a.length:=by omega
   have hw2:IntKind.i64.wrap ((i:Int)+1)=((i+1:Nat):Int):=bu (by omega);have zoH:(i*6) / 6=i:=by omega
   have zoG:(i*6) % 6=0:=by omega
   have zH5:(i*6+1) / 6=i:=by omega
   have zH4:(i*6+1) % 6=1:=by omega
   have hol:out.length=i:=by rw[ho,List.length_map,List.length_take];omega
   have hxo:=ha _ (List.getElem_mem hi);have hF:MN b a[i].type=some (a[i].type.dZ b):=if_pos ⟨hxo,hbl⟩;have hnew:=hK (out++[⟨a[i].id,a[i].type.dZ b⟩]) (by rw[List.take_add_one,List.getElem?_eq_getElem hi,Option.toList_some,List.map_append,<- ho];rfl);clear hK ho;obtain⟨x,hx⟩:∃ x,a[i]=x:=⟨_,rfl⟩;rw[hx]at hF hnew;obtain⟨xi,xt⟩:=x;simp only at hF hnew;generalize xt.dZ b=r at hF hnew;obtain⟨xk,xn,xj,xh,xl⟩:=xt;obtain⟨rk,rn,ri,rh,rl⟩:=r;rcases out with _|⟨y,out⟩
   . simp [Hy,hE,hi,hi',hx,hA,hF,hw2,-Int.natCast_add];exact hnew _ _ (Less.auto (by simp[-Int.natCast_add]) (by simp) (by first|rfl|simp) (by first|rfl|simp))
   . have zuU:(out.length+1+1)*72<=1048576:=Nat.le_trans (Nat.mul_le_mul_right 72 (show out.length+1+1<=8002 by simp only[List.length_cons]at hol;omega)) (by decide);simp [Hy,hE,hi,hi',hx,hA,hF,zuU,Nat.not_succ_le_self,hw2,-Int.natCast_add];exact hnew _ _ (Less.auto (by simp[-Int.natCast_add]) (by simp) (by first|rfl|simp) (by first|rfl|simp))
theorem CS(hO:E.dS 96=bZ (bz zob))(hC:E.dS 97=bZ (bz zIP)){x:Int}{t:Ty}{s:List Assign}(ht:t.ok=true)(hl:(aP 1 [t] []).length<=10000)(hs1:Zx s)(hs2:s.length+1<=8000)(hs:HS) :
 aA ρ Tryz.prog 72 [enc x,enc t,enc s] hs (enc (if x∈ji [t]then ([],12)else (zkN s [⟨x,t⟩],0):List Assign×Int)) hs:=by
 refine fn hρ hE hcon Tryz.func72 zEk rfl (by simp) ?_ hs;have hF1:zob x t=some (decide (x∈ji [t])):=if_pos ⟨ht,hl⟩;have hF2:zIP s [⟨x,t⟩]=some (zkN s [⟨x,t⟩]):=if_pos ⟨hs1,by simpa using hs2⟩;generalize zkN s [⟨x,t⟩]=R at hF2;by_cases hx:x∈ji [t]
 . rw[decide_eq_true hx]at hF1;rw[if_pos hx];obtain⟨tk,tn,ti,th,ta⟩:=t;simp [hE,hO,hF1]
 . rw[decide_eq_false hx]at hF1;rw[if_neg hx];obtain⟨tk,tn,ti,th,ta⟩:=t;simp [hE,hO,hF1,hC,hF2]
end
end
end Go.Proofs.YtocdkgjpdnamlaaGreat
