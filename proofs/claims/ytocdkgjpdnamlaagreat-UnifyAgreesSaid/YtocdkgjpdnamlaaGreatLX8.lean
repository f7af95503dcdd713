import Derived.Test.YtocdkgjpdnamlaaGreatLX7
import Derived.Test.YtocdkgjpdnamlaaGreatJUv
import Derived.Test.YtocdkgjpdnamlaaGreatJPy
set_option linter.all false
noncomputable section
/- The program's unification: the search for Od constants of later homes. -/
namespace Go.Proofs.YtocdkgjpdnamlaaGreat
open Go.J
open Go.J.Enc (enc)
set_option maxRecDepth 100000
set_option maxHeartbeats 4000000
def CE(sl:List Slot):Prop:=∀ x∈sl,x.type.ok=true
open Classical in
def JF(d:Nat)(sl:List Slot)(h:Int)(sn:List Int)(t:Ty):Option (Bool×List Int):=if CE sl/\t.ok=true then Store.hiM ⟨sl,[]⟩ h d t sn else none
theorem Ux{d:Nat}{sl:List Slot}{h:Int}{sn:List Int}{t:Ty}{r:Bool×List Int}(hh:JF d sl h sn t=some r):CE sl/\t.ok=true/\Store.hiM ⟨sl,[]⟩ h d t sn=some r:=by
 unfold JF at hh;split at hh
 . rename_i h1;exact⟨h1.1,h1.2,hh⟩
 . cases hh
theorem Hq{d:Nat}{sl:List Slot}{h:Int}{sn:List Int}{t:Ty}{r:Bool×List Int}(h1:CE sl)(h2:t.ok=true)(hh:Store.hiM ⟨sl,[]⟩ h d t sn=some r):JF d sl h sn t=some r:=by
 unfold JF;rw[if_pos ⟨h1,h2⟩,hh]
def zu9(d:Nat)(sl:List Slot)(h:Int)(sn:List Int)(x:V):Option (V×List Int):=ob (Enc.dec x:Option Ty) fun t=>ob (JF d sl h sn t) fun r=>some (.bool r.1,r.2)
def Uu (rec:Ty->List Int->Option (Bool×List Int)):List Ty->Int->List Int->Option (Int×List Int)
 | [],_,sn=>some (-1,sn)
 | t::l,i,sn=>match rec t sn with
   |none=>none
   |some (true,nZ)=>some (i,nZ)
   |some (false,nZ)=>Uu rec l (i+1) nZ
theorem zov{rec:Ty->List Int->Option (Bool×List Int)}:∀ (l:List Ty) (i:Int) (sn:List Int) (b:Bool) (nZ:List Int),0<=i->Store.Qu rec l sn=some (b,nZ)->∃ z,Uu rec l i sn=some (z,nZ)/\decide (0<=z)=b:=by
 intro l
 induction l with
 |nil=>intro i sn b nZ h hh;cases hh;exact⟨-1,rfl,by decide⟩
 | cons t l ih =>
   intro i sn b nZ h hh;rw[Store.Qu]at hh;rw[Uu]
   cases hp:rec t sn with
   |none=>rw[hp]at hh;cases hh
   | some w =>
     rw[hp]at hh;obtain⟨c,znB⟩:=w
     cases c with
     |true=>cases hh;exact⟨i,rfl,by simpa using h⟩
     |false=>exact ih (i+1) znB b nZ (by omega) hh
open Classical in
def RP(d:Nat)(sl:List Slot)(h:Int)(sn:List Int)(x:V):Option (V×List Int):=ob (Enc.dec x:Option (List Ty)) fun l=>if CE sl/\Ty.oks l=true/\l.length<=10000 then ob (Uu (Store.hiM ⟨sl,[]⟩ h d) l 0 sn) fun r=>some (.int .i64 r.1,r.2)else none
open Classical in
def O4(d:Nat)(sl:List Slot)(h:Int)(sn:List Int)(x:V):Option (V×List Int):=ob (Enc.dec x:Option (List Ty)) fun l=>if CE sl/\Ty.oks l=true/\l.length<=10000 then ob (Store.Qu (Store.hiM ⟨sl,[]⟩ h d) l sn) fun r=>some (.bool r.1,r.2)else none
theorem zoL{d:Nat}{sl:List Slot}{h:Int}{sn:List Int}{x:V}{q:V×List Int}(hh:zu9 d sl h sn x=some q):∃ (t:Ty) (r:Bool×List Int),x=enc t/\JF d sl h sn t=some r/\q=(.bool r.1,r.2):=by
 unfold zu9 at hh;simp only[af]at hh;obtain⟨t,ht,r,hr,hh⟩:=hh;cases hh;exact⟨t,r,by rw[Enc.aU _ _ ht],hr,rfl⟩
theorem zdh{d:Nat}{sl:List Slot}{h:Int}{sn:List Int}{x:V}{q:V×List Int}(hh:RP d sl h sn x=some q):∃ (l:List Ty) (r:Int×List Int),x=enc l/\CE sl/\Ty.oks l=true/\l.length<=10000/\Uu (Store.hiM ⟨sl,[]⟩ h d) l 0 sn=some r/\q=(.int .i64 r.1,r.2):=by
 unfold RP at hh;simp only[af]at hh;obtain⟨t,ht,hh⟩:=hh;split at hh
 . rename_i h1;simp only[af]at hh;obtain⟨r,hr,hh⟩:=hh;cases hh;exact⟨t,r,by rw[Enc.aU _ _ ht],h1.1,h1.2.1,h1.2.2,hr,rfl⟩
 . cases hh
theorem zdi{d:Nat}{sl:List Slot}{h:Int}{sn:List Int}{x:V}{q:V×List Int}(hh:O4 d sl h sn x=some q):∃ (l:List Ty) (r:Bool×List Int),x=enc l/\CE sl/\Ty.oks l=true/\l.length<=10000/\Store.Qu (Store.hiM ⟨sl,[]⟩ h d) l sn=some r/\q=(.bool r.1,r.2):=by
 unfold O4 at hh;simp only[af]at hh;obtain⟨t,ht,hh⟩:=hh;split at hh
 . rename_i h1;simp only[af]at hh;obtain⟨r,hr,hh⟩:=hh;cases hh;exact⟨t,r,by rw[Enc.aU _ _ ht],h1.1,h1.2.1,h1.2.2,hr,rfl⟩
 . cases hh
theorem zde{d:Nat}{sl:List Slot}{h:Int}{sn:List Int}{t:Ty}{r:Bool×List Int}(hr:JF d sl h sn t=some r):zu9 d sl h sn (enc t)=some (.bool r.1,r.2):=by
 unfold zu9;rw[Enc.bV];show ob (JF d sl h sn t) _=_;rw[hr];rfl
open Classical in
theorem zoM{d:Nat}{sl:List Slot}{h:Int}{sn:List Int}{l:List Ty}{r:Int×List Int}(h1:CE sl)(h2:Ty.oks l=true)(h3:l.length<=10000)(hr:Uu (Store.hiM ⟨sl,[]⟩ h d) l 0 sn=some r):RP d sl h sn (enc l)=some (.int .i64 r.1,r.2):=by
 unfold RP;rw[Enc.bV];show (if CE sl/\Ty.oks l=true/\l.length<=10000 then ob (Uu (Store.hiM ⟨sl,[]⟩ h d) l 0 sn) _ else none)=_;rw[if_pos ⟨h1,h2,h3⟩,hr];rfl
open Classical in
theorem Uy{d:Nat}{sl:List Slot}{h:Int}{sn:List Int}{l:List Ty}{r:Bool×List Int}(h1:CE sl)(h2:Ty.oks l=true)(h3:l.length<=10000)(hr:Store.Qu (Store.hiM ⟨sl,[]⟩ h d) l sn=some r):O4 d sl h sn (enc l)=some (.bool r.1,r.2):=by
 unfold O4;rw[Enc.bV];show (if CE sl/\Ty.oks l=true/\l.length<=10000 then ob (Store.Qu (Store.hiM ⟨sl,[]⟩ h d) l sn) _ else none)=_;rw[if_pos ⟨h1,h2,h3⟩,hr];rfl
section
variable {ρ:Nat->Value}(hρ:J.Good ρ)
include hρ
section
variable {E:Env}(hE:E.P=Tryz.prog)(hcon:aZ ρ E)
include hE hcon
theorem Jf{d:Nat}(hc:E.dS 103=dN (Tk (JF d))){sl:List Slot}{tr:List Change}{g:Option Nat}{sn nZ:List Int}{h:Int}{t:Ty}{b:Bool}(hF:JF d sl h sn t=some (b,nZ)) :
 Wp ρ E (uK g 7) 11 zks ((((PT.leaf.set 0 (enc t)).set 1 (.ptr 4 0 0)).set 2 (.ptr 5 0 0)).set 3 (.ptr 6 0 0)) { H:=di (fq sl tr g sn h),n:=uK g 7,log:=[] } (J.Leaves E.P Tryz.f128 (aj (uK g 7) (.bool b) (fq sl tr g nZ h))):=by
 obtain⟨tk,tn,ti,th,ta⟩:=t
 cases g with
 | none =>
   simp [hE,fq,hc,hF,ae];exact aj.bO rfl rfl rfl (by simp)
 | some g =>
   simp [hE,fq,hc,hF,ae];exact aj.bO rfl rfl rfl (by simp)
theorem Je {d:Nat} (hc:E.dS 128=dN (YV none (zu9 d))) {sl:List Slot} {tr:List Change} {g:Option Nat} {sn nZ:List Int} {h:Int} {l:List Ty} {z:Int} (hso:CE sl) (hlo:Ty.oks l=true) (hll:l.length<=10000) (hr:Uu (Store.hiM ⟨sl,[]⟩ h d) l 0 sn=some (z,nZ)) :
 Wp ρ E (uK g 7) 19 zkm ((PT.leaf.set 0 (enc l)).set 1 (.func 128 [.ptr 4 0 0,.ptr 5 0 0,.ptr 6 0 0])) { H:=di (fq sl tr g sn h),n:=uK g 7,log:=[] } (J.Leaves E.P Tryz.f140 (aj (uK g 7) (.int .i64 z) (fq sl tr g nZ h))):=by
 cases g with
 | none =>
   simp [hE,fq]
   refine DV hρ hE hcon l.length (nn:=7) (fun i (_:List Int)=>[(0,.sl (l.map ax) false),(1,.func 128 [.ptr 4 0 0,.ptr 5 0 0,.ptr 6 0 0]),(7,.int .i64 (l.length:Int)),(8,.int .i64 (i:Int))])
    (fun i sn=>fq sl tr none sn h) (fun i sn=>Uu (Store.hiM ⟨sl,[]⟩ h d) (l.drop i) (i:Int) sn=some (z,nZ)) sn
    (Less.auto (by simp[fq]) (by simp[fq]) (by simp[fq]) (by simp[fq]<;>(intro x hx;first|omega|exact⟨.inl hx,by omega⟩))) (by simpa using hr) ?_ ?_
   . intro sn hh K;rw[List.drop_length,Uu]at hh;cases hh;simp [vW,hE,fq];refine bq.mk (Less.auto (TL:=[]) (HL:=fq sl tr none nZ h) (n:=7) (by simp[fq]) (by simp[fq]) (by simp[fq]) (by simp[fq]<;>(intro x hx;first|omega|exact⟨.inl hx,by omega⟩))) ?_;simp [fq];exact aj.bO rfl rfl rfl (by simp)
   . intro i sn hi hh K hK;have hi':(i:Int)<l.length:=by omega
     have hw2:IntKind.i64.wrap ((i:Int)+1)=((i+1:Nat):Int):=bu (by omega);have zoH:(i*5) / 5=i:=by omega
     have zoG:(i*5) % 5=0:=by omega
     have hxo:=Ty.gT.1 hlo _ (List.getElem_mem hi);rw[List.drop_eq_getElem_cons hi,Uu]at hh;obtain⟨x,hx⟩:∃ x,l[i]=x:=⟨_,rfl⟩;rw[hx]at hh hxo
     cases hq:Store.hiM ⟨sl,[]⟩ h d x sn with
     |none=>rw[hq]at hh;cases hh
     | some w =>
       rw[hq]at hh;obtain⟨c,znB⟩:=w;have hF:=zde (Hq hso hxo hq);obtain⟨xk,xn,xi,xh,xa⟩:=x;simp at hF
       cases c with
       | true =>
         cases hh;simp [vW,hE,fq,hi,hi',hx,hc,hF,ae];refine bq.mk (Less.auto (TL:=[(4,.int .i64 (i:Int))]) (HL:=fq sl tr none nZ h) (n:=7) (by simp[fq]) (by simp[fq]) (by simp[fq]) (by simp[fq]<;>(intro x hx;first|omega|exact⟨.inl hx,by omega⟩))) ?_;simp [fq];exact aj.bO rfl rfl rfl (by simp)
       | false =>
         have hnew:=hK znB hh;simp [vW,hE,fq,hi,hi',hx,hc,hF,hw2,ae,-Int.natCast_add];exact hnew _ _ (Less.auto (by simp[fq,-Int.natCast_add]) (by simp[fq]) (by simp[fq]) (by simp[fq]<;>(intro x hx;first|omega|exact⟨.inl hx,by omega⟩)))
 | some g =>
   simp [hE,fq]
   refine DV hρ hE hcon l.length (nn:=8) (fun i (_:List Int)=>[(0,.sl (l.map ax) false),(1,.func 128 [.ptr 4 0 0,.ptr 5 0 0,.ptr 6 0 0]),(7,.int .i64 (l.length:Int)),(8,.int .i64 (i:Int))])
    (fun i sn=>fq sl tr (some g) sn h) (fun i sn=>Uu (Store.hiM ⟨sl,[]⟩ h d) (l.drop i) (i:Int) sn=some (z,nZ)) sn
    (Less.auto (by simp[fq]) (by simp[fq]) (by simp[fq]) (by simp[fq]<;>(intro x hx;first|omega|exact⟨.inl hx,by omega⟩))) (by simpa using hr) ?_ ?_
   . intro sn hh K;rw[List.drop_length,Uu]at hh;cases hh;simp [vW,hE,fq];refine bq.mk (Less.auto (TL:=[]) (HL:=fq sl tr (some g) nZ h) (n:=8) (by simp[fq]) (by simp[fq]) (by simp[fq]) (by simp[fq]<;>(intro x hx;first|omega|exact⟨.inl hx,by omega⟩))) ?_;simp [fq];exact aj.bO rfl rfl rfl (by simp)
   . intro i sn hi hh K hK;have hi':(i:Int)<l.length:=by omega
     have hw2:IntKind.i64.wrap ((i:Int)+1)=((i+1:Nat):Int):=bu (by omega);have zoH:(i*5) / 5=i:=by omega
     have zoG:(i*5) % 5=0:=by omega
     have hxo:=Ty.gT.1 hlo _ (List.getElem_mem hi);rw[List.drop_eq_getElem_cons hi,Uu]at hh;obtain⟨x,hx⟩:∃ x,l[i]=x:=⟨_,rfl⟩;rw[hx]at hh hxo
     cases hq:Store.hiM ⟨sl,[]⟩ h d x sn with
     |none=>rw[hq]at hh;cases hh
     | some w =>
       rw[hq]at hh;obtain⟨c,znB⟩:=w;have hF:=zde (Hq hso hxo hq);obtain⟨xk,xn,xi,xh,xa⟩:=x;simp at hF
       cases c with
       | true =>
         cases hh;simp [vW,hE,fq,hi,hi',hx,hc,hF,ae];refine bq.mk (Less.auto (TL:=[(4,.int .i64 (i:Int))]) (HL:=fq sl tr (some g) nZ h) (n:=8) (by simp[fq]) (by simp[fq]) (by simp[fq]) (by simp[fq]<;>(intro x hx;first|omega|exact⟨.inl hx,by omega⟩))) ?_;simp [fq];exact aj.bO rfl rfl rfl (by simp)
       | false =>
         have hnew:=hK znB hh;simp [vW,hE,fq,hi,hi',hx,hc,hF,hw2,ae,-Int.natCast_add];exact hnew _ _ (Less.auto (by simp[fq,-Int.natCast_add]) (by simp[fq]) (by simp[fq]) (by simp[fq]<;>(intro x hx;first|omega|exact⟨.inl hx,by omega⟩)))
theorem Cu{d:Nat}(hc:E.dS 140=dN (YV (some 128) (RP d))){sl:List Slot}{tr:List Change}{g:Option Nat}{sn nZ:List Int}{h:Int}{l:List Ty}{b:Bool}(hso:CE sl)(hlo:Ty.oks l=true)(hll:l.length<=10000)(hr:Store.Qu (Store.hiM ⟨sl,[]⟩ h d) l sn=some (b,nZ)) :
 Wp ρ E (uK g 7) 9 zkt ((PT.leaf.set 0 (enc l)).set 1 (.func 128 [.ptr 4 0 0,.ptr 5 0 0,.ptr 6 0 0])) { H:=di (fq sl tr g sn h),n:=uK g 7,log:=[] } (J.Leaves E.P Tryz.f127 (aj (uK g 7) (.bool b) (fq sl tr g nZ h))):=by
 obtain⟨z,hz,rfl⟩:=zov l 0 sn b nZ (Int.le_refl _) hr;have hF:=zoM hso hlo hll hz;simp at hF
 cases g with
 | none =>
   simp [hE,fq,hc,hF,ae];exact aj.bO rfl rfl rfl (by simp)
 | some g =>
   simp [hE,fq,hc,hF,ae];exact aj.bO rfl rfl rfl (by simp)
theorem KT {d:Nat} (hc:E.dS 103=dN (Tk (JF d))) (hC:E.dS 127=dN (YV (some 128) (O4 d))) {sl:List Slot} {tr:List Change} {g:Option Nat} {sn nZ:List Int} {h:Int} {t:Ty} {b:Bool} (zRL:JF (d+1) sl h sn t=some (b,nZ)) :
 Wp ρ E (uK g 4) 78 zkB ((((PT.leaf.set 0 (.ptr 0 0 0)).set 1 (enc t)).set 2 (.int .i64 h)).set 3 (.map 3)) { H:=di (qN sl tr g sn),n:=uK g 4,log:=[] } (J.Leaves E.P Tryz.f103 (aj (uK g 4) (.bool b) (qN sl tr g nZ))):=by
 obtain⟨hso,hto,hh⟩:=Ux zRL;have hz:Na I4=some (V.bool false):=by rfl
 rw[Store.hiM]at hh;obtain⟨tk,tn,ti,th,ta⟩:=t;simp only[Ty.dx,Ty.gz,Ty.tH,Ty.cZ]at hh
 cases g with
 | none =>
   by_cases hk:tk=1
   . subst hk;rw[if_pos rfl]at hh;by_cases hm:ti∈sn
     . rw[if_pos hm]at hh;cases hh;simp [hE,qN,hm,eH,fF,jk,hz];exact aj.bO rfl rfl rfl (by simp)
     rw[if_neg hm]at hh
     cases e:Store.slot? ⟨sl,[]⟩ ti with
     | none =>
       rw[e]at hh;cases hh;have:=Store.slot?_none e;by_cases h0:ti<0
       . simp [hE,qN,hm,eH,fF,jk,cK,hz,h0];exact aj.bO rfl rfl rfl (by simp)
       . have h2:(sl.length:Int)<=ti:=by
          rcases this with h|h
          . exact absurd h h0
          . have:((⟨sl,[]⟩:Store).slots.length:Int)<=ti:=by omega
            simpa using this
         have h1:¬ ti<(sl.length:Int):=by omega
         simp [hE,qN,hm,eH,fF,jk,cK,hz,h0,h2];exact aj.bO rfl rfl rfl (by simp)
     | some x =>
       rw[e]at hh;simp only at hh;obtain⟨i,hl,hi,hx⟩:=Store.slot?_at e;have hil:i<sl.length:=hl;have hix:sl[i]=x:=hx;have gB:(i:Int)<sl.length:=by omega
       have hd1:i*8 / 8=i:=by omega
       have hd2:i*8 % 8=0:=by omega
       have hd3:(i*8+1) / 8=i:=by omega
       have hd4:(i*8+1) % 8=1:=by omega
       have h00:¬ (i:Int)<0:=by omega
       have h01:¬ sl.length<=i:=by omega
       have hxo:x.type.ok=true:=hso x (hix ▸ List.getElem_mem hil);clear e hx;subst hi;obtain⟨xb,xt,xm,xg⟩:=x
       cases xb with
       | true =>
         rw[if_pos rfl]at hh;have hF:=Hq hso hxo hh;obtain⟨xk,xn,xi,xh,xl⟩:=xt;simp only at hF;simp [hE,qN,hm,eH,fF,jk,cK,hz,h00,h01,hil,hix,hd1,hd2,hd3,hd4,hc,hF,ae];exact aj.bO rfl rfl rfl (by simp)
       | false =>
         rw[if_neg (by simp)]at hh;cases hh;obtain⟨xk,xn,xi,xh,xl⟩:=xt;simp [hE,qN,hm,eH,fF,jk,cK,hz,h00,h01,hil,hix,hd1,hd2];exact aj.bO rfl rfl rfl (by simp)
   rw[if_neg hk]at hh;by_cases h3:tk=3
   . rw[if_pos h3]at hh;cases hh;simp [hE,qN,h3];exact aj.bO rfl rfl rfl (by simp)
   rw[if_neg h3]at hh;have hF:=Uy hso (Ty.gT.2 fun u hu=>Ty.mH hto hu) (Ty.lH hto) hh;simp at hF;simp [hE,qN,hk,h3,hC,hF,ae];exact aj.bO rfl rfl rfl (by simp)
 | some g =>
   by_cases hk:tk=1
   . subst hk;rw[if_pos rfl]at hh;by_cases hm:ti∈sn
     . rw[if_pos hm]at hh;cases hh;simp [hE,qN,hm,eH,fF,jk,hz];exact aj.bO rfl rfl rfl (by simp)
     rw[if_neg hm]at hh
     cases e:Store.slot? ⟨sl,[]⟩ ti with
     | none =>
       rw[e]at hh;cases hh;have:=Store.slot?_none e;by_cases h0:ti<0
       . simp [hE,qN,hm,eH,fF,jk,cK,hz,h0];exact aj.bO rfl rfl rfl (by simp)
       . have h2:(sl.length:Int)<=ti:=by
          rcases this with h|h
          . exact absurd h h0
          . have:((⟨sl,[]⟩:Store).slots.length:Int)<=ti:=by omega
            simpa using this
         have h1:¬ ti<(sl.length:Int):=by omega
         simp [hE,qN,hm,eH,fF,jk,cK,hz,h0,h2];exact aj.bO rfl rfl rfl (by simp)
     | some x =>
       rw[e]at hh;simp only at hh;obtain⟨i,hl,hi,hx⟩:=Store.slot?_at e;have hil:i<sl.length:=hl;have hix:sl[i]=x:=hx;have gB:(i:Int)<sl.length:=by omega
       have hd1:i*8 / 8=i:=by omega
       have hd2:i*8 % 8=0:=by omega
       have hd3:(i*8+1) / 8=i:=by omega
       have hd4:(i*8+1) % 8=1:=by omega
       have h00:¬ (i:Int)<0:=by omega
       have h01:¬ sl.length<=i:=by omega
       have hxo:x.type.ok=true:=hso x (hix ▸ List.getElem_mem hil);clear e hx;subst hi;obtain⟨xb,xt,xm,xg⟩:=x
       cases xb with
       | true =>
         rw[if_pos rfl]at hh;have hF:=Hq hso hxo hh;obtain⟨xk,xn,xi,xh,xl⟩:=xt;simp only at hF;simp [hE,qN,hm,eH,fF,jk,cK,hz,h00,h01,hil,hix,hd1,hd2,hd3,hd4,hc,hF,ae];exact aj.bO rfl rfl rfl (by simp)
       | false =>
         rw[if_neg (by simp)]at hh;cases hh;obtain⟨xk,xn,xi,xh,xl⟩:=xt;simp [hE,qN,hm,eH,fF,jk,cK,hz,h00,h01,hil,hix,hd1,hd2];exact aj.bO rfl rfl rfl (by simp)
   rw[if_neg hk]at hh;by_cases h3:tk=3
   . rw[if_pos h3]at hh;cases hh;simp [hE,qN,h3];exact aj.bO rfl rfl rfl (by simp)
   rw[if_neg h3]at hh;have hF:=Uy hso (Ty.gT.2 fun u hu=>Ty.mH hto hu) (Ty.lH hto) hh;simp at hF;simp [hE,qN,hk,h3,hC,hF,ae];exact aj.bO rfl rfl rfl (by simp)
end
theorem zsW(d:Nat):Valid ρ Tryz.prog 103 (dN (Tk (JF d)))/\Valid ρ Tryz.prog 127 (dN (YV (some 128) (O4 d))):=by
 have key:∀ d,Valid ρ Tryz.prog 103 (dN (Tk (JF d)))->Valid ρ Tryz.prog 127 (dN (YV (some 128) (O4 d))):=by
  intro d ih
  have h1:Valid ρ Tryz.prog 128 (dN (YV none (zu9 d))):=by
   refine Valid.PI (fo Tryz.func128 zrK) fun vs hs D h=>?_
   obtain⟨x,hm,sl,tr,g,sn,r,a,b,c,m,p,q,w,e,hF,rfl,_,_,hg,hfit⟩:=KW h;obtain⟨t,r,rfl,hr,rfl⟩:=zoL hF;obtain⟨b1,znB⟩:=r;have hcn:aZ ρ (EL [(103,dN (Tk (JF d)))]):=au (ag ih az);exact em hρ rfl hcn Tryz.func128 zrK rfl hg (Jf hρ rfl hcn rfl hr) hfit
  have h2:Valid ρ Tryz.prog 140 (dN (YV (some 128) (RP d))):=by
   refine Valid.PI (fo Tryz.func140 zrJ) fun vs hs D h=>?_
   obtain⟨x,hm,sl,tr,g,sn,r,a,b,c,m,p,q,w,e,hF,rfl,_,_,hg,hfit⟩:=KW h;obtain⟨t,r,rfl,g1,g2,g3,hr,rfl⟩:=zdh hF;obtain⟨b1,znB⟩:=r;have hcn:aZ ρ (EL [(128,dN (YV none (zu9 d)))]):=au (ag h1 az);exact em hρ rfl hcn Tryz.func140 zrJ rfl hg (Je hρ rfl hcn rfl g1 g2 g3 hr) hfit
  refine Valid.PI (fo Tryz.func127 zrL) fun vs hs D h=>?_
  obtain⟨x,hm,sl,tr,g,sn,r,a,b,c,m,p,q,w,e,hF,rfl,_,_,hg,hfit⟩:=KW h;obtain⟨t,r,rfl,g1,g2,g3,hr,rfl⟩:=zdi hF;obtain⟨b1,znB⟩:=r;have hcn:aZ ρ (EL [(140,dN (YV (some 128) (RP d)))]):=au (ag h2 az);exact em hρ rfl hcn Tryz.func127 zrL rfl hg (Cu hρ rfl hcn rfl g1 g2 g3 hr) hfit
 have base:Valid ρ Tryz.prog 103 (dN (Tk (JF 0))):=by
  refine Valid.PI (fo Tryz.func103 zkE) fun vs hs D h=>?_
  obtain⟨ty,hm,sl,tr,g,sn,r,a,b,c,m,e,hF,rfl,hg,hfit⟩:=Tj h;have:=(Ux hF).2.2;cases this
 induction d with
 |zero=>exact⟨base,key 0 base⟩
 | succ d ih =>
   have h3:Valid ρ Tryz.prog 103 (dN (Tk (JF (d+1)))):=by
    refine Valid.PI (fo Tryz.func103 zkE) fun vs hs D h=>?_
    obtain⟨ty,hm,sl,tr,g,sn,r,a,b,c,m,e,hF,rfl,hg,hfit⟩:=Tj h;obtain⟨b1,znB⟩:=r;have hcn:aZ ρ (EL [(103,dN (Tk (JF d))),(127,dN (YV (some 128) (O4 d)))]):=au (ag ih.1 (ag ih.2 az));exact em hρ rfl hcn Tryz.func103 zkE rfl hg (KT hρ rfl hcn rfl rfl hF) hfit
   exact⟨h3,key _ h3⟩
end
end Go.Proofs.YtocdkgjpdnamlaaGreat
/- The program's unification: ML a variable. -/
namespace Go.Proofs.YtocdkgjpdnamlaaGreat
open Go.J
open Go.J.Enc (enc)
set_option maxRecDepth 100000
set_option maxHeartbeats 2000000
theorem qw{g:Option Nat}{m n:Nat}:gN (gN g m) n=gN g (m+n):=by
 cases g with
 | none =>
   cases m with
   |zero=>simp
   | succ m =>
     rw[UD,zdt,show m+1+n=(m+n)+1 by omega,UD]
 |some g=>simp;omega
open Classical in
def Er(d:Nat)(sl:List Slot)(tr:List Change)(args:List V):Option (V×List Slot×List Change):=match args with
 | [vv,tv]=>ob (Enc.dec vv:Option Ty) fun v=>ob (Enc.dec tv:Option Ty) fun t=>if 0<=v.id/\v.id<sl.length/\(⟨sl,tr⟩:Store).dF/\t.ok=true/\iO ⟨sl,tr⟩ [t]/\(Store.hiM ⟨sl,[]⟩ (Store.aJ ⟨sl,tr⟩ v.id).home d t []).isSome=true/\tr.length+(dz ⟨sl,tr⟩ [t]).length<=4990/\sl.length<=1000 then some (.int .i64 (Store.jG ⟨sl,tr⟩ v.id t).2,(Store.jG ⟨sl,tr⟩ v.id t).1.slots,(Store.jG ⟨sl,tr⟩ v.id t).1.trail.drop tr.length)else none
 |_=>none
theorem zan{d:Nat}{sl:List Slot}{tr:List Change}{args:List V}{q:V×List Slot×List Change}(h:Er d sl tr args=some q):∃ (v t:Ty) (i:Nat),args=[enc v,enc t]/\v.id=(i:Int)/\i<sl.length/\(⟨sl,tr⟩:Store).dF/\t.ok=true/\iO ⟨sl,tr⟩ [t]/\(Store.hiM ⟨sl,[]⟩ (Store.aJ ⟨sl,tr⟩ (i:Int)).home d t []).isSome=true/\tr.length+(dz ⟨sl,tr⟩ [t]).length<=4990/\sl.length<=1000 /\
 q=(.int .i64 (Store.jG ⟨sl,tr⟩ (i:Int) t).2,(Store.jG ⟨sl,tr⟩ (i:Int) t).1.slots,(Store.jG ⟨sl,tr⟩ (i:Int) t).1.trail.drop tr.length):=by
 unfold Er at h;split at h
 . simp only[af]at h;obtain⟨v,hv,t,ht,h⟩:=h;split at h
   . rename_i hh;obtain⟨h0,h1,h2,h3,h4,h5,h6,h7⟩:=hh;obtain⟨i,hi⟩:=Int.eq_ofNat_of_zero_le h0;cases h;rw[hi]at h5 h1;exact⟨v,t,i,by rw[Enc.aU _ _ hv,Enc.aU _ _ ht],hi,by omega,h2,h3,h4,h5,h6,h7,by rw[hi]⟩
   . cases h
 . cases h
open Classical in
theorem BZ{d:Nat}{sl:List Slot}{tr:List Change}{v t:Ty}{i:Nat}(hi:v.id=(i:Int))(hl:i<sl.length)(h2:(⟨sl,tr⟩:Store).dF)(h3:t.ok=true)(h4:iO ⟨sl,tr⟩ [t])(h5:(Store.hiM ⟨sl,[]⟩ (Store.aJ ⟨sl,tr⟩ (i:Int)).home d t []).isSome=true)(h6:tr.length+(dz ⟨sl,tr⟩ [t]).length<=4990)(h7:sl.length<=1000) :
 Er d sl tr [enc v,enc t]=some (.int .i64 (Store.jG ⟨sl,tr⟩ (i:Int) t).2,(Store.jG ⟨sl,tr⟩ (i:Int) t).1.slots,(Store.jG ⟨sl,tr⟩ (i:Int) t).1.trail.drop tr.length):=by
 show ob (Enc.dec (enc v):Option Ty) (fun v=>ob (Enc.dec (enc t):Option Ty) _)=_;rw[Enc.bV,Enc.bV];show (if 0<=v.id/\v.id<sl.length/\(⟨sl,tr⟩:Store).dF/\t.ok=true/\iO ⟨sl,tr⟩ [t]/\(Store.hiM ⟨sl,[]⟩ (Store.aJ ⟨sl,tr⟩ v.id).home d t []).isSome=true/\tr.length+(dz ⟨sl,tr⟩ [t]).length<=4990/\sl.length<=1000 then _ else none)=_;rw[hi,if_pos ⟨by omega,by omega,h2,h3,h4,h5,h6,h7⟩]
section
variable {ρ:Nat->Value}(hρ:J.Good ρ)
include hρ
section
variable {E:Env}(hE:E.P=Tryz.prog)(hcon:aZ ρ E)
include hE hcon
theorem AV{t:Ty}(hs:HS):aA ρ Tryz.prog 101 [enc t] hs (enc (isArrow t)) hs:=by
 refine fn hρ hE hcon Tryz.func101 zrR rfl (by simp) ?_ hs;obtain⟨k,n,i,h,l⟩:=t
 rcases l with _|⟨a,_|⟨b,_|⟨c,l⟩⟩⟩<;>simp [hE] <;>
 repeat' (refine qD (fun h=>?_) (fun h=>?_)<;>simp [h,hE])
 all_goals first|omega|simp_all [isArrow,Nv]
theorem lX (hV:E.dS 104=bZ (fO fun i:Int=>some (aM i))) (nT:E.dS 73=Oj (sO wz)) (M7:E.dS 98=dN (sO CF)) {sl:List Slot} {tr:List Change} {g:Option Nat} {i:Nat} (hil:i<sl.length) {vs:List Int} (hlen:tr.length+vs.length<=4990) (hsl:sl.length<=1000)
 {vk vh tk ti th xk xi xh xm:Int} {vn tn xn:List Nat} {va ta xl:List Ty} {xb xg:Bool} {k:Nat} (hk:k=uK g 3) {sz:Nat} (hsz:sz=90) {T:PT V} {hs:HS} {Q:Ex->PT V->HS->Prop}
 (hT:Less k T hs (di [(0,.ptr 0 0 0),(4,.ptr 4 0 0),(5,.ptr 5 0 0),(7,.ptr 6 0 0),(60,.sl (vs.map encI) false),(61,.int .i64 (vs.length:Int)),(62,.int .i64 ((0:Nat):Int))]) { H:=di (aH sl tr g++[(4,.arr 5 0 [[.int .i64 vk,.str vn,.int .i64 (i:Int),.int .i64 vh,.sl (va.map ax) false]] true false false),(5,.arr 5 0 [[.int .i64 tk,.str tn,.int .i64 ti,.int .i64 th,.sl (ta.map ax) false]] true false false),(6,.arr 8 0 [[.bool xb,.int .i64 xk,.str xn,.int .i64 xi,.int .i64 xh,.sl (xl.map ax) false,.int .i64 xm,.bool xg]] true false false)]),n:=8,log:=[] })
 (hQ:∀ (sl1:List Slot) (iC:List Change) (G:Option Nat) (ex:List Change),iC=tr++ex->G=gN g ex.length->sl1.length=sl.length->ex.length<=vs.length->(⟨sl1,iC⟩:Store)=vs.foldl (Store.qf xm) ⟨sl,tr⟩->Q (.exit 1) (di [(0,.ptr 0 0 0),(4,.ptr 4 0 0),(5,.ptr 5 0 0)]) { H:=di (aH sl1 iC G++[(4,.arr 5 0 [[.int .i64 vk,.str vn,.int .i64 (i:Int),.int .i64 vh,.sl (va.map ax) false]] true false false),(5,.arr 5 0 [[.int .i64 tk,.str tn,.int .i64 ti,.int .i64 th,.sl (ta.map ax) false]] true false false),(6,.arr 8 0 [[.bool xb,.int .i64 xk,.str xn,.int .i64 xi,.int .i64 xh,.sl (xl.map ax) false,.int .i64 xm,.bool xg]] true false false)]),n:=8,log:=[] }) :
 Ls ρ E k sz (.loop qx) T hs Q:=by
 subst hk hsz
 cases g with
 | none =>
   refine DV hρ hE hcon vs.length (nn:=8) (fun j (_:List Slot×List Change×Option Nat)=>[(0,.ptr 0 0 0),(4,.ptr 4 0 0),(5,.ptr 5 0 0),(7,.ptr 6 0 0),(60,.sl (vs.map encI) false),(61,.int .i64 (vs.length:Int)),(62,.int .i64 (j:Int))])
    (fun j st=>aH st.1 st.2.1 st.2.2++[(4,.arr 5 0 [[.int .i64 vk,.str vn,.int .i64 (i:Int),.int .i64 vh,.sl (va.map ax) false]] true false false),(5,.arr 5 0 [[.int .i64 tk,.str tn,.int .i64 ti,.int .i64 th,.sl (ta.map ax) false]] true false false),(6,.arr 8 0 [[.bool xb,.int .i64 xk,.str xn,.int .i64 xi,.int .i64 xh,.sl (xl.map ax) false,.int .i64 xm,.bool xg]] true false false)]) (fun j st=>∃ ex,st.2.1=tr++ex/\st.2.2=gN none ex.length/\st.1.length=sl.length/\ex.length<=j/\(vs.drop j).foldl (Store.qf xm) ⟨st.1,st.2.1⟩=vs.foldl (Store.qf xm) ⟨sl,tr⟩) (sl,tr,none) hT
    ⟨[],by simp,by simp,rfl,Nat.zero_le _,by simp⟩ ?_ ?_
   . rintro ⟨sl1,iC,G⟩ ⟨ex,e1,e2,hl1,hx1,fu⟩ K;simp only at e1 e2 hl1 fu;rw[List.drop_length]at fu;have hfin:=hQ sl1 iC G ex e1 e2 hl1 hx1 fu;clear e1 fu hQ
     cases G with
     | none =>
       simp [qx,hE,aH];exact bq.mk (Less.auto (by simp[aH]) (by simp[aH]) (by simp[aH]) (by simp[aH]<;>(intro x hx;first|omega|exact⟨.inl hx,by omega⟩))) hfin
     | some G =>
       simp [qx,hE,aH];exact bq.mk (Less.auto (by simp[aH]) (by simp[aH]) (by simp[aH]) (by simp[aH]<;>(intro x hx;first|omega|exact⟨.inl hx,by omega⟩))) hfin
   . rintro j ⟨sl1,iC,G⟩ hj ⟨ex,e1,e2,hl1,hx1,fu⟩ K hK;simp only at e1 e2 hl1 fu;have hj':(j:Int)<vs.length:=by omega
     have hw:IntKind.i64.wrap ((j:Int)+1)=((j+1:Nat):Int):=bu (by omega);rw[List.drop_eq_getElem_cons hj,List.foldl_cons]at fu;obtain⟨v,hv⟩:∃ v,vs[j]=v:=⟨_,rfl⟩;rw[hv]at fu;have hU:=uD sl1 iC (aM v);have htl:iC.length<=tr.length+j:=by rw[e1,List.length_append];omega
     by_cases hfr:Store.iR ⟨sl1,iC⟩ (aM v)=true
     . have Md:=hfr;unfold Store.iR Store.bG at Md;rw[Bool.and_eq_true,Bool.and_eq_true]at Md;obtain⟨m,hm⟩:=Option.isSome_iff_exists.1 Md.1.2;obtain⟨q,hq1,hq,hq2⟩:=Store.slot?_at hm;have hq:v=(q:Int):=hq;subst hq;have zK9:q<sl1.length:=hq1;rw[if_pos hfr]at hU;rw[show Store.qf xm ⟨sl1,iC⟩ (q:Int)=_ from by unfold Store.qf;rw[if_pos hfr]]at fu;have hsd:Store.aJ ⟨sl1,iC⟩ (aM (q:Int)).id=m:=by rw[show (aM (q:Int)).id=(q:Int) from rfl,Store.eD (s:=⟨sl1,iC⟩) hq1,hq2]
       rw[hsd]at hU;rw[show Store.aJ ⟨sl1,iC⟩ (q:Int)=m from hsd]at fu;obtain⟨fK,t3,t4⟩:=(Store.ko ⟨sl1,iC⟩ (q:Int) { m with home:=min m.home xm }).trail;have Hl:=(Store.ko ⟨sl1,iC⟩ (q:Int) { m with home:=min m.home xm }).len;obtain⟨S2,hS2⟩:∃ S2,Store.mF ⟨sl1,iC⟩ (q:Int) { m with home:=min m.home xm }=S2:=⟨_,rfl⟩;rw[hS2]at t3 Hl fu;obtain⟨sl2,tr2⟩:=S2;simp only at t3 Hl;subst t3;have hF:=FC zK9 (by omega) (by omega) hS2;have hnew:=hK (sl2,iC++fK,gN G fK.length) ⟨ex++fK,by simp[e1],by simp only;rw[e2,qw,List.length_append],by simp only;omega,by rw[List.length_append];omega,fu⟩;clear fu hK hS2 Md hsd hq2 hm;obtain⟨mb,⟨mk,mn,mi,mh,ml⟩,mm,mg⟩:=m;have I8:(if xm<mm then xm else mm)=min mm xm:=by split<;>omega
       simp[aM]at hU;simp at hF;generalize min mm xm=mz at I8 hF
       cases G with
       | none =>
         rcases fK with _|⟨c,fK⟩
         . simp [qx,hE,aH,hj,hj',hv,hV,nT,hU,M7,hF,I8,hw,ae,aM,-Int.natCast_add];exact hnew _ _ (Less.auto (by simp[aH,-Int.natCast_add]) (by simp[aH]) (by simp[aH]) (by simp[aH]<;>(intro x hx;first|omega|exact⟨.inl hx,by omega⟩)))
         . obtain⟨tr2,d9⟩:∃ tr2,iC++c::fK=tr2:=⟨_,rfl⟩;rw[d9]at hnew;simp [d9,qx,hE,aH,hj,hj',hv,hV,nT,hU,M7,hF,I8,hw,ae,aM,-Int.natCast_add];exact hnew _ _ (Less.auto (by simp[aH,-Int.natCast_add]) (by simp[aH]) (by simp[aH]) (by simp[aH]<;>(intro x hx;first|omega|exact⟨.inl hx,by omega⟩)))
       | some G =>
         obtain⟨tr2,d9⟩:∃ tr2,iC++fK=tr2:=⟨_,rfl⟩;rw[d9]at hnew;simp [d9,qx,hE,aH,hj,hj',hv,hV,nT,hU,M7,hF,I8,hw,ae,aM,-Int.natCast_add];exact hnew _ _ (Less.auto (by simp[aH,-Int.natCast_add]) (by simp[aH]) (by simp[aH]) (by simp[aH]<;>(intro x hx;first|omega|exact⟨.inl hx,by omega⟩)))
     . rw[if_neg hfr]at hU;rw[show Store.qf xm ⟨sl1,iC⟩ v=_ from by unfold Store.qf;rw[if_neg hfr]]at fu;have hnew:=hK (sl1,iC,G) ⟨ex,e1,e2,hl1,by omega,fu⟩;clear fu hK;simp[aM,mR]at hU
       cases G with
       | none =>
         simp [qx,hE,aH,hj,hj',hv,hV,nT,hU,hw,ae,aM,-Int.natCast_add];exact hnew _ _ (Less.auto (by simp[aH,-Int.natCast_add]) (by simp[aH]) (by simp[aH]) (by simp[aH]<;>(intro x hx;first|omega|exact⟨.inl hx,by omega⟩)))
       | some G =>
         simp [qx,hE,aH,hj,hj',hv,hV,nT,hU,hw,ae,aM,-Int.natCast_add];exact hnew _ _ (Less.auto (by simp[aH,-Int.natCast_add]) (by simp[aH]) (by simp[aH]) (by simp[aH]<;>(intro x hx;first|omega|exact⟨.inl hx,by omega⟩)))
 | some g =>
   refine DV hρ hE hcon vs.length (nn:=8) (fun j (_:List Slot×List Change×Option Nat)=>[(0,.ptr 0 0 0),(4,.ptr 4 0 0),(5,.ptr 5 0 0),(7,.ptr 6 0 0),(60,.sl (vs.map encI) false),(61,.int .i64 (vs.length:Int)),(62,.int .i64 (j:Int))])
    (fun j st=>aH st.1 st.2.1 st.2.2++[(4,.arr 5 0 [[.int .i64 vk,.str vn,.int .i64 (i:Int),.int .i64 vh,.sl (va.map ax) false]] true false false),(5,.arr 5 0 [[.int .i64 tk,.str tn,.int .i64 ti,.int .i64 th,.sl (ta.map ax) false]] true false false),(6,.arr 8 0 [[.bool xb,.int .i64 xk,.str xn,.int .i64 xi,.int .i64 xh,.sl (xl.map ax) false,.int .i64 xm,.bool xg]] true false false)]) (fun j st=>∃ ex,st.2.1=tr++ex/\st.2.2=gN (some g) ex.length/\st.1.length=sl.length/\ex.length<=j/\(vs.drop j).foldl (Store.qf xm) ⟨st.1,st.2.1⟩=vs.foldl (Store.qf xm) ⟨sl,tr⟩) (sl,tr,(some g)) hT
    ⟨[],by simp,by simp,rfl,Nat.zero_le _,by simp⟩ ?_ ?_
   . rintro ⟨sl1,iC,G⟩ ⟨ex,e1,e2,hl1,hx1,fu⟩ K;simp only at e1 e2 hl1 fu;rw[List.drop_length]at fu;have hfin:=hQ sl1 iC G ex e1 e2 hl1 hx1 fu;clear e1 fu hQ
     cases G with
     | none =>
       exact(by simp at e2:False).elim
     | some G =>
       simp [qx,hE,aH];exact bq.mk (Less.auto (by simp[aH]) (by simp[aH]) (by simp[aH]) (by simp[aH]<;>(intro x hx;first|omega|exact⟨.inl hx,by omega⟩))) hfin
   . rintro j ⟨sl1,iC,G⟩ hj ⟨ex,e1,e2,hl1,hx1,fu⟩ K hK;simp only at e1 e2 hl1 fu;have hj':(j:Int)<vs.length:=by omega
     have hw:IntKind.i64.wrap ((j:Int)+1)=((j+1:Nat):Int):=bu (by omega);rw[List.drop_eq_getElem_cons hj,List.foldl_cons]at fu;obtain⟨v,hv⟩:∃ v,vs[j]=v:=⟨_,rfl⟩;rw[hv]at fu;have hU:=uD sl1 iC (aM v);have htl:iC.length<=tr.length+j:=by rw[e1,List.length_append];omega
     by_cases hfr:Store.iR ⟨sl1,iC⟩ (aM v)=true
     . have Md:=hfr;unfold Store.iR Store.bG at Md;rw[Bool.and_eq_true,Bool.and_eq_true]at Md;obtain⟨m,hm⟩:=Option.isSome_iff_exists.1 Md.1.2;obtain⟨q,hq1,hq,hq2⟩:=Store.slot?_at hm;have hq:v=(q:Int):=hq;subst hq;have zK9:q<sl1.length:=hq1;rw[if_pos hfr]at hU;rw[show Store.qf xm ⟨sl1,iC⟩ (q:Int)=_ from by unfold Store.qf;rw[if_pos hfr]]at fu;have hsd:Store.aJ ⟨sl1,iC⟩ (aM (q:Int)).id=m:=by rw[show (aM (q:Int)).id=(q:Int) from rfl,Store.eD (s:=⟨sl1,iC⟩) hq1,hq2]
       rw[hsd]at hU;rw[show Store.aJ ⟨sl1,iC⟩ (q:Int)=m from hsd]at fu;obtain⟨fK,t3,t4⟩:=(Store.ko ⟨sl1,iC⟩ (q:Int) { m with home:=min m.home xm }).trail;have Hl:=(Store.ko ⟨sl1,iC⟩ (q:Int) { m with home:=min m.home xm }).len;obtain⟨S2,hS2⟩:∃ S2,Store.mF ⟨sl1,iC⟩ (q:Int) { m with home:=min m.home xm }=S2:=⟨_,rfl⟩;rw[hS2]at t3 Hl fu;obtain⟨sl2,tr2⟩:=S2;simp only at t3 Hl;subst t3;have hF:=FC zK9 (by omega) (by omega) hS2;have hnew:=hK (sl2,iC++fK,gN G fK.length) ⟨ex++fK,by simp[e1],by simp only;rw[e2,qw,List.length_append],by simp only;omega,by rw[List.length_append];omega,fu⟩;clear fu hK hS2 Md hsd hq2 hm;obtain⟨mb,⟨mk,mn,mi,mh,ml⟩,mm,mg⟩:=m;have I8:(if xm<mm then xm else mm)=min mm xm:=by split<;>omega
       simp[aM]at hU;simp at hF;generalize min mm xm=mz at I8 hF
       cases G with
       | none =>
         exact(by simp at e2:False).elim
       | some G =>
         obtain⟨tr2,d9⟩:∃ tr2,iC++fK=tr2:=⟨_,rfl⟩;rw[d9]at hnew;simp [d9,qx,hE,aH,hj,hj',hv,hV,nT,hU,M7,hF,I8,hw,ae,aM,-Int.natCast_add];exact hnew _ _ (Less.auto (by simp[aH,-Int.natCast_add]) (by simp[aH]) (by simp[aH]) (by simp[aH]<;>(intro x hx;first|omega|exact⟨.inl hx,by omega⟩)))
     . rw[if_neg hfr]at hU;rw[show Store.qf xm ⟨sl1,iC⟩ v=_ from by unfold Store.qf;rw[if_neg hfr]]at fu;have hnew:=hK (sl1,iC,G) ⟨ex,e1,e2,hl1,by omega,fu⟩;clear fu hK;simp[aM,mR]at hU
       cases G with
       | none =>
         exact(by simp at e2:False).elim
       | some G =>
         simp [qx,hE,aH,hj,hj',hv,hV,nT,hU,hw,ae,aM,-Int.natCast_add];exact hnew _ _ (Less.auto (by simp[aH,-Int.natCast_add]) (by simp[aH]) (by simp[aH]) (by simp[aH]<;>(intro x hx;first|omega|exact⟨.inl hx,by omega⟩)))
end
theorem YO:Valid ρ Tryz.prog 101 (bZ (fO fun t:Ty=>some (isArrow t))):=v1 (fo Tryz.func101 zrR) fun a r h hs=>by
 cases h;exact AV hρ (E:=EL []) rfl (au az) hs
end
end Go.Proofs.YtocdkgjpdnamlaaGreat
