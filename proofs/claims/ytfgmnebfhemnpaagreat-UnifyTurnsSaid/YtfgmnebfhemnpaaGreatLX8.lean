import Derived.Test.YtfgmnebfhemnpaaGreatLX7
import Derived.Test.YtfgmnebfhemnpaaGreatJUv
import Derived.Test.YtfgmnebfhemnpaaGreatJPy
set_option linter.all false
noncomputable section
/- The program's unification: the search for rigid constants of later homes. -/
namespace Go.Proofs.YtfgmnebfhemnpaaGreat
open Go.J
open Go.J.Enc (enc)
set_option maxRecDepth 100000
set_option maxHeartbeats 4000000
def zpk(sl:List Slot):Prop:=∀ x∈sl,x.type.ok=true
open Classical in
def hiU(d:Nat)(sl:List Slot)(h:Int)(sn:List Int)(t:Ty):Option (Bool×List Int):=if zpk sl/\t.ok=true then Store.hiM ⟨sl,[]⟩ h d t sn else none
theorem zrJ{d:Nat}{sl:List Slot}{h:Int}{sn:List Int}{t:Ty}{r:Bool×List Int}(hh:hiU d sl h sn t=some r):zpk sl/\t.ok=true/\Store.hiM ⟨sl,[]⟩ h d t sn=some r:=by
 unfold hiU at hh;split at hh
 . rename_i h1;exact⟨h1.1,h1.2,hh⟩
 . cases hh
theorem zl5{d:Nat}{sl:List Slot}{h:Int}{sn:List Int}{t:Ty}{r:Bool×List Int}(h1:zpk sl)(h2:t.ok=true)(hh:Store.hiM ⟨sl,[]⟩ h d t sn=some r):hiU d sl h sn t=some r:=by
 unfold hiU;rw[if_pos ⟨h1,h2⟩,hh]
def hiV(d:Nat)(sl:List Slot)(h:Int)(sn:List Int)(x:V):Option (V×List Int):=ob (Enc.dec x:Option Ty) fun t=>ob (hiU d sl h sn t) fun r=>some (.bool r.1,r.2)
def ixM (rec:Ty->List Int->Option (Bool×List Int)):List Ty->Int->List Int->Option (Int×List Int)
 | [],_,sn=>some (-1,sn)
 | t::l,i,sn=>match rec t sn with
   |none=>none
   |some (true,sn')=>some (i,sn')
   |some (false,sn')=>ixM rec l (i+1) sn'
theorem z8D{rec:Ty->List Int->Option (Bool×List Int)}:∀ (l:List Ty) (i:Int) (sn:List Int) (b:Bool) (sn':List Int),0<=i->Store.hiL rec l sn=some (b,sn')->∃ z,ixM rec l i sn=some (z,sn')/\decide (0<=z)=b:=by
 intro l
 induction l with
 |nil=>intro i sn b sn' h hh;cases hh;exact⟨-1,rfl,by decide⟩
 | cons t l ih =>
   intro i sn b sn' h hh;rw[Store.hiL]at hh;rw[ixM]
   cases hp:rec t sn with
   |none=>rw[hp]at hh;cases hh
   | some w =>
     rw[hp]at hh;obtain⟨c,sn1⟩:=w
     cases c with
     |true=>cases hh;exact⟨i,rfl,by simpa using h⟩
     |false=>exact ih (i+1) sn1 b sn' (by omega) hh
open Classical in
def z9f(d:Nat)(sl:List Slot)(h:Int)(sn:List Int)(x:V):Option (V×List Int):=ob (Enc.dec x:Option (List Ty)) fun l=>if zpk sl/\Ty.oks l=true/\l.length<=10000 then ob (ixM (Store.hiM ⟨sl,[]⟩ h d) l 0 sn) fun r=>some (.int .i64 r.1,r.2)else none
open Classical in
def zzA(d:Nat)(sl:List Slot)(h:Int)(sn:List Int)(x:V):Option (V×List Int):=ob (Enc.dec x:Option (List Ty)) fun l=>if zpk sl/\Ty.oks l=true/\l.length<=10000 then ob (Store.hiL (Store.hiM ⟨sl,[]⟩ h d) l sn) fun r=>some (.bool r.1,r.2)else none
theorem z9d{d:Nat}{sl:List Slot}{h:Int}{sn:List Int}{x:V}{q:V×List Int}(hh:hiV d sl h sn x=some q):∃ (t:Ty) (r:Bool×List Int),x=enc t/\hiU d sl h sn t=some r/\q=(.bool r.1,r.2):=by
 unfold hiV at hh;simp only[zt]at hh;obtain⟨t,ht,r,hr,hh⟩:=hh;cases hh;exact⟨t,r,by rw[Enc.enc_dec _ _ ht],hr,rfl⟩
theorem zxL{d:Nat}{sl:List Slot}{h:Int}{sn:List Int}{x:V}{q:V×List Int}(hh:z9f d sl h sn x=some q):∃ (l:List Ty) (r:Int×List Int),x=enc l/\zpk sl/\Ty.oks l=true/\l.length<=10000/\ixM (Store.hiM ⟨sl,[]⟩ h d) l 0 sn=some r/\q=(.int .i64 r.1,r.2):=by
 unfold z9f at hh;simp only[zt]at hh;obtain⟨t,ht,hh⟩:=hh;split at hh
 . rename_i h1;simp only[zt]at hh;obtain⟨r,hr,hh⟩:=hh;cases hh;exact⟨t,r,by rw[Enc.enc_dec _ _ ht],h1.1,h1.2.1,h1.2.2,hr,rfl⟩
 . cases hh
theorem zxM{d:Nat}{sl:List Slot}{h:Int}{sn:List Int}{x:V}{q:V×List Int}(hh:zzA d sl h sn x=some q):∃ (l:List Ty) (r:Bool×List Int),x=enc l/\zpk sl/\Ty.oks l=true/\l.length<=10000/\Store.hiL (Store.hiM ⟨sl,[]⟩ h d) l sn=some r/\q=(.bool r.1,r.2):=by
 unfold zzA at hh;simp only[zt]at hh;obtain⟨t,ht,hh⟩:=hh;split at hh
 . rename_i h1;simp only[zt]at hh;obtain⟨r,hr,hh⟩:=hh;cases hh;exact⟨t,r,by rw[Enc.enc_dec _ _ ht],h1.1,h1.2.1,h1.2.2,hr,rfl⟩
 . cases hh
theorem zz9{d:Nat}{sl:List Slot}{h:Int}{sn:List Int}{t:Ty}{r:Bool×List Int}(hr:hiU d sl h sn t=some r):hiV d sl h sn (enc t)=some (.bool r.1,r.2):=by
 unfold hiV;rw[Enc.dec_enc];show ob (hiU d sl h sn t) _=_;rw[hr];rfl
open Classical in
theorem z9e{d:Nat}{sl:List Slot}{h:Int}{sn:List Int}{l:List Ty}{r:Int×List Int}(h1:zpk sl)(h2:Ty.oks l=true)(h3:l.length<=10000)(hr:ixM (Store.hiM ⟨sl,[]⟩ h d) l 0 sn=some r):z9f d sl h sn (enc l)=some (.int .i64 r.1,r.2):=by
 unfold z9f;rw[Enc.dec_enc];show (if zpk sl/\Ty.oks l=true/\l.length<=10000 then ob (ixM (Store.hiM ⟨sl,[]⟩ h d) l 0 sn) _ else none)=_;rw[if_pos ⟨h1,h2,h3⟩,hr];rfl
open Classical in
theorem zrK{d:Nat}{sl:List Slot}{h:Int}{sn:List Int}{l:List Ty}{r:Bool×List Int}(h1:zpk sl)(h2:Ty.oks l=true)(h3:l.length<=10000)(hr:Store.hiL (Store.hiM ⟨sl,[]⟩ h d) l sn=some r):zzA d sl h sn (enc l)=some (.bool r.1,r.2):=by
 unfold zzA;rw[Enc.dec_enc];show (if zpk sl/\Ty.oks l=true/\l.length<=10000 then ob (Store.hiL (Store.hiM ⟨sl,[]⟩ h d) l sn) _ else none)=_;rw[if_pos ⟨h1,h2,h3⟩,hr];rfl
section
variable {ρ:Nat->Value}(hρ:J.Good ρ)
include hρ
section
variable {E:Env}(hE:E.P=Tryz.prog)(hcon:ConsOk ρ E)
include hE hcon
theorem zj7{d:Nat}(hc:E.con 103=zaT (uhM (hiU d))){sl:List Slot}{tr:List Change}{g:Option Nat}{sn sn':List Int}{h:Int}{t:Ty}{b:Bool}(hF:hiU d sl h sn t=some (b,sn')) :
 Wp ρ E (uK g 7) 11 z9t ((((PT.leaf.set 0 (enc t)).set 1 (.ptr 4 0 0)).set 2 (.ptr 5 0 0)).set 3 (.ptr 6 0 0)) { H:=mkP (zb7 sl tr g sn h),n:=uK g 7,log:=[] } (J.Leaves E.P Tryz.f128 (GivesL (uK g 7) (.bool b) (zb7 sl tr g sn' h))):=by
 obtain⟨tk,tn,ti,th,ta⟩:=t
 cases g with
 | none =>
   simp [hE,zb7,hc,hF,vacant_eq];exact GivesL.keepX rfl rfl rfl (by simp[zo,zf])
 | some g =>
   simp [hE,zb7,hc,hF,vacant_eq];exact GivesL.keepX rfl rfl rfl (by simp[zo,zf])
theorem zj6 {d:Nat} (hc:E.con 128=zaT (ucM none (hiV d))) {sl:List Slot} {tr:List Change} {g:Option Nat} {sn sn':List Int} {h:Int} {l:List Ty} {z:Int} (hso:zpk sl) (hlo:Ty.oks l=true) (hll:l.length<=10000) (hr:ixM (Store.hiM ⟨sl,[]⟩ h d) l 0 sn=some (z,sn')) :
 Wp ρ E (uK g 7) 19 z9s ((PT.leaf.set 0 (enc l)).set 1 (.func 128 [.ptr 4 0 0,.ptr 5 0 0,.ptr 6 0 0])) { H:=mkP (zb7 sl tr g sn h),n:=uK g 7,log:=[] } (J.Leaves E.P Tryz.f140 (GivesL (uK g 7) (.int .i64 z) (zb7 sl tr g sn' h))):=by
 cases g with
 | none =>
   simp [hE,zb7]
   refine lpi hρ hE hcon l.length (nn:=7) (fun i (_:List Int)=>[(0,.sl (l.map zw) false),(1,.func 128 [.ptr 4 0 0,.ptr 5 0 0,.ptr 6 0 0]),(7,.int .i64 (l.length:Int)),(8,.int .i64 (i:Int))])
    (fun i sn=>zb7 sl tr none sn h) (fun i sn=>ixM (Store.hiM ⟨sl,[]⟩ h d) (l.drop i) (i:Int) sn=some (z,sn')) sn
    (Less.auto (by simp[zb7]) (by simp[zb7,zo,zf]) (by simp[zb7]) (by simp[zb7]<;>(intro x hx;first|omega|exact⟨.inl hx,by omega⟩))) (by simpa using hr) ?_ ?_
   . intro sn hh K;rw[List.drop_length,ixM]at hh;cases hh;simp [zeX,hE,zb7];refine LessQ.mk (Less.auto (TL:=[]) (HL:=zb7 sl tr none sn' h) (n:=7) (by simp[zb7]) (by simp[zb7,zo,zf]) (by simp[zb7]) (by simp[zb7]<;>(intro x hx;first|omega|exact⟨.inl hx,by omega⟩))) ?_;simp [hE,zb7];exact GivesL.keepX rfl rfl rfl (by simp[zo,zf])
   . intro i sn hi hh K hK;have hi':(i:Int)<l.length:=by omega
     have hw2:IntKind.i64.wrap ((i:Int)+1)=((i+1:Nat):Int):=zJ (by omega);have hm5:(i*5) / 5=i:=by omega
     have hm6:(i*5) % 5=0:=by omega
     have hxo:=Ty.oks_iff.1 hlo _ (List.getElem_mem hi);rw[List.drop_eq_getElem_cons hi,ixM]at hh;obtain⟨x,hx⟩:∃ x,l[i]=x:=⟨_,rfl⟩;rw[hx]at hh hxo
     cases hq:Store.hiM ⟨sl,[]⟩ h d x sn with
     |none=>rw[hq]at hh;cases hh
     | some w =>
       rw[hq]at hh;obtain⟨c,sn1⟩:=w;have hF:=zz9 (zl5 hso hxo hq);obtain⟨xk,xn,xi,xh,xa⟩:=x;simp at hF
       cases c with
       | true =>
         cases hh;simp [zeX,hE,zb7,hi,hi',hx,hm5,hm6,hc,hF,vacant_eq];refine LessQ.mk (Less.auto (TL:=[(4,.int .i64 (i:Int))]) (HL:=zb7 sl tr none sn' h) (n:=7) (by simp[zb7]) (by simp[zb7,zo,zf]) (by simp[zb7]) (by simp[zb7]<;>(intro x hx;first|omega|exact⟨.inl hx,by omega⟩))) ?_;simp [hE,zb7];exact GivesL.keepX rfl rfl rfl (by simp[zo,zf])
       | false =>
         have hnew:=hK sn1 hh;simp [zeX,hE,zb7,hi,hi',hx,hm5,hm6,hc,hF,hw2,vacant_eq,-Int.natCast_add];exact hnew _ _ (Less.auto (by simp[zb7,-Int.natCast_add]) (by simp[zb7,zo,zf]) (by simp[zb7]) (by simp[zb7]<;>(intro x hx;first|omega|exact⟨.inl hx,by omega⟩)))
 | some g =>
   simp [hE,zb7]
   refine lpi hρ hE hcon l.length (nn:=8) (fun i (_:List Int)=>[(0,.sl (l.map zw) false),(1,.func 128 [.ptr 4 0 0,.ptr 5 0 0,.ptr 6 0 0]),(7,.int .i64 (l.length:Int)),(8,.int .i64 (i:Int))])
    (fun i sn=>zb7 sl tr (some g) sn h) (fun i sn=>ixM (Store.hiM ⟨sl,[]⟩ h d) (l.drop i) (i:Int) sn=some (z,sn')) sn
    (Less.auto (by simp[zb7]) (by simp[zb7,zo,zf]) (by simp[zb7]) (by simp[zb7]<;>(intro x hx;first|omega|exact⟨.inl hx,by omega⟩))) (by simpa using hr) ?_ ?_
   . intro sn hh K;rw[List.drop_length,ixM]at hh;cases hh;simp [zeX,hE,zb7];refine LessQ.mk (Less.auto (TL:=[]) (HL:=zb7 sl tr (some g) sn' h) (n:=8) (by simp[zb7]) (by simp[zb7,zo,zf]) (by simp[zb7]) (by simp[zb7]<;>(intro x hx;first|omega|exact⟨.inl hx,by omega⟩))) ?_;simp [hE,zb7];exact GivesL.keepX rfl rfl rfl (by simp[zo,zf])
   . intro i sn hi hh K hK;have hi':(i:Int)<l.length:=by omega
     have hw2:IntKind.i64.wrap ((i:Int)+1)=((i+1:Nat):Int):=zJ (by omega);have hm5:(i*5) / 5=i:=by omega
     have hm6:(i*5) % 5=0:=by omega
     have hxo:=Ty.oks_iff.1 hlo _ (List.getElem_mem hi);rw[List.drop_eq_getElem_cons hi,ixM]at hh;obtain⟨x,hx⟩:∃ x,l[i]=x:=⟨_,rfl⟩;rw[hx]at hh hxo
     cases hq:Store.hiM ⟨sl,[]⟩ h d x sn with
     |none=>rw[hq]at hh;cases hh
     | some w =>
       rw[hq]at hh;obtain⟨c,sn1⟩:=w;have hF:=zz9 (zl5 hso hxo hq);obtain⟨xk,xn,xi,xh,xa⟩:=x;simp at hF
       cases c with
       | true =>
         cases hh;simp [zeX,hE,zb7,hi,hi',hx,hm5,hm6,hc,hF,vacant_eq];refine LessQ.mk (Less.auto (TL:=[(4,.int .i64 (i:Int))]) (HL:=zb7 sl tr (some g) sn' h) (n:=8) (by simp[zb7]) (by simp[zb7,zo,zf]) (by simp[zb7]) (by simp[zb7]<;>(intro x hx;first|omega|exact⟨.inl hx,by omega⟩))) ?_;simp [hE,zb7];exact GivesL.keepX rfl rfl rfl (by simp[zo,zf])
       | false =>
         have hnew:=hK sn1 hh;simp [zeX,hE,zb7,hi,hi',hx,hm5,hm6,hc,hF,hw2,vacant_eq,-Int.natCast_add];exact hnew _ _ (Less.auto (by simp[zb7,-Int.natCast_add]) (by simp[zb7,zo,zf]) (by simp[zb7]) (by simp[zb7]<;>(intro x hx;first|omega|exact⟨.inl hx,by omega⟩)))
theorem zg0{d:Nat}(hc:E.con 140=zaT (ucM (some 128) (z9f d))){sl:List Slot}{tr:List Change}{g:Option Nat}{sn sn':List Int}{h:Int}{l:List Ty}{b:Bool}(hso:zpk sl)(hlo:Ty.oks l=true)(hll:l.length<=10000)(hr:Store.hiL (Store.hiM ⟨sl,[]⟩ h d) l sn=some (b,sn')) :
 Wp ρ E (uK g 7) 9 z9u ((PT.leaf.set 0 (enc l)).set 1 (.func 128 [.ptr 4 0 0,.ptr 5 0 0,.ptr 6 0 0])) { H:=mkP (zb7 sl tr g sn h),n:=uK g 7,log:=[] } (J.Leaves E.P Tryz.f127 (GivesL (uK g 7) (.bool b) (zb7 sl tr g sn' h))):=by
 obtain⟨z,hz,rfl⟩:=z8D l 0 sn b sn' (Int.le_refl _) hr;have hF:=z9e hso hlo hll hz;simp at hF
 cases g with
 | none =>
   simp [hE,zb7,hc,hF,vacant_eq];exact GivesL.keepX rfl rfl rfl (by simp[zo,zf])
 | some g =>
   simp [hE,zb7,hc,hF,vacant_eq];exact GivesL.keepX rfl rfl rfl (by simp[zo,zf])
theorem zkD {d:Nat} (hc:E.con 103=zaT (uhM (hiU d))) (hC:E.con 127=zaT (ucM (some 128) (zzA d))) {sl:List Slot} {tr:List Change} {g:Option Nat} {sn sn':List Int} {h:Int} {t:Ty} {b:Bool} (hF0:hiU (d+1) sl h sn t=some (b,sn')) :
 Wp ρ E (uK g 4) 78 z9v ((((PT.leaf.set 0 (.ptr 0 0 0)).set 1 (enc t)).set 2 (.int .i64 h)).set 3 (.map 3)) { H:=mkP (zgF sl tr g sn),n:=uK g 4,log:=[] } (J.Leaves E.P Tryz.f103 (GivesL (uK g 4) (.bool b) (zgF sl tr g sn'))):=by
 obtain⟨hso,hto,hh⟩:=zrJ hF0;have hz:zqm I4=some (V.bool false):=by rfl
 rw[Store.hiM]at hh;obtain⟨tk,tn,ti,th,ta⟩:=t;simp only[Ty.kind_mk,Ty.id_mk,Ty.home_mk,Ty.args_mk]at hh
 cases g with
 | none =>
   by_cases hk:tk=1
   . subst hk;rw[if_pos rfl]at hh;by_cases hm:ti∈sn
     . rw[if_pos hm]at hh;cases hh;simp [hE,zgF,hm,zan,zaz,zbV,zU,hz];exact GivesL.keepX rfl rfl rfl (by simp[zo,zf])
     rw[if_neg hm]at hh
     cases e:Store.slot? ⟨sl,[]⟩ ti with
     | none =>
       rw[e]at hh;cases hh;have:=Store.slot?_none e;by_cases h0:ti<0
       . simp [hE,zgF,hm,zan,zaz,zbV,zU,hz,h0];exact GivesL.keepX rfl rfl rfl (by simp[zo,zf])
       . have h2:(sl.length:Int)<=ti:=by
          rcases this with h|h
          . exact absurd h h0
          . have:((⟨sl,[]⟩:Store).slots.length:Int)<=ti:=by omega
            simpa using this
         have h1:¬ ti<(sl.length:Int):=by omega
         simp [hE,zgF,hm,zan,zaz,zbV,zU,hz,h0,h1,h2];exact GivesL.keepX rfl rfl rfl (by simp[zo,zf])
     | some x =>
       rw[e]at hh;simp only at hh;obtain⟨i,hl,hi,hx⟩:=Store.slot?_at e;have hil:i<sl.length:=hl;have hix:sl[i]=x:=hx;have hil':(i:Int)<sl.length:=by omega
       have hd1:i*8 / 8=i:=by omega
       have hd2:i*8 % 8=0:=by omega
       have hd3:(i*8+1) / 8=i:=by omega
       have hd4:(i*8+1) % 8=1:=by omega
       have h00:¬ (i:Int)<0:=by omega
       have h01:¬ sl.length<=i:=by omega
       have hxo:x.type.ok=true:=hso x (hix ▸ List.getElem_mem hil);clear e hx;subst hi;obtain⟨xb,xt,xm,xg⟩:=x
       cases xb with
       | true =>
         rw[if_pos rfl]at hh;have hF:=zl5 hso hxo hh;obtain⟨xk,xn,xi,xh,xl⟩:=xt;simp only at hF;simp [hE,zgF,hm,zan,zaz,zbV,zU,hz,h00,h01,hil,hil',hix,hd1,hd2,hd3,hd4,hc,hF,vacant_eq];exact GivesL.keepX rfl rfl rfl (by simp[zo,zf])
       | false =>
         rw[if_neg (by simp)]at hh;cases hh;obtain⟨xk,xn,xi,xh,xl⟩:=xt;simp [hE,zgF,hm,zan,zaz,zbV,zU,hz,h00,h01,hil,hil',hix,hd1,hd2,hd3,hd4];exact GivesL.keepX rfl rfl rfl (by simp[zo,zf])
   rw[if_neg hk]at hh;by_cases h3:tk=3
   . rw[if_pos h3]at hh;cases hh;simp [hE,zgF,hk,h3];exact GivesL.keepX rfl rfl rfl (by simp[zo,zf])
   rw[if_neg h3]at hh;have hF:=zrK hso (Ty.oks_iff.2 fun u hu=>Ty.ok_arg hto hu) (Ty.ok_len hto) hh;simp at hF;simp [hE,zgF,hk,h3,hC,hF,vacant_eq];exact GivesL.keepX rfl rfl rfl (by simp[zo,zf])
 | some g =>
   by_cases hk:tk=1
   . subst hk;rw[if_pos rfl]at hh;by_cases hm:ti∈sn
     . rw[if_pos hm]at hh;cases hh;simp [hE,zgF,hm,zan,zaz,zbV,zU,hz];exact GivesL.keepX rfl rfl rfl (by simp[zo,zf])
     rw[if_neg hm]at hh
     cases e:Store.slot? ⟨sl,[]⟩ ti with
     | none =>
       rw[e]at hh;cases hh;have:=Store.slot?_none e;by_cases h0:ti<0
       . simp [hE,zgF,hm,zan,zaz,zbV,zU,hz,h0];exact GivesL.keepX rfl rfl rfl (by simp[zo,zf])
       . have h2:(sl.length:Int)<=ti:=by
          rcases this with h|h
          . exact absurd h h0
          . have:((⟨sl,[]⟩:Store).slots.length:Int)<=ti:=by omega
            simpa using this
         have h1:¬ ti<(sl.length:Int):=by omega
         simp [hE,zgF,hm,zan,zaz,zbV,zU,hz,h0,h1,h2];exact GivesL.keepX rfl rfl rfl (by simp[zo,zf])
     | some x =>
       rw[e]at hh;simp only at hh;obtain⟨i,hl,hi,hx⟩:=Store.slot?_at e;have hil:i<sl.length:=hl;have hix:sl[i]=x:=hx;have hil':(i:Int)<sl.length:=by omega
       have hd1:i*8 / 8=i:=by omega
       have hd2:i*8 % 8=0:=by omega
       have hd3:(i*8+1) / 8=i:=by omega
       have hd4:(i*8+1) % 8=1:=by omega
       have h00:¬ (i:Int)<0:=by omega
       have h01:¬ sl.length<=i:=by omega
       have hxo:x.type.ok=true:=hso x (hix ▸ List.getElem_mem hil);clear e hx;subst hi;obtain⟨xb,xt,xm,xg⟩:=x
       cases xb with
       | true =>
         rw[if_pos rfl]at hh;have hF:=zl5 hso hxo hh;obtain⟨xk,xn,xi,xh,xl⟩:=xt;simp only at hF;simp [hE,zgF,hm,zan,zaz,zbV,zU,hz,h00,h01,hil,hil',hix,hd1,hd2,hd3,hd4,hc,hF,vacant_eq];exact GivesL.keepX rfl rfl rfl (by simp[zo,zf])
       | false =>
         rw[if_neg (by simp)]at hh;cases hh;obtain⟨xk,xn,xi,xh,xl⟩:=xt;simp [hE,zgF,hm,zan,zaz,zbV,zU,hz,h00,h01,hil,hil',hix,hd1,hd2,hd3,hd4];exact GivesL.keepX rfl rfl rfl (by simp[zo,zf])
   rw[if_neg hk]at hh;by_cases h3:tk=3
   . rw[if_pos h3]at hh;cases hh;simp [hE,zgF,hk,h3];exact GivesL.keepX rfl rfl rfl (by simp[zo,zf])
   rw[if_neg h3]at hh;have hF:=zrK hso (Ty.oks_iff.2 fun u hu=>Ty.ok_arg hto hu) (Ty.ok_len hto) hh;simp at hF;simp [hE,zgF,hk,h3,hC,hF,vacant_eq];exact GivesL.keepX rfl rfl rfl (by simp[zo,zf])
end
theorem zCV(d:Nat):Valid ρ Tryz.prog 103 (zaT (uhM (hiU d)))/\Valid ρ Tryz.prog 127 (zaT (ucM (some 128) (zzA d))):=by
 have key:∀ d,Valid ρ Tryz.prog 103 (zaT (uhM (hiU d)))->Valid ρ Tryz.prog 127 (zaT (ucM (some 128) (zzA d))):=by
  intro d ih
  have h1:Valid ρ Tryz.prog 128 (zaT (ucM none (hiV d))):=by
   refine Valid.emb (fo Tryz.func128 zF8) fun vs hs D h=>?_
   obtain⟨x,hm,sl,tr,g,sn,r,a,b,c,m,p,q,w,e,hF,rfl,_,_,hg,hfit⟩:=zm9 h;obtain⟨t,r,rfl,hr,rfl⟩:=z9d hF;obtain⟨b1,sn1⟩:=r;have hcn:ConsOk ρ (EL [(103,zaT (uhM (hiU d)))]):=zu (zq ih valid_nil);exact em hρ rfl hcn Tryz.func128 zF8 rfl hg (zj7 hρ rfl hcn rfl hr) hfit
  have h2:Valid ρ Tryz.prog 140 (zaT (ucM (some 128) (z9f d))):=by
   refine Valid.emb (fo Tryz.func140 zF7) fun vs hs D h=>?_
   obtain⟨x,hm,sl,tr,g,sn,r,a,b,c,m,p,q,w,e,hF,rfl,_,_,hg,hfit⟩:=zm9 h;obtain⟨t,r,rfl,g1,g2,g3,hr,rfl⟩:=zxL hF;obtain⟨b1,sn1⟩:=r;have hcn:ConsOk ρ (EL [(128,zaT (ucM none (hiV d)))]):=zu (zq h1 valid_nil);exact em hρ rfl hcn Tryz.func140 zF7 rfl hg (zj6 hρ rfl hcn rfl g1 g2 g3 hr) hfit
  refine Valid.emb (fo Tryz.func127 zF9) fun vs hs D h=>?_
  obtain⟨x,hm,sl,tr,g,sn,r,a,b,c,m,p,q,w,e,hF,rfl,_,_,hg,hfit⟩:=zm9 h;obtain⟨t,r,rfl,g1,g2,g3,hr,rfl⟩:=zxM hF;obtain⟨b1,sn1⟩:=r;have hcn:ConsOk ρ (EL [(140,zaT (ucM (some 128) (z9f d)))]):=zu (zq h2 valid_nil);exact em hρ rfl hcn Tryz.func127 zF9 rfl hg (zg0 hρ rfl hcn rfl g1 g2 g3 hr) hfit
 have base:Valid ρ Tryz.prog 103 (zaT (uhM (hiU 0))):=by
  refine Valid.emb (fo Tryz.func103 z9y) fun vs hs D h=>?_
  obtain⟨ty,hm,sl,tr,g,sn,r,a,b,c,m,e,hF,rfl,hg,hfit⟩:=zq5 h;have:=(zrJ hF).2.2;cases this
 induction d with
 |zero=>exact⟨base,key 0 base⟩
 | succ d ih =>
   have h3:Valid ρ Tryz.prog 103 (zaT (uhM (hiU (d+1)))):=by
    refine Valid.emb (fo Tryz.func103 z9y) fun vs hs D h=>?_
    obtain⟨ty,hm,sl,tr,g,sn,r,a,b,c,m,e,hF,rfl,hg,hfit⟩:=zq5 h;obtain⟨b1,sn1⟩:=r;have hcn:ConsOk ρ (EL [(103,zaT (uhM (hiU d))),(127,zaT (ucM (some 128) (zzA d)))]):=zu (zq ih.1 (zq ih.2 valid_nil));exact em hρ rfl hcn Tryz.func103 z9y rfl hg (zkD hρ rfl hcn rfl rfl hF) hfit
   exact⟨h3,key _ h3⟩
end
end Go.Proofs.YtfgmnebfhemnpaaGreat
/- The program's unification: binding a variable. -/
namespace Go.Proofs.YtfgmnebfhemnpaaGreat
open Go.J
open Go.J.Enc (enc)
set_option maxRecDepth 100000
set_option maxHeartbeats 2000000
theorem zdE{g:Option Nat}{m n:Nat}:gN (gN g m) n=gN g (m+n):=by
 cases g with
 | none =>
   cases m with
   |zero=>simp
   | succ m =>
     rw[zrS,zxS,show m+1+n=(m+n)+1 by omega,zrS]
 |some g=>simp;omega
open Classical in
def zmn(d:Nat)(sl:List Slot)(tr:List Change)(args:List V):Option (V×List Slot×List Change):=match args with
 | [vv,tv]=>ob (Enc.dec vv:Option Ty) fun v=>ob (Enc.dec tv:Option Ty) fun t=>if 0<=v.id/\v.id<sl.length/\(⟨sl,tr⟩:Store).tysOk/\t.ok=true/\zbw ⟨sl,tr⟩ [t]/\(Store.hiM ⟨sl,[]⟩ (Store.slotD ⟨sl,tr⟩ v.id).home d t []).isSome=true/\tr.length+(varsS ⟨sl,tr⟩ [t]).length<=4990/\sl.length<=1000 then some (.int .i64 (Store.bindP ⟨sl,tr⟩ v.id t).2,(Store.bindP ⟨sl,tr⟩ v.id t).1.slots,(Store.bindP ⟨sl,tr⟩ v.id t).1.trail.drop tr.length)else none
 |_=>none
theorem zvz{d:Nat}{sl:List Slot}{tr:List Change}{args:List V}{q:V×List Slot×List Change}(h:zmn d sl tr args=some q):∃ (v t:Ty) (i:Nat),args=[enc v,enc t]/\v.id=(i:Int)/\i<sl.length/\(⟨sl,tr⟩:Store).tysOk/\t.ok=true/\zbw ⟨sl,tr⟩ [t]/\(Store.hiM ⟨sl,[]⟩ (Store.slotD ⟨sl,tr⟩ (i:Int)).home d t []).isSome=true/\tr.length+(varsS ⟨sl,tr⟩ [t]).length<=4990/\sl.length<=1000 /\
 q=(.int .i64 (Store.bindP ⟨sl,tr⟩ (i:Int) t).2,(Store.bindP ⟨sl,tr⟩ (i:Int) t).1.slots,(Store.bindP ⟨sl,tr⟩ (i:Int) t).1.trail.drop tr.length):=by
 unfold zmn at h;split at h
 . simp only[zt]at h;obtain⟨v,hv,t,ht,h⟩:=h;split at h
   . rename_i hh;obtain⟨h0,h1,h2,h3,h4,h5,h6,h7⟩:=hh;obtain⟨i,hi⟩:=Int.eq_ofNat_of_zero_le h0;cases h;rw[hi]at h5 h1;exact⟨v,t,i,by rw[Enc.enc_dec _ _ hv,Enc.enc_dec _ _ ht],hi,by omega,h2,h3,h4,h5,h6,h7,by rw[hi]⟩
   . cases h
 . cases h
open Classical in
theorem zgM{d:Nat}{sl:List Slot}{tr:List Change}{v t:Ty}{i:Nat}(hi:v.id=(i:Int))(hl:i<sl.length)(h2:(⟨sl,tr⟩:Store).tysOk)(h3:t.ok=true)(h4:zbw ⟨sl,tr⟩ [t])(h5:(Store.hiM ⟨sl,[]⟩ (Store.slotD ⟨sl,tr⟩ (i:Int)).home d t []).isSome=true)(h6:tr.length+(varsS ⟨sl,tr⟩ [t]).length<=4990)(h7:sl.length<=1000) :
 zmn d sl tr [enc v,enc t]=some (.int .i64 (Store.bindP ⟨sl,tr⟩ (i:Int) t).2,(Store.bindP ⟨sl,tr⟩ (i:Int) t).1.slots,(Store.bindP ⟨sl,tr⟩ (i:Int) t).1.trail.drop tr.length):=by
 show ob (Enc.dec (enc v):Option Ty) (fun v=>ob (Enc.dec (enc t):Option Ty) _)=_;rw[Enc.dec_enc,Enc.dec_enc];show (if 0<=v.id/\v.id<sl.length/\(⟨sl,tr⟩:Store).tysOk/\t.ok=true/\zbw ⟨sl,tr⟩ [t]/\(Store.hiM ⟨sl,[]⟩ (Store.slotD ⟨sl,tr⟩ v.id).home d t []).isSome=true/\tr.length+(varsS ⟨sl,tr⟩ [t]).length<=4990/\sl.length<=1000 then _ else none)=_;rw[hi,if_pos ⟨by omega,by omega,h2,h3,h4,h5,h6,h7⟩]
section
variable {ρ:Nat->Value}(hρ:J.Good ρ)
include hρ
section
variable {E:Env}(hE:E.P=Tryz.prog)(hcon:ConsOk ρ E)
include hE hcon
theorem zfR{t:Ty}(hs:HS):CallOk ρ Tryz.prog 101 [enc t] hs (enc (zaH t)) hs:=by
 refine fn hρ hE hcon Tryz.func101 zFG rfl (by simp) ?_ hs;obtain⟨k,n,i,h,l⟩:=t
 rcases l with _|⟨a,_|⟨b,_|⟨c,l⟩⟩⟩<;>simp [hE] <;>
 repeat' (refine zdK (fun h=>?_) (fun h=>?_)<;>simp [h,hE])
 all_goals first|omega|simp_all [zaH,ty0]
theorem zbL (hV:E.con 104=fnS (zbq fun i:Int=>some (zad i))) (hSl:E.con 73=rdT (uwM zg4)) (hSe:E.con 98=zaT (uwM zpl)) {sl:List Slot} {tr:List Change} {g:Option Nat} {i:Nat} (hil:i<sl.length) {vs:List Int} (hlen:tr.length+vs.length<=4990) (hsl:sl.length<=1000)
 {vk vh tk ti th xk xi xh xm:Int} {vn tn xn:List Nat} {va ta xl:List Ty} {xb xg:Bool} {k:Nat} (hk:k=uK g 3) {sz:Nat} (hsz:sz=90) {T:PT V} {hs:HS} {Q:Ex->PT V->HS->Prop}
 (hT:Less k T hs (mkP [(0,.ptr 0 0 0),(4,.ptr 4 0 0),(5,.ptr 5 0 0),(7,.ptr 6 0 0),(60,.sl (vs.map encI) false),(61,.int .i64 (vs.length:Int)),(62,.int .i64 ((0:Nat):Int))]) { H:=mkP (zP sl tr g++[(4,.arr 5 0 [[.int .i64 vk,.str vn,.int .i64 (i:Int),.int .i64 vh,.sl (va.map zw) false]] true false false),(5,.arr 5 0 [[.int .i64 tk,.str tn,.int .i64 ti,.int .i64 th,.sl (ta.map zw) false]] true false false),(6,.arr 8 0 [[.bool xb,.int .i64 xk,.str xn,.int .i64 xi,.int .i64 xh,.sl (xl.map zw) false,.int .i64 xm,.bool xg]] true false false)]),n:=8,log:=[] })
 (hQ:∀ (sl1:List Slot) (tr1:List Change) (G:Option Nat) (ex:List Change),tr1=tr++ex->G=gN g ex.length->sl1.length=sl.length->ex.length<=vs.length->(⟨sl1,tr1⟩:Store)=vs.foldl (Store.lowP xm) ⟨sl,tr⟩->Q (.exit 1) (mkP [(0,.ptr 0 0 0),(4,.ptr 4 0 0),(5,.ptr 5 0 0)]) { H:=mkP (zP sl1 tr1 G++[(4,.arr 5 0 [[.int .i64 vk,.str vn,.int .i64 (i:Int),.int .i64 vh,.sl (va.map zw) false]] true false false),(5,.arr 5 0 [[.int .i64 tk,.str tn,.int .i64 ti,.int .i64 th,.sl (ta.map zw) false]] true false false),(6,.arr 8 0 [[.bool xb,.int .i64 xk,.str xn,.int .i64 xi,.int .i64 xh,.sl (xl.map zw) false,.int .i64 xm,.bool xg]] true false false)]),n:=8,log:=[] }) :
 Ls ρ E k sz (.loop zdG) T hs Q:=by
 subst hk hsz
 cases g with
 | none =>
   refine lpi hρ hE hcon vs.length (nn:=8) (fun j (_:List Slot×List Change×Option Nat)=>[(0,.ptr 0 0 0),(4,.ptr 4 0 0),(5,.ptr 5 0 0),(7,.ptr 6 0 0),(60,.sl (vs.map encI) false),(61,.int .i64 (vs.length:Int)),(62,.int .i64 (j:Int))])
    (fun j st=>zP st.1 st.2.1 st.2.2++[(4,.arr 5 0 [[.int .i64 vk,.str vn,.int .i64 (i:Int),.int .i64 vh,.sl (va.map zw) false]] true false false),(5,.arr 5 0 [[.int .i64 tk,.str tn,.int .i64 ti,.int .i64 th,.sl (ta.map zw) false]] true false false),(6,.arr 8 0 [[.bool xb,.int .i64 xk,.str xn,.int .i64 xi,.int .i64 xh,.sl (xl.map zw) false,.int .i64 xm,.bool xg]] true false false)]) (fun j st=>∃ ex,st.2.1=tr++ex/\st.2.2=gN none ex.length/\st.1.length=sl.length/\ex.length<=j/\(vs.drop j).foldl (Store.lowP xm) ⟨st.1,st.2.1⟩=vs.foldl (Store.lowP xm) ⟨sl,tr⟩) (sl,tr,none) hT
    ⟨[],by simp,by simp,rfl,Nat.zero_le _,by simp⟩ ?_ ?_
   . rintro ⟨sl1,tr1,G⟩ ⟨ex,e1,e2,hl1,hx1,hfold⟩ K;simp only at e1 e2 hl1 hfold;rw[List.drop_length]at hfold;have hfin:=hQ sl1 tr1 G ex e1 e2 hl1 hx1 hfold;clear e1 hfold hQ
     cases G with
     | none =>
       simp [zdG,hE,zP];exact LessQ.mk (Less.auto (by simp[zP]) (by simp[zP,zo,zf]) (by simp[zP]) (by simp[zP]<;>(intro x hx;first|omega|exact⟨.inl hx,by omega⟩))) hfin
     | some G =>
       simp [zdG,hE,zP];exact LessQ.mk (Less.auto (by simp[zP]) (by simp[zP,zo,zf]) (by simp[zP]) (by simp[zP]<;>(intro x hx;first|omega|exact⟨.inl hx,by omega⟩))) hfin
   . rintro j ⟨sl1,tr1,G⟩ hj ⟨ex,e1,e2,hl1,hx1,hfold⟩ K hK;simp only at e1 e2 hl1 hfold;have hj':(j:Int)<vs.length:=by omega
     have hw:IntKind.i64.wrap ((j:Int)+1)=((j+1:Nat):Int):=zJ (by omega);rw[List.drop_eq_getElem_cons hj,List.foldl_cons]at hfold;obtain⟨v,hv⟩:∃ v,vs[j]=v:=⟨_,rfl⟩;rw[hv]at hfold;have hU:=zev sl1 tr1 (zad v);have htl:tr1.length<=tr.length+j:=by rw[e1,List.length_append];omega
     by_cases hfr:Store.freeS ⟨sl1,tr1⟩ (zad v)=true
     . have hfr':=hfr;unfold Store.freeS Store.isSlot at hfr';rw[Bool.and_eq_true,Bool.and_eq_true]at hfr';obtain⟨m,hm⟩:=Option.isSome_iff_exists.1 hfr'.1.2;obtain⟨q,hq1,hq,hq2⟩:=Store.slot?_at hm;have hq:v=(q:Int):=hq;subst hq;have hql:q<sl1.length:=hq1;rw[if_pos hfr]at hU;rw[show Store.lowP xm ⟨sl1,tr1⟩ (q:Int)=_ from by unfold Store.lowP;rw[if_pos hfr]]at hfold;have hsd:Store.slotD ⟨sl1,tr1⟩ (zad (q:Int)).id=m:=by rw[show (zad (q:Int)).id=(q:Int) from rfl,Store.slotD_at (s:=⟨sl1,tr1⟩) hq1,hq2]
       rw[hsd]at hU;rw[show Store.slotD ⟨sl1,tr1⟩ (q:Int)=m from hsd]at hfold;obtain⟨ex2,t3,t4⟩:=(Store.grow_setP ⟨sl1,tr1⟩ (q:Int) { m with home:=min m.home xm }).trail;have hlen2:=(Store.grow_setP ⟨sl1,tr1⟩ (q:Int) { m with home:=min m.home xm }).len;obtain⟨S2,hS2⟩:∃ S2,Store.setP ⟨sl1,tr1⟩ (q:Int) { m with home:=min m.home xm }=S2:=⟨_,rfl⟩;rw[hS2]at t3 hlen2 hfold;obtain⟨sl2,tr2⟩:=S2;simp only at t3 hlen2;subst t3;have hF:=zjG hql (by omega) (by omega) hS2;have hnew:=hK (sl2,tr1++ex2,gN G ex2.length) ⟨ex++ex2,by simp[e1],by simp only;rw[e2,zdE,List.length_append],by simp only;omega,by rw[List.length_append];omega,hfold⟩;clear hfold hK hS2 hfr' hsd hq2 hm;obtain⟨mb,⟨mk,mn,mi,mh,ml⟩,mm,mg⟩:=m;have hmn:(if xm<mm then xm else mm)=min mm xm:=by split<;>omega
       simp[zad]at hU;simp at hF;generalize min mm xm=mz at hmn hF
       cases G with
       | none =>
         rcases ex2 with _|⟨c,ex2⟩
         . simp [zdG,hE,zP,hj,hj',hv,hV,hSl,hU,hSe,hF,hmn,hw,vacant_eq,zad,-Int.natCast_add];exact hnew _ _ (Less.auto (by simp[zP,-Int.natCast_add]) (by simp[zP,zo,zf]) (by simp[zP]) (by simp[zP]<;>(intro x hx;first|omega|exact⟨.inl hx,by omega⟩)))
         . obtain⟨tr2,htr2⟩:∃ tr2,tr1++c::ex2=tr2:=⟨_,rfl⟩;rw[htr2]at hnew;simp [htr2,zdG,hE,zP,hj,hj',hv,hV,hSl,hU,hSe,hF,hmn,hw,vacant_eq,zad,-Int.natCast_add];exact hnew _ _ (Less.auto (by simp[zP,-Int.natCast_add]) (by simp[zP,zo,zf]) (by simp[zP]) (by simp[zP]<;>(intro x hx;first|omega|exact⟨.inl hx,by omega⟩)))
       | some G =>
         obtain⟨tr2,htr2⟩:∃ tr2,tr1++ex2=tr2:=⟨_,rfl⟩;rw[htr2]at hnew;simp [htr2,zdG,hE,zP,hj,hj',hv,hV,hSl,hU,hSe,hF,hmn,hw,vacant_eq,zad,-Int.natCast_add];exact hnew _ _ (Less.auto (by simp[zP,-Int.natCast_add]) (by simp[zP,zo,zf]) (by simp[zP]) (by simp[zP]<;>(intro x hx;first|omega|exact⟨.inl hx,by omega⟩)))
     . rw[if_neg hfr]at hU;rw[show Store.lowP xm ⟨sl1,tr1⟩ v=_ from by unfold Store.lowP;rw[if_neg hfr]]at hfold;have hnew:=hK (sl1,tr1,G) ⟨ex,e1,e2,hl1,by omega,hfold⟩;clear hfold hK;simp[zad,zdi]at hU
       cases G with
       | none =>
         simp [zdG,hE,zP,hj,hj',hv,hV,hSl,hU,hw,vacant_eq,zad,-Int.natCast_add];exact hnew _ _ (Less.auto (by simp[zP,-Int.natCast_add]) (by simp[zP,zo,zf]) (by simp[zP]) (by simp[zP]<;>(intro x hx;first|omega|exact⟨.inl hx,by omega⟩)))
       | some G =>
         simp [zdG,hE,zP,hj,hj',hv,hV,hSl,hU,hw,vacant_eq,zad,-Int.natCast_add];exact hnew _ _ (Less.auto (by simp[zP,-Int.natCast_add]) (by simp[zP,zo,zf]) (by simp[zP]) (by simp[zP]<;>(intro x hx;first|omega|exact⟨.inl hx,by omega⟩)))
 | some g =>
   refine lpi hρ hE hcon vs.length (nn:=8) (fun j (_:List Slot×List Change×Option Nat)=>[(0,.ptr 0 0 0),(4,.ptr 4 0 0),(5,.ptr 5 0 0),(7,.ptr 6 0 0),(60,.sl (vs.map encI) false),(61,.int .i64 (vs.length:Int)),(62,.int .i64 (j:Int))])
    (fun j st=>zP st.1 st.2.1 st.2.2++[(4,.arr 5 0 [[.int .i64 vk,.str vn,.int .i64 (i:Int),.int .i64 vh,.sl (va.map zw) false]] true false false),(5,.arr 5 0 [[.int .i64 tk,.str tn,.int .i64 ti,.int .i64 th,.sl (ta.map zw) false]] true false false),(6,.arr 8 0 [[.bool xb,.int .i64 xk,.str xn,.int .i64 xi,.int .i64 xh,.sl (xl.map zw) false,.int .i64 xm,.bool xg]] true false false)]) (fun j st=>∃ ex,st.2.1=tr++ex/\st.2.2=gN (some g) ex.length/\st.1.length=sl.length/\ex.length<=j/\(vs.drop j).foldl (Store.lowP xm) ⟨st.1,st.2.1⟩=vs.foldl (Store.lowP xm) ⟨sl,tr⟩) (sl,tr,(some g)) hT
    ⟨[],by simp,by simp,rfl,Nat.zero_le _,by simp⟩ ?_ ?_
   . rintro ⟨sl1,tr1,G⟩ ⟨ex,e1,e2,hl1,hx1,hfold⟩ K;simp only at e1 e2 hl1 hfold;rw[List.drop_length]at hfold;have hfin:=hQ sl1 tr1 G ex e1 e2 hl1 hx1 hfold;clear e1 hfold hQ
     cases G with
     | none =>
       exact(by simp at e2:False).elim
     | some G =>
       simp [zdG,hE,zP];exact LessQ.mk (Less.auto (by simp[zP]) (by simp[zP,zo,zf]) (by simp[zP]) (by simp[zP]<;>(intro x hx;first|omega|exact⟨.inl hx,by omega⟩))) hfin
   . rintro j ⟨sl1,tr1,G⟩ hj ⟨ex,e1,e2,hl1,hx1,hfold⟩ K hK;simp only at e1 e2 hl1 hfold;have hj':(j:Int)<vs.length:=by omega
     have hw:IntKind.i64.wrap ((j:Int)+1)=((j+1:Nat):Int):=zJ (by omega);rw[List.drop_eq_getElem_cons hj,List.foldl_cons]at hfold;obtain⟨v,hv⟩:∃ v,vs[j]=v:=⟨_,rfl⟩;rw[hv]at hfold;have hU:=zev sl1 tr1 (zad v);have htl:tr1.length<=tr.length+j:=by rw[e1,List.length_append];omega
     by_cases hfr:Store.freeS ⟨sl1,tr1⟩ (zad v)=true
     . have hfr':=hfr;unfold Store.freeS Store.isSlot at hfr';rw[Bool.and_eq_true,Bool.and_eq_true]at hfr';obtain⟨m,hm⟩:=Option.isSome_iff_exists.1 hfr'.1.2;obtain⟨q,hq1,hq,hq2⟩:=Store.slot?_at hm;have hq:v=(q:Int):=hq;subst hq;have hql:q<sl1.length:=hq1;rw[if_pos hfr]at hU;rw[show Store.lowP xm ⟨sl1,tr1⟩ (q:Int)=_ from by unfold Store.lowP;rw[if_pos hfr]]at hfold;have hsd:Store.slotD ⟨sl1,tr1⟩ (zad (q:Int)).id=m:=by rw[show (zad (q:Int)).id=(q:Int) from rfl,Store.slotD_at (s:=⟨sl1,tr1⟩) hq1,hq2]
       rw[hsd]at hU;rw[show Store.slotD ⟨sl1,tr1⟩ (q:Int)=m from hsd]at hfold;obtain⟨ex2,t3,t4⟩:=(Store.grow_setP ⟨sl1,tr1⟩ (q:Int) { m with home:=min m.home xm }).trail;have hlen2:=(Store.grow_setP ⟨sl1,tr1⟩ (q:Int) { m with home:=min m.home xm }).len;obtain⟨S2,hS2⟩:∃ S2,Store.setP ⟨sl1,tr1⟩ (q:Int) { m with home:=min m.home xm }=S2:=⟨_,rfl⟩;rw[hS2]at t3 hlen2 hfold;obtain⟨sl2,tr2⟩:=S2;simp only at t3 hlen2;subst t3;have hF:=zjG hql (by omega) (by omega) hS2;have hnew:=hK (sl2,tr1++ex2,gN G ex2.length) ⟨ex++ex2,by simp[e1],by simp only;rw[e2,zdE,List.length_append],by simp only;omega,by rw[List.length_append];omega,hfold⟩;clear hfold hK hS2 hfr' hsd hq2 hm;obtain⟨mb,⟨mk,mn,mi,mh,ml⟩,mm,mg⟩:=m;have hmn:(if xm<mm then xm else mm)=min mm xm:=by split<;>omega
       simp[zad]at hU;simp at hF;generalize min mm xm=mz at hmn hF
       cases G with
       | none =>
         exact(by simp at e2:False).elim
       | some G =>
         obtain⟨tr2,htr2⟩:∃ tr2,tr1++ex2=tr2:=⟨_,rfl⟩;rw[htr2]at hnew;simp [htr2,zdG,hE,zP,hj,hj',hv,hV,hSl,hU,hSe,hF,hmn,hw,vacant_eq,zad,-Int.natCast_add];exact hnew _ _ (Less.auto (by simp[zP,-Int.natCast_add]) (by simp[zP,zo,zf]) (by simp[zP]) (by simp[zP]<;>(intro x hx;first|omega|exact⟨.inl hx,by omega⟩)))
     . rw[if_neg hfr]at hU;rw[show Store.lowP xm ⟨sl1,tr1⟩ v=_ from by unfold Store.lowP;rw[if_neg hfr]]at hfold;have hnew:=hK (sl1,tr1,G) ⟨ex,e1,e2,hl1,by omega,hfold⟩;clear hfold hK;simp[zad,zdi]at hU
       cases G with
       | none =>
         exact(by simp at e2:False).elim
       | some G =>
         simp [zdG,hE,zP,hj,hj',hv,hV,hSl,hU,hw,vacant_eq,zad,-Int.natCast_add];exact hnew _ _ (Less.auto (by simp[zP,-Int.natCast_add]) (by simp[zP,zo,zf]) (by simp[zP]) (by simp[zP]<;>(intro x hx;first|omega|exact⟨.inl hx,by omega⟩)))
end
theorem zqs:Valid ρ Tryz.prog 101 (fnS (zbq fun t:Ty=>some (zaH t))):=v1 (fo Tryz.func101 zFG) fun a r h hs=>by
 cases h;exact zfR hρ (E:=EL []) rfl (zu valid_nil) hs
end
end Go.Proofs.YtfgmnebfhemnpaaGreat
