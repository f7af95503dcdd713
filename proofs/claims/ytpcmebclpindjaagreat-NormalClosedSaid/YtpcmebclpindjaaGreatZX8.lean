import Derived.Test.YtpcmebclpindjaaGreatZX7
import Derived.Test.YtpcmebclpindjaaGreatJHb
import Derived.Test.YtpcmebclpindjaaGreatJHa
import Derived.Test.YtpcmebclpindjaaGreatJY
set_option linter.all false
noncomputable section
/- scheme.bounds,scheme.Valid,the reference's bounds and Valid: walked. -/
namespace Go.Proofs.YtpcmebclpindjaaGreat
open Go.J
open Go.J.Enc (enc)
set_option maxRecDepth 100000
set_option maxHeartbeats 4000000
mutual
theorem zjM:∀ (t:Ty) (b:List Int),t.bnds=some b->b.length<=t.size
 | .mk k n i h l=>fun b hb=>by
   rw[Ty.bnds]at hb;rw[Ty.size_eq,Ty.args_mk];split at hb
   . cases hb;simp
   . split at hb
     . cases hb
     . have:=zl8 l [] b hb;simp at this;omega
theorem zl8:∀ (l:List Ty) (o b:List Int),Ty.bndsL l o=some b->b.length<=o.length+Ty.sizes l
 | []=>fun o b hb=>by rw[Ty.bndsL]at hb;cases hb;simp
 | t :: l=>fun o b hb=>by
   rw[Ty.bndsL]at hb;rw[Ty.sizes]
   cases ht:t.bnds with
   |none=>rw[ht]at hb;cases hb
   | some c =>
     rw[ht]at hb;have h1:=zjM t c ht;have h2:=zl8 l (zcH o c) b hb;have h3:=zmZ o c;omega
end
mutual
theorem zgx:∀ (t:Ty) (o:List Int),o.length<=(t.rbnd o).length/\(t.rbnd o).length<=o.length+t.size
 | .mk k n i h l=>fun o=>by
   rw[Ty.rbnd,Ty.size_eq,Ty.args_mk];have:=zcZ l (if k=2/\i ∉ o then o++[i]else o);split at this
   . rename_i hh;rw[if_pos hh];simp at this ⊢;omega
   . rename_i hh;rw[if_neg hh];omega
theorem zcZ:∀ (l:List Ty) (o:List Int),o.length<=(Ty.rbnds l o).length/\(Ty.rbnds l o).length<=o.length+Ty.sizes l
 | []=>fun o=>by rw[Ty.rbnds];simp
 | t::l=>fun o=>by
   rw[Ty.rbnds,Ty.sizes];have h1:=zgx t o;have h2:=zcZ l (t.rbnd o);omega
end
theorem zq0(a b:List Ty)(o:List Int):Ty.rbnds (a++b) o=Ty.rbnds b (Ty.rbnds a o):=by
 induction a generalizing o with
 |nil=>rfl
 |cons t a ih=>exact ih _
def zp4(o:Option (List Int)):List Int×Bool:=match o with
 |some b=>(b,true)
 |none=>([],false)
def z6D(d:Nat)(t:Ty):Option (List Int×Bool):=if t.size<=d/\t.ok=true/\d<=10000 then some (zp4 t.bnds)else none
def rbF(d:Nat)(L:List Int)(t:Ty):Option (List Int):=if t.size<=d/\t.ok=true/\L.length+t.size<=10000 then some (t.rbnd L)else none
def tok(t:Ty):Bool:=decide (t.size<=10000)&&t.ok&&t.short
theorem tok_iff{t:Ty}:tok t=true↔t.size<=10000/\t.ok=true/\t.short=true:=by simp[tok,and_assoc]
section
variable {ρ:Nat->Value}(hρ:J.Good ρ)
include hρ
section
variable {E:Env}(hE:E.P=Tryz.prog)(hcon:ConsOk ρ E)
include hE hcon
theorem zd5 (hC:E.con 122=zmy) {tl:List Ty} {i:Nat} {b O0:List Int} (hb:b.length<=10000) (hO0:O0.length<=10000) {T:PT V} {hs:HS} {Q:Ex->PT V->HS->Prop}
 (h0:Less 0 T hs (mkP [(4,oV 0 (O0.map encI)),(21,.sl (tl.map zg) false),(22,.int .i64 (tl.length:Int)),(23,.int .i64 (i:Int)),(34,.sl (b.map encI) false),(35,.int .i64 (b.length:Int)),(36,.int .i64 ((0:Nat):Int))]) { H:=mkP (oH 0 1 (O0.map encI)),n:=1,log:=[] })
 (hQ:Q (.exit 3) (mkP [(4,oV 0 ((zcH O0 b).map encI)),(21,.sl (tl.map zg) false),(22,.int .i64 (tl.length:Int)),(23,.int .i64 (i:Int))]) { H:=mkP (oH 0 1 ((zcH O0 b).map encI)),n:=1,log:=[] }) :
 Ls ρ E 0 51 (.loop zfO) T hs Q:=by
 refine lpi hρ hE hcon b.length (nn:=1) (fun j (O:List Int)=>[(4,oV 0 (O.map encI)),(21,.sl (tl.map zg) false),(22,.int .i64 (tl.length:Int)),(23,.int .i64 (i:Int)),(34,.sl (b.map encI) false),(35,.int .i64 (b.length:Int)),(36,.int .i64 (j:Int))]) (fun j O=>oH 0 1 (O.map encI))
  (fun j O=>zcH O (b.drop j)=zcH O0 b/\O.length<=10000+j) O0 h0 ⟨by simp,by omega⟩ ?_ ?_
 . intro O hO K;have hO1:=hO.1;rw[List.drop_length,zcH]at hO1;rw[<- hO1]at hQ;rcases O with _|⟨x,O⟩<;>simp [zfO,hE]
   all_goals exact LessQ.mk (Less.auto (by simp) (by simp) rfl rfl) hQ
 . intro j O hj hO K hK;have hj':(j:Int)<b.length:=by omega
   have hw2:IntKind.i64.wrap ((j:Int)+1)=((j+1:Nat):Int):=zw (by omega);obtain⟨hO1,hO2⟩:=hO;rw[List.drop_eq_getElem_cons hj,zcH]at hO1;by_cases hm:b[j]∈O
   . rw[if_pos hm]at hO1;have hnew:=hK O ⟨hO1,by omega⟩;have k1:O.length<=1000000:=by omega
     rcases O with _|⟨x,O⟩
     . cases hm
     . have k2:O.length+1<=1000000:=by simpa using k1
       simp [zfO,hE,hj,hj',hC,zmy,hm,k2,hw2,-Int.natCast_add,-List.mem_cons];exact hnew _ _ (Less.auto (by simp[-Int.natCast_add]) (by simp) rfl rfl)
   . rw[if_neg hm]at hO1;have hnew:=hK (O++[b[j]]) ⟨hO1,by simp;omega⟩;have k1:O.length<=1000000:=by omega
     rcases O with _|⟨x,O⟩
     . simp [zfO,hE,hj,hj',hC,zmy,hw2,-Int.natCast_add];exact hnew _ _ (Less.auto (by simp[-Int.natCast_add]) (by simp) rfl rfl)
     . have k2:O.length+1<=1000000:=by simpa using k1
       have k3:(O.length+1+1)*8<=1048576:=Nat.le_trans (Nat.mul_le_mul_right 8 (show O.length+1+1<=20002 by simp at hO2;omega)) (by decide);simp [zfO,hE,hj,hj',hC,zmy,hm,k2,k3,hw2,Nat.not_succ_le_self,-Int.natCast_add,-List.mem_cons];exact hnew _ _ (Less.auto (by simp[-Int.natCast_add]) (by simp) rfl rfl)
theorem zfA {d:Nat} (hc:E.con 165=fnS (zy (z6D d))) (hC:E.con 122=zmy) (hd2:d+1<=10000) {t:Ty} (ht:t.ok=true) (hd:t.size<=d+1) (hs:HS):CallOk ρ Tryz.prog 165 [enc t] hs (enc (zp4 t.bnds)) hs:=by
 refine fn hρ hE hcon Tryz.func165 z5T rfl (by simp) ?_ hs;have hlen:=Ty.ok_len ht;have hsz:=Ty.size_eq t;have hargs:=(Ty.ok_iff.1 ht).2;obtain⟨tk,tn,ti,th,tl⟩:=t;simp only[Ty.args_mk]at hlen hsz hargs;have hsl:Ty.sizes tl<=d:=by omega
 clear hsz hd;rw[Ty.bnds];by_cases k2:tk=2
 . subst k2;simp [hE,zp4]
 by_cases k5:tk=5
 . subst k5;simp [hE,zp4]
 rw[if_neg k2,if_neg k5];generalize hR:Ty.bndsL tl []=R;simp [hE,k2,k5]
 refine lpi hρ hE hcon tl.length (nn:=1) (fun i (O:List Int)=>[(4,oV 0 (O.map encI)),(21,.sl (tl.map zg) false),(22,.int .i64 (tl.length:Int)),(23,.int .i64 (i:Int))]) (fun i O=>oH 0 1 (O.map encI))
  (fun i O=>Ty.bndsL (tl.drop i) O=R/\O.length+Ty.sizes (tl.drop i)<=d) []
  (Less.auto (by simp) (by simp) rfl rfl) ⟨by simpa using hR,by simpa using hsl⟩ ?_ ?_
 . intro O hO K;have hO1:=hO.1;rw[List.drop_length,Ty.bndsL]at hO1;subst hO1;rcases O with _|⟨x,O⟩<;>simp [zhw,hE]
   . refine LessQ.mk (Less.auto (TL:=[(4,.snil)]) (HL:=[]) (n:=1) (by simp) (by simp) rfl rfl) ?_;simp [hE,zp4]
   . refine LessQ.mk (Less.auto (TL:=[(4,oV 0 ((x::O).map encI))]) (HL:=oH 0 1 ((x::O).map encI)) (n:=1) (by simp) (by simp) rfl rfl) ?_;simp [hE,zp4]
 . intro i O hi hO K hK;have hi':(i:Int)<tl.length:=by omega
   have hw2:IntKind.i64.wrap ((i:Int)+1)=((i+1:Nat):Int):=zw (by omega);obtain⟨hO1,hO2⟩:=hO;rw[List.drop_eq_getElem_cons hi,Ty.bndsL]at hO1;rw[List.drop_eq_getElem_cons hi,Ty.sizes]at hO2;have hxo:=hargs _ (List.getElem_mem hi);obtain⟨x,hx⟩:∃ x,tl[i]=x:=⟨_,rfl⟩;rw[hx]at hO1 hO2 hxo;have hF:z6D d x=some (zp4 x.bnds):=if_pos ⟨by omega,hxo,by omega⟩;have hbl:=zjM x;generalize x.bnds=q at hF hO1 hbl;have hol:O.length<=10000:=by omega
   generalize x.size=z at hO2 hbl;obtain⟨xk,xn,xi,xh,xl⟩:=x
   cases q with
   | none =>
     rw[show zp4 none=([],false) from rfl]at hF;have hO1:none=R:=hO1;subst hO1;rcases O with _|⟨y,O⟩<;>simp [zhw,hE,hi,hi',hx,hc,hF]
     all_goals
      refine LessQ.mk (Less.auto (TL:=[(2,.snil),(3,.bool false)]) (HL:=[]) (n:=1) (by simp) (by simp) rfl rfl) ?_;simp [hE,zp4]
   | some b =>
     rw[show zp4 (some b)=(b,true) from rfl]at hF;have hO1:Ty.bndsL (tl.drop (i+1)) (zcH O b)=R:=hO1;have hbl:=hbl b rfl;have hul:=zmZ O b;have hnew:=hK (zcH O b) ⟨hO1,by omega⟩;rcases O with _|⟨y,O⟩
     . simp [zhw,hE,hi,hi',hx,hc,hF];refine zd5 hρ hE hcon hC (tl:=tl) (i:=i) (b:=b) (O0:=[]) (by omega) hol (Less.auto (by simp) (by simp) rfl rfl) ?_;generalize zcH [] b=U at hnew;rcases U with _|⟨u,U⟩<;>simp [hE,hw2,-Int.natCast_add]
       all_goals exact hnew _ _ (Less.auto (by simp[-Int.natCast_add]) (by simp) rfl rfl)
     . simp [zhw,hE,hi,hi',hx,hc,hF];refine zd5 hρ hE hcon hC (tl:=tl) (i:=i) (b:=b) (O0:=y::O) (by omega) hol (Less.auto (by simp) (by simp) rfl rfl) ?_;generalize zcH (y::O) b=U at hnew;rcases U with _|⟨u,U⟩<;>simp [hE,hw2,-Int.natCast_add]
       all_goals exact hnew _ _ (Less.auto (by simp[-Int.natCast_add]) (by simp) rfl rfl)
theorem zgl (hc:E.con 165=fnS (zy (z6D 10000))) (hV:E.con 92=zci 10000) {c:Scheme} (ht:tok c.type=true) (hs:HS):CallOk ρ Tryz.prog 97 [enc c] hs (enc (zaa c)) hs:=by
 refine fn hρ hE hcon Tryz.func97 zMB rfl (by simp) ?_ hs;obtain⟨h1,h2,h3⟩:=tok_iff.1 ht;rw[<- zlW,zlX];obtain⟨n,t⟩:=c;simp only[]at h1 h2 h3 ⊢;have hF:z6D 10000 t=some (zp4 t.bnds):=if_pos ⟨h1,h2,Nat.le_refl _⟩;have hbl:=zjM t;generalize t.bnds=q at hF hbl;generalize hv:t.valid=v;obtain⟨tk,tn,ti,th,tl⟩:=t
 cases q with
 | none =>
   rw[show zp4 none=([],false) from rfl]at hF;simp [hE,hc,hF]
 | some b =>
   rw[show zp4 (some b)=(b,true) from rfl]at hF;have hbl:=hbl b rfl;have hbl:b.length<=10000:=by omega
   cases v with
   |false=>simp [hE,hc,hF,hV,zci,h1,h3,hv]
   | true =>
     by_cases hn:(b.length:Int)=n
     case neg=>simp [hE,hc,hF,hV,zci,h1,h3,hv,hn]
     subst hn;simp only[decide_true,Bool.true_and];generalize hr:zeO b 0=r;simp [hE,hc,hF,hV,zci,h1,h3,hv]
     refine lpi hρ hE hcon b.length (nn:=0) (fun i (_:Unit)=>[(28,.sl (b.map encI) false),(29,.int .i64 (b.length:Int)),(30,.int .i64 (i:Int))]) (fun _ _=>[]) (fun i _=>zeO (b.drop i) (i:Int)=r) ()
      (Less.auto (by simp) (by simp) rfl rfl) (by simpa using hr) ?_ ?_
     . intro _ h K;rw[List.drop_length,zeO]at h;simp [zn4,hE];refine LessQ.mk (Less.auto (TL:=[]) (HL:=[]) (n:=0) (by simp) (by simp) rfl rfl) ?_;simp [hE,<- h]
     . intro i _ hi h K hK;have hi':(i:Int)<b.length:=by omega
       have hw2:IntKind.i64.wrap ((i:Int)+1)=((i+1:Nat):Int):=zw (by omega);rw[List.drop_eq_getElem_cons hi,zeO]at h;by_cases he:b[i]=(i:Int)
       . rw[he,decide_eq_true rfl,Bool.true_and]at h;have hnew:=hK () h;simp [zn4,hE,hi,hi',he,hw2,-Int.natCast_add];exact hnew _ _ (Less.auto (by simp[-Int.natCast_add]) (by simp) rfl rfl)
       . have he':¬ (i:Int)=b[i]:=fun e=>he e.symm
         rw[decide_eq_false he,Bool.false_and]at h;simp [zn4,hE,hi,hi',he'];refine LessQ.mk (Less.auto (TL:=[(2,.bool false)]) (HL:=[]) (n:=0) (by simp) (by simp) rfl rfl) ?_;simp [hE,<- h]
theorem zfD {d:Nat} (hc:E.con 168=ioS 1 (zxm (rbF d)) zgs) {k:Nat} {t:Ty} {L0:List Int} (hk:k=0\/k=1/\L0≠[]) (ht:t.ok=true) (hd:t.size<=d+1) (hl0:L0.length+Ty.sizes t.args<=10000) {Q:Ex->PT V->HS->Prop}
 (hQ:Q (.exit 0) (mkP [(0,oV 0 ((Ty.rbnds t.args L0).map encI))]) { H:=mkP (oH 0 1 ((Ty.rbnds t.args L0).map encI)),n:=1,log:=[] }) :
 ∀ (n i:Nat) (L:List Int),i+n=t.args.length->L=Ty.rbnds (t.args.take i) L0->LsN ρ E k 36 zeQ (LessQ k Q) (n+1) (mkP [(0,oV 0 (L.map encI)),(3,.ptr 1 0 0),(5,.int .i64 (i:Int))])
   { H:=mkP ((1,box (zg t))::oH 0 1 (L.map encI)),n:=2,log:=[] }:=by
 intro n
 induction n with
 | zero =>
   intro i L hi hL;have hil:¬ (i:Int)<t.args.length:=by omega
   have e:L=Ty.rbnds t.args L0:=by rw[hL,List.take_of_length_le (by omega)]
   rw[<- e]at hQ;have hlen:=zcZ t.args L0;rw[<- e]at hlen;refine lp hρ hE hcon fun K hK=>?_
   rcases L with _|⟨x,L⟩
   . have hk0:k=0:=by
      rcases hk with h|⟨_,h⟩
      . exact h
      . cases L0 with
        |nil=>exact absurd rfl h
        |cons a l=>simp at hlen
     subst hk0;simp [zeQ,hE,hil];exact LessQ.mk (Less.keep 1 (by simp) (by simp) rfl rfl) hQ
   . simp [zeQ,hE,hil];rcases hk with rfl|⟨rfl,_⟩<;>exact LessQ.mk (Less.keep 1 (by simp) (by simp) rfl rfl) hQ
 | succ n ih =>
   intro i L hi hL;have hil:i<t.args.length:=by omega
   have hil':(i:Int)<t.args.length:=by omega
   have hw:IntKind.i64.wrap ((i:Int)+1)=((i+1:Nat):Int):=zw (by have:=Ty.ok_len ht;omega);have hm:=List.getElem_mem hil;have hs1:=Ty.size_arg hm;have hok:=Ty.ok_arg ht hm;have hlen:=zcZ (t.args.take i) L0;rw[<- hL]at hlen
   have hsz:Ty.sizes (t.args.take i)+t.args[i].size<=Ty.sizes t.args:=by
    have:=zds t.args (i+1);rw[List.take_add_one,List.getElem?_eq_getElem hil,zfd]at this;simpa [Ty.sizes]using this
   have hnew:t.args[i].rbnd L=Ty.rbnds (t.args.take (i+1)) L0:=by
    rw[List.take_add_one,List.getElem?_eq_getElem hil,Option.toList_some,zq0,<- hL];rfl
   have hF:rbF d L t.args[i]=some (t.args[i].rbnd L):=by
    unfold rbF;rw[if_pos ⟨by omega,hok,by omega⟩]
   have hml:=zgx t.args[i] L;refine lp hρ hE hcon fun K hK=>?_
   generalize hR:t.args[i].rbnd L=R at hF hnew hml;rcases L with _|⟨x,L⟩
   . have hk0:k=0:=by
      rcases hk with h|⟨_,h⟩
      . exact h
      . cases L0 with
        |nil=>exact absurd rfl h
        |cons a l=>simp at hlen
     subst hk0;rcases R with _|⟨y,R⟩<;>simp [zeQ,hE,hil,hil',hc,hw,hF,zgs,-Int.natCast_add]
     all_goals exact hK _ _ (z8 (Less.auto (by simp[-Int.natCast_add]) (by simp) rfl rfl) (ih (i+1) _ (by omega) hnew))
   . rcases R with _|⟨y,R⟩
     . simp at hml
     . have hml0:L.length<=R.length:=by simp at hml;omega
       simp [zeQ,hE,hil,hil',hc,hw,hF,zgs,hml0,-Int.natCast_add];rcases hk with rfl|⟨rfl,_⟩<;>exact hK _ _ (z8 (Less.auto (by simp[-Int.natCast_add]) (by simp) rfl rfl) (ih (i+1) _ (by omega) hnew))
theorem zgq {d:Nat} (hcH:E.con 126=zmy) (hc:E.con 168=ioS 1 (zxm (rbF d)) zgs) {L:List Int} {t:Ty} (ht:t.ok=true) (hd:t.size<=d+1) (hl0:L.length+t.size<=10000)
 {hs:HS} {v:V} (hv:rowOf 1 hs v=some (L.map encI)) (hvac:hs.H.get hs.n=none):CallOk ρ Tryz.prog 168 [v,enc t] hs (zbA 1 v (L.map encI) ((t.rbnd L).map encI) hs).1 (zbA 1 v (L.map encI) ((t.rbnd L).map encI) hs).2:=by
 have hlen:=zgx t L;refine io hρ hE hcon (K:=zgs) (rs:=[]) (.inl rfl) Tryz.func168 z5Q rfl (by simp) (by simp) (by simp) rfl (by simpa using hlen.1) ?_ hv hvac;clear hv hvac;have hsz:=Ty.size_eq t
 have go:∀ (k:Nat) (L0:List Int),(k=0\/k=1/\L0≠[])->L0.length+Ty.sizes t.args<=10000->∀ T hs',Less k T hs' (mkP [(0,oV 0 (L0.map encI)),(3,.ptr 1 0 0),(5,.int .i64 ((0:Nat):Int))]) { H:=mkP ((1,box (zg t))::oH 0 1 (L0.map encI)),n:=2,log:=[] } ->
  ∀ Q,Q (.exit 0) (mkP [(0,oV 0 ((Ty.rbnds t.args L0).map encI))]) { H:=mkP (oH 0 1 ((Ty.rbnds t.args L0).map encI)),n:=1,log:=[] }->Ls ρ E k 36 (.loop zeQ) T hs' Q:=fun k L0 hk h0 T hs' hl Q hQ =>
  zbx (zbH (z8 hl (zfD hρ hE hcon hc hk ht hd h0 hQ t.args.length 0 L0 (by omega) rfl)))
 rw[Ty.rbnd_eq];by_cases hleaf:t.kind=2/\t.id ∉ L
 . rw [if_pos hleaf];have hgl:=zcZ t.args (L++[t.id]);obtain⟨hkd,hid⟩:=hleaf;rcases L with _|⟨x,L⟩
   . have go:=go 0 [t.id] (.inl rfl) (by simp at hl0 ⊢;omega);simp [hE,hkd,hcH,zmy];refine go _ _ (Less.auto (by simp) (by simp[hkd]) rfl rfl) _ ?_;rw[List.nil_append]at hgl;generalize Ty.rbnds t.args [t.id]=R at hgl;rcases R with _|⟨y,R⟩
     . simp at hgl
     . simp [hE];exact GivesL.keepX rfl rfl rfl (by simp)
   . have go:=go 1 (x::(L++[t.id])) (.inr ⟨rfl,by simp⟩) (by simp at hl0 ⊢;omega);rw[List.cons_append]at hgl;have k2:L.length+1<=1000000:=by simp at hl0;omega
     have k3:(L.length+1+1)*8<=1048576:=Nat.le_trans (Nat.mul_le_mul_right 8 (show L.length+1+1<=20002 by simp at hl0;omega)) (by decide);simp [hE,hkd,hcH,zmy,hid,k2,k3,Nat.not_succ_le_self,-List.mem_cons];refine go _ _ (Less.auto (by simp) (by simp[hkd]) rfl rfl) _ ?_;generalize Ty.rbnds t.args (x::(L++[t.id]))=R at hgl;rcases R with _|⟨y,R⟩
     . simp at hgl
     . simp [hE];exact GivesL.keepX rfl rfl rfl (by simp)
 . rw [if_neg hleaf];have hgl:=zcZ t.args L;rcases L with _|⟨x,L⟩
   . have go:=go 0 [] (.inl rfl) (by simp at hl0 ⊢;omega);have hk2:¬ t.kind=2:=fun h=>hleaf ⟨h,by simp⟩
     simp [hE,hk2];refine go _ _ (Less.auto (by simp) (by simp) rfl rfl) _ ?_;generalize Ty.rbnds t.args []=R;rcases R with _|⟨y,R⟩<;>simp [hE]<;>exact GivesL.keepX rfl rfl rfl (by simp)
   . have go:=go 1 (x::L) (.inr ⟨rfl,by simp⟩) (by simp at hl0 ⊢;omega);have k2:L.length+1<=1000000:=by simp at hl0;omega
     by_cases hk2:t.kind=2
     . have hid:t.id∈x::L:=Decidable.byContradiction fun h=>hleaf ⟨hk2,h⟩
       simp [hE,hk2,hcH,zmy,hid,k2,-List.mem_cons];refine go _ _ (Less.auto (by simp) (by simp[hk2]) rfl rfl) _ ?_;generalize Ty.rbnds t.args (x::L)=R at hgl;rcases R with _|⟨y,R⟩
       . simp at hgl
       . simp [hE];exact GivesL.keepX rfl rfl rfl (by simp)
     . simp [hE,hk2];refine go _ _ (Less.auto (by simp) (by simp) rfl rfl) _ ?_;generalize Ty.rbnds t.args (x::L)=R at hgl;rcases R with _|⟨y,R⟩
       . simp at hgl
       . simp [hE];exact GivesL.keepX rfl rfl rfl (by simp)
theorem zgP (hc:E.con 168=ioS 1 (zxm (rbF 10000)) zgs) (hV:E.con 166=zbJ 10000) (hK:E.con 167=fnS (zH (ziw 10000))) {c:Scheme} (ht:tok c.type=true) (hs:HS):CallOk ρ Tryz.prog 98 [enc c] hs (enc (zaa c)) hs:=by
 refine fn hρ hE hcon Tryz.func98 zMA rfl (by simp) ?_ hs;obtain⟨h1,h2,h3⟩:=tok_iff.1 ht;rw[zaa];obtain⟨n,t⟩:=c;simp only[]at h1 h2 h3 ⊢;have hF:rbF 10000 [] t=some (t.rbnd []):=if_pos ⟨h1,h2,by simpa using h1⟩;have hF5:ziw 10000 t 5=some (t.hasK 5):=if_pos ⟨h2,h1⟩;have hll:=(zgx t []).2;generalize t.rbnd []=L at hF hll;generalize t.hasK 5=b5 at hF5;generalize hv:t.valid=v;obtain⟨tk,tn,ti,th,tl⟩:=t
 cases v with
 |false=>simp [hE,hV,zbJ,h1,h2,h3,hv]
 | true =>
   cases b5 with
   |true=>simp [hE,hV,zbJ,h1,h2,h3,hv,hK,hF5]
   | false =>
     have hll:L.length<=10000:=by simp at hll;omega
     rw[show (true&&!false&&zeO L 0&&decide ((L.length:Int)=n))=(zeO L 0&&decide ((L.length:Int)=n)) from rfl];generalize hr:zeO L 0=r
     have loop:∀ T hs' Q,Less 0 T hs' (mkP [(1,.ptr 0 0 0),(3,oV 1 (L.map encI)),(4,.int .i64 ((0:Nat):Int))]) { H:=mkP ((0,box (Cel.cells (⟨n,.mk tk tn ti th tl⟩:Scheme)))::oH 1 1 (L.map encI)),n:=2,log:=[] } ->
      (r=true->Q (.exit 0) (mkP [(1,.ptr 0 0 0),(3,oV 1 (L.map encI))]) { H:=mkP ((0,box (Cel.cells (⟨n,.mk tk tn ti th tl⟩:Scheme)))::oH 1 1 (L.map encI)),n:=2,log:=[] }) ->
      (r=false->Q .ret (mkP [(2,.bool false)]) { H:=mkP [],n:=2,log:=[] })->Ls ρ E 0 34 (.loop zhr) T hs' Q:=by
      intro T hs' Q hl0 hq1 hq2;refine lpi hρ hE hcon L.length (nn:=2) (fun i (_:Unit)=>[(1,.ptr 0 0 0),(3,oV 1 (L.map encI)),(4,.int .i64 (i:Int))]) (fun _ _=>(0,box (Cel.cells (⟨n,.mk tk tn ti th tl⟩:Scheme)))::oH 1 1 (L.map encI)) (fun i _=>zeO (L.drop i) (i:Int)=r) () hl0 (by simpa using hr) ?_ ?_
      . intro _ h K;rw[List.drop_length,zeO]at h;have hq:=hq1 h.symm;rcases L with _|⟨x,L⟩<;>simp [zhr,hE]
        all_goals exact LessQ.mk (Less.auto (by simp) (by simp) rfl rfl) hq
      . intro i _ hi h K hK;have hi':(i:Int)<L.length:=by omega
        have hw2:IntKind.i64.wrap ((i:Int)+1)=((i+1:Nat):Int):=zw (by omega);rw[List.drop_eq_getElem_cons hi,zeO]at h;have hgi:(L.map encI)[i]?=some (encI L[i]):=by rw[List.getElem?_map,List.getElem?_eq_getElem hi];rfl
        by_cases he:L[i]=(i:Int)
        . rw[he,decide_eq_true rfl,Bool.true_and]at h;have hnew:=hK () h;rw[he]at hgi;rcases L with _|⟨x,L⟩
          . simp at hi
          have hil2:(i:Int)<(L.length:Int)+1:=by simpa using hi'
          have hil3:i<L.length+1:=by simpa using hi
          simp only[List.map_cons]at hgi;have hgi3:∀ h,(encI x::L.map encI)[i]'h=encI (i:Int):=fun h=>(List.getElem?_eq_some_iff.1 hgi).2
          simp [Nat.mod_one,zhr,hE,hil2,hil3,hw2,-Int.natCast_add];simp only[encI]at hgi3;simp [Nat.mod_one,hgi3,zhr,hE,hil2,hil3,hw2,-Int.natCast_add];exact hnew _ _ (Less.auto (by simp[-Int.natCast_add]) (by simp) rfl rfl)
        . rw[decide_eq_false he,Bool.false_and]at h;have hq:=hq2 h.symm;generalize L[i]=y at hgi he;rcases L with _|⟨x,L⟩
          . simp at hi
          have hil2:(i:Int)<(L.length:Int)+1:=by simpa using hi'
          have hil3:i<L.length+1:=by simpa using hi
          simp only[List.map_cons]at hgi;have hgi3:∀ h,(encI x::L.map encI)[i]'h=encI y:=fun h=>(List.getElem?_eq_some_iff.1 hgi).2
          simp [Nat.mod_one,zhr,hE,hil2,hil3];simp [Nat.mod_one,hgi3,he,zhr,hE,hil2,hil3];exact LessQ.mk (Less.auto (by simp) (by simp) rfl rfl) hq
     rcases L with _|⟨x,L⟩
     . simp [hE,hV,zbJ,h1,h2,h3,hv,hK,hF5,hc,hF,zgs];refine loop _ _ _ (Less.auto (by simp) (by simp) rfl rfl) (fun e=>?_) (fun e=>?_)
       . subst e;simp [hE]
       . subst e;simp [hE]
     . simp [hE,hV,zbJ,h1,h2,h3,hv,hK,hF5,hc,hF,zgs];refine loop _ _ _ (Less.auto (by simp) (by simp) rfl rfl) (fun e=>?_) (fun e=>?_)
       . subst e;simp [hE]
       . subst e;simp [hE]
end
theorem z3T(d:Nat)(hd:d<=10000):Valid ρ Tryz.prog 165 (fnS (zy (z6D d))):=by
 induction d with
 | zero =>
   refine v1 (fo Tryz.func165 z5T) fun a r h hs=>?_
   obtain⟨⟨h1,h2,h3⟩,rfl⟩:=zo h;have:=Ty.size_pos a;omega
 | succ d ih =>
   refine v1 (fo Tryz.func165 z5T) fun a r h hs=>?_
   obtain⟨⟨h1,h2,h3⟩,rfl⟩:=zo h;exact zfA hρ (E:=EL [(165,fnS (zy (z6D d))),(122,zmy)]) rfl (zf (za (ih (by omega)) (za (zpY hρ) valid_nil))) rfl rfl h3 h2 h1 hs
def zvA:J.Spec:=fnS (zy fun c:Scheme=>if tok c.type=true then some (zaa c)else none)
theorem z3N:Valid ρ Tryz.prog 97 zvA:=v1 (fo Tryz.func97 zMB) fun a r h hs=>by
 obtain⟨h1,rfl⟩:=zo h;exact zgl hρ (E:=EL [(165,fnS (zy (z6D 10000))),(92,zci 10000)]) rfl (zf (za (z3T hρ 10000 (by omega)) (za (zpO hρ 10000 (by omega)) valid_nil))) rfl rfl h1 hs
theorem zwd(d:Nat):Valid ρ Tryz.prog 168 (ioS 1 (zxm (rbF d)) zgs):=by
 induction d with
 | zero =>
   refine Valid.io (fo Tryz.func168 z5Q) fun es vs r _ _ h0 _ _ _ hs v hv hvac=>?_
   obtain⟨l,a,q,rfl,rfl,h,rfl⟩:=znz h0;obtain⟨⟨h1,h2,h3⟩,rfl⟩:=zo h;have:=Ty.size_pos a;omega
 | succ d ih =>
   refine Valid.io (fo Tryz.func168 z5Q) fun es vs r _ _ h0 _ _ _ hs v hv hvac=>?_
   obtain⟨l,a,q,rfl,rfl,h,rfl⟩:=znz h0;obtain⟨⟨h1,h2,h3⟩,rfl⟩:=zo h;exact zgq hρ (E:=EL [(126,zmy),(168,ioS 1 (zxm (rbF d)) zgs)]) rfl (zf (za (zHb hρ) (za ih valid_nil))) rfl rfl h2 h1 h3 hv hvac
theorem zwa:Valid ρ Tryz.prog 98 zvA:=v1 (fo Tryz.func98 zMA) fun a r h hs=>by
 obtain⟨h1,rfl⟩:=zo h;exact zgP hρ (E:=EL [(168,ioS 1 (zxm (rbF 10000)) zgs),(166,zbJ 10000),(167,fnS (zH (ziw 10000)))]) rfl (zf (za (zwd hρ 10000) (za (zpQ hρ 10000 (by omega)) (za (zi2 hρ 10000) valid_nil)))) rfl rfl rfl h1 hs
end
end Go.Proofs.YtpcmebclpindjaaGreat
/- normal.Closed,ref28.Closed: walked. -/
namespace Go.Proofs.YtpcmebclpindjaaGreat
open Go.J
open Go.J.Enc (enc)
set_option maxRecDepth 100000
set_option maxHeartbeats 1000000
def z6J(e:Entry):Option Bool:=if tok e.scheme.type=true then some (!(zaa e.scheme&&e.scheme.type.closed true&&decide (e.scheme.type.size<=200)))else none
def z8g(g:Nat)(F:Entry->Option Bool)(vs:List V):Option V:=match vs with
 | [a,.func g' []]=>gd (Nat.beq g' g) (ob (Enc.dec a:Option (List Entry)) fun l=>if l.length<=100000/\∀ x∈l,(F x).isSome=true then some (enc (zeP (fun x=>(F x).getD false) l 0))else none)
 |_=>none
def z8V(g:Nat)(F:Entry->Option Bool)(vs:List V):Option V:=match vs with
 | [a,.func g' []]=>gd (Nat.beq g' g) (ob (Enc.dec a:Option (List Entry)) fun l=>if l.length<=100000/\∀ x∈l,(F x).isSome=true then some (enc (l.any fun x=>(F x).getD false))else none)
 |_=>none
section
variable {ρ:Nat->Value}(hρ:J.Good ρ)
include hρ
section
variable {E:Env}(hE:E.P=Tryz.prog)(hcon:ConsOk ρ E)
include hE hcon
theorem z5b{F:Entry->Option Bool}(hc:E.con 96=fnS (zy F)){l:List Entry}(hl:l.length<=100000)(hall:∀ x∈l,(F x).isSome=true)(hs:HS) :
 CallOk ρ Tryz.prog 164 [enc l,.func 96 []] hs (enc (zeP (fun x=>(F x).getD false) l 0)) hs:=by
 refine fn hρ hE hcon Tryz.func164 zCn rfl (by simp) ?_ hs;generalize hr:zeP (fun x=>(F x).getD false) l 0=r;simp [hE]
 refine lpi hρ hE hcon l.length (nn:=0) (fun i (_:Unit)=>[(0,.sl (l.map zL) false),(1,.func 96 []),(7,.int .i64 (l.length:Int)),(8,.int .i64 (i:Int))]) (fun i _=>[]) (fun i _=>zeP (fun x=>(F x).getD false) (l.drop i) (i:Int)=r) ()
  (Less.auto (by simp) (by simp) (by simp) (by simp)) (by simpa using hr) ?_ ?_
 . intro _ h K;rw[List.drop_length,zeP]at h;simp [zjB,hE];refine LessQ.mk (Less.auto (TL:=[]) (HL:=[]) (n:=0) (by simp) (by simp) (by simp) (by simp)) ?_;simp [hE,<- h]
 . intro i _ hi h K hK;have hi':(i:Int)<l.length:=by omega
   have hw2:IntKind.i64.wrap ((i:Int)+1)=((i+1:Nat):Int):=zw (by omega);have hm5:(i*7) / 7=i:=by omega
   have hm6:(i*7) % 7=0:=by omega
   obtain⟨q,hq⟩:=Option.isSome_iff_exists.1 (hall l[i] (List.getElem_mem hi));rw[List.drop_eq_getElem_cons hi,zeP,hq]at h;simp only[Option.getD_some]at h
   cases q with
   | true =>
     rw[if_pos rfl]at h;simp [zjB,hE,hi,hi',hm5,hm6,hc,hq];refine LessQ.mk (Less.auto (TL:=[(4,.int .i64 (i:Int))]) (HL:=[]) (n:=0) (by simp) (by simp) (by simp) (by simp)) ?_;simp [hE,<- h]
   | false =>
     rw[if_neg (by decide)]at h;have hnew:=hK () h;simp [zjB,hE,hi,hi',hm5,hm6,hc,hq,hw2,-Int.natCast_add];exact hnew _ _ (Less.auto (by simp[-Int.natCast_add]) (by simp) (by simp) (by simp))
theorem z6n{F:Entry->Option Bool}(hc:E.con 164=fnS (z8g 96 F)){l:List Entry}(hl:l.length<=100000)(hall:∀ x∈l,(F x).isSome=true)(hs:HS) :
 CallOk ρ Tryz.prog 95 [enc l,.func 96 []] hs (enc (l.any fun x=>(F x).getD false)) hs:=by
 refine fn hρ hE hcon Tryz.func95 zMD rfl (by simp) ?_ hs;have hge:=zmx (fun x=>(F x).getD false) l 0 (Int.le_refl _)
 have hv:z8g 96 F [enc l,.func 96 []]=some (enc (zeP (fun x=>(F x).getD false) l 0)):=by
  unfold z8g;show gd (Nat.beq _ _) (ob (Enc.dec (enc l)) _)=_;rw[Enc.dec_enc,J.beq_true.2 rfl];show (if _ then _ else _)=_;rw[if_pos ⟨hl,hall⟩]
 generalize zeP (fun x=>(F x).getD false) l 0=x at hge hv;rw[<- hge];simp [hE,hc];simp at hv;simp [hv,hE]
end
theorem zNI{F:Entry->Option Bool}(hv:Valid ρ Tryz.prog 96 (fnS (zy F))):Valid ρ Tryz.prog 164 (fnS (z8g 96 F)):=Valid.fnS (fo Tryz.func164 zCn) fun vs v h hs=>by
 unfold z8g at h;split at h
 . simp only[zl,J.beq_true,zb]at h;obtain⟨rfl,l,hl,h⟩:=h;obtain⟨⟨h1,h2⟩,rfl⟩:=zo h;rw[Enc.enc_dec _ _ hl];exact z5b hρ (E:=EL [(96,fnS (zy F))]) rfl (zf (za hv valid_nil)) rfl h1 h2 hs
 . cases h
theorem zNK{F:Entry->Option Bool}(hv:Valid ρ Tryz.prog 96 (fnS (zy F))):Valid ρ Tryz.prog 95 (fnS (z8V 96 F)):=Valid.fnS (fo Tryz.func95 zMD) fun vs v h hs=>by
 unfold z8V at h;split at h
 . simp only[zl,J.beq_true,zb]at h;obtain⟨rfl,l,hl,h⟩:=h;obtain⟨⟨h1,h2⟩,rfl⟩:=zo h;rw[Enc.enc_dec _ _ hl];exact z6n hρ (E:=EL [(164,fnS (z8g 96 F))]) rfl (zf (za (zNI hρ hv) valid_nil)) rfl h1 h2 hs
 . cases h
end
def toks(l:List Entry)(g:Ty):Bool:=decide (l.length<=100000)&&tok g&&l.all fun e=>tok e.scheme.type
theorem toks_iff{l:List Entry}{g:Ty}:toks l g=true↔l.length<=100000/\tok g=true/\∀ e∈l,tok e.scheme.type=true:=by simp[toks,and_assoc]
theorem z6I{l:List Entry}(h:∀ e∈l,tok e.scheme.type=true):(l.any fun e=>(z6J e).getD false)=!(l.all fun e=>zaa e.scheme&&e.scheme.type.closed true&&decide (e.scheme.type.size<=200)):=by
 induction l with
 |nil=>rfl
 | cons a l ih =>
   have e1:z6J a=some (!(zaa a.scheme&&a.scheme.type.closed true&&decide (a.scheme.type.size<=200))):=if_pos (h a List.mem_cons_self);rw[List.any_cons,List.all_cons,ih fun e he=>h e (List.mem_cons_of_mem _ he),e1,Option.getD_some,Bool.not_and (zaa a.scheme&&a.scheme.type.closed true&&decide (a.scheme.type.size<=200))]
def zcO:J.Spec:=fnS (zH fun (l:List Entry) (g:Ty)=>if toks l g=true then some (zcD l g)else none)
def zA1(t:Ty)(b:Bool):Option Bool:=if tok t=true then some (t.valid&&t.closed b&&decide (t.size<=200))else none
section
variable {ρ:Nat->Value}(hρ:J.Good ρ)
include hρ
section
variable {E:Env}(hE:E.P=Tryz.prog)(hcon:ConsOk ρ E)
include hE hcon
theorem zeK(hS:E.con 97=zvA)(hC:E.con 93=fnS (zH (clF 10000)))(hN:E.con 94=fnS (zy (zcg 10000))){e:Entry}(ht:tok e.scheme.type=true)(hs:HS) :
 CallOk ρ Tryz.prog 96 [enc e] hs (enc (!(zaa e.scheme&&e.scheme.type.closed true&&decide (e.scheme.type.size<=200)))) hs:=by
 refine fn hρ hE hcon Tryz.func96 zMC rfl (by simp) ?_ hs;obtain⟨h1,h2,h3⟩:=tok_iff.1 ht;obtain⟨nm,c,t⟩:=e;simp only[]at h1 h2 h3 ht ⊢;have hF1:clF 10000 t true=some (t.closed true):=if_pos ⟨h1,h2⟩;have hF2:zcg 10000 t=some (t.size:Int):=if_pos ⟨h2,h1,by omega⟩;generalize hsv:zaa ⟨c,t⟩=v;generalize t.closed true=w at hF1;have hz:(200<(t.size:Int))=¬ t.size<=200:=by simp;omega
 generalize hq:t.size=z at hF2 hz;obtain⟨tk,tn,ti,th,tl⟩:=t;cases v<;>cases w<;>by_cases h200:z<=200<;>simp [hE,hS,zvA,ht,hsv,hC,hF1,hN,hF2,hz,h200]
theorem zfI(hV:E.con 92=zci 10000)(hC:E.con 93=fnS (zH (clF 10000)))(hN:E.con 94=fnS (zy (zcg 10000)))(hX:E.con 95=fnS (z8V 96 z6J))
 {l:List Entry} {g:Ty} (ht:toks l g=true) (hs:HS):CallOk ρ Tryz.prog 43 [enc l,enc g] hs (enc (zcD l g)) hs:=by
 refine fn hρ hE hcon Tryz.func43 zMP rfl (by simp) ?_ hs;obtain⟨hl,hg,hall⟩:=toks_iff.1 ht;obtain⟨h1,h2,h3⟩:=tok_iff.1 hg;have hF1:clF 10000 g false=some (g.closed false):=if_pos ⟨h1,h2⟩;have hF2:zcg 10000 g=some (g.size:Int):=if_pos ⟨h2,h1,by omega⟩
 have hct:z8V 96 z6J [enc l,.func 96 []]=some (enc (!(l.all fun e=>zaa e.scheme&&e.scheme.type.closed true&&decide (e.scheme.type.size<=200)))):=by
  unfold z8V;show gd (Nat.beq _ _) (ob (Enc.dec (enc l)) _)=_;rw[Enc.dec_enc,J.beq_true.2 rfl];show (if _ then _ else _)=_;rw[if_pos ⟨hl,fun x hx=>by unfold z6J;rw[if_pos (hall x hx)];rfl⟩,z6I hall]
 unfold zcD;generalize (l.all fun e=>zaa e.scheme&&e.scheme.type.closed true&&decide (e.scheme.type.size<=200))=A at hct;have hz:(200<(g.size:Int))=¬ g.size<=200:=by simp;omega
 generalize hv:g.valid=v;generalize g.closed false=w at hF1;simp at hct;cases v<;>cases w<;>by_cases h200:g.size<=200<;>cases A<;>simp [hE,hV,zci,h1,h3,hv,hC,hF1,hN,hF2,hz,h200,hX,hct]
theorem zgo(hV:E.con 166=zbJ 10000)(hK:E.con 167=fnS (zH (ziw 10000)))(hN:E.con 169=fnS (zy (zcg 10000))){t:Ty}{b:Bool}(ht:tok t=true)(hs:HS) :
 CallOk ρ Tryz.prog 99 [enc t,enc b] hs (enc (t.valid&&t.closed b&&decide (t.size<=200))) hs:=by
 refine fn hρ hE hcon Tryz.func99 zM9 rfl (by simp) ?_ hs;obtain⟨h1,h2,h3⟩:=tok_iff.1 ht;have hF2:zcg 10000 t=some (t.size:Int):=if_pos ⟨h2,h1,by omega⟩;have hk:∀ k,ziw 10000 t k=some (t.hasK k):=fun k=>if_pos ⟨h2,h1⟩
 have hk1:=hk 1;have hk2:=hk 2;have hk5:=hk 5;have hcl:=Ty.closed_has b t
 cases hv:t.valid with
 |false=>cases b<;>simp [hE,hV,zbJ,h1,h3,hv]
 | true =>
   rw[hcl hv];have hz:((t.size:Int)<=200)=(t.size<=200):=by simp;omega
   generalize t.hasK 1=x1 at hk1;generalize t.hasK 2=x2 at hk2;generalize t.hasK 5=x5 at hk5;by_cases h200:t.size<=200
   . cases x1<;>cases x5<;>cases b<;>cases x2<;>simp [hE,hV,zbJ,h1,h3,hv,hN,hF2,hz,h200,hK,hk1,hk2,hk5]
   . simp [hE,hV,zbJ,h1,h3,hv,hN,hF2,hz,h200]
theorem zgp (hS:E.con 98=zvA) (hC:E.con 99=fnS (zH zA1)) {l:List Entry} {g:Ty} (ht:toks l g=true) (hs:HS) :
 CallOk ρ Tryz.prog 44 [enc l,enc g] hs (enc (zcD l g)) hs:=by
 refine fn hρ hE hcon Tryz.func44 zMO rfl (by simp) ?_ hs;obtain⟨hl,hg,hall⟩:=toks_iff.1 ht;have hFg:zA1 g false=some (g.valid&&g.closed false&&decide (g.size<=200)):=if_pos hg;have hcm:zcD l g=((l.all fun e=>zaa e.scheme&&e.scheme.type.closed true&&decide (e.scheme.type.size<=200))&&(g.valid&&g.closed false&&decide (g.size<=200))):=by unfold zcD;rw[Bool.and_comm]
 rw[hcm];generalize (g.valid&&g.closed false&&decide (g.size<=200))=G at hFg;clear hcm hg;generalize hr:((l.all fun e=>zaa e.scheme&&e.scheme.type.closed true&&decide (e.scheme.type.size<=200))&&G)=r;simp [hE]
 refine lpi hρ hE hcon l.length (nn:=1) (fun i (_:Unit)=>[(0,.sl (l.map zL) false),(3,.ptr 0 0 0),(5,.int .i64 (i:Int))]) (fun _ _=>[(0,box (zg g))]) (fun i _=>(((l.drop i).all fun e=>zaa e.scheme&&e.scheme.type.closed true&&decide (e.scheme.type.size<=200))&&G)=r) ()
  (Less.auto (by simp) (by simp) rfl rfl) (by simpa using hr) ?_ ?_
 . intro _ h K;rw[List.drop_length,List.all_nil,Bool.true_and]at h;subst h;simp [zla,hE];refine LessQ.mk (Less.auto (TL:=[(3,.ptr 0 0 0)]) (HL:=[(0,box (zg g))]) (n:=1) (by simp) (by simp) rfl rfl) ?_;cases G<;>simp [hE,hC,hFg]
 . intro i _ hi h K hK;have hi':(i:Int)<l.length:=by omega
   have hw2:IntKind.i64.wrap ((i:Int)+1)=((i+1:Nat):Int):=zw (by omega);have hm7:(i*7+1) / 7=i:=by omega
   have hm8:(i*7+1) % 7=1:=by omega
   have hm9:(i*7+2) / 7=i:=by omega
   have hm10:(i*7+2) % 7=2:=by omega
   rw[List.drop_eq_getElem_cons hi,List.all_cons]at h;have hte:=hall _ (List.getElem_mem hi);obtain⟨x,hx⟩:∃ x,l[i]=x:=⟨_,rfl⟩;rw[hx]at h hte;have hFc:zA1 x.scheme.type true=some (x.scheme.type.valid&&x.scheme.type.closed true&&decide (x.scheme.type.size<=200)):=if_pos hte
   have hvv:zaa x.scheme=true->x.scheme.type.valid=true:=fun e=>by
    unfold zaa at e;simp only[Bool.and_eq_true]at e;exact e.1.1.1
   have hnew:=fun e=>hK () e
   clear hK hr;obtain⟨xn,xc,xt⟩:=x;simp only[]at h hte hFc hvv;generalize hsv:zaa ⟨xc,xt⟩=v at h hvv;generalize xt.closed true=w at h hFc;generalize decide (xt.size<=200)=u at h hFc
   cases v with
   | false =>
     rw[Bool.false_and,Bool.false_and,Bool.false_and,Bool.false_and]at h;simp [zla,hE,hi,hi',hx,hm7,hm8,hm9,hm10,hS,zvA,hte,hsv];refine LessQ.mk (Less.auto (TL:=[(4,.bool false)]) (HL:=[]) (n:=1) (by simp) (by simp) rfl rfl) ?_;simp [hE,<- h]
   | true =>
     rw[hvv rfl,Bool.true_and]at hFc;rw[Bool.true_and]at h;generalize (w&&u)=wu at h hFc
     cases wu with
     | false =>
       rw[Bool.false_and,Bool.false_and]at h;simp [zla,hE,hi,hi',hx,hm7,hm8,hm9,hm10,hS,zvA,hte,hsv,hC,hFc];refine LessQ.mk (Less.auto (TL:=[(4,.bool false)]) (HL:=[]) (n:=1) (by simp) (by simp) rfl rfl) ?_;simp [hE,<- h]
     | true =>
       rw[Bool.true_and]at h;simp [zla,hE,hi,hi',hx,hm7,hm8,hm9,hm10,hS,zvA,hte,hsv,hC,hFc,hw2,-Int.natCast_add];exact hnew h _ _ (Less.auto (by simp[-Int.natCast_add]) (by simp) rfl rfl)
end
theorem zpW:Valid ρ Tryz.prog 96 (fnS (zy z6J)):=v1 (fo Tryz.func96 zMC) fun a r h hs=>by
 obtain⟨h1,rfl⟩:=zo h;exact zeK hρ (E:=EL [(97,zvA),(93,fnS (zH (clF 10000))),(94,fnS (zy (zcg 10000)))]) rfl (zf (za (z3N hρ) (za (zmX hρ 10000) (za (zpP hρ 10000) valid_nil)))) rfl rfl rfl h1 hs
theorem z3S:Valid ρ Tryz.prog 43 zcO:=v2 (fo Tryz.func43 zMP) fun a b r h hs=>by
 obtain⟨h1,rfl⟩:=zo h
 exact zfI hρ (E:=EL [(92,zci 10000),(93,fnS (zH (clF 10000))),(94,fnS (zy (zcg 10000))),(95,fnS (z8V 96 z6J))]) rfl
  (zf (za (zpO hρ 10000 (by omega)) (za (zmX hρ 10000) (za (zpP hρ 10000) (za (zNK hρ (zpW hρ)) valid_nil))))) rfl rfl rfl rfl h1 hs
theorem zpU:Valid ρ Tryz.prog 99 (fnS (zH zA1)):=v2 (fo Tryz.func99 zM9) fun a b r h hs=>by
 obtain⟨h1,rfl⟩:=zo h;exact zgo hρ (E:=EL [(166,zbJ 10000),(167,fnS (zH (ziw 10000))),(169,fnS (zy (zcg 10000)))]) rfl (zf (za (zpQ hρ 10000 (by omega)) (za (zi2 hρ 10000) (za (z9J hρ 10000) valid_nil)))) rfl rfl rfl h1 hs
theorem zwc:Valid ρ Tryz.prog 44 zcO:=v2 (fo Tryz.func44 zMO) fun a b r h hs=>by
 obtain⟨h1,rfl⟩:=zo h;exact zgp hρ (E:=EL [(98,zvA),(99,fnS (zH zA1))]) rfl (zf (za (zwa hρ) (za (zpU hρ) valid_nil))) rfl rfl h1 hs
end
end Go.Proofs.YtpcmebclpindjaaGreat
/- make.Leaves as a row;NormalClosed: the law's own run. -/
namespace Go.Proofs.YtpcmebclpindjaaGreat
open Go.J
open Go.J.Enc (enc)
set_option maxRecDepth 100000
set_option maxHeartbeats 1000000
def lvD:EmbD where
 k:=0
 k':=1
 π:=fun i=>i
 OL:=[]
 OL':=[(0,.arr 5 4 (leavesTs.map zg) false false true)]
 vs0:=[]
 v0:=.own 0 4 0 8 none
def lvM(vs:List V)(hs:HS):Option EmbD:=match vs with
 | []=>gd (zaz hs hs.n) (some lvD)
 |_=>none
@[simp] theorem zOs {hs:HS}:lvM [] hs=gd (zaz hs hs.n) (some lvD):=(rfl)
@[simp] theorem zIb {hs:HS}:lvD.val hs=.own hs.n 4 0 8 none:=(rfl)
@[simp] theorem zFw {hs:HS}:lvD.heap hs={ H:=hs.H.set hs.n (.arr 5 4 (leavesTs.map zg) false false true),n:=hs.n+1,log:=hs.n::hs.log }:=(rfl)
def zp6:Nat->Ty
 | 0=>tInt
 |n+1=>zbI tInt (zp6 n)
theorem zvt(n:Nat):(zp6 n).size=2*n+1:=by
 induction n with
 |zero=>rfl
 |succ n ih=>show Ty.size (.mk 4 _ 0 0 [tInt,zp6 n])=_;rw[Ty.size_eq];simp[Ty.sizes,ih,tInt,zeU,Ty.size];omega
theorem zp5(n:Nat):(zp6 n).valid=true:=by
 induction n with
 |zero=>rfl
 |succ n ih=>show Ty.valid (.mk 4 [45,62] 0 0 [tInt,zp6 n])=true;simp[Ty.valid,Ty.valids,ih];rfl
theorem zdJ{t:Ty}(h:t.valid=true)(hs:t.size<=10000):tok t=true:=tok_iff.2 ⟨hs,zvX t h,zg5 t h⟩
def z3E:J.Spec:=fnS (zex true)
section
variable {ρ:Nat->Value}(hρ:J.Good ρ)
include hρ
section
variable {E:Env}(hE:E.P=Tryz.prog)(hcon:ConsOk ρ E)
include hE hcon
theorem zhc(hVs:E.con 25=zha)(hRg:E.con 28=fnS (zH fun h i:Int=>some (zaq h i)))(hBd:E.con 53=fnS (zy fun i:Int=>some (zaU i))){hs:HS}(hvac:hs.H.get hs.n=none) :
 CallOk ρ Tryz.prog 17 [] hs (lvD.v0.ren (news hs.n 0 fun i=>i)) (zg1 hs 0 1 (fun i=>i) lvD.OL'):=by
 refine em hρ hE hcon (D:=lvD) Tryz.func17 zMZ rfl ⟨rfl,rfl,Nat.zero_le _,fun p hp=>(by cases hp),fun p hp=>?_,rfl,fun v hv=>(by cases hv)⟩ ?_ ⟨rfl,fun i j hi=>absurd hi (Nat.not_lt_zero _),fun p hp=>(by cases hp),fun i hi=>?_,fun i hi=>absurd hi (Nat.not_lt_zero _)⟩
 . obtain rfl:=List.mem_singleton.1 hp;exact⟨by simp[leavesTs],rfl⟩
 . show Wp ρ E 0 _ _ _ { H:=mkP [],n:=0,log:=[] } (J.Leaves _ _ (GivesL 0 (.own 0 4 0 8 none) [(0,.arr 5 4 (leavesTs.map zg) false false true)]));rw[show Tryz.f17.ntmps=8 from rfl];have hv4:zcc 4=[za0 0,za0 1,za0 2,za0 3]:=rfl;simp [hE,hVs,zha,hv4,hRg,hBd,leavesTs];exact GivesL.litX (fun k=>if k=0 then 9 else k) rfl rfl ⟨rfl,rfl⟩ (by simp[leavesTs])
 . obtain rfl:i=0:=Nat.lt_one_iff.1 hi;exact hvac
end
theorem zwf:Valid ρ Tryz.prog 17 (zpD lvM):=Valid.emb (fo Tryz.func17 zMZ) fun vs hs D h=>by
 unfold lvM at h;split at h
 . simp only[zl,vacant_eq]at h;obtain⟨h1,h⟩:=h;cases h;exact zhc hρ (E:=EL [(25,zha),(28,fnS (zH fun h i:Int=>some (zaq h i))),(53,fnS (zy fun i:Int=>some (zaU i)))]) rfl (zf (za (zpX hρ) (za (zyp hρ) (za (zys hρ) valid_nil)))) rfl rfl rfl h1
 . cases h
section
variable {E:Env}(hE:E.P=Tryz.prog)(hcon:ConsOk ρ E)
include hE hcon
theorem zgu(h1:E.con 36=z3E)(h2:E.con 14=z5O)(h3:E.con 37=zpD zhd)(h4:E.con 24=zyI)(h5:E.con 16=fnS (zy fun bits:Int=>some (zD bits)))(h6:E.con 17=zpD lvM)(h7:E.con 41=fnS (zex zcQ))
 (h8:E.con 15=stS (zjj (zf8 2))) (h9:E.con 27=fnS (zex tInt)) (h10:E.con 42=fnS (zH fun a b:Ty=>some (zbI a b))) (h11:E.con 43=zcO) (h12:E.con 44=zcO)
 {bits n:Int} {codes more:List Int} (hs:HS):CallOk ρ Tryz.prog 8 [enc bits,enc codes,enc more,enc n] hs (enc true) hs:=by
 refine fn hρ hE hcon Tryz.func8 fB8 rfl (by simp) ?_ hs;by_cases hc:codes.length<=60
 case neg=>simp [hE,h1,z3E,h2,z5O,hc]
 by_cases hm:more.length<=60
 case neg=>simp [hE,h1,z3E,h2,z5O,hc,hm]
 have hD:=zhG bits;have hD3:=zhF bits;have hDv:=zm5 bits;have hcl:=zj4 hDv hD3 codes
 have hlen:(zdg codes (zD bits)).1.length<=1000:=by
  have:=(zhK (D:=zD bits) (t:=⟨codes,0⟩) ⟨Int.le_refl _,by show codes.length<=100000;omega⟩).2;unfold zdg;dsimp only;omega
 have ht2:(⟨more,0⟩:Tp).ok:=⟨Int.le_refl _,by show more.length<=100000;omega⟩;have hlv:∀ l∈leavesTs++zcQ,l.valid=true/\l.size<=1:=by decide
 have hL:leavesTs++zcQ=[za0 0,za0 1,za0 2,za0 3,zaq 0 0,zaq 1 0,zaq (-1) 2,zaU 0,zeZ [97],zeZ [98],zeZ [99]]:=rfl
 have hTF:zf8 2 ⟨more,0⟩ (zD bits) (leavesTs++zcQ) 2=some (typeM 2 ⟨more,0⟩ (zD bits) (leavesTs++zcQ)):=by
  unfold zf8;rw[if_pos ⟨ht2,hD.1,by rw[hL];simp,by omega⟩];rfl
 have htv:=zc4 hDv (fun l hl=>(hlv l hl).1) 2 ⟨more,0⟩;have hts:=zcU hD3 (fun l hl=>(hlv l hl).2) 2 ⟨more,0⟩;rw[hL]at hTF htv hts;rcases hmm:zdg codes (zD bits)with⟨ctx,goal,e,t⟩;rw[hmm]at hcl hlen;have hval:=fun hs=>zmt (hs:=hs) hmm
 have hheap:=fun hs=>zkG (hs:=hs) hmm
 simp only at hcl hlen;generalize hDq:zD bits=D at hTF htv hts;rcases hq:typeM 2 ⟨more,0⟩ D [za0 0,za0 1,za0 2,za0 3,zaq 0 0,zaq 1 0,zaq (-1) 2,zaU 0,zeZ [97],zeZ [98],zeZ [99]]with⟨t2,x⟩;rw[hq]at hTF htv hts;simp only at htv hts
 obtain⟨k,hk,hk30⟩:∃ k:Nat,zoW n 30=(k:Int)/\k<30:=by
  have h0:=zgZ n 30;have h9:=zqU (n:=n) (m:=30) (by omega);exact⟨(zoW n 30).toNat,by omega,by omega⟩
 have hw85:IntKind.i64.wrap (85+(k:Int))=((85+k:Nat):Int):=by rw[wrap_i64 (by omega) (by omega)];omega
 have hgoal:goal.valid=true/\goal.size<=200:=by
  unfold zcD at hcl;simp only[Bool.and_eq_true,decide_eq_true_eq]at hcl;exact⟨hcl.1.1.1,hcl.1.2⟩
 have hent:∀ e∈ctx,tok e.scheme.type=true:=fun e he=>by
  unfold zcD at hcl;simp only[Bool.and_eq_true,List.all_eq_true,decide_eq_true_eq]at hcl;have h9:=hcl.2 e he;have hsv:=h9.1.1;unfold zaa at hsv;simp only[Bool.and_eq_true]at hsv;exact zdJ hsv.1.1.1 (by have:=h9.2;omega)
 have hx:=zdJ htv (by omega);have hT1:toks ctx goal=true:=toks_iff.2 ⟨by omega,zdJ hgoal.1 (by omega),hent⟩
 have hT2:toks (ctx++[⟨[120],⟨zoW n 3,x⟩⟩]) goal=true:=toks_iff.2 ⟨by simp;omega,zdJ hgoal.1 (by omega),fun e he=>by
  rcases List.mem_append.1 he with he|he
  . exact hent e he
  . obtain rfl:=List.mem_singleton.1 he
    exact hx⟩
 have hT3:toks ctx x=true:=toks_iff.2 ⟨by omega,hx,hent⟩;have hT4:toks ctx (zp6 (85+k))=true:=toks_iff.2 ⟨by omega,zdJ (zp5 _) (by rw[zvt];omega),hent⟩;clear hent hgoal hx htv hts hD hD3 hDv hmm hlv hL;generalize hm3:zoW n 3=m3 at hT2
 have loop:∀ (g:Nat) (T:PT V) (hs:HS) (Q:Ex->PT V->HS->Prop),
  Less 0 T hs (mkP [(3,.int .i64 n),(10,.sl (ctx.map zL) false),(11,.ptr 0 0 0),(15,.ptr 1 0 0),(16,.own 3 g 0 (ctx.length+1) none),(17,.ptr 2 0 0),(18,.int .i64 ((0:Nat):Int))]) { H:=mkP [(0,box (zg goal)),(1,box (zak ⟨m3,x⟩)),(2,box (zg (zp6 0))),(3,.arr 7 g (ctx.map zL++[zL ⟨[120],⟨m3,x⟩⟩]) false false true)],n:=4,log:=[] } ->
  Q (.exit 0) (mkP [(10,.sl (ctx.map zL) false),(11,.ptr 0 0 0),(15,.ptr 1 0 0),(16,.own 3 g 0 (ctx.length+1) none),(17,.ptr 2 0 0)]) { H:=mkP [(0,box (zg goal)),(1,box (zak ⟨m3,x⟩)),(2,box (zg (zp6 (85+k)))),(3,.arr 7 g (ctx.map zL++[zL ⟨[120],⟨m3,x⟩⟩]) false false true)],n:=4,log:=[] } ->
  Ls ρ E 0 100 (.loop zxx) T hs Q:=by
  intro g T hs Q h0 hQ
  refine lpi hρ hE hcon (85+k) (nn:=4) (fun i (_:Unit)=>[(3,.int .i64 n),(10,.sl (ctx.map zL) false),(11,.ptr 0 0 0),(15,.ptr 1 0 0),(16,.own 3 g 0 (ctx.length+1) none),(17,.ptr 2 0 0),(18,.int .i64 (i:Int))]) (fun i _=>[(0,box (zg goal)),(1,box (zak ⟨m3,x⟩)),(2,box (zg (zp6 i))),(3,.arr 7 g (ctx.map zL++[zL ⟨[120],⟨m3,x⟩⟩]) false false true)]) (fun _ _=>True) ()
   h0 trivial ?_ ?_
  . intro _ _ K;simp [zxx,hE,h4,zyI,hk,hw85,-Int.natCast_add];exact LessQ.mk (Less.auto (by simp) (by simp) rfl rfl) hQ
  . intro i _ hi _ K hK;have hi':(i:Int)<((85+k:Nat):Int):=by omega
    have hw2:IntKind.i64.wrap ((i:Int)+1)=((i+1:Nat):Int):=zw (by omega);have hnew:=hK () trivial;rw[show zp6 (i+1)=zbI tInt (zp6 i) from rfl]at hnew;simp [zxx,hE,h4,zyI,hk,hw85,hi',h9,h10,hw2,-Int.natCast_add];exact hnew _ _ (Less.auto (by simp[-Int.natCast_add]) (by simp) rfl rfl)
 have fin:toks ctx goal=true:=hT1;rcases ctx with _|⟨e0,ctx⟩
 . rw[List.nil_append]at hT2;simp [hE,h1,z3E,h2,z5O,hc,hm,h3,hval,hheap,vacant_eq,hDq,h4,zyI,hm3,h5,h6,h7,zcQ,leavesTs,h8,hTF,h9];refine loop 0 _ _ _ (Less.auto (by simp) (by simp[zp6]) rfl rfl) ?_;simp [hE,h11,h12,zcO,hT1,hcl,hT2,hT3,hT4]
 . rw[List.cons_append]at hT2;have k1:(ctx.length+1)*88<=1048576:=Nat.le_trans (Nat.mul_le_mul_right 88 (show ctx.length+1<=1002 by simp at hlen;omega)) (by decide);have k2:(ctx.length+1+1)*88<=1048576:=Nat.le_trans (Nat.mul_le_mul_right 88 (show ctx.length+1+1<=1002 by simp at hlen;omega)) (by decide);simp [hE,h1,z3E,h2,z5O,hc,hm,h3,hval,hheap,vacant_eq,hDq,h4,zyI,hm3,h5,h6,h7,zcQ,leavesTs,h8,hTF,h9,k1,k2,Nat.not_succ_le_self];refine loop 1 _ _ _ (Less.auto (by simp) (by simp[zp6]) rfl rfl) ?_;simp [hE,h11,h12,zcO,hT1,hcl,hT2,hT3,hT4]
end
end
end Go.Proofs.YtpcmebclpindjaaGreat
