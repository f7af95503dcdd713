import Derived.Test.YtocdkgjpdnamlaaGreatLX6
import Derived.Test.YtocdkgjpdnamlaaGreatJZ
import Derived.Test.YtocdkgjpdnamlaaGreatJQ
import Derived.Test.YtocdkgjpdnamlaaGreatJK
import Derived.Test.YtocdkgjpdnamlaaGreatJN
import Derived.Test.YtocdkgjpdnamlaaGreatJUv
import Derived.Test.YtocdkgjpdnamlaaGreatJRt
import Derived.Test.YtocdkgjpdnamlaaGreatJPy
set_option linter.all false
noncomputable section
/- The search for type variables of the store's package. -/
namespace Go.Proofs.YtocdkgjpdnamlaaGreat
open Go.J
open Go.J.Enc (enc)
set_option maxRecDepth 100000
set_option maxHeartbeats 4000000
section
variable {ρ:Nat->Value}(hρ:J.Good ρ){E:Env}(hE:E.P=Tryz.prog)(hcon:aZ ρ E)
include hρ hE hcon
theorem kz {k d:Nat} (hk:k=5\/k=6) (hc:E.dS 125=dN (znt 125 (Store.zaD d))) {s:Store} (hs0:s.dF) {l:List Ty} (hlo:∀ x∈l,x.ok=true) (hll:l.length<=10000) {st0 R:Store.Sv} (hv:Store.TC (Store.M5 s d) l st0=some R) (hl:R.2.length<=100000) (hk0:k=6->st0.2≠[])
 {T:PT V} {hs:HS} {Q:Ex->PT V->HS->Prop} (hT:Less k T hs (di [(1,.ptr 0 0 0),(2,.ptr 2 0 0),(3,.ptr 3 0 0),(4,.ptr 4 0 0),(41,.sl (l.map ax) false),(42,.int .i64 (l.length:Int)),(43,.int .i64 ((0:Nat):Int))]) { H:=di (df 125 s st0.1 st0.2),n:=6,log:=[] })
 (hQ:Q (.exit 0) (di []) { H:=di (df 125 s R.1 R.2),n:=6,log:=[] }):Ls ρ E k 51 (.loop tN) T hs Q:=by
 refine DV hρ hE hcon l.length (nn:=6) (fun i (_:Store.Sv)=>[(1,.ptr 0 0 0),(2,.ptr 2 0 0),(3,.ptr 3 0 0),(4,.ptr 4 0 0),(41,.sl (l.map ax) false),(42,.int .i64 (l.length:Int)),(43,.int .i64 (i:Int))])
  (fun i st=>df 125 s st.1 st.2) (fun i st=>Store.TC (Store.M5 s d) (l.drop i) st=some R/\(k=6->st.2≠[])) st0 hT ⟨by simpa using hv,hk0⟩ ?_ ?_
 . rintro ⟨seen,out⟩ ⟨h1,h2⟩ K;rw[List.drop_length]at h1;cases h1;simp only at h2 hQ;rcases hk with rfl|rfl
   . rcases out with _|⟨x,out⟩<;>simp [tN,hE,df,gJ] <;>
     exact bq.mk (Less.auto (by simp[df]) (by simp[df,gJ]) (by simp[df]) (by simp[df]<;>(intro x hx;first|omega|exact⟨.inl hx,by omega⟩))) hQ
   . rcases out with _|⟨x,out⟩
     . exact absurd rfl (h2 rfl)
     . simp [tN,hE,df,gJ];exact bq.mk (Less.auto (by simp[df]) (by simp[df,gJ]) (by simp[df]) (by simp[df]<;>(intro x hx;first|omega|exact⟨.inl hx,by omega⟩))) hQ
 . rintro i ⟨seen,out⟩ hil ⟨h1,h2⟩ K hK;have gB:(i:Int)<l.length:=by omega
   have hw:IntKind.i64.wrap ((i:Int)+1)=((i+1:Nat):Int):=bu (by omega);rw[List.drop_eq_getElem_cons hil,Store.TC]at h1;have hxo:=hlo _ (List.getElem_mem hil);obtain⟨x,hx⟩:∃ x,l[i]=x:=⟨_,rfl⟩;rw[hx]at h1 hxo;split at h1
   case h_2=>cases h1
   rename_i st' h3;have hm1:=Store.A8 s _ _ _ _ h3;have hm2:=Store.Fx (Store.A8 s d) _ _ _ h1;have hF:=Store.QN hs0 hxo h3 (Nat.le_trans hm2 hl);obtain⟨seen',out'⟩:=st';simp only at hm1 h2
   have hnew:=hK (seen',out') ⟨h1,fun h e=>h2 h (by
    simp only at e;rw[e]at hm1
    exact List.eq_nil_of_length_eq_zero (Nat.le_zero.1 hm1))⟩
   obtain⟨xk,xn,xi,xh,xa⟩:=x;rcases hk with rfl|rfl
   . rcases out with _|⟨y,out⟩
     . rcases out' with _|⟨z,out'⟩
       . simp [tN,hE,hil,gB,hx,hc,hF,hw,ae,df,gJ,-Int.natCast_add];exact hnew _ _ (Less.auto (by simp[df,gJ,-Int.natCast_add]) (by simp[df,gJ]) (by simp[df]) (by simp[df]<;>(intro x hx;first|omega|exact⟨.inl hx,by omega⟩)))
       . simp [tN,hE,hil,gB,hx,hc,hF,hw,ae,df,gJ,-Int.natCast_add];exact hnew _ _ (Less.auto (by simp[df,gJ,-Int.natCast_add]) (by simp[df,gJ]) (by simp[df]) (by simp[df]<;>(intro x hx;first|omega|exact⟨.inl hx,by omega⟩)))
     . rcases out' with _|⟨z,out'⟩
       . simp at hm1
       . have hmono':out.length<=out'.length:=by simpa using hm1
         simp [tN,hE,hil,gB,hx,hc,hF,hw,hmono',ae,df,gJ,-Int.natCast_add];exact hnew _ _ (Less.auto (by simp[df,gJ,-Int.natCast_add]) (by simp[df,gJ]) (by simp[df]) (by simp[df]<;>(intro x hx;first|omega|exact⟨.inl hx,by omega⟩)))
   . rcases out with _|⟨y,out⟩
     . exact absurd rfl (h2 rfl)
     . rcases out' with _|⟨z,out'⟩
       . simp at hm1
       . have hmono':out.length<=out'.length:=by simpa using hm1
         simp [tN,hE,hil,gB,hx,hc,hF,hw,hmono',ae,df,gJ,-Int.natCast_add];exact hnew _ _ (Less.auto (by simp[df,gJ,-Int.natCast_add]) (by simp[df,gJ]) (by simp[df]) (by simp[df]<;>(intro x hx;first|omega|exact⟨.inl hx,by omega⟩)))
theorem Cw {d:Nat} (hc:E.dS 125=dN (znt 125 (Store.zaD d))) (hbd:E.dS 84=bZ (bz fun (s:Store) (t:Ty)=>some (s.bound t)))
 {s:Store} {t:Ty} {st R:Store.Sv} (hR:Store.zaD (d+1) s st t=some R) {a m c b e ro:Nat} {vs:List V} {hs:HS} (hfit:(zR 125 s (enc t) a m c b e ro st R).Fits vs hs) :
 aA ρ Tryz.prog 125 vs hs ((zR 125 s (enc t) a m c b e ro st R).val hs) ((zR 125 s (enc t) a m c b e ro st R).heap hs):=by
 obtain⟨hs0,ht,hv,hl⟩:=Store.TD hR;have hmono:=Store.A8 s _ _ _ _ hv;refine em hρ hE hcon Tryz.func125 zkC rfl (ND hmono) ?_ hfit;rw[Store.M5]at hv;obtain⟨seen,out⟩:=st;simp only at hv hmono;obtain⟨tk,tn,ti,th,ta⟩:=t;simp only[Ty.dx,Ty.gz,Ty.cZ]at hv;by_cases hk:tk=1
 . subst hk;rw[if_pos rfl]at hv;by_cases hm:ti∈seen
   . rw[if_pos hm]at hv;cases hv;rcases out with _|⟨x,out⟩
     . simp [hE,hm,zR,df,eH,fF,jk];exact aj.bO rfl rfl rfl (by simp[gJ])
     . simp [hE,hm,zR,df,eH,fF,jk];exact aj.bO rfl rfl rfl (by simp[gJ])
   rw[if_neg hm]at hv;have hz:Na I4=some (V.bool false):=by rfl
   cases hb:s.bound (Ty.mk 1 tn ti th ta)with
   | false =>
     rw[if_pos hb]at hv;cases hv;rcases out with _|⟨x,out⟩
     . simp [hE,hm,hbd,hb,zR,df,eH,fF,jk,cK,hz];exact aj.JB (fun k=>if k=5 then 25 else k) rfl rfl ⟨rfl,rfl⟩ (by simp[gJ])
     . have h64:(out.length+1+1)*8<=1048576:=by simp at hl;omega
       simp [hE,hm,hbd,hb,h64,Nat.not_succ_le_self,zR,df,eH,fF,jk,cK,hz];exact aj.bO rfl rfl rfl (by simp[gJ])
   | true =>
     rw[if_neg (by rw[hb];simp)]at hv;obtain⟨_,i,x,hi,hil,hx,hxb,hto⟩:=Store.gG hb;simp only[Ty.gz]at hi;subst hi;rw[hto]at hv;have hx0:s.slots[i]=x:=(List.getElem?_eq_some_iff.1 hx).2;have hi1:i*8 / 8=i:=by omega
     have hi2:i*8 % 8=0:=by omega
     have hi3:(i*8+1) / 8=i:=by omega
     have hi4:(i*8+1) % 8=1:=by omega
     have hxo:x.type.ok=true:=hs0.2 x (hx0 ▸ List.getElem_mem hil);clear hx hto;obtain⟨xb,⟨ck,cn,ci,ch,ca⟩,xh,xg⟩:=x;simp only[Ty.dx,Ty.cZ]at hv hxo hxb;obtain⟨seen',out'⟩:=R;simp only at hmono hl;by_cases hk2:ck=1
     . subst hk2;rw[if_pos rfl]at hv;have hF:Store.zaD d s (seen++[(i:Int)],out) (.mk 1 cn ci ch ca)=some (seen',out'):=Store.QN hs0 hxo hv hl;rcases out with _|⟨y,out⟩
       . rcases out' with _|⟨z,out'⟩
         . simp only[zR,df,gJ];simp [hE,hm,hbd,hb,hil,hx0,hc,hF,ae,eH,fF,jk,cK,hz,gJ];exact aj.bO rfl rfl rfl (by simp)
         . simp only[zR,df,gJ];simp [hE,hm,hbd,hb,hil,hx0,hc,hF,ae,eH,fF,jk,cK,hz,gJ];exact aj.JB (fun k=>if k=5 then 35 else k) rfl rfl ⟨rfl,rfl⟩ (by simp)
       . rcases out' with _|⟨z,out'⟩
         . simp at hmono
         . simp only[zR,df,gJ];have hmono':out.length<=out'.length:=by simpa using hmono
           simp [hE,hm,hbd,hb,hil,hx0,hc,hF,ae,eH,fF,jk,cK,hz,gJ];exact⟨hmono',aj.bO rfl rfl rfl (by simp)⟩
     . rw [if_neg hk2]at hv;have hv':Store.TC (Store.M5 s d) ca (seen++[(i:Int)],out)=some (seen',out'):=hv;have hao:=(Ty.ky.1 hxo).2;have hall:=Ty.lH hxo;simp only[Ty.cZ]at hao hall;rcases out with _|⟨y,out⟩
       . simp only[zR,df,gJ];simp [hE,hm,hbd,hb,hil,hx0,hk2,eH,fF,jk,cK,hz];refine kz hρ hE hcon (.inl rfl) hc hs0 hao hall hv' hl (fun h=>by cases h) (Less.auto (by simp[df]) (by simp[df,gJ]) (by simp[df]) (by simp[df]<;>(intro x hx;first|omega|exact⟨.inl hx,by omega⟩))) ?_;rcases out' with _|⟨z,out'⟩
         . simp [hE,df,gJ];exact aj.bO rfl rfl rfl (by simp)
         . simp [hE,df,gJ];exact aj.bO rfl rfl rfl (by simp)
       . simp only[zR,df,gJ];simp [hE,hm,hbd,hb,hil,hx0,hk2,eH,fF,jk,cK,hz];refine kz hρ hE hcon (.inr rfl) hc hs0 hao hall hv' hl (fun _=>by simp) (Less.auto (by simp[df]) (by simp[df,gJ]) (by simp[df]) (by simp[df]<;>(intro x hx;first|omega|exact⟨.inl hx,by omega⟩))) ?_;rcases out' with _|⟨z,out'⟩
         . simp at hmono
         . simp [hE,df,gJ];exact aj.bO rfl rfl rfl (by simp)
 . rw [if_neg hk]at hv;have hao:=(Ty.ky.1 ht).2;have hall:=Ty.lH ht;simp only[Ty.cZ]at hao hall;obtain⟨seen',out'⟩:=R;simp only at hmono hl;rcases out with _|⟨y,out⟩
   . simp only[zR,df,gJ];simp [hE,hk];refine kz hρ hE hcon (.inl rfl) hc hs0 hao hall hv hl (fun h=>by cases h) (Less.auto (by simp[df]) (by simp[df,gJ]) (by simp[df]) (by simp[df]<;>(intro x hx;first|omega|exact⟨.inl hx,by omega⟩))) ?_;rcases out' with _|⟨z,out'⟩
     . simp [hE,df,gJ];exact aj.bO rfl rfl rfl (by simp)
     . simp [hE,df,gJ];exact aj.bO rfl rfl rfl (by simp)
   . simp only[zR,df,gJ];simp [hE,hk];refine kz hρ hE hcon (.inr rfl) hc hs0 hao hall hv hl (fun _=>by simp) (Less.auto (by simp[df]) (by simp[df,gJ]) (by simp[df]) (by simp[df]<;>(intro x hx;first|omega|exact⟨.inl hx,by omega⟩))) ?_;rcases out' with _|⟨z,out'⟩
     . simp at hmono
     . simp [hE,df,gJ];exact aj.bO rfl rfl rfl (by simp)
end
end Go.Proofs.YtocdkgjpdnamlaaGreat
/- store.Vars. -/
namespace Go.Proofs.YtocdkgjpdnamlaaGreat
open Go.J
open Go.J.Enc (enc)
set_option maxRecDepth 100000
set_option maxHeartbeats 4000000
theorem zbK{s:Store}{l:List Ty}(h:iO s l):(dz s l).length<=100000:=by
 have h1:=zba (s:=s) (f:=100000) (fun t st=>Co s 100000 t st) l (([]:List Int),List.replicate s.slots.length false);have h2:=h.2.2.2;have h3:=h1.2.2.2;unfold dz;simp only[List.length_nil]at h3;omega
section
variable {ρ:Nat->Value}(hρ:J.Good ρ){E:Env}(hE:E.P=Tryz.prog)(hcon:aZ ρ E)
include hρ hE hcon
end
section
variable {ρ:Nat->Value}(hρ:J.Good ρ)
include hρ
theorem zAJ(d:Nat):Valid ρ Tryz.prog 125 (dN (znt 125 (Store.zaD d))):=by
 induction d with
 | zero =>
   refine Valid.PI (fo Tryz.func125 zkC) fun vs hs D h=>?_
   obtain⟨s,t,st,r,a,m,c,b,e,ro,hR,rfl,_,_,hfit⟩:=TB h;have:=(Store.TD hR).2.2.1;cases this
 | succ d ih =>
   refine Valid.PI (fo Tryz.func125 zkC) fun vs hs D h=>?_
   obtain⟨s,t,st,r,a,m,c,b,e,ro,hR,rfl,_,_,hfit⟩:=TB h;exact Cw hρ (E:=EL [(125,dN (znt 125 (Store.zaD d))),(84,bZ (bz fun (s:Store) (t:Ty)=>some (s.bound t)))]) rfl (au (ag ih (ag (Ta hρ) az))) rfl rfl hR hfit
end
def He:List Int->Int->Int->Int
 | [],_,_=>-1
 |y::l,x,i=>if x=y then i else He l x (i+1)
theorem zoC:∀ (l:List Int) (x i:Int),0<=i->(decide (He l x i ≥ 0))=decide (x∈l):=by
 intro l
 induction l with
 |nil=>intro x i h;simp[He]
 | cons y l ih =>
   intro x i h;rw[He];split
   . rename_i e;simp[e,h]
   . rename_i e;rw[ih x (i+1) (by omega)];simp[e]
section
variable {ρ:Nat->Value}(hρ:J.Good ρ)
include hρ
section
variable {E:Env}(hE:E.P=Tryz.prog)(hcon:aZ ρ E)
include hE hcon
theorem CB{l:List Int}{x:Int}(hl:l.length<=1000000)(hs:HS):aA ρ Tryz.prog 126 [enc l,enc x] hs (enc (He l x 0)) hs:=by
 refine fn hρ hE hcon Tryz.func126 zrM rfl (by simp) ?_ hs;generalize hr:He l x 0=r;simp [hE]
 refine DV hρ hE hcon l.length (nn:=0) (fun i (_:Unit)=>[(0,.sl (l.map encI) false),(1,.int .i64 x),(7,.int .i64 (l.length:Int)),(8,.int .i64 (i:Int))]) (fun i _=>[]) (fun i _=>He (l.drop i) x i=r) ()
  (Less.auto (by simp) (by simp) (by simp) (by simp)) (by simpa using hr) ?_ ?_
 . intro _ h K;rw[List.drop_length,He]at h;simp [FH,hE];refine bq.mk (Less.auto (TL:=[]) (HL:=[]) (n:=0) (by simp) (by simp) (by simp) (by simp)) ?_;simp [h]
 . intro i _ hi h K hK;have hi':(i:Int)<l.length:=by omega
   have hw2:IntKind.i64.wrap ((i:Int)+1)=((i+1:Nat):Int):=bu (by omega);rw[List.drop_eq_getElem_cons hi,He]at h;by_cases he:x=l[i]
   . rw[if_pos he]at h;simp [FH,hE,hi,hi',<- he];refine bq.mk (Less.auto (TL:=[(4,.int .i64 (i:Int))]) (HL:=[]) (n:=0) (by simp) (by simp) (by simp) (by simp)) ?_;simp [h]
   . rw[if_neg he]at h;have hnew:=hK () (by simpa using h);simp [FH,hE,hi,hi',he,hw2,-Int.natCast_add];exact hnew _ _ (Less.auto (by simp[-Int.natCast_add]) (by simp) (by simp) (by simp))
theorem yX(hI:E.dS 126=E9 (bz fun (l:List Int) (x:Int)=>if l.length<=1000000 then some (He l x 0)else none)){l:List Int}{x:Int}(hl:l.length<=1000000)(hs:HS):aA ρ Tryz.prog 102 [enc l,enc x] hs (enc (decide (x∈l))) hs:=by
 refine fn hρ hE hcon Tryz.func102 zrQ rfl (by simp) ?_ hs;rw[<- zoC l x 0 (by omega)];simp [hE,hI,hl]
end
def zc3:J.Spec:=E9 (bz fun (l:List Int) (x:Int)=>if l.length<=1000000 then some (He l x 0)else none)
theorem zsV:Valid ρ Tryz.prog 126 zc3:=c2 (fo Tryz.func126 zrM) fun a b r h hs=>by
 obtain⟨h1,rfl⟩:=bI h;exact CB hρ (E:=EL []) rfl (au az) h1 hs
theorem YP:Valid ρ Tryz.prog 102 sj:=c2 (fo Tryz.func102 zrQ) fun a b r h hs=>by
 obtain⟨h1,rfl⟩:=bI h;exact yX hρ (E:=EL [(126,zc3)]) rfl (au (ag (zsV hρ) az)) rfl h1 hs
end
end Go.Proofs.YtocdkgjpdnamlaaGreat
/- The program's unification: what it reads in a store. -/
namespace Go.Proofs.YtocdkgjpdnamlaaGreat
open Go.J
open Go.J.Enc (enc)
set_option maxRecDepth 100000
set_option maxHeartbeats 1000000
def zP(vs:List V):Option (List (List V)):=match vs with
 | [x,y]=>ob (Enc.dec x:Option Store) fun s=>ob (Enc.dec y:Option (List Ty)) fun l=>if iO s l then some ((dz s l).map encI)else none
 |_=>none
@[simp] theorem zAG {x y:V}:zP [x,y]=ob (Enc.dec x:Option Store) fun s=>ob (Enc.dec y:Option (List Ty)) fun l=>if iO s l then some ((dz s l).map encI)else none:=(rfl)
theorem QB{vs:List V}{es:List (List V)}(h:zP vs=some es):∃ (s:Store) (l:List Ty),vs=[enc s,enc l]/\iO s l/\es=(dz s l).map encI:=by
 unfold zP at h;split at h
 . simp only[af]at h;obtain⟨s,hs,l,hl,h⟩:=h;obtain⟨h1,rfl⟩:=bI h;exact⟨s,l,by rw[Enc.aU _ _ hs,Enc.aU _ _ hl],h1,rfl⟩
 . cases h
def Dx(s:Store)(args:List V):Option V:=match args with
 | [tv]=>ob (Enc.dec tv:Option Ty) fun t=>if s.slots.length<=1000000 then some (enc (s.w t))else none
 |_=>none
@[simp] theorem zGc {s:Store} {tv:V}:Dx s [tv]=ob (Enc.dec tv:Option Ty) fun t=>if s.slots.length<=1000000 then some (enc (s.w t))else none:=(rfl)
theorem YJ{s:Store}{args:List V}{r:V}(h:Dx s args=some r):∃ t:Ty,args=[enc t]/\s.slots.length<=1000000/\r=enc (s.w t):=by
 unfold Dx at h;split at h
 . simp only[af]at h;obtain⟨t,ht,h⟩:=h;obtain⟨h1,rfl⟩:=bI h;exact⟨t,by rw[Enc.aU _ _ ht],h1,rfl⟩
 . cases h
section
variable {ρ:Nat->Value}(hρ:J.Good ρ)
include hρ
section
variable {E:Env}(hE:E.P=Tryz.prog)(hcon:aZ ρ E)
include hE hcon
theorem EG (hc:E.dS 125=dN (znt 125 (Store.zaD 100000))) {s:Store} {l:List Ty} (hv:iO s l) {hs0:HS} (iQ:hs0.H.get hs0.n=none) :
 aA ρ Tryz.prog 100 [enc s,enc l] hs0 (oV hs0.n ((dz s l).map encI)) (bi (Nat.beq (aN ((dz s l).map encI)) 0) hs0 { H:=hs0.H.set hs0.n (oO 1 ((dz s l).map encI)),n:=hs0.n+1,log:=hs0.n::hs0.log }):=by
 refine row hρ hE hcon Tryz.func100 zrS rfl (by simp) (ku _) ?_ iQ;obtain⟨R,hR,hRv⟩:=Store.zbJ hv;have hlen:=zbK hv;rw[<- hRv]at hlen ⊢;have hsO:=hv.1;have hlo:=Ty.gT.1 hv.2.1;have hll:=hv.2.2.1;simp [hE]
 refine DV hρ hE hcon l.length (nn:=6) (fun i (_:Store.Sv)=>[(5,.ptr 3 0 0),(7,.ptr 4 0 0),(12,.sl (l.map ax) false),(13,.int .i64 (l.length:Int)),(14,.int .i64 (i:Int))])
  (fun i st=>df 125 s st.1 st.2) (fun i st=>Store.TC (Store.M5 s 100000) (l.drop i) st=some R) ([],[])
  (Less.lit (fun k=>if k=0 then 4 else if k=1 then 3 else if k=2 then 0 else if k=3 then 2 else if k=4 then 6 else k) 6 (by simp[df]) (by simp[df,gJ]) rfl rfl) (by simpa using hR) ?_ ?_
 . rintro ⟨seen,out⟩ h1 K;rw[List.drop_length]at h1;cases h1;rcases out with _|⟨x,out⟩
   . simp [yN,hE,df,gJ];refine bq.mk (Less.auto (TL:=[(5,.ptr 0 0 0)]) (HL:=[(0,dn .snil)]) (n:=1) (by simp) (by simp) (by simp) (by simp<;>(intro x hx;first|omega|exact⟨.inl hx,by omega⟩))) ?_;simp [hE];exact aj.bO rfl rfl rfl (by simp)
   . simp [yN,hE,df,gJ];refine bq.mk (Less.auto (TL:=[(5,.ptr 0 0 0)]) (HL:=[(0,dn (.own 1 out.length 0 (out.length+1) none)),(1,.arr 1 out.length ((x::out).map encI) false false true)]) (n:=2) (by simp) (by simp) (by simp) (by simp<;>(intro x hx;first|omega|exact⟨.inl hx,by omega⟩))) ?_;simp [hE];exact aj.JB (fun k=>if k=0 then 1 else k) rfl rfl ⟨rfl,rfl⟩ (by simp)
 . rintro i ⟨seen,out⟩ hil h1 K hK;have gB:(i:Int)<l.length:=by omega
   have hw:IntKind.i64.wrap ((i:Int)+1)=((i+1:Nat):Int):=bu (by omega);rw[List.drop_eq_getElem_cons hil,Store.TC]at h1;have hxo:=hlo _ (List.getElem_mem hil);obtain⟨x,hx⟩:∃ x,l[i]=x:=⟨_,rfl⟩;rw[hx]at h1 hxo;split at h1
   case h_2=>cases h1
   rename_i st' h3;have hm1:=Store.A8 s _ _ _ _ h3;have hm2:=Store.Fx (Store.A8 s 100000) _ _ _ h1;have hF:=Store.QN hsO hxo h3 (Nat.le_trans hm2 hlen);obtain⟨seen',out'⟩:=st';simp only at hm1;have hnew:=hK (seen',out') h1;obtain⟨xk,xn,xi,xh,xa⟩:=x;rcases out with _|⟨y,out⟩
   . rcases out' with _|⟨z,out'⟩
     . simp [yN,hE,hil,gB,hx,hc,hF,hw,ae,df,gJ,-Int.natCast_add];exact hnew _ _ (Less.auto (by simp[df,gJ,-Int.natCast_add]) (by simp[df,gJ]) (by simp[df]) (by simp[df]))
     . simp [yN,hE,hil,gB,hx,hc,hF,hw,ae,df,gJ,-Int.natCast_add];exact hnew _ _ (Less.auto (by simp[df,gJ,-Int.natCast_add]) (by simp[df,gJ]) (by simp[df]) (by simp[df]))
   . rcases out' with _|⟨z,out'⟩
     . simp at hm1
     . have hmono':out.length<=out'.length:=by simpa using hm1
       simp [yN,hE,hil,gB,hx,hc,hF,hw,hmono',ae,df,gJ,-Int.natCast_add];exact hnew _ _ (Less.auto (by simp[df,gJ,-Int.natCast_add]) (by simp[df,gJ]) (by simp[df]) (by simp[df]))
theorem Jj (hc:E.dS 84=E9 (bz fun (s:Store) (t:Ty)=>some (s.bound t))) {sl:List Slot} {tr:List Change} {g:Option Nat} (h:sl.length<=1000000) {t r:Ty} (hr:Store.bX ⟨sl,tr⟩ sl.length t=r) :
 Wp ρ E (uK g 1) 23 zvF ((PT.leaf.set 0 (.agg [.own 0 0 0 sl.length none,zl6 1 tr g])).set 1 (enc t)) { H:=di (EB sl tr g),n:=uK g 1,log:=[] } (J.Leaves E.P Tryz.f67 (aj (uK g 1) (enc r) (EB sl tr g))):=by
 cases g with
 | none =>
   simp [hE,EB]
   refine DV hρ hE hcon sl.length (nn:=4) (fun i (t:Ty)=>[(2,.ptr 1 0 0),(3,.ptr 2 0 0),(4,.ptr 3 0 0),(7,.int .i64 (sl.length:Int)),(8,.int .i64 (i:Int))])
    (fun i t=>[(0,sW sl),(1,.arr 2 0 [[.own 0 0 0 sl.length none,.sl (tr.map aV) true]] true false false),(2,box (ax t)),(3,.arr 5 0 [[.int .i64 0,.str [],.int .i64 0,.int .i64 0,.snil]] true false false)])
    (fun i t=>Store.bX ⟨sl,tr⟩ (sl.length-i) t=r) t (Less.auto (by simp) (by simp) (by simp) (by simp<;>(intro x hx;first|omega|exact⟨.inl hx,by omega⟩))) (by simpa using hr) ?_ ?_
   . intro t h1 K;rw[Nat.sub_self]at h1;cases h1;simp [su,hE,Store.bX];refine bq.mk (Less.auto (TL:=[(3,.ptr 2 0 0),(4,.ptr 3 0 0)]) (HL:=[(0,sW sl),(1,.arr 2 0 [[.own 0 0 0 sl.length none,.sl (tr.map aV) true]] true false false),(2,box (ax t)),(3,.arr 5 0 [[.int .i64 0,.str [],.int .i64 0,.int .i64 0,.snil]] true false false)]) (n:=4) (by simp) (by simp) (by simp) (by simp<;>(intro x hx;first|omega|exact⟨.inl hx,by omega⟩))) ?_;simp [hE];exact aj.bO rfl rfl rfl (by simp)
   . intro i t hil h1 K hK;have gB:(i:Int)<sl.length:=by omega
     have hw:IntKind.i64.wrap ((i:Int)+1)=((i+1:Nat):Int):=bu (by omega);rw[show sl.length-i=(sl.length-(i+1))+1 by omega,Store.bX]at h1;by_cases hb:Store.bound ⟨sl,tr⟩ t=true
     . rw[if_pos hb]at h1;obtain⟨hk,x,hx,hxb⟩:=Store.kN hb;obtain⟨j,hjl,hj,hxj⟩:=Store.slot?_at hx;have ht2:Store.to ⟨sl,tr⟩ t=x.type:=by unfold Store.to;rw[hx]
       rw[ht2]at h1;have hnew:=hK _ h1;have d1:j*8 / 8=j:=by omega
       have d2:j*8 % 8=0:=by omega
       have d3:(j*8+1) / 8=j:=by omega
       have d4:(j*8+1) % 8=1:=by omega
       obtain⟨k,n,id,hm,l⟩:=t;simp only[Ty.gz]at hj;subst hj;have zu6:j<sl.length:=hjl;have zuT:sl[j]=x:=hxj;obtain⟨xb,⟨xk,xn,xi,xh,xl⟩,xm,xg⟩:=x;simp [su,hE,gB,hc,hb,hw,zu6,zuT,d3,d4,-Int.natCast_add];exact hnew _ _ (Less.auto (by simp[-Int.natCast_add]) (by simp) (by simp) (by simp<;>(intro x hx;first|omega|exact⟨.inl hx,by omega⟩)))
     . rw[if_neg hb]at h1;subst h1;simp [su,hE,gB,hc,hb];refine bq.mk (Less.auto (TL:=[(3,.ptr 2 0 0),(4,.ptr 3 0 0)]) (HL:=[(0,sW sl),(1,.arr 2 0 [[.own 0 0 0 sl.length none,.sl (tr.map aV) true]] true false false),(2,box (ax t)),(3,.arr 5 0 [[.int .i64 0,.str [],.int .i64 0,.int .i64 0,.snil]] true false false)]) (n:=4) (by simp) (by simp) (by simp) (by simp<;>(intro x hx;first|omega|exact⟨.inl hx,by omega⟩))) ?_;simp [hE];exact aj.bO rfl rfl rfl (by simp)
 | some g =>
   simp [hE,EB]
   refine DV hρ hE hcon sl.length (nn:=5) (fun i (t:Ty)=>[(2,.ptr 2 0 0),(3,.ptr 3 0 0),(4,.ptr 4 0 0),(7,.int .i64 (sl.length:Int)),(8,.int .i64 (i:Int))])
    (fun i t=>[(0,sW sl),(1,.arr 10 g (tr.map aV) false false true),(2,.arr 2 0 [[.own 0 0 0 sl.length none,.own 1 g 0 tr.length none]] true false false),(3,box (ax t)),(4,.arr 5 0 [[.int .i64 0,.str [],.int .i64 0,.int .i64 0,.snil]] true false false)])
    (fun i t=>Store.bX ⟨sl,tr⟩ (sl.length-i) t=r) t (Less.auto (by simp) (by simp) (by simp) (by simp<;>(intro x hx;first|omega|exact⟨.inl hx,by omega⟩))) (by simpa using hr) ?_ ?_
   . intro t h1 K;rw[Nat.sub_self]at h1;cases h1;simp [su,hE,Store.bX];refine bq.mk (Less.auto (TL:=[(3,.ptr 3 0 0),(4,.ptr 4 0 0)]) (HL:=[(0,sW sl),(1,.arr 10 g (tr.map aV) false false true),(2,.arr 2 0 [[.own 0 0 0 sl.length none,.own 1 g 0 tr.length none]] true false false),(3,box (ax t)),(4,.arr 5 0 [[.int .i64 0,.str [],.int .i64 0,.int .i64 0,.snil]] true false false)]) (n:=5) (by simp) (by simp) (by simp) (by simp<;>(intro x hx;first|omega|exact⟨.inl hx,by omega⟩))) ?_;simp [hE];exact aj.bO rfl rfl rfl (by simp)
   . intro i t hil h1 K hK;have gB:(i:Int)<sl.length:=by omega
     have hw:IntKind.i64.wrap ((i:Int)+1)=((i+1:Nat):Int):=bu (by omega);rw[show sl.length-i=(sl.length-(i+1))+1 by omega,Store.bX]at h1;by_cases hb:Store.bound ⟨sl,tr⟩ t=true
     . rw[if_pos hb]at h1;obtain⟨hk,x,hx,hxb⟩:=Store.kN hb;obtain⟨j,hjl,hj,hxj⟩:=Store.slot?_at hx;have ht2:Store.to ⟨sl,tr⟩ t=x.type:=by unfold Store.to;rw[hx]
       rw[ht2]at h1;have hnew:=hK _ h1;have d1:j*8 / 8=j:=by omega
       have d2:j*8 % 8=0:=by omega
       have d3:(j*8+1) / 8=j:=by omega
       have d4:(j*8+1) % 8=1:=by omega
       obtain⟨k,n,id,hm,l⟩:=t;simp only[Ty.gz]at hj;subst hj;have zu6:j<sl.length:=hjl;have zuT:sl[j]=x:=hxj;obtain⟨xb,⟨xk,xn,xi,xh,xl⟩,xm,xg⟩:=x;simp [su,hE,gB,hc,hb,hw,zu6,zuT,d3,d4,-Int.natCast_add];exact hnew _ _ (Less.auto (by simp[-Int.natCast_add]) (by simp) (by simp) (by simp<;>(intro x hx;first|omega|exact⟨.inl hx,by omega⟩)))
     . rw[if_neg hb]at h1;subst h1;simp [su,hE,gB,hc,hb];refine bq.mk (Less.auto (TL:=[(3,.ptr 3 0 0),(4,.ptr 4 0 0)]) (HL:=[(0,sW sl),(1,.arr 10 g (tr.map aV) false false true),(2,.arr 2 0 [[.own 0 0 0 sl.length none,.own 1 g 0 tr.length none]] true false false),(3,box (ax t)),(4,.arr 5 0 [[.int .i64 0,.str [],.int .i64 0,.int .i64 0,.snil]] true false false)]) (n:=5) (by simp) (by simp) (by simp) (by simp<;>(intro x hx;first|omega|exact⟨.inl hx,by omega⟩))) ?_;simp [hE];exact aj.bO rfl rfl rfl (by simp)
end
theorem zbj:Valid ρ Tryz.prog 84 (E9 (bz fun (s:Store) (t:Ty)=>some (s.bound t))):=c2 (fo Tryz.func84 zvH) fun a b r h hs=>by
 cases h;exact wy hρ (E:=EL [(107,bZ (bz fun (s:Store) (i:Int)=>some (s.slot? i).isSome))]) rfl (au (ag (zp1 hρ) az)) rfl hs
def dW:J.Spec:=E9 (dH fun (s:Store) (t:Ty) (m:Int)=>if s.dF/\t.ok=true/\m<1000000 then some ((sz s.w t (max m 0).toNat:Nat):Int)else none)
theorem zm4:Valid ρ Tryz.prog 46 dW:=c3 (fo Tryz.func46 zoZ) fun a b c r h hs=>by
 obtain⟨⟨h1,h2,h3⟩,rfl⟩:=bI h;exact JW hρ (Nat.le_refl _) (zsQ hρ 1000000 (Nat.le_refl _)) rfl h1 h2 (by omega) hs
theorem zm3:Valid ρ Tryz.prog 100 (zaQ 1 zP):=Valid.zaQ (fo Tryz.func100 zrS) (by omega) fun vs es _ h _ hs hv=>by
 obtain⟨s,l,rfl,h1,rfl⟩:=QB h;exact EG hρ (E:=EL [(125,dN (znt 125 (Store.zaD 100000)))]) rfl (au (ag (zAJ hρ 100000) az)) rfl h1 hv
theorem zm2:Valid ρ Tryz.prog 67 (Zi (zp3 Dx)):=Valid.Zi (fo Tryz.func67 zoY) fun vs hs D h hp=>by
 obtain⟨args,sl,tr,g,r,c,d,hF,rfl,_,hr,hg,hfit⟩:=znd h;obtain⟨t,rfl,h1,rfl⟩:=YJ hF;have zaO:(EL [(84,E9 (bz fun (s:Store) (t:Ty)=>some (s.bound t)))]).P=Tryz.prog:=rfl;have hcn:aZ ρ (EL [(84,E9 (bz fun (s:Store) (t:Ty)=>some (s.bound t)))]):=au (ag (zbj hρ) az);exact znZ hρ hcn follows named Tryz.func67 zoY rfl hg rfl hr (Jj hρ zaO hcn rfl h1 rfl) hfit
end
end Go.Proofs.YtocdkgjpdnamlaaGreat
/- The program's unification: Zc a slot,zvl a type. -/
namespace Go.Proofs.YtocdkgjpdnamlaaGreat
open Go.J
open Go.J.Enc (enc)
set_option maxRecDepth 100000
set_option maxHeartbeats 1000000
def CF(sl:List Slot)(tr:List Change)(args:List V):Option (V×List Slot×List Change):=match args with
 | [.int .i64 n,xv]=>ob (Enc.dec xv:Option Slot) fun x=>if 0<=n/\n<sl.length/\tr.length<=5000/\sl.length<=1000 then some (.tuple [],(Store.mF ⟨sl,tr⟩ n x).slots,(Store.mF ⟨sl,tr⟩ n x).trail.drop tr.length)else none
 |_=>none
theorem zb0{sl:List Slot}{tr:List Change}{args:List V}{q:V×List Slot×List Change}(h:CF sl tr args=some q):∃ (i:Nat) (x:Slot),args=[.int .i64 (i:Int),enc x]/\i<sl.length/\tr.length<=5000/\sl.length<=1000/\q=(.tuple [],(Store.mF ⟨sl,tr⟩ (i:Int) x).slots,(Store.mF ⟨sl,tr⟩ (i:Int) x).trail.drop tr.length):=by
 unfold CF at h;split at h
 . simp only[af]at h;obtain⟨x,hx,h⟩:=h;split at h
   . rename_i hh;obtain⟨h0,h1,h2,h3⟩:=hh;obtain⟨i,rfl⟩:=Int.eq_ofNat_of_zero_le h0;cases h;exact⟨i,x,by rw[Enc.aU _ _ hx],by omega,h2,h3,rfl⟩
   . cases h
 . cases h
theorem Y7{sl:List Slot}{tr:List Change}{i:Nat}(hi:i<sl.length){x:Slot}(h:sl[i].bound=x.bound/\sl[i].home=x.home/\sl[i].base=x.base):Store.mF ⟨sl,tr⟩ (i:Int) x=⟨sl,tr⟩:=by
 unfold Store.mF;rw[if_pos (by rw[Store.eD (s:=⟨sl,tr⟩) hi];exact h)]
theorem zb1{sl:List Slot}{tr:List Change}{i:Nat}(hi:i<sl.length){x:Slot}(h:¬ (sl[i].bound=x.bound/\sl[i].home=x.home/\sl[i].base=x.base)):Store.mF ⟨sl,tr⟩ (i:Int) x=⟨sl.set i x,tr++[⟨(i:Int),sl[i],false⟩]⟩:=by
 unfold Store.mF;rw[if_neg (by rw[Store.eD (s:=⟨sl,tr⟩) hi];exact h),Store.eX hi]
section
variable {ρ:Nat->Value}(hρ:J.Good ρ)
include hρ
section
variable {E:Env}(hE:E.P=Tryz.prog)(hcon:aZ ρ E)
include hE hcon
theorem Ns {sl:List Slot} {tr:List Change} {g:Option Nat} {i:Nat} {x:Slot} (hi:i<sl.length) (ht:tr.length<=5000) (hl:sl.length<=1000) {sl':List Slot} {ex:List Change} (h:Store.mF ⟨sl,tr⟩ (i:Int) x=⟨sl',tr++ex⟩) :
 Wp ρ E (uK g 3) 64 zvv (((PT.leaf.set 0 (.ptr 0 0 0)).set 1 (.int .i64 (i:Int))).set 2 (enc x)) { H:=di (aH sl tr g),n:=uK g 3,log:=[] } (J.Leaves E.P Tryz.f98 (aj (uK g 3) (.tuple []) (aH sl' (tr++ex) (gN g ex.length)))):=by
 have hd1:i*8 / 8=i:=by omega
 have hd2:i*8 % 8=0:=by omega
 have k1:(tr.length+1)*104<=1048576:=by omega
 have hil:(i:Int)<sl.length:=by omega
 by_cases c:sl[i].bound=x.bound/\sl[i].home=x.home/\sl[i].base=x.base
 . rw[Y7 hi c]at h;obtain⟨h1,h2⟩:=Store.mk.inj h;subst h1;have hex:ex=[]:=by simpa using h2
   subst hex;obtain⟨y,hy⟩:∃ y,sl[i]=y:=⟨_,rfl⟩;rw[hy]at c;obtain⟨xb,⟨xk,xn,xi,xh,xl⟩,xm,xg⟩:=x;obtain⟨yb,⟨yk,yn,yi,yh,yl⟩,ym,yg⟩:=y;obtain⟨rfl,rfl,rfl⟩:=c
   cases g with
   | none =>
     cases yb<;>cases yg <;>
     simp [hE,aH,hi,hd1,hd2,hy] <;>
     exact aj.bO rfl rfl rfl (by simp)
   | some g =>
     cases yb<;>cases yg <;>
     simp [hE,aH,hi,hd1,hd2,hy] <;>
     exact aj.bO rfl rfl rfl (by simp)
 . rw [zb1 hi c]at h;obtain⟨h1,h2⟩:=Store.mk.inj h;subst h1
   have hex:ex=[⟨(i:Int),sl[i],false⟩]:=by
    have:=h2;simpa using this.symm
   subst hex;have hset:∀ z:Slot,(sl.map aX).set i (aX z)=(sl.set i z).map aX:=fun z=>by rw[List.map_set]
   obtain⟨y,hy⟩:∃ y,sl[i]=y:=⟨_,rfl⟩;rw[hy]at c ⊢;obtain⟨xb,⟨xk,xn,xi,xh,xl⟩,xm,xg⟩:=x;obtain⟨yb,⟨yk,yn,yi,yh,yl⟩,ym,yg⟩:=y;have O0:=hset ⟨xb,.mk xk xn xi xh xl,xm,xg⟩;simp only[aX,Ty.dx,Ty.vN,Ty.gz,Ty.tH,Ty.cZ]at O0;have happ:∀ z:Change,tr.map aV++[aV z]=(tr++[z]).map aV:=fun z=>by simp
   by_cases hm:ym=xm
   . subst hm;have c':¬ (yb=xb/\yg=xg):=fun h=>c ⟨h.1,rfl,h.2⟩
     cases g with
     | none =>
       cases yb<;>cases xb<;>cases yg<;>cases xg<;>first|(exact absurd ⟨rfl,rfl⟩ c')|skip
       all_goals
        simp [hE,aH,hi,hd1,hd2,hy,k1,-List.map_set,O0];exact aj.JB (fun k=>if k=3 then 50 else k) rfl rfl ⟨rfl,rfl⟩ (by simp[-List.map_set])
     | some g =>
       cases yb<;>cases xb<;>cases yg<;>cases xg<;>first|(exact absurd ⟨rfl,rfl⟩ c')|skip
       all_goals
        simp [hE,aH,hi,hd1,hd2,hy,k1,Nat.not_succ_le_self,-List.map_set,O0];exact aj.bO rfl rfl rfl (by simp[-List.map_set])
   . cases g with
     | none =>
       cases yb<;>cases xb
       all_goals
        simp [hE,aH,hi,hd1,hd2,hy,hm,k1,-List.map_set,O0];exact aj.JB (fun k=>if k=3 then 50 else k) rfl rfl ⟨rfl,rfl⟩ (by simp[-List.map_set])
     | some g =>
       cases yb<;>cases xb
       all_goals
        simp [hE,aH,hi,hd1,hd2,hy,hm,k1,Nat.not_succ_le_self,-List.map_set,O0];exact aj.bO rfl rfl rfl (by simp[-List.map_set])
end
end
end Go.Proofs.YtocdkgjpdnamlaaGreat
/- The program's unification: zvl a variable a type,Us two variables. -/
namespace Go.Proofs.YtocdkgjpdnamlaaGreat
open Go.J
open Go.J.Enc (enc)
set_option maxRecDepth 100000
set_option maxHeartbeats 1000000
theorem FC{sl:List Slot}{tr:List Change}{i:Nat}{x:Slot}(hi:i<sl.length)(ht:tr.length<=5000)(hl:sl.length<=1000){sl':List Slot}{ex:List Change}(h:Store.mF ⟨sl,tr⟩ (i:Int) x=⟨sl',tr++ex⟩):CF sl tr [.int .i64 (i:Int),enc x]=some (.tuple [],sl',ex):=by
 show ob (Enc.dec (enc x):Option Slot) _=_;rw[Enc.bV];show (if 0<=(i:Int)/\(i:Int)<sl.length/\tr.length<=5000/\sl.length<=1000 then _ else none)=_;rw[if_pos ⟨by omega,by omega,ht,hl⟩,h];simp
def zD(sl:List Slot)(tr:List Change)(args:List V):Option (V×List Slot×List Change):=match args with
 | [.int .i64 n,tv]=>ob (Enc.dec tv:Option Ty) fun t=>if 0<=n/\n<sl.length/\tr.length<=5000/\sl.length<=1000 then some (.tuple [],(Store.mY ⟨sl,tr⟩ n t).slots,(Store.mY ⟨sl,tr⟩ n t).trail.drop tr.length)else none
 |_=>none
theorem ZV{sl:List Slot}{tr:List Change}{args:List V}{q:V×List Slot×List Change}(h:zD sl tr args=some q):∃ (i:Nat) (t:Ty),args=[.int .i64 (i:Int),enc t]/\i<sl.length/\tr.length<=5000/\sl.length<=1000/\q=(.tuple [],(Store.mY ⟨sl,tr⟩ (i:Int) t).slots,(Store.mY ⟨sl,tr⟩ (i:Int) t).trail.drop tr.length):=by
 unfold zD at h;split at h
 . simp only[af]at h;obtain⟨x,hx,h⟩:=h;split at h
   . rename_i hh;obtain⟨h0,h1,h2,h3⟩:=hh;obtain⟨i,rfl⟩:=Int.eq_ofNat_of_zero_le h0;cases h;exact⟨i,x,by rw[Enc.aU _ _ hx],by omega,h2,h3,rfl⟩
   . cases h
 . cases h
theorem xI{sl:List Slot}{tr:List Change}{i:Nat}{x:Ty}(hi:i<sl.length)(ht:tr.length<=5000)(hl:sl.length<=1000){sl':List Slot}{ex:List Change}(h:Store.mY ⟨sl,tr⟩ (i:Int) x=⟨sl',tr++ex⟩):zD sl tr [.int .i64 (i:Int),enc x]=some (.tuple [],sl',ex):=by
 show ob (Enc.dec (enc x):Option Ty) _=_;rw[Enc.bV];show (if 0<=(i:Int)/\(i:Int)<sl.length/\tr.length<=5000/\sl.length<=1000 then _ else none)=_;rw[if_pos ⟨by omega,by omega,ht,hl⟩,h];simp
section
variable {ρ:Nat->Value}(hρ:J.Good ρ)
include hρ
section
variable {E:Env}(hE:E.P=Tryz.prog)(hcon:aZ ρ E)
include hE hcon
theorem KU(hc:E.dS 98=dN (sO CF)){sl:List Slot}{tr:List Change}{g:Option Nat}{i:Nat}{t:Ty}(hi:i<sl.length)(ht:tr.length<=5000)(hl:sl.length<=1000){sl':List Slot}{ex:List Change}(h:Store.mY ⟨sl,tr⟩ (i:Int) t=⟨sl',tr++ex⟩) :
 Wp ρ E (uK g 3) 24 zvu (((PT.leaf.set 0 (.ptr 0 0 0)).set 1 (.int .i64 (i:Int))).set 2 (enc t)) { H:=di (aH sl tr g),n:=uK g 3,log:=[] } (J.Leaves E.P Tryz.f99 (aj (uK g 3) (.tuple []) (aH sl' (tr++ex) (gN g ex.length)))):=by
 have hd1:i*8 / 8=i:=by omega
 have hd2:i*8 % 8=0:=by omega
 have hil:(i:Int)<sl.length:=by omega
 unfold Store.mY at h;rw[Store.eD (s:=⟨sl,tr⟩) hi]at h;have hF:=FC hi ht hl h;obtain⟨y,hy⟩:∃ y,sl[i]=y:=⟨_,rfl⟩;have hy':(⟨sl,tr⟩:Store).slots[i]=y:=hy;rw[hy']at hF;obtain⟨yb,⟨yk,yn,yi,yh,yl⟩,ym,yg⟩:=y;obtain⟨tk,tn,ti,th,ta⟩:=t;simp at hF
 cases g with
 | none =>
   cases ex with
   | nil =>
     simp [hE,aH,hi,hd1,hd2,hy,hc,hF,ae];exact aj.bO rfl rfl rfl (by simp)
   | cons c ex =>
     obtain⟨tr2,htr⟩:∃ tr2,tr++c::ex=tr2:=⟨_,rfl⟩;simp [htr,hE,aH,hi,hd1,hd2,hy,hc,hF,ae];exact aj.auto (by simp) (by simp) (by simp) (by simp<;>(intro x hx;first|omega|exact⟨.inl hx,by omega⟩))
 | some g =>
   obtain⟨tr2,htr⟩:∃ tr2,tr++ex=tr2:=⟨_,rfl⟩;simp [htr,hE,aH,hi,hd1,hd2,hy,hc,hF,ae];exact aj.bO rfl rfl rfl (by simp)
theorem KS (hcs:E.dS 98=dN (sO CF)) (hcg:E.dS 99=dN (sO zD)) {sl:List Slot} {tr:List Change} {g:Option Nat} {a b p q:Ty} {i j:Nat} (hp:p.id=i) (hq:q.id=j) (zmq:i<sl.length) (zmp:j<sl.length)
 (hab:(a=p/\b=q/\i<=j)\/(a=q/\b=p/\i<j)) (ht:tr.length<=4999) (hl:sl.length<=1000) {sl1 sl2:List Slot} {qV fK:List Change} (hx1:qV.length<=1) (hl1:sl1.length=sl.length)
 (h1:Store.mF ⟨sl,tr⟩ (i:Int) (Store.qj ⟨sl,tr⟩ (i:Int) (j:Int))=⟨sl1,tr++qV⟩) (h2:Store.mY ⟨sl1,tr++qV⟩ (j:Int) p=⟨sl2,tr++qV++fK⟩) :
 Wp ρ E (uK g 3) 60 zoV (((PT.leaf.set 0 (.ptr 0 0 0)).set 1 (enc a)).set 2 (enc b)) { H:=di (aH sl tr g),n:=uK g 3,log:=[] } (J.Leaves E.P Tryz.f74 (aj (uK g 3) (.tuple []) (aH sl2 (tr++(qV++fK)) (gN g (qV++fK).length)))):=by
 have Pb:i*8 / 8=i:=by omega
 have O9:i*8 % 8=0:=by omega
 have O8:j*8 / 8=j:=by omega
 have O7:j*8 % 8=0:=by omega
 unfold Store.qj at h1;rw[Store.eD (s:=⟨sl,tr⟩) zmq,Store.eD (s:=⟨sl,tr⟩) zmp]at h1;have hF1:=FC zmq (by omega) hl h1;have hF2:=xI (x:=p) (by rw[hl1];exact zmp) (by rw[List.length_append];omega) (by rw[hl1];exact hl) h2;obtain⟨y,hy⟩:∃ y,sl[i]=y:=⟨_,rfl⟩;have hy':(⟨sl,tr⟩:Store).slots[i]=y:=hy;obtain⟨z,hz⟩:∃ z,sl[j]=z:=⟨_,rfl⟩;have hz':(⟨sl,tr⟩:Store).slots[j]=z:=hz;rw[hy',hz']at hF1;obtain⟨yb,⟨yk,yn,yi,yh,yl⟩,ym,yg⟩:=y;obtain⟨zb,⟨zk,zn,zi,zh,zl⟩,zm,zg⟩:=z;obtain⟨pk,pn,pi,ph,pa⟩:=p;obtain⟨qk,qn,qi,qh,qa⟩:=q;simp only[Ty.gz]at hp hq;subst hp hq;have I8:(if zm<ym then zm else ym)=min ym zm:=by split<;>omega
 clear hy' hz' h1 h2;simp at hF1;simp at hF2;generalize min ym zm=mm at I8 hF1;rcases hab with⟨rfl,rfl,hij⟩|⟨rfl,rfl,hij⟩
 . have Ma:¬ (j:Int)<i:=by omega
   cases g with
   | none =>
     rcases qV with _|⟨c,qV⟩
     . rcases fK with _|⟨d,fK⟩
       . cases yg
         all_goals
          simp at hF1 hF2;simp [hE,aH,Ma,zmq,zmp,Pb,O9,O8,O7,hy,hz,I8,hcs,hcg,hF1,hF2,hl1,ae];exact aj.bO rfl rfl rfl (by simp)
       . obtain⟨tr2,htr⟩:∃ tr2,tr++d::fK=tr2:=⟨_,rfl⟩;cases yg
         all_goals
          simp at hF1 hF2;simp [htr,hE,aH,Ma,zmq,zmp,Pb,O9,O8,O7,hy,hz,I8,hcs,hcg,hF1,hF2,hl1,ae];exact aj.auto (by simp) (by simp) (by simp) (by simp<;>(intro x hx;first|omega|exact⟨.inl hx,by omega⟩))
     . obtain⟨iC,Am⟩:∃ iC,tr++c::qV=iC:=⟨_,rfl⟩;obtain⟨tr2,d9⟩:∃ tr2,iC++fK=tr2:=⟨_,rfl⟩;have hfin:tr++c::(qV++fK)=tr2:=by rw[<- d9,<- Am];simp
       cases yg
       all_goals
        simp[Am]at hF1 hF2;simp [Am,d9,hfin,hE,aH,Ma,zmq,zmp,Pb,O9,O8,O7,hy,hz,I8,hcs,hcg,hF1,hF2,hl1,ae];exact aj.auto (by simp) (by simp) (by simp) (by simp<;>(intro x hx;first|omega|exact⟨.inl hx,by omega⟩))
   | some g =>
     obtain⟨iC,Am⟩:∃ iC,tr++qV=iC:=⟨_,rfl⟩;obtain⟨tr2,d9⟩:∃ tr2,iC++fK=tr2:=⟨_,rfl⟩;have hfin:tr++(qV++fK)=tr2:=by rw[<- d9,<- Am];simp
     cases yg
     all_goals
      simp[Am]at hF1 hF2;simp [Am,d9,hfin,Nat.add_assoc,hE,aH,Ma,zmq,zmp,Pb,O9,O8,O7,hy,hz,I8,hcs,hcg,hF1,hF2,hl1,ae];exact aj.bO rfl rfl rfl (by simp)
 . have Ma:(i:Int)<j:=by omega
   cases g with
   | none =>
     rcases qV with _|⟨c,qV⟩
     . rcases fK with _|⟨d,fK⟩
       . cases yg
         all_goals
          simp at hF1 hF2;simp [hE,aH,Ma,zmq,zmp,Pb,O9,O8,O7,hy,hz,I8,hcs,hcg,hF1,hF2,hl1,ae];exact aj.bO rfl rfl rfl (by simp)
       . obtain⟨tr2,htr⟩:∃ tr2,tr++d::fK=tr2:=⟨_,rfl⟩;cases yg
         all_goals
          simp at hF1 hF2;simp [htr,hE,aH,Ma,zmq,zmp,Pb,O9,O8,O7,hy,hz,I8,hcs,hcg,hF1,hF2,hl1,ae];exact aj.auto (by simp) (by simp) (by simp) (by simp<;>(intro x hx;first|omega|exact⟨.inl hx,by omega⟩))
     . obtain⟨iC,Am⟩:∃ iC,tr++c::qV=iC:=⟨_,rfl⟩;obtain⟨tr2,d9⟩:∃ tr2,iC++fK=tr2:=⟨_,rfl⟩;have hfin:tr++c::(qV++fK)=tr2:=by rw[<- d9,<- Am];simp
       cases yg
       all_goals
        simp[Am]at hF1 hF2;simp [Am,d9,hfin,hE,aH,Ma,zmq,zmp,Pb,O9,O8,O7,hy,hz,I8,hcs,hcg,hF1,hF2,hl1,ae];exact aj.auto (by simp) (by simp) (by simp) (by simp<;>(intro x hx;first|omega|exact⟨.inl hx,by omega⟩))
   | some g =>
     obtain⟨iC,Am⟩:∃ iC,tr++qV=iC:=⟨_,rfl⟩;obtain⟨tr2,d9⟩:∃ tr2,iC++fK=tr2:=⟨_,rfl⟩;have hfin:tr++(qV++fK)=tr2:=by rw[<- d9,<- Am];simp
     cases yg
     all_goals
      simp[Am]at hF1 hF2;simp [Am,d9,hfin,Nat.add_assoc,hE,aH,Ma,zmq,zmp,Pb,O9,O8,O7,hy,hz,I8,hcs,hcg,hF1,hF2,hl1,ae];exact aj.bO rfl rfl rfl (by simp)
end
end
end Go.Proofs.YtocdkgjpdnamlaaGreat
/- The program's unification: the contracts of set,give and join;the slot of a variable. -/
namespace Go.Proofs.YtocdkgjpdnamlaaGreat
open Go.J
open Go.J.Enc (enc)
set_option maxRecDepth 100000
set_option maxHeartbeats 1000000
def DY(sl:List Slot)(tr:List Change)(args:List V):Option (V×List Slot×List Change):=match args with
 | [av,bv]=>ob (Enc.dec av:Option Ty) fun a=>ob (Enc.dec bv:Option Ty) fun b=>if 0<=a.id/\a.id<sl.length/\0<=b.id/\b.id<sl.length/\a.id≠b.id/\tr.length<=4999/\sl.length<=1000 then some (.tuple [],(Store.lu ⟨sl,tr⟩ a b).slots,(Store.lu ⟨sl,tr⟩ a b).trail.drop tr.length)else none
 |_=>none
theorem ZH{sl:List Slot}{tr:List Change}{args:List V}{q:V×List Slot×List Change}(h:DY sl tr args=some q):∃ (a b:Ty) (i j:Nat),args=[enc a,enc b]/\a.id=(i:Int)/\b.id=(j:Int)/\i<sl.length/\j<sl.length/\i≠j/\tr.length<=4999/\sl.length<=1000/\q=(.tuple [],(Store.lu ⟨sl,tr⟩ a b).slots,(Store.lu ⟨sl,tr⟩ a b).trail.drop tr.length):=by
 unfold DY at h;split at h
 . simp only[af]at h;obtain⟨a,ha,b,hb,h⟩:=h;split at h
   . rename_i hh;obtain⟨h0,h1,h2,h3,h4,h5,h6⟩:=hh;obtain⟨i,hi⟩:=Int.eq_ofNat_of_zero_le h0;obtain⟨j,hj⟩:=Int.eq_ofNat_of_zero_le h2;cases h;exact⟨a,b,i,j,by rw[Enc.aU _ _ ha,Enc.aU _ _ hb],hi,hj,by omega,by omega,by omega,h5,h6,rfl⟩
   . cases h
 . cases h
theorem OT{sl:List Slot}{tr:List Change}{a b:Ty}{i j:Nat}(hi:a.id=(i:Int))(hj:b.id=(j:Int))(hi1:i<sl.length)(hj1:j<sl.length)(hij:i≠j)(ht:tr.length<=4999)(hl:sl.length<=1000){sl':List Slot}{ex:List Change}(h:Store.lu ⟨sl,tr⟩ a b=⟨sl',tr++ex⟩):DY sl tr [enc a,enc b]=some (.tuple [],sl',ex):=by
 show ob (Enc.dec (enc a):Option Ty) (fun a=>ob (Enc.dec (enc b):Option Ty) _)=_;rw[Enc.bV,Enc.bV];show (if _ then _ else none)=_;rw[if_pos ⟨by omega,by omega,by omega,by omega,by omega,ht,hl⟩,h];simp
def mR:Slot:=⟨false,.mk 0 [] 0 0 [],0,false⟩
def wz(sl:List Slot)(tr:List Change)(args:List V):Option (V×List Slot×List Change):=match args with
 | [tv]=>ob (Enc.dec tv:Option Ty) fun t=>some (if Store.iR ⟨sl,tr⟩ t=true then .tuple [enc (Store.aJ ⟨sl,tr⟩ t.id),.bool true]else .tuple [enc mR,.bool false],sl,[])
 |_=>none
theorem Y1{sl:List Slot}{tr:List Change}{args:List V}{q:V×List Slot×List Change}(h:wz sl tr args=some q):∃ t:Ty,args=[enc t]/\q=(if Store.iR ⟨sl,tr⟩ t=true then .tuple [enc (Store.aJ ⟨sl,tr⟩ t.id),.bool true]else .tuple [enc mR,.bool false],sl,[]):=by
 unfold wz at h;split at h
 . simp only[af]at h;obtain⟨t,ht,h⟩:=h;cases h;exact⟨t,by rw[Enc.aU _ _ ht],rfl⟩
 . cases h
theorem uD(sl:List Slot)(tr:List Change)(t:Ty):wz sl tr [enc t]=some (if Store.iR ⟨sl,tr⟩ t=true then .tuple [enc (Store.aJ ⟨sl,tr⟩ t.id),.bool true]else .tuple [enc mR,.bool false],sl,[]):=by
 show ob (Enc.dec (enc t):Option Ty) _=_;rw[Enc.bV];rfl
section
variable {ρ:Nat->Value}(hρ:J.Good ρ)
include hρ
section
variable {E:Env}(hE:E.P=Tryz.prog)(hcon:aZ ρ E)
include hE hcon
theorem KR {sl:List Slot} {tr:List Change} {g:Option Nat} {t:Ty} :
 Wp ρ E (uK g 3) 53 zvE ((PT.leaf.set 0 (.ptr 0 0 0)).set 1 (enc t)) { H:=di (aH sl tr g),n:=uK g 3,log:=[] } (J.Leaves E.P Tryz.f73 (aj (uK g 3) (if Store.iR ⟨sl,tr⟩ t=true then .tuple [enc (Store.aJ ⟨sl,tr⟩ t.id),.bool true]else .tuple [enc mR,.bool false]) (aH sl tr g))):=by
 by_cases hk:t.kind=1
 . cases h : Store.slot? ⟨sl,tr⟩ t.id with
   | none =>
     have hf:Store.iR ⟨sl,tr⟩ t=false:=by unfold Store.iR Store.bG;rw[h];simp
     rw[hf];have:=Store.slot?_none h;by_cases h0:t.id<0
     . cases g<;>simp [hE,aH,hk,h0]<;>exact aj.keep rfl rfl (by simp[mR]) (by simp) (by simp)
     . have h1:¬ t.id<(sl.length:Int):=by
        rcases this with h|h
        . exact absurd h h0
        . have:((⟨sl,tr⟩:Store).slots.length:Int)<=t.id:=by omega
          simpa using this
       have h2:(sl.length:Int)<=t.id:=by omega
       cases g<;>simp [hE,aH,hk,h0,h2]<;>exact aj.keep rfl rfl (by simp[mR]) (by simp) (by simp)
   | some x =>
     obtain⟨i,hl,hi,hx⟩:=Store.slot?_at h;have hd:Store.aJ ⟨sl,tr⟩ t.id=x:=by rw[hi,Store.eD (s:=⟨sl,tr⟩) hl,hx]
     have hil:i<sl.length:=hl;have hix:sl[i]=x:=hx;have gB:(i:Int)<sl.length:=by omega
     have hd1:i*8 / 8=i:=by omega
     have hd2:i*8 % 8=0:=by omega
     have h00:¬ (i:Int)<0:=by omega
     have h01:¬ sl.length<=i:=by omega
     have hf:Store.iR ⟨sl,tr⟩ t=!x.bound:=by unfold Store.iR Store.bG;rw[h,hd,decide_eq_true hk];rfl
     rw[hf,hd];obtain⟨xb,⟨xk,xn,xi,xh,xl⟩,xm,xg⟩:=x
     cases xb with
     |true=>cases g<;>simp [hE,aH,hk,hi,h00,h01,hil,hix,hd1,hd2]<;>exact aj.keep rfl rfl (by simp[mR]) (by simp) (by simp)
     |false=>cases g<;>simp [hE,aH,hk,hi,h00,h01,hil,hix,hd1,hd2]<;>exact aj.keep rfl rfl (by simp) (by simp) (by simp)
 . have hf:Store.iR ⟨sl,tr⟩ t=false:=by unfold Store.iR Store.bG;simp[hk]
   rw[hf];cases g<;>simp [hE,aH,hk]<;>exact aj.keep rfl rfl (by simp[mR]) (by simp) (by simp)
end
theorem zbg:Valid ρ Tryz.prog 98 (dN (sO CF)):=by
 refine Valid.PI (fo Tryz.func98 zEb) fun vs hs D h=>?_
 obtain⟨args,sl,tr,g,r,sl',ex,a,b,c,d,hF,rfl,_,hr,hg,hfit⟩:=yf h;obtain⟨i,x,rfl,h1,h2,h3,hq⟩:=zb0 hF;cases hq;exact em hρ (E:=EL []) rfl (au az) Tryz.func98 zEb rfl hg (Ns hρ (E:=EL []) rfl (au az) h1 h2 h3 (Store.ko ⟨sl,tr⟩ i x).eq) hfit
theorem zbh:Valid ρ Tryz.prog 99 (dN (sO zD)):=by
 refine Valid.PI (fo Tryz.func99 zEa) fun vs hs D h=>?_
 obtain⟨args,sl,tr,g,r,sl',ex,a,b,c,d,hF,rfl,_,hr,hg,hfit⟩:=yf h;obtain⟨i,x,rfl,h1,h2,h3,hq⟩:=ZV hF;cases hq;have hcn:aZ ρ (EL [(98,dN (sO CF))]):=au (ag (zbg hρ) az);exact em hρ rfl hcn Tryz.func99 zEa rfl hg (KU hρ rfl hcn rfl h1 h2 h3 (Store.kZ ⟨sl,tr⟩ i x).eq) hfit
theorem zsL:Valid ρ Tryz.prog 74 (dN (sO DY)):=by
 refine Valid.PI (fo Tryz.func74 zEi) fun vs hs D h=>?_
 obtain⟨args,sl,tr,g,r,sl',ex,a,b,c,d,hF,rfl,_,hr,hg,hfit⟩:=yf h;obtain⟨x,y,i,j,rfl,h1,h2,h3,h4,h5,h6,h7,hq⟩:=ZH hF;cases hq;have hcn:aZ ρ (EL [(98,dN (sO CF)),(99,dN (sO zD))]):=au (ag (zbg hρ) (ag (zbh hρ) az));refine em hρ rfl hcn Tryz.func74 zEi rfl hg ?_ hfit
 have key:∀ (p q:Ty) (i j:Nat),p.id=i->q.id=j->i<sl.length->j<sl.length->((x=p/\y=q/\i<=j)\/(x=q/\y=p/\i<j))->Store.lu ⟨sl,tr⟩ x y=(Store.mF ⟨sl,tr⟩ i (Store.qj ⟨sl,tr⟩ i j)).mY j p ->
  Wp ρ (EL [(98,dN (sO CF)),(99,dN (sO zD))]) (uK g 3) 60 zoV (((PT.leaf.set 0 (.ptr 0 0 0)).set 1 (enc x)).set 2 (enc y)) { H:=di (aH sl tr g),n:=uK g 3,log:=[] } (J.Leaves Tryz.prog Tryz.f74 (aj (uK g 3) (.tuple []) (aH (Store.lu ⟨sl,tr⟩ x y).slots (tr++(Store.lu ⟨sl,tr⟩ x y).trail.drop tr.length) (gN g ((Store.lu ⟨sl,tr⟩ x y).trail.drop tr.length).length)))):=by
  intro p q i j hp hq hi hj hab e;have g1:=Store.ko ⟨sl,tr⟩ i (Store.qj ⟨sl,tr⟩ i j);have e1:=g1.eq;have g2:=Store.kZ (Store.mF ⟨sl,tr⟩ i (Store.qj ⟨sl,tr⟩ i j)) j p;have e2:=g2.eq;obtain⟨qV,t1,t2⟩:=g1.trail;obtain⟨fK,t3,t4⟩:=g2.trail
  have e3:(Store.lu ⟨sl,tr⟩ x y).trail.drop tr.length=qV++fK:=by
   rw[e,t3,t1];show ((tr++qV)++fK).drop tr.length=_;rw[List.append_assoc,List.drop_left]
  rw[e3];have s1:Store.mF ⟨sl,tr⟩ i (Store.qj ⟨sl,tr⟩ i j)=⟨(Store.mF ⟨sl,tr⟩ i (Store.qj ⟨sl,tr⟩ i j)).slots,tr++qV⟩:=by rw[<- t1]
  refine KS hρ rfl hcn rfl rfl hp hq hi hj hab h6 h7 t2 g1.len s1 ?_;rw[<- s1,e];rw[t1]at t3;rw[<- t3]
 by_cases hc:j<i
 . exact key y x j i h2 h1 h4 h3 (.inr ⟨rfl,rfl,hc⟩) (by unfold Store.lu;rw[if_pos (by rw[h1,h2];omega),h1,h2])
 . exact key x y i j h1 h2 h3 h4 (.inl ⟨rfl,rfl,by omega⟩) (by unfold Store.lu;rw[if_neg (by rw[h1,h2];omega),h1,h2])
theorem zbf:Valid ρ Tryz.prog 73 (Oj (sO wz)):=Valid.Oj (fo Tryz.func73 zEj) fun vs hs D h hp=>by
 obtain⟨args,sl,tr,g,r,sl',ex,a,b,c,d,hF,rfl,_,hr,hg,hfit⟩:=yf h;obtain⟨t,rfl,hq⟩:=Y1 hF;cases hq;exact znY hρ (au az) follows named Tryz.func73 zEj rfl hg (by show aH sl (tr++[]) (gN g 0)=aH sl tr g;rw[List.append_nil];rfl) hp (KR hρ (E:=EL []) rfl (au az)) hfit
end
end Go.Proofs.YtocdkgjpdnamlaaGreat
