import Derived.Test.YtfgmnebfhemnpaaGreatLX6
import Derived.Test.YtfgmnebfhemnpaaGreatJZ
import Derived.Test.YtfgmnebfhemnpaaGreatJQ
import Derived.Test.YtfgmnebfhemnpaaGreatJK
import Derived.Test.YtfgmnebfhemnpaaGreatJN
import Derived.Test.YtfgmnebfhemnpaaGreatJUv
import Derived.Test.YtfgmnebfhemnpaaGreatJRt
import Derived.Test.YtfgmnebfhemnpaaGreatJPy
set_option linter.all false
noncomputable section
/- The search for type variables of the store's package. -/
namespace Go.Proofs.YtfgmnebfhemnpaaGreat
open Go.J
open Go.J.Enc (enc)
set_option maxRecDepth 100000
set_option maxHeartbeats 4000000
section
variable {ρ:Nat->Value}(hρ:J.Good ρ){E:Env}(hE:E.P=Tryz.prog)(hcon:ConsOk ρ E)
include hρ hE hcon
theorem zb1 {k d:Nat} (hk:k=5\/k=6) (hc:E.con 125=zaT (svM 125 (Store.svF d))) {s:Store} (hs0:s.tysOk) {l:List Ty} (hlo:∀ x∈l,x.ok=true) (hll:l.length<=10000) {st0 R:Store.Sv} (hv:Store.svL (Store.svO s d) l st0=some R) (hl:R.2.length<=100000) (hk0:k=6->st0.2≠[])
 {T:PT V} {hs:HS} {Q:Ex->PT V->HS->Prop} (hT:Less k T hs (mkP [(1,.ptr 0 0 0),(2,.ptr 2 0 0),(3,.ptr 3 0 0),(4,.ptr 4 0 0),(41,.sl (l.map zw) false),(42,.int .i64 (l.length:Int)),(43,.int .i64 ((0:Nat):Int))]) { H:=mkP (zaK 125 s st0.1 st0.2),n:=6,log:=[] })
 (hQ:Q (.exit 0) (mkP []) { H:=mkP (zaK 125 s R.1 R.2),n:=6,log:=[] }):Ls ρ E k 51 (.loop zec) T hs Q:=by
 refine lpi hρ hE hcon l.length (nn:=6) (fun i (_:Store.Sv)=>[(1,.ptr 0 0 0),(2,.ptr 2 0 0),(3,.ptr 3 0 0),(4,.ptr 4 0 0),(41,.sl (l.map zw) false),(42,.int .i64 (l.length:Int)),(43,.int .i64 (i:Int))])
  (fun i st=>zaK 125 s st.1 st.2) (fun i st=>Store.svL (Store.svO s d) (l.drop i) st=some R/\(k=6->st.2≠[])) st0 hT ⟨by simpa using hv,hk0⟩ ?_ ?_
 . rintro ⟨seen,out⟩ ⟨h1,h2⟩ K;rw[List.drop_length]at h1;cases h1;simp only at h2 hQ;rcases hk with rfl|rfl
   . rcases out with _|⟨x,out⟩<;>simp [zec,hE,zaK,zb0] <;>
     exact LessQ.mk (Less.auto (by simp[zaK]) (by simp[zaK,zb0]) (by simp[zaK]) (by simp[zaK]<;>(intro x hx;first|omega|exact⟨.inl hx,by omega⟩))) hQ
   . rcases out with _|⟨x,out⟩
     . exact absurd rfl (h2 rfl)
     . simp [zec,hE,zaK,zb0];exact LessQ.mk (Less.auto (by simp[zaK]) (by simp[zaK,zb0]) (by simp[zaK]) (by simp[zaK]<;>(intro x hx;first|omega|exact⟨.inl hx,by omega⟩))) hQ
 . rintro i ⟨seen,out⟩ hil ⟨h1,h2⟩ K hK;have hil':(i:Int)<l.length:=by omega
   have hw:IntKind.i64.wrap ((i:Int)+1)=((i+1:Nat):Int):=zJ (by omega);rw[List.drop_eq_getElem_cons hil,Store.svL]at h1;have hxo:=hlo _ (List.getElem_mem hil);obtain⟨x,hx⟩:∃ x,l[i]=x:=⟨_,rfl⟩;rw[hx]at h1 hxo;split at h1
   case h_2=>cases h1
   rename_i st' h3;have hm1:=Store.svO_len s _ _ _ _ h3;have hm2:=Store.svL_len (Store.svO_len s d) _ _ _ h1;have hF:=Store.svF_mk hs0 hxo h3 (Nat.le_trans hm2 hl);obtain⟨seen',out'⟩:=st';simp only at hm1 h2
   have hnew:=hK (seen',out') ⟨h1,fun h e=>h2 h (by
    simp only at e;rw[e]at hm1
    exact List.eq_nil_of_length_eq_zero (Nat.le_zero.1 hm1))⟩
   obtain⟨xk,xn,xi,xh,xa⟩:=x;rcases hk with rfl|rfl
   . rcases out with _|⟨y,out⟩
     . rcases out' with _|⟨z,out'⟩
       . simp [zec,hE,hil,hil',hx,hc,hF,hw,vacant_eq,zaK,zb0,-Int.natCast_add];exact hnew _ _ (Less.auto (by simp[zaK,zb0,-Int.natCast_add]) (by simp[zaK,zb0]) (by simp[zaK]) (by simp[zaK]<;>(intro x hx;first|omega|exact⟨.inl hx,by omega⟩)))
       . simp [zec,hE,hil,hil',hx,hc,hF,hw,vacant_eq,zaK,zb0,-Int.natCast_add];exact hnew _ _ (Less.auto (by simp[zaK,zb0,-Int.natCast_add]) (by simp[zaK,zb0]) (by simp[zaK]) (by simp[zaK]<;>(intro x hx;first|omega|exact⟨.inl hx,by omega⟩)))
     . rcases out' with _|⟨z,out'⟩
       . simp at hm1
       . have hmono':out.length<=out'.length:=by simpa using hm1
         simp [zec,hE,hil,hil',hx,hc,hF,hw,hmono',vacant_eq,zaK,zb0,-Int.natCast_add];exact hnew _ _ (Less.auto (by simp[zaK,zb0,-Int.natCast_add]) (by simp[zaK,zb0]) (by simp[zaK]) (by simp[zaK]<;>(intro x hx;first|omega|exact⟨.inl hx,by omega⟩)))
   . rcases out with _|⟨y,out⟩
     . exact absurd rfl (h2 rfl)
     . rcases out' with _|⟨z,out'⟩
       . simp at hm1
       . have hmono':out.length<=out'.length:=by simpa using hm1
         simp [zec,hE,hil,hil',hx,hc,hF,hw,hmono',vacant_eq,zaK,zb0,-Int.natCast_add];exact hnew _ _ (Less.auto (by simp[zaK,zb0,-Int.natCast_add]) (by simp[zaK,zb0]) (by simp[zaK]) (by simp[zaK]<;>(intro x hx;first|omega|exact⟨.inl hx,by omega⟩)))
theorem zg3 {d:Nat} (hc:E.con 125=zaT (svM 125 (Store.svF d))) (hbd:E.con 84=fnS (zW fun (s:Store) (t:Ty)=>some (s.bound t)))
 {s:Store} {t:Ty} {st R:Store.Sv} (hR:Store.svF (d+1) s st t=some R) {a m c b e ro:Nat} {vs:List V} {hs:HS} (hfit:(svD 125 s (enc t) a m c b e ro st R).Fits vs hs) :
 CallOk ρ Tryz.prog 125 vs hs ((svD 125 s (enc t) a m c b e ro st R).val hs) ((svD 125 s (enc t) a m c b e ro st R).heap hs):=by
 obtain⟨hs0,ht,hv,hl⟩:=Store.svF_inv hR;have hmono:=Store.svO_len s _ _ _ _ hv;refine em hρ hE hcon Tryz.func125 z9w rfl (znM hmono) ?_ hfit;rw[Store.svO]at hv;obtain⟨seen,out⟩:=st;simp only at hv hmono;obtain⟨tk,tn,ti,th,ta⟩:=t;simp only[Ty.kind_mk,Ty.id_mk,Ty.args_mk]at hv;by_cases hk:tk=1
 . subst hk;rw[if_pos rfl]at hv;by_cases hm:ti∈seen
   . rw[if_pos hm]at hv;cases hv;rcases out with _|⟨x,out⟩
     . simp [hE,hm,svD,zaK,zan,zaz,zbV];exact GivesL.keepX rfl rfl rfl (by simp[zb0])
     . simp [hE,hm,svD,zaK,zan,zaz,zbV];exact GivesL.keepX rfl rfl rfl (by simp[zb0])
   rw[if_neg hm]at hv;have hz:zqm I4=some (V.bool false):=by rfl
   cases hb:s.bound (Ty.mk 1 tn ti th ta)with
   | false =>
     rw[if_pos hb]at hv;cases hv;rcases out with _|⟨x,out⟩
     . simp [hE,hm,hbd,hb,svD,zaK,zan,zaz,zbV,zU,hz];exact GivesL.litX (fun k=>if k=5 then 25 else k) rfl rfl ⟨rfl,rfl⟩ (by simp[zb0])
     . have h64:(out.length+1+1)*8<=1048576:=by simp at hl;omega
       simp [hE,hm,hbd,hb,h64,Nat.not_succ_le_self,svD,zaK,zan,zaz,zbV,zU,hz];exact GivesL.keepX rfl rfl rfl (by simp[zb0])
   | true =>
     rw[if_neg (by rw[hb];simp)]at hv;obtain⟨_,i,x,hi,hil,hx,hxb,hto⟩:=Store.bound_slot hb;simp only[Ty.id_mk]at hi;subst hi;rw[hto]at hv;have hx0:s.slots[i]=x:=(List.getElem?_eq_some_iff.1 hx).2;have hi1:i*8 / 8=i:=by omega
     have hi2:i*8 % 8=0:=by omega
     have hi3:(i*8+1) / 8=i:=by omega
     have hi4:(i*8+1) % 8=1:=by omega
     have hxo:x.type.ok=true:=hs0.2 x (hx0 ▸ List.getElem_mem hil);clear hx hto;obtain⟨xb,⟨ck,cn,ci,ch,ca⟩,xh,xg⟩:=x;simp only[Ty.kind_mk,Ty.args_mk]at hv hxo hxb;obtain⟨seen',out'⟩:=R;simp only at hmono hl;by_cases hk2:ck=1
     . subst hk2;rw[if_pos rfl]at hv;have hF:Store.svF d s (seen++[(i:Int)],out) (.mk 1 cn ci ch ca)=some (seen',out'):=Store.svF_mk hs0 hxo hv hl;rcases out with _|⟨y,out⟩
       . rcases out' with _|⟨z,out'⟩
         . simp only[svD,zaK,zb0];simp [hE,hm,hbd,hb,hil,hx0,hi1,hi2,hi3,hi4,hc,hF,vacant_eq,zan,zaz,zbV,zU,hz,zb0];exact GivesL.keepX rfl rfl rfl (by simp[zb0])
         . simp only[svD,zaK,zb0];simp [hE,hm,hbd,hb,hil,hx0,hi1,hi2,hi3,hi4,hc,hF,vacant_eq,zan,zaz,zbV,zU,hz,zb0];exact GivesL.litX (fun k=>if k=5 then 35 else k) rfl rfl ⟨rfl,rfl⟩ (by simp[zb0])
       . rcases out' with _|⟨z,out'⟩
         . simp at hmono
         . simp only[svD,zaK,zb0];have hmono':out.length<=out'.length:=by simpa using hmono
           simp [hE,hm,hbd,hb,hil,hx0,hi1,hi2,hi3,hi4,hc,hF,vacant_eq,zan,zaz,zbV,zU,hz,zb0];exact⟨hmono',GivesL.keepX rfl rfl rfl (by simp[zb0])⟩
     . rw [if_neg hk2]at hv;have hv':Store.svL (Store.svO s d) ca (seen++[(i:Int)],out)=some (seen',out'):=hv;have hao:=(Ty.ok_iff.1 hxo).2;have hall:=Ty.ok_len hxo;simp only[Ty.args_mk]at hao hall;rcases out with _|⟨y,out⟩
       . simp only[svD,zaK,zb0];simp [hE,hm,hbd,hb,hil,hx0,hi1,hi2,hi3,hi4,hk2,vacant_eq,zan,zaz,zbV,zU,hz,zb0];refine zb1 hρ hE hcon (.inl rfl) hc hs0 hao hall hv' hl (fun h=>by cases h) (Less.auto (by simp[zaK]) (by simp[zaK,zb0]) (by simp[zaK]) (by simp[zaK]<;>(intro x hx;first|omega|exact⟨.inl hx,by omega⟩))) ?_;rcases out' with _|⟨z,out'⟩
         . simp [hE,zaK,zb0];exact GivesL.keepX rfl rfl rfl (by simp[zb0])
         . simp [hE,zaK,zb0];exact GivesL.keepX rfl rfl rfl (by simp[zb0])
       . simp only[svD,zaK,zb0];simp [hE,hm,hbd,hb,hil,hx0,hi1,hi2,hi3,hi4,hk2,vacant_eq,zan,zaz,zbV,zU,hz,zb0];refine zb1 hρ hE hcon (.inr rfl) hc hs0 hao hall hv' hl (fun _=>by simp) (Less.auto (by simp[zaK]) (by simp[zaK,zb0]) (by simp[zaK]) (by simp[zaK]<;>(intro x hx;first|omega|exact⟨.inl hx,by omega⟩))) ?_;rcases out' with _|⟨z,out'⟩
         . simp at hmono
         . simp [hE,zaK,zb0];exact GivesL.keepX rfl rfl rfl (by simp[zb0])
 . rw [if_neg hk]at hv;have hao:=(Ty.ok_iff.1 ht).2;have hall:=Ty.ok_len ht;simp only[Ty.args_mk]at hao hall;obtain⟨seen',out'⟩:=R;simp only at hmono hl;rcases out with _|⟨y,out⟩
   . simp only[svD,zaK,zb0];simp [hE,hk,zb0];refine zb1 hρ hE hcon (.inl rfl) hc hs0 hao hall hv hl (fun h=>by cases h) (Less.auto (by simp[zaK]) (by simp[zaK,zb0]) (by simp[zaK]) (by simp[zaK]<;>(intro x hx;first|omega|exact⟨.inl hx,by omega⟩))) ?_;rcases out' with _|⟨z,out'⟩
     . simp [hE,zaK,zb0];exact GivesL.keepX rfl rfl rfl (by simp[zb0])
     . simp [hE,zaK,zb0];exact GivesL.keepX rfl rfl rfl (by simp[zb0])
   . simp only[svD,zaK,zb0];simp [hE,hk,zb0];refine zb1 hρ hE hcon (.inr rfl) hc hs0 hao hall hv hl (fun _=>by simp) (Less.auto (by simp[zaK]) (by simp[zaK,zb0]) (by simp[zaK]) (by simp[zaK]<;>(intro x hx;first|omega|exact⟨.inl hx,by omega⟩))) ?_;rcases out' with _|⟨z,out'⟩
     . simp at hmono
     . simp [hE,zaK,zb0];exact GivesL.keepX rfl rfl rfl (by simp[zb0])
end
end Go.Proofs.YtfgmnebfhemnpaaGreat
/- store.Vars. -/
namespace Go.Proofs.YtfgmnebfhemnpaaGreat
open Go.J
open Go.J.Enc (enc)
set_option maxRecDepth 100000
set_option maxHeartbeats 4000000
theorem zw6{s:Store}{l:List Ty}(h:zbw s l):(varsS s l).length<=100000:=by
 have h1:=zyR (s:=s) (f:=100000) (fun t st=>ziJ s 100000 t st) l (([]:List Int),List.replicate s.slots.length false);have h2:=h.2.2.2;have h3:=h1.2.2.2;unfold varsS;simp only[List.length_nil]at h3;omega
section
variable {ρ:Nat->Value}(hρ:J.Good ρ){E:Env}(hE:E.P=Tryz.prog)(hcon:ConsOk ρ E)
include hρ hE hcon
end
section
variable {ρ:Nat->Value}(hρ:J.Good ρ)
include hρ
theorem zKC(d:Nat):Valid ρ Tryz.prog 125 (zaT (svM 125 (Store.svF d))):=by
 induction d with
 | zero =>
   refine Valid.emb (fo Tryz.func125 z9w) fun vs hs D h=>?_
   obtain⟨s,t,st,r,a,m,c,b,e,ro,hR,rfl,_,_,hfit⟩:=zqC h;have:=(Store.svF_inv hR).2.2.1;cases this
 | succ d ih =>
   refine Valid.emb (fo Tryz.func125 z9w) fun vs hs D h=>?_
   obtain⟨s,t,st,r,a,m,c,b,e,ro,hR,rfl,_,_,hfit⟩:=zqC h;exact zg3 hρ (E:=EL [(125,zaT (svM 125 (Store.svF d))),(84,fnS (zW fun (s:Store) (t:Ty)=>some (s.bound t)))]) rfl (zu (zq ih (zq (zqu hρ) valid_nil))) rfl rfl hR hfit
end
@[simp] theorem zEZ {f:Nat}:(V.func f []).pure=true:=(rfl)
@[simp] theorem zBB {f:Nat} {hs:HS}:zbh hs (V.func f [])=some (V.func f []):=(rfl)
@[simp] theorem z9k {f:Nat} {hs:HS}:zbp hs (V.func f [])=hs:=(rfl)
@[simp] theorem zFa {f:Nat}:zat (V.func f [])=.func f []:=(rfl)
section
variable {ρ:Nat->Value}(hρ:J.Good ρ)
include hρ
section
variable {E:Env}(hE:E.P=Tryz.prog)(hcon:ConsOk ρ E)
include hE hcon
end
section
variable {E:Env}(hE:E.P=Tryz.prog)(hcon:ConsOk ρ E)
include hE hcon
end
section
variable {E:Env}(hE:E.P=Tryz.prog)(hcon:ConsOk ρ E)
include hE hcon
end
end
def zrI:List Int->Int->Int->Int
 | [],_,_=>-1
 |y::l,x,i=>if x=y then i else zrI l x (i+1)
theorem z9a:∀ (l:List Int) (x i:Int),0<=i->(decide (zrI l x i ≥ 0))=decide (x∈l):=by
 intro l
 induction l with
 |nil=>intro x i h;simp[zrI]
 | cons y l ih =>
   intro x i h;rw[zrI];split
   . rename_i e;simp[e,h]
   . rename_i e;rw[ih x (i+1) (by omega)];simp[e]
section
variable {ρ:Nat->Value}(hρ:J.Good ρ)
include hρ
section
variable {E:Env}(hE:E.P=Tryz.prog)(hcon:ConsOk ρ E)
include hE hcon
theorem zg5{l:List Int}{x:Int}(hl:l.length<=1000000)(hs:HS):CallOk ρ Tryz.prog 126 [enc l,enc x] hs (enc (zrI l x 0)) hs:=by
 refine fn hρ hE hcon Tryz.func126 zFA rfl (by simp) ?_ hs;generalize hr:zrI l x 0=r;simp [hE]
 refine lpi hρ hE hcon l.length (nn:=0) (fun i (_:Unit)=>[(0,.sl (l.map encI) false),(1,.int .i64 x),(7,.int .i64 (l.length:Int)),(8,.int .i64 (i:Int))]) (fun i _=>[]) (fun i _=>zrI (l.drop i) x i=r) ()
  (Less.auto (by simp) (by simp) (by simp) (by simp)) (by simpa using hr) ?_ ?_
 . intro _ h K;rw[List.drop_length,zrI]at h;simp [zkk,hE];refine LessQ.mk (Less.auto (TL:=[]) (HL:=[]) (n:=0) (by simp) (by simp) (by simp) (by simp)) ?_;simp [hE,h]
 . intro i _ hi h K hK;have hi':(i:Int)<l.length:=by omega
   have hw2:IntKind.i64.wrap ((i:Int)+1)=((i+1:Nat):Int):=zJ (by omega);rw[List.drop_eq_getElem_cons hi,zrI]at h;by_cases he:x=l[i]
   . rw[if_pos he]at h;simp [zkk,hE,hi,hi',<- he];refine LessQ.mk (Less.auto (TL:=[(4,.int .i64 (i:Int))]) (HL:=[]) (n:=0) (by simp) (by simp) (by simp) (by simp)) ?_;simp [hE,h]
   . rw[if_neg he]at h;have hnew:=hK () (by simpa using h);simp [zkk,hE,hi,hi',he,hw2,-Int.natCast_add];exact hnew _ _ (Less.auto (by simp[-Int.natCast_add]) (by simp) (by simp) (by simp))
theorem zeM(hI:E.con 126=fnC (zW fun (l:List Int) (x:Int)=>if l.length<=1000000 then some (zrI l x 0)else none)){l:List Int}{x:Int}(hl:l.length<=1000000)(hs:HS):CallOk ρ Tryz.prog 102 [enc l,enc x] hs (enc (decide (x∈l))) hs:=by
 refine fn hρ hE hcon Tryz.func102 zFF rfl (by simp) ?_ hs;rw[<- z9a l x 0 (by omega)];simp [hE,hI,hl]
end
def zz4:J.Spec:=fnC (zW fun (l:List Int) (x:Int)=>if l.length<=1000000 then some (zrI l x 0)else none)
theorem zCU:Valid ρ Tryz.prog 126 zz4:=c2 (fo Tryz.func126 zFA) fun a b r h hs=>by
 obtain⟨h1,rfl⟩:=zV h;exact zg5 hρ (E:=EL []) rfl (zu valid_nil) h1 hs
theorem zqw:Valid ρ Tryz.prog 102 zkj:=c2 (fo Tryz.func102 zFF) fun a b r h hs=>by
 obtain⟨h1,rfl⟩:=zV h;exact zeM hρ (E:=EL [(126,zz4)]) rfl (zu (zq (zCU hρ) valid_nil)) rfl h1 hs
end
end Go.Proofs.YtfgmnebfhemnpaaGreat
/- The program's unification: what it reads in a store. -/
namespace Go.Proofs.YtfgmnebfhemnpaaGreat
open Go.J
open Go.J.Enc (enc)
set_option maxRecDepth 100000
set_option maxHeartbeats 1000000
def zgR(vs:List V):Option (List (List V)):=match vs with
 | [x,y]=>ob (Enc.dec x:Option Store) fun s=>ob (Enc.dec y:Option (List Ty)) fun l=>if zbw s l then some ((varsS s l).map encI)else none
 |_=>none
@[simp] theorem zH6 {x y:V}:zgR [x,y]=ob (Enc.dec x:Option Store) fun s=>ob (Enc.dec y:Option (List Ty)) fun l=>if zbw s l then some ((varsS s l).map encI)else none:=(rfl)
theorem zoQ{vs:List V}{es:List (List V)}(h:zgR vs=some es):∃ (s:Store) (l:List Ty),vs=[enc s,enc l]/\zbw s l/\es=(varsS s l).map encI:=by
 unfold zgR at h;split at h
 . simp only[zt]at h;obtain⟨s,hs,l,hl,h⟩:=h;obtain⟨h1,rfl⟩:=zV h;exact⟨s,l,by rw[Enc.enc_dec _ _ hs,Enc.enc_dec _ _ hl],h1,rfl⟩
 . cases h
def zk2(s:Store)(args:List V):Option V:=match args with
 | [tv]=>ob (Enc.dec tv:Option Ty) fun t=>if s.slots.length<=1000000 then some (enc (s.w t))else none
 |_=>none
@[simp] theorem zK4 {s:Store} {tv:V}:zk2 s [tv]=ob (Enc.dec tv:Option Ty) fun t=>if s.slots.length<=1000000 then some (enc (s.w t))else none:=(rfl)
theorem zqp{s:Store}{args:List V}{r:V}(h:zk2 s args=some r):∃ t:Ty,args=[enc t]/\s.slots.length<=1000000/\r=enc (s.w t):=by
 unfold zk2 at h;split at h
 . simp only[zt]at h;obtain⟨t,ht,h⟩:=h;obtain⟨h1,rfl⟩:=zV h;exact⟨t,by rw[Enc.enc_dec _ _ ht],h1,rfl⟩
 . cases h
section
variable {ρ:Nat->Value}(hρ:J.Good ρ)
include hρ
section
variable {E:Env}(hE:E.P=Tryz.prog)(hcon:ConsOk ρ E)
include hE hcon
theorem zhc (hc:E.con 125=zaT (svM 125 (Store.svF 100000))) {s:Store} {l:List Ty} (hv:zbw s l) {hs0:HS} (hvac:hs0.H.get hs0.n=none) :
 CallOk ρ Tryz.prog 100 [enc s,enc l] hs0 (oV hs0.n ((varsS s l).map encI)) (bi (Nat.beq (zS ((varsS s l).map encI)) 0) hs0 { H:=hs0.H.set hs0.n (oO 1 ((varsS s l).map encI)),n:=hs0.n+1,log:=hs0.n::hs0.log }):=by
 refine row hρ hE hcon Tryz.func100 zFH rfl (by simp) (zbz _) ?_ hvac;obtain⟨R,hR,hRv⟩:=Store.svs_vars hv;have hlen:=zw6 hv;rw[<- hRv]at hlen ⊢;have hsO:=hv.1;have hlo:=Ty.oks_iff.1 hv.2.1;have hll:=hv.2.2.1;simp [hE]
 refine lpi hρ hE hcon l.length (nn:=6) (fun i (_:Store.Sv)=>[(5,.ptr 3 0 0),(7,.ptr 4 0 0),(12,.sl (l.map zw) false),(13,.int .i64 (l.length:Int)),(14,.int .i64 (i:Int))])
  (fun i st=>zaK 125 s st.1 st.2) (fun i st=>Store.svL (Store.svO s 100000) (l.drop i) st=some R) ([],[])
  (Less.lit (fun k=>if k=0 then 4 else if k=1 then 3 else if k=2 then 0 else if k=3 then 2 else if k=4 then 6 else k) 6 (by simp[zaK]) (by simp[zaK,zb0]) rfl rfl) (by simpa using hR) ?_ ?_
 . rintro ⟨seen,out⟩ h1 K;rw[List.drop_length]at h1;cases h1;rcases out with _|⟨x,out⟩
   . simp [zgg,hE,zaK,zb0];refine LessQ.mk (Less.auto (TL:=[(5,.ptr 0 0 0)]) (HL:=[(0,zaM .snil)]) (n:=1) (by simp) (by simp) (by simp) (by simp<;>(intro x hx;first|omega|exact⟨.inl hx,by omega⟩))) ?_;simp [hE];exact GivesL.keepX rfl rfl rfl (by simp)
   . simp [zgg,hE,zaK,zb0];refine LessQ.mk (Less.auto (TL:=[(5,.ptr 0 0 0)]) (HL:=[(0,zaM (.own 1 out.length 0 (out.length+1) none)),(1,.arr 1 out.length ((x::out).map encI) false false true)]) (n:=2) (by simp) (by simp) (by simp) (by simp<;>(intro x hx;first|omega|exact⟨.inl hx,by omega⟩))) ?_;simp [hE];exact GivesL.litX (fun k=>if k=0 then 1 else k) rfl rfl ⟨rfl,rfl⟩ (by simp)
 . rintro i ⟨seen,out⟩ hil h1 K hK;have hil':(i:Int)<l.length:=by omega
   have hw:IntKind.i64.wrap ((i:Int)+1)=((i+1:Nat):Int):=zJ (by omega);rw[List.drop_eq_getElem_cons hil,Store.svL]at h1;have hxo:=hlo _ (List.getElem_mem hil);obtain⟨x,hx⟩:∃ x,l[i]=x:=⟨_,rfl⟩;rw[hx]at h1 hxo;split at h1
   case h_2=>cases h1
   rename_i st' h3;have hm1:=Store.svO_len s _ _ _ _ h3;have hm2:=Store.svL_len (Store.svO_len s 100000) _ _ _ h1;have hF:=Store.svF_mk hsO hxo h3 (Nat.le_trans hm2 hlen);obtain⟨seen',out'⟩:=st';simp only at hm1;have hnew:=hK (seen',out') h1;obtain⟨xk,xn,xi,xh,xa⟩:=x;rcases out with _|⟨y,out⟩
   . rcases out' with _|⟨z,out'⟩
     . simp [zgg,hE,hil,hil',hx,hc,hF,hw,vacant_eq,zaK,zb0,-Int.natCast_add];exact hnew _ _ (Less.auto (by simp[zaK,zb0,-Int.natCast_add]) (by simp[zaK,zb0]) (by simp[zaK]) (by simp[zaK]))
     . simp [zgg,hE,hil,hil',hx,hc,hF,hw,vacant_eq,zaK,zb0,-Int.natCast_add];exact hnew _ _ (Less.auto (by simp[zaK,zb0,-Int.natCast_add]) (by simp[zaK,zb0]) (by simp[zaK]) (by simp[zaK]))
   . rcases out' with _|⟨z,out'⟩
     . simp at hm1
     . have hmono':out.length<=out'.length:=by simpa using hm1
       simp [zgg,hE,hil,hil',hx,hc,hF,hw,hmono',vacant_eq,zaK,zb0,-Int.natCast_add];exact hnew _ _ (Less.auto (by simp[zaK,zb0,-Int.natCast_add]) (by simp[zaK,zb0]) (by simp[zaK]) (by simp[zaK]))
theorem zjE (hc:E.con 84=fnC (zW fun (s:Store) (t:Ty)=>some (s.bound t))) {sl:List Slot} {tr:List Change} {g:Option Nat} (h:sl.length<=1000000) {t r:Ty} (hr:Store.walkN ⟨sl,tr⟩ sl.length t=r) :
 Wp ρ E (uK g 1) 23 zML ((PT.leaf.set 0 (.agg [.own 0 0 0 sl.length none,trC 1 tr g])).set 1 (enc t)) { H:=mkP (zqe sl tr g),n:=uK g 1,log:=[] } (J.Leaves E.P Tryz.f67 (GivesL (uK g 1) (enc r) (zqe sl tr g))):=by
 cases g with
 | none =>
   simp [hE,zqe]
   refine lpi hρ hE hcon sl.length (nn:=4) (fun i (t:Ty)=>[(2,.ptr 1 0 0),(3,.ptr 2 0 0),(4,.ptr 3 0 0),(7,.int .i64 (sl.length:Int)),(8,.int .i64 (i:Int))])
    (fun i t=>[(0,slO sl),(1,.arr 2 0 [[.own 0 0 0 sl.length none,.sl (tr.map zA) true]] true false false),(2,box (zw t)),(3,.arr 5 0 [[.int .i64 0,.str [],.int .i64 0,.int .i64 0,.snil]] true false false)])
    (fun i t=>Store.walkN ⟨sl,tr⟩ (sl.length-i) t=r) t (Less.auto (by simp) (by simp) (by simp) (by simp<;>(intro x hx;first|omega|exact⟨.inl hx,by omega⟩))) (by simpa using hr) ?_ ?_
   . intro t h1 K;rw[Nat.sub_self]at h1;cases h1;simp [zeb,hE,Store.walkN];refine LessQ.mk (Less.auto (TL:=[(3,.ptr 2 0 0),(4,.ptr 3 0 0)]) (HL:=[(0,slO sl),(1,.arr 2 0 [[.own 0 0 0 sl.length none,.sl (tr.map zA) true]] true false false),(2,box (zw t)),(3,.arr 5 0 [[.int .i64 0,.str [],.int .i64 0,.int .i64 0,.snil]] true false false)]) (n:=4) (by simp) (by simp) (by simp) (by simp<;>(intro x hx;first|omega|exact⟨.inl hx,by omega⟩))) ?_;simp [hE];exact GivesL.keepX rfl rfl rfl (by simp[zo,zf])
   . intro i t hil h1 K hK;have hil':(i:Int)<sl.length:=by omega
     have hw:IntKind.i64.wrap ((i:Int)+1)=((i+1:Nat):Int):=zJ (by omega);rw[show sl.length-i=(sl.length-(i+1))+1 by omega,Store.walkN]at h1;by_cases hb:Store.bound ⟨sl,tr⟩ t=true
     . rw[if_pos hb]at h1;obtain⟨hk,x,hx,hxb⟩:=Store.bound_true hb;obtain⟨j,hjl,hj,hxj⟩:=Store.slot?_at hx;have ht2:Store.to ⟨sl,tr⟩ t=x.type:=by unfold Store.to;rw[hx]
       rw[ht2]at h1;have hnew:=hK _ h1;have d1:j*8 / 8=j:=by omega
       have d2:j*8 % 8=0:=by omega
       have d3:(j*8+1) / 8=j:=by omega
       have d4:(j*8+1) % 8=1:=by omega
       obtain⟨k,n,id,hm,l⟩:=t;simp only[Ty.id_mk]at hj;subst hj;have hjl':j<sl.length:=hjl;have hxj':sl[j]=x:=hxj;obtain⟨xb,⟨xk,xn,xi,xh,xl⟩,xm,xg⟩:=x;simp [zeb,hE,hil,hil',hc,hb,hw,hjl',hxj',d1,d2,d3,d4,-Int.natCast_add];exact hnew _ _ (Less.auto (by simp[-Int.natCast_add]) (by simp) (by simp) (by simp<;>(intro x hx;first|omega|exact⟨.inl hx,by omega⟩)))
     . rw[if_neg hb]at h1;subst h1;simp [zeb,hE,hil,hil',hc,hb];refine LessQ.mk (Less.auto (TL:=[(3,.ptr 2 0 0),(4,.ptr 3 0 0)]) (HL:=[(0,slO sl),(1,.arr 2 0 [[.own 0 0 0 sl.length none,.sl (tr.map zA) true]] true false false),(2,box (zw t)),(3,.arr 5 0 [[.int .i64 0,.str [],.int .i64 0,.int .i64 0,.snil]] true false false)]) (n:=4) (by simp) (by simp) (by simp) (by simp<;>(intro x hx;first|omega|exact⟨.inl hx,by omega⟩))) ?_;simp [hE];exact GivesL.keepX rfl rfl rfl (by simp[zo,zf])
 | some g =>
   simp [hE,zqe]
   refine lpi hρ hE hcon sl.length (nn:=5) (fun i (t:Ty)=>[(2,.ptr 2 0 0),(3,.ptr 3 0 0),(4,.ptr 4 0 0),(7,.int .i64 (sl.length:Int)),(8,.int .i64 (i:Int))])
    (fun i t=>[(0,slO sl),(1,.arr 10 g (tr.map zA) false false true),(2,.arr 2 0 [[.own 0 0 0 sl.length none,.own 1 g 0 tr.length none]] true false false),(3,box (zw t)),(4,.arr 5 0 [[.int .i64 0,.str [],.int .i64 0,.int .i64 0,.snil]] true false false)])
    (fun i t=>Store.walkN ⟨sl,tr⟩ (sl.length-i) t=r) t (Less.auto (by simp) (by simp) (by simp) (by simp<;>(intro x hx;first|omega|exact⟨.inl hx,by omega⟩))) (by simpa using hr) ?_ ?_
   . intro t h1 K;rw[Nat.sub_self]at h1;cases h1;simp [zeb,hE,Store.walkN];refine LessQ.mk (Less.auto (TL:=[(3,.ptr 3 0 0),(4,.ptr 4 0 0)]) (HL:=[(0,slO sl),(1,.arr 10 g (tr.map zA) false false true),(2,.arr 2 0 [[.own 0 0 0 sl.length none,.own 1 g 0 tr.length none]] true false false),(3,box (zw t)),(4,.arr 5 0 [[.int .i64 0,.str [],.int .i64 0,.int .i64 0,.snil]] true false false)]) (n:=5) (by simp) (by simp) (by simp) (by simp<;>(intro x hx;first|omega|exact⟨.inl hx,by omega⟩))) ?_;simp [hE];exact GivesL.keepX rfl rfl rfl (by simp[zo,zf])
   . intro i t hil h1 K hK;have hil':(i:Int)<sl.length:=by omega
     have hw:IntKind.i64.wrap ((i:Int)+1)=((i+1:Nat):Int):=zJ (by omega);rw[show sl.length-i=(sl.length-(i+1))+1 by omega,Store.walkN]at h1;by_cases hb:Store.bound ⟨sl,tr⟩ t=true
     . rw[if_pos hb]at h1;obtain⟨hk,x,hx,hxb⟩:=Store.bound_true hb;obtain⟨j,hjl,hj,hxj⟩:=Store.slot?_at hx;have ht2:Store.to ⟨sl,tr⟩ t=x.type:=by unfold Store.to;rw[hx]
       rw[ht2]at h1;have hnew:=hK _ h1;have d1:j*8 / 8=j:=by omega
       have d2:j*8 % 8=0:=by omega
       have d3:(j*8+1) / 8=j:=by omega
       have d4:(j*8+1) % 8=1:=by omega
       obtain⟨k,n,id,hm,l⟩:=t;simp only[Ty.id_mk]at hj;subst hj;have hjl':j<sl.length:=hjl;have hxj':sl[j]=x:=hxj;obtain⟨xb,⟨xk,xn,xi,xh,xl⟩,xm,xg⟩:=x;simp [zeb,hE,hil,hil',hc,hb,hw,hjl',hxj',d1,d2,d3,d4,-Int.natCast_add];exact hnew _ _ (Less.auto (by simp[-Int.natCast_add]) (by simp) (by simp) (by simp<;>(intro x hx;first|omega|exact⟨.inl hx,by omega⟩)))
     . rw[if_neg hb]at h1;subst h1;simp [zeb,hE,hil,hil',hc,hb];refine LessQ.mk (Less.auto (TL:=[(3,.ptr 3 0 0),(4,.ptr 4 0 0)]) (HL:=[(0,slO sl),(1,.arr 10 g (tr.map zA) false false true),(2,.arr 2 0 [[.own 0 0 0 sl.length none,.own 1 g 0 tr.length none]] true false false),(3,box (zw t)),(4,.arr 5 0 [[.int .i64 0,.str [],.int .i64 0,.int .i64 0,.snil]] true false false)]) (n:=5) (by simp) (by simp) (by simp) (by simp<;>(intro x hx;first|omega|exact⟨.inl hx,by omega⟩))) ?_;simp [hE];exact GivesL.keepX rfl rfl rfl (by simp[zo,zf])
end
theorem zwo:Valid ρ Tryz.prog 84 (fnC (zW fun (s:Store) (t:Ty)=>some (s.bound t))):=c2 (fo Tryz.func84 zMN) fun a b r h hs=>by
 cases h;exact zdS hρ (E:=EL [(107,fnS (zW fun (s:Store) (i:Int)=>some (s.slot? i).isSome))]) rfl (zu (zq (zCQ hρ) valid_nil)) rfl hs
def za7:J.Spec:=fnC (zaA fun (s:Store) (t:Ty) (m:Int)=>if s.tysOk/\t.ok=true/\m<1000000 then some ((sz s.w t (max m 0).toNat:Nat):Int)else none)
theorem z7h:Valid ρ Tryz.prog 44 za7:=c3 (fo Tryz.func44 zJv) fun a b c r h hs=>by
 obtain⟨⟨h1,h2,h3⟩,rfl⟩:=zV h;exact zkQ hρ (Nat.le_refl _) (zCP hρ 1000000 (Nat.le_refl _)) rfl h1 h2 (by omega) hs
theorem z7g:Valid ρ Tryz.prog 100 (fnR 1 zgR):=Valid.fnR (fo Tryz.func100 zFH) (by omega) fun vs es _ h _ hs hv=>by
 obtain⟨s,l,rfl,h1,rfl⟩:=zoQ h;exact zhc hρ (E:=EL [(125,zaT (svM 125 (Store.svF 100000)))]) rfl (zu (zq (zKC hρ 100000) valid_nil)) rfl h1 hv
theorem z7f:Valid ρ Tryz.prog 67 (rdE (usM zk2)):=Valid.rdE (fo Tryz.func67 zJu) fun vs hs D h hp=>by
 obtain⟨args,sl,tr,g,r,c,d,hF,rfl,_,hr,hg,hfit⟩:=z7p h;obtain⟨t,rfl,h1,rfl⟩:=zqp hF;have hEE:(EL [(84,fnC (zW fun (s:Store) (t:Ty)=>some (s.bound t)))]).P=Tryz.prog:=rfl;have hcn:ConsOk ρ (EL [(84,fnC (zW fun (s:Store) (t:Ty)=>some (s.bound t)))]):=zu (zq (zwo hρ) valid_nil);exact z8a hρ hcn follows named Tryz.func67 zJu rfl hg rfl hr (zjE hρ hEE hcn rfl h1 rfl) hfit
end
end Go.Proofs.YtfgmnebfhemnpaaGreat
/- The program's unification: replacing a slot,giving a type. -/
namespace Go.Proofs.YtfgmnebfhemnpaaGreat
open Go.J
open Go.J.Enc (enc)
set_option maxRecDepth 100000
set_option maxHeartbeats 1000000
def zpl(sl:List Slot)(tr:List Change)(args:List V):Option (V×List Slot×List Change):=match args with
 | [.int .i64 n,xv]=>ob (Enc.dec xv:Option Slot) fun x=>if 0<=n/\n<sl.length/\tr.length<=5000/\sl.length<=1000 then some (.tuple [],(Store.setP ⟨sl,tr⟩ n x).slots,(Store.setP ⟨sl,tr⟩ n x).trail.drop tr.length)else none
 |_=>none
theorem zwK{sl:List Slot}{tr:List Change}{args:List V}{q:V×List Slot×List Change}(h:zpl sl tr args=some q):∃ (i:Nat) (x:Slot),args=[.int .i64 (i:Int),enc x]/\i<sl.length/\tr.length<=5000/\sl.length<=1000/\q=(.tuple [],(Store.setP ⟨sl,tr⟩ (i:Int) x).slots,(Store.setP ⟨sl,tr⟩ (i:Int) x).trail.drop tr.length):=by
 unfold zpl at h;split at h
 . simp only[zt]at h;obtain⟨x,hx,h⟩:=h;split at h
   . rename_i hh;obtain⟨h0,h1,h2,h3⟩:=hh;obtain⟨i,rfl⟩:=Int.eq_ofNat_of_zero_le h0;cases h;exact⟨i,x,by rw[Enc.enc_dec _ _ hx],by omega,h2,h3,rfl⟩
   . cases h
 . cases h
theorem zqT{sl:List Slot}{tr:List Change}{i:Nat}(hi:i<sl.length){x:Slot}(h:sl[i].bound=x.bound/\sl[i].home=x.home/\sl[i].base=x.base):Store.setP ⟨sl,tr⟩ (i:Int) x=⟨sl,tr⟩:=by
 unfold Store.setP;rw[if_pos (by rw[Store.slotD_at (s:=⟨sl,tr⟩) hi];exact h)]
theorem zwL{sl:List Slot}{tr:List Change}{i:Nat}(hi:i<sl.length){x:Slot}(h:¬ (sl[i].bound=x.bound/\sl[i].home=x.home/\sl[i].base=x.base)):Store.setP ⟨sl,tr⟩ (i:Int) x=⟨sl.set i x,tr++[⟨(i:Int),sl[i],false⟩]⟩:=by
 unfold Store.setP;rw[if_neg (by rw[Store.slotD_at (s:=⟨sl,tr⟩) hi];exact h),Store.set_some hi]
section
variable {ρ:Nat->Value}(hρ:J.Good ρ)
include hρ
section
variable {E:Env}(hE:E.P=Tryz.prog)(hcon:ConsOk ρ E)
include hE hcon
theorem zm7 {sl:List Slot} {tr:List Change} {g:Option Nat} {i:Nat} {x:Slot} (hi:i<sl.length) (ht:tr.length<=5000) (hl:sl.length<=1000) {sl':List Slot} {ex:List Change} (h:Store.setP ⟨sl,tr⟩ (i:Int) x=⟨sl',tr++ex⟩) :
 Wp ρ E (uK g 3) 64 zMI (((PT.leaf.set 0 (.ptr 0 0 0)).set 1 (.int .i64 (i:Int))).set 2 (enc x)) { H:=mkP (zP sl tr g),n:=uK g 3,log:=[] } (J.Leaves E.P Tryz.f98 (GivesL (uK g 3) (.tuple []) (zP sl' (tr++ex) (gN g ex.length)))):=by
 have hd1:i*8 / 8=i:=by omega
 have hd2:i*8 % 8=0:=by omega
 have k1:(tr.length+1)*104<=1048576:=by omega
 have hil:(i:Int)<sl.length:=by omega
 by_cases c:sl[i].bound=x.bound/\sl[i].home=x.home/\sl[i].base=x.base
 . rw[zqT hi c]at h;obtain⟨h1,h2⟩:=Store.mk.inj h;subst h1;have hex:ex=[]:=by simpa using h2
   subst hex;obtain⟨y,hy⟩:∃ y,sl[i]=y:=⟨_,rfl⟩;rw[hy]at c;obtain⟨xb,⟨xk,xn,xi,xh,xl⟩,xm,xg⟩:=x;obtain⟨yb,⟨yk,yn,yi,yh,yl⟩,ym,yg⟩:=y;obtain⟨rfl,rfl,rfl⟩:=c
   cases g with
   | none =>
     cases yb<;>cases yg <;>
     simp [hE,zP,hi,hd1,hd2,hy] <;>
     exact GivesL.keepX rfl rfl rfl (by simp[zo,zf])
   | some g =>
     cases yb<;>cases yg <;>
     simp [hE,zP,hi,hd1,hd2,hy] <;>
     exact GivesL.keepX rfl rfl rfl (by simp[zo,zf])
 . rw [zwL hi c]at h;obtain⟨h1,h2⟩:=Store.mk.inj h;subst h1
   have hex:ex=[⟨(i:Int),sl[i],false⟩]:=by
    have:=h2;simpa using this.symm
   subst hex;have hset:∀ z:Slot,(sl.map zG).set i (zG z)=(sl.set i z).map zG:=fun z=>by rw[List.map_set]
   obtain⟨y,hy⟩:∃ y,sl[i]=y:=⟨_,rfl⟩;rw[hy]at c ⊢;obtain⟨xb,⟨xk,xn,xi,xh,xl⟩,xm,xg⟩:=x;obtain⟨yb,⟨yk,yn,yi,yh,yl⟩,ym,yg⟩:=y;have hset2:=hset ⟨xb,.mk xk xn xi xh xl,xm,xg⟩;simp only[zG,Ty.kind_mk,Ty.name_mk,Ty.id_mk,Ty.home_mk,Ty.args_mk]at hset2;have happ:∀ z:Change,tr.map zA++[zA z]=(tr++[z]).map zA:=fun z=>by simp
   by_cases hm:ym=xm
   . subst hm;have c':¬ (yb=xb/\yg=xg):=fun h=>c ⟨h.1,rfl,h.2⟩
     cases g with
     | none =>
       cases yb<;>cases xb<;>cases yg<;>cases xg<;>first|(exact absurd ⟨rfl,rfl⟩ c')|skip
       all_goals
        simp [hE,zP,hi,hd1,hd2,hy,k1,-List.map_set,hset2];exact GivesL.litX (fun k=>if k=3 then 50 else k) rfl rfl ⟨rfl,rfl⟩ (by simp[zo,zf,-List.map_set])
     | some g =>
       cases yb<;>cases xb<;>cases yg<;>cases xg<;>first|(exact absurd ⟨rfl,rfl⟩ c')|skip
       all_goals
        simp [hE,zP,hi,hd1,hd2,hy,k1,Nat.not_succ_le_self,-List.map_set,hset2];exact GivesL.keepX rfl rfl rfl (by simp[zo,zf,-List.map_set])
   . cases g with
     | none =>
       cases yb<;>cases xb
       all_goals
        simp [hE,zP,hi,hd1,hd2,hy,hm,k1,-List.map_set,hset2];exact GivesL.litX (fun k=>if k=3 then 50 else k) rfl rfl ⟨rfl,rfl⟩ (by simp[zo,zf,-List.map_set])
     | some g =>
       cases yb<;>cases xb
       all_goals
        simp [hE,zP,hi,hd1,hd2,hy,hm,k1,Nat.not_succ_le_self,-List.map_set,hset2];exact GivesL.keepX rfl rfl rfl (by simp[zo,zf,-List.map_set])
end
end
end Go.Proofs.YtfgmnebfhemnpaaGreat
/- The program's unification: giving a variable a type,joining two variables. -/
namespace Go.Proofs.YtfgmnebfhemnpaaGreat
open Go.J
open Go.J.Enc (enc)
set_option maxRecDepth 100000
set_option maxHeartbeats 1000000
theorem zjG{sl:List Slot}{tr:List Change}{i:Nat}{x:Slot}(hi:i<sl.length)(ht:tr.length<=5000)(hl:sl.length<=1000){sl':List Slot}{ex:List Change}(h:Store.setP ⟨sl,tr⟩ (i:Int) x=⟨sl',tr++ex⟩):zpl sl tr [.int .i64 (i:Int),enc x]=some (.tuple [],sl',ex):=by
 show ob (Enc.dec (enc x):Option Slot) _=_;rw[Enc.dec_enc];show (if 0<=(i:Int)/\(i:Int)<sl.length/\tr.length<=5000/\sl.length<=1000 then _ else none)=_;rw[if_pos ⟨by omega,by omega,ht,hl⟩,h];simp
def ziC(sl:List Slot)(tr:List Change)(args:List V):Option (V×List Slot×List Change):=match args with
 | [.int .i64 n,tv]=>ob (Enc.dec tv:Option Ty) fun t=>if 0<=n/\n<sl.length/\tr.length<=5000/\sl.length<=1000 then some (.tuple [],(Store.giveP ⟨sl,tr⟩ n t).slots,(Store.giveP ⟨sl,tr⟩ n t).trail.drop tr.length)else none
 |_=>none
theorem zrR{sl:List Slot}{tr:List Change}{args:List V}{q:V×List Slot×List Change}(h:ziC sl tr args=some q):∃ (i:Nat) (t:Ty),args=[.int .i64 (i:Int),enc t]/\i<sl.length/\tr.length<=5000/\sl.length<=1000/\q=(.tuple [],(Store.giveP ⟨sl,tr⟩ (i:Int) t).slots,(Store.giveP ⟨sl,tr⟩ (i:Int) t).trail.drop tr.length):=by
 unfold ziC at h;split at h
 . simp only[zt]at h;obtain⟨x,hx,h⟩:=h;split at h
   . rename_i hh;obtain⟨h0,h1,h2,h3⟩:=hh;obtain⟨i,rfl⟩:=Int.eq_ofNat_of_zero_le h0;cases h;exact⟨i,x,by rw[Enc.enc_dec _ _ hx],by omega,h2,h3,rfl⟩
   . cases h
 . cases h
theorem zf7{sl:List Slot}{tr:List Change}{i:Nat}{x:Ty}(hi:i<sl.length)(ht:tr.length<=5000)(hl:sl.length<=1000){sl':List Slot}{ex:List Change}(h:Store.giveP ⟨sl,tr⟩ (i:Int) x=⟨sl',tr++ex⟩):ziC sl tr [.int .i64 (i:Int),enc x]=some (.tuple [],sl',ex):=by
 show ob (Enc.dec (enc x):Option Ty) _=_;rw[Enc.dec_enc];show (if 0<=(i:Int)/\(i:Int)<sl.length/\tr.length<=5000/\sl.length<=1000 then _ else none)=_;rw[if_pos ⟨by omega,by omega,ht,hl⟩,h];simp
section
variable {ρ:Nat->Value}(hρ:J.Good ρ)
include hρ
section
variable {E:Env}(hE:E.P=Tryz.prog)(hcon:ConsOk ρ E)
include hE hcon
theorem zkE(hc:E.con 98=zaT (uwM zpl)){sl:List Slot}{tr:List Change}{g:Option Nat}{i:Nat}{t:Ty}(hi:i<sl.length)(ht:tr.length<=5000)(hl:sl.length<=1000){sl':List Slot}{ex:List Change}(h:Store.giveP ⟨sl,tr⟩ (i:Int) t=⟨sl',tr++ex⟩) :
 Wp ρ E (uK g 3) 24 zMH (((PT.leaf.set 0 (.ptr 0 0 0)).set 1 (.int .i64 (i:Int))).set 2 (enc t)) { H:=mkP (zP sl tr g),n:=uK g 3,log:=[] } (J.Leaves E.P Tryz.f99 (GivesL (uK g 3) (.tuple []) (zP sl' (tr++ex) (gN g ex.length)))):=by
 have hd1:i*8 / 8=i:=by omega
 have hd2:i*8 % 8=0:=by omega
 have hil:(i:Int)<sl.length:=by omega
 unfold Store.giveP at h;rw[Store.slotD_at (s:=⟨sl,tr⟩) hi]at h;have hF:=zjG hi ht hl h;obtain⟨y,hy⟩:∃ y,sl[i]=y:=⟨_,rfl⟩;have hy':(⟨sl,tr⟩:Store).slots[i]=y:=hy;rw[hy']at hF;obtain⟨yb,⟨yk,yn,yi,yh,yl⟩,ym,yg⟩:=y;obtain⟨tk,tn,ti,th,ta⟩:=t;simp at hF
 cases g with
 | none =>
   cases ex with
   | nil =>
     simp [hE,zP,hi,hd1,hd2,hy,hc,hF,vacant_eq];exact GivesL.keepX rfl rfl rfl (by simp[zo,zf])
   | cons c ex =>
     obtain⟨tr2,htr⟩:∃ tr2,tr++c::ex=tr2:=⟨_,rfl⟩;simp [htr,hE,zP,hi,hd1,hd2,hy,hc,hF,vacant_eq];exact GivesL.auto (by simp) (by simp[zo,zf]) (by simp) (by simp<;>(intro x hx;first|omega|exact⟨.inl hx,by omega⟩))
 | some g =>
   obtain⟨tr2,htr⟩:∃ tr2,tr++ex=tr2:=⟨_,rfl⟩;simp [htr,hE,zP,hi,hd1,hd2,hy,hc,hF,vacant_eq];exact GivesL.keepX rfl rfl rfl (by simp[zo,zf])
theorem zkC (hcs:E.con 98=zaT (uwM zpl)) (hcg:E.con 99=zaT (uwM ziC)) {sl:List Slot} {tr:List Change} {g:Option Nat} {a b p q:Ty} {i j:Nat} (hp:p.id=i) (hq:q.id=j) (hip:i<sl.length) (hiq:j<sl.length)
 (hab:(a=p/\b=q/\i<=j)\/(a=q/\b=p/\i<j)) (ht:tr.length<=4999) (hl:sl.length<=1000) {sl1 sl2:List Slot} {ex1 ex2:List Change} (hx1:ex1.length<=1) (hl1:sl1.length=sl.length)
 (h1:Store.setP ⟨sl,tr⟩ (i:Int) (Store.joinLP ⟨sl,tr⟩ (i:Int) (j:Int))=⟨sl1,tr++ex1⟩) (h2:Store.giveP ⟨sl1,tr++ex1⟩ (j:Int) p=⟨sl2,tr++ex1++ex2⟩) :
 Wp ρ E (uK g 3) 60 zJr (((PT.leaf.set 0 (.ptr 0 0 0)).set 1 (enc a)).set 2 (enc b)) { H:=mkP (zP sl tr g),n:=uK g 3,log:=[] } (J.Leaves E.P Tryz.f74 (GivesL (uK g 3) (.tuple []) (zP sl2 (tr++(ex1++ex2)) (gN g (ex1++ex2).length)))):=by
 have hdp1:i*8 / 8=i:=by omega
 have hdp2:i*8 % 8=0:=by omega
 have hdq1:j*8 / 8=j:=by omega
 have hdq2:j*8 % 8=0:=by omega
 unfold Store.joinLP at h1;rw[Store.slotD_at (s:=⟨sl,tr⟩) hip,Store.slotD_at (s:=⟨sl,tr⟩) hiq]at h1;have hF1:=zjG hip (by omega) hl h1;have hF2:=zf7 (x:=p) (by rw[hl1];exact hiq) (by rw[List.length_append];omega) (by rw[hl1];exact hl) h2;obtain⟨y,hy⟩:∃ y,sl[i]=y:=⟨_,rfl⟩;have hy':(⟨sl,tr⟩:Store).slots[i]=y:=hy;obtain⟨z,hz⟩:∃ z,sl[j]=z:=⟨_,rfl⟩;have hz':(⟨sl,tr⟩:Store).slots[j]=z:=hz;rw[hy',hz']at hF1;obtain⟨yb,⟨yk,yn,yi,yh,yl⟩,ym,yg⟩:=y;obtain⟨zb,⟨zk,zn,zi,zh,zl⟩,zm,zg⟩:=z;obtain⟨pk,pn,pi,ph,pa⟩:=p;obtain⟨qk,qn,qi,qh,qa⟩:=q;simp only[Ty.id_mk]at hp hq;subst hp hq;have hmn:(if zm<ym then zm else ym)=min ym zm:=by split<;>omega
 clear hy' hz' h1 h2;simp at hF1;simp at hF2;generalize min ym zm=mm at hmn hF1;rcases hab with⟨rfl,rfl,hij⟩|⟨rfl,rfl,hij⟩
 . have hord:¬ (j:Int)<i:=by omega
   cases g with
   | none =>
     rcases ex1 with _|⟨c,ex1⟩
     . rcases ex2 with _|⟨d,ex2⟩
       . cases yg
         all_goals
          simp at hF1 hF2;simp [hE,zP,hord,hip,hiq,hdp1,hdp2,hdq1,hdq2,hy,hz,hmn,hcs,hcg,hF1,hF2,hl1,vacant_eq];exact GivesL.keepX rfl rfl rfl (by simp[zo,zf])
       . obtain⟨tr2,htr⟩:∃ tr2,tr++d::ex2=tr2:=⟨_,rfl⟩;cases yg
         all_goals
          simp at hF1 hF2;simp [htr,hE,zP,hord,hip,hiq,hdp1,hdp2,hdq1,hdq2,hy,hz,hmn,hcs,hcg,hF1,hF2,hl1,vacant_eq];exact GivesL.auto (by simp) (by simp[zo,zf]) (by simp) (by simp<;>(intro x hx;first|omega|exact⟨.inl hx,by omega⟩))
     . obtain⟨tr1,htr1⟩:∃ tr1,tr++c::ex1=tr1:=⟨_,rfl⟩;obtain⟨tr2,htr2⟩:∃ tr2,tr1++ex2=tr2:=⟨_,rfl⟩;have hfin:tr++c::(ex1++ex2)=tr2:=by rw[<- htr2,<- htr1];simp
       cases yg
       all_goals
        simp[htr1]at hF1 hF2;simp [htr1,htr2,hfin,hE,zP,hord,hip,hiq,hdp1,hdp2,hdq1,hdq2,hy,hz,hmn,hcs,hcg,hF1,hF2,hl1,vacant_eq];exact GivesL.auto (by simp) (by simp[zo,zf]) (by simp) (by simp<;>(intro x hx;first|omega|exact⟨.inl hx,by omega⟩))
   | some g =>
     obtain⟨tr1,htr1⟩:∃ tr1,tr++ex1=tr1:=⟨_,rfl⟩;obtain⟨tr2,htr2⟩:∃ tr2,tr1++ex2=tr2:=⟨_,rfl⟩;have hfin:tr++(ex1++ex2)=tr2:=by rw[<- htr2,<- htr1];simp
     cases yg
     all_goals
      simp[htr1]at hF1 hF2;simp [htr1,htr2,hfin,Nat.add_assoc,hE,zP,hord,hip,hiq,hdp1,hdp2,hdq1,hdq2,hy,hz,hmn,hcs,hcg,hF1,hF2,hl1,vacant_eq];exact GivesL.keepX rfl rfl rfl (by simp[zo,zf])
 . have hord:(i:Int)<j:=by omega
   cases g with
   | none =>
     rcases ex1 with _|⟨c,ex1⟩
     . rcases ex2 with _|⟨d,ex2⟩
       . cases yg
         all_goals
          simp at hF1 hF2;simp [hE,zP,hord,hip,hiq,hdp1,hdp2,hdq1,hdq2,hy,hz,hmn,hcs,hcg,hF1,hF2,hl1,vacant_eq];exact GivesL.keepX rfl rfl rfl (by simp[zo,zf])
       . obtain⟨tr2,htr⟩:∃ tr2,tr++d::ex2=tr2:=⟨_,rfl⟩;cases yg
         all_goals
          simp at hF1 hF2;simp [htr,hE,zP,hord,hip,hiq,hdp1,hdp2,hdq1,hdq2,hy,hz,hmn,hcs,hcg,hF1,hF2,hl1,vacant_eq];exact GivesL.auto (by simp) (by simp[zo,zf]) (by simp) (by simp<;>(intro x hx;first|omega|exact⟨.inl hx,by omega⟩))
     . obtain⟨tr1,htr1⟩:∃ tr1,tr++c::ex1=tr1:=⟨_,rfl⟩;obtain⟨tr2,htr2⟩:∃ tr2,tr1++ex2=tr2:=⟨_,rfl⟩;have hfin:tr++c::(ex1++ex2)=tr2:=by rw[<- htr2,<- htr1];simp
       cases yg
       all_goals
        simp[htr1]at hF1 hF2;simp [htr1,htr2,hfin,hE,zP,hord,hip,hiq,hdp1,hdp2,hdq1,hdq2,hy,hz,hmn,hcs,hcg,hF1,hF2,hl1,vacant_eq];exact GivesL.auto (by simp) (by simp[zo,zf]) (by simp) (by simp<;>(intro x hx;first|omega|exact⟨.inl hx,by omega⟩))
   | some g =>
     obtain⟨tr1,htr1⟩:∃ tr1,tr++ex1=tr1:=⟨_,rfl⟩;obtain⟨tr2,htr2⟩:∃ tr2,tr1++ex2=tr2:=⟨_,rfl⟩;have hfin:tr++(ex1++ex2)=tr2:=by rw[<- htr2,<- htr1];simp
     cases yg
     all_goals
      simp[htr1]at hF1 hF2;simp [htr1,htr2,hfin,Nat.add_assoc,hE,zP,hord,hip,hiq,hdp1,hdp2,hdq1,hdq2,hy,hz,hmn,hcs,hcg,hF1,hF2,hl1,vacant_eq];exact GivesL.keepX rfl rfl rfl (by simp[zo,zf])
end
end
end Go.Proofs.YtfgmnebfhemnpaaGreat
/- The program's unification: the contracts of set,give and join;the slot of a variable. -/
namespace Go.Proofs.YtfgmnebfhemnpaaGreat
open Go.J
open Go.J.Enc (enc)
set_option maxRecDepth 100000
set_option maxHeartbeats 1000000
def zl2(sl:List Slot)(tr:List Change)(args:List V):Option (V×List Slot×List Change):=match args with
 | [av,bv]=>ob (Enc.dec av:Option Ty) fun a=>ob (Enc.dec bv:Option Ty) fun b=>if 0<=a.id/\a.id<sl.length/\0<=b.id/\b.id<sl.length/\a.id≠b.id/\tr.length<=4999/\sl.length<=1000 then some (.tuple [],(Store.joinP ⟨sl,tr⟩ a b).slots,(Store.joinP ⟨sl,tr⟩ a b).trail.drop tr.length)else none
 |_=>none
theorem zrF{sl:List Slot}{tr:List Change}{args:List V}{q:V×List Slot×List Change}(h:zl2 sl tr args=some q):∃ (a b:Ty) (i j:Nat),args=[enc a,enc b]/\a.id=(i:Int)/\b.id=(j:Int)/\i<sl.length/\j<sl.length/\i≠j/\tr.length<=4999/\sl.length<=1000/\q=(.tuple [],(Store.joinP ⟨sl,tr⟩ a b).slots,(Store.joinP ⟨sl,tr⟩ a b).trail.drop tr.length):=by
 unfold zl2 at h;split at h
 . simp only[zt]at h;obtain⟨a,ha,b,hb,h⟩:=h;split at h
   . rename_i hh;obtain⟨h0,h1,h2,h3,h4,h5,h6⟩:=hh;obtain⟨i,hi⟩:=Int.eq_ofNat_of_zero_le h0;obtain⟨j,hj⟩:=Int.eq_ofNat_of_zero_le h2;cases h;exact⟨a,b,i,j,by rw[Enc.enc_dec _ _ ha,Enc.enc_dec _ _ hb],hi,hj,by omega,by omega,by omega,h5,h6,rfl⟩
   . cases h
 . cases h
theorem zol{sl:List Slot}{tr:List Change}{a b:Ty}{i j:Nat}(hi:a.id=(i:Int))(hj:b.id=(j:Int))(hi1:i<sl.length)(hj1:j<sl.length)(hij:i≠j)(ht:tr.length<=4999)(hl:sl.length<=1000){sl':List Slot}{ex:List Change}(h:Store.joinP ⟨sl,tr⟩ a b=⟨sl',tr++ex⟩):zl2 sl tr [enc a,enc b]=some (.tuple [],sl',ex):=by
 show ob (Enc.dec (enc a):Option Ty) (fun a=>ob (Enc.dec (enc b):Option Ty) _)=_;rw[Enc.dec_enc,Enc.dec_enc];show (if _ then _ else none)=_;rw[if_pos ⟨by omega,by omega,by omega,by omega,by omega,ht,hl⟩,h];simp
def zdi:Slot:=⟨false,.mk 0 [] 0 0 [],0,false⟩
def zg4(sl:List Slot)(tr:List Change)(args:List V):Option (V×List Slot×List Change):=match args with
 | [tv]=>ob (Enc.dec tv:Option Ty) fun t=>some (if Store.freeS ⟨sl,tr⟩ t=true then .tuple [enc (Store.slotD ⟨sl,tr⟩ t.id),.bool true]else .tuple [enc zdi,.bool false],sl,[])
 |_=>none
theorem zqJ{sl:List Slot}{tr:List Change}{args:List V}{q:V×List Slot×List Change}(h:zg4 sl tr args=some q):∃ t:Ty,args=[enc t]/\q=(if Store.freeS ⟨sl,tr⟩ t=true then .tuple [enc (Store.slotD ⟨sl,tr⟩ t.id),.bool true]else .tuple [enc zdi,.bool false],sl,[]):=by
 unfold zg4 at h;split at h
 . simp only[zt]at h;obtain⟨t,ht,h⟩:=h;cases h;exact⟨t,by rw[Enc.enc_dec _ _ ht],rfl⟩
 . cases h
theorem zev(sl:List Slot)(tr:List Change)(t:Ty):zg4 sl tr [enc t]=some (if Store.freeS ⟨sl,tr⟩ t=true then .tuple [enc (Store.slotD ⟨sl,tr⟩ t.id),.bool true]else .tuple [enc zdi,.bool false],sl,[]):=by
 show ob (Enc.dec (enc t):Option Ty) _=_;rw[Enc.dec_enc];rfl
section
variable {ρ:Nat->Value}(hρ:J.Good ρ)
include hρ
section
variable {E:Env}(hE:E.P=Tryz.prog)(hcon:ConsOk ρ E)
include hE hcon
theorem zkB {sl:List Slot} {tr:List Change} {g:Option Nat} {t:Ty} :
 Wp ρ E (uK g 3) 53 zMK ((PT.leaf.set 0 (.ptr 0 0 0)).set 1 (enc t)) { H:=mkP (zP sl tr g),n:=uK g 3,log:=[] } (J.Leaves E.P Tryz.f73 (GivesL (uK g 3) (if Store.freeS ⟨sl,tr⟩ t=true then .tuple [enc (Store.slotD ⟨sl,tr⟩ t.id),.bool true]else .tuple [enc zdi,.bool false]) (zP sl tr g))):=by
 by_cases hk:t.kind=1
 . cases h : Store.slot? ⟨sl,tr⟩ t.id with
   | none =>
     have hf:Store.freeS ⟨sl,tr⟩ t=false:=by unfold Store.freeS Store.isSlot;rw[h];simp
     rw[hf];have:=Store.slot?_none h;by_cases h0:t.id<0
     . cases g<;>simp [hE,zP,hk,h0]<;>exact GivesL.keep rfl rfl (by simp[zdi]) (by simp) (by simp[zo,zf])
     . have h1:¬ t.id<(sl.length:Int):=by
        rcases this with h|h
        . exact absurd h h0
        . have:((⟨sl,tr⟩:Store).slots.length:Int)<=t.id:=by omega
          simpa using this
       have h2:(sl.length:Int)<=t.id:=by omega
       cases g<;>simp [hE,zP,hk,h0,h1,h2]<;>exact GivesL.keep rfl rfl (by simp[zdi]) (by simp) (by simp[zo,zf])
   | some x =>
     obtain⟨i,hl,hi,hx⟩:=Store.slot?_at h;have hd:Store.slotD ⟨sl,tr⟩ t.id=x:=by rw[hi,Store.slotD_at (s:=⟨sl,tr⟩) hl,hx]
     have hil:i<sl.length:=hl;have hix:sl[i]=x:=hx;have hil':(i:Int)<sl.length:=by omega
     have hd1:i*8 / 8=i:=by omega
     have hd2:i*8 % 8=0:=by omega
     have h00:¬ (i:Int)<0:=by omega
     have h01:¬ sl.length<=i:=by omega
     have hf:Store.freeS ⟨sl,tr⟩ t=!x.bound:=by unfold Store.freeS Store.isSlot;rw[h,hd,decide_eq_true hk];rfl
     rw[hf,hd];obtain⟨xb,⟨xk,xn,xi,xh,xl⟩,xm,xg⟩:=x
     cases xb with
     |true=>cases g<;>simp [hE,zP,hk,hi,h00,h01,hil,hil',hix,hd1,hd2]<;>exact GivesL.keep rfl rfl (by simp[zdi]) (by simp) (by simp[zo,zf])
     |false=>cases g<;>simp [hE,zP,hk,hi,h00,h01,hil,hil',hix,hd1,hd2]<;>exact GivesL.keep rfl rfl (by simp) (by simp) (by simp[zo,zf])
 . have hf:Store.freeS ⟨sl,tr⟩ t=false:=by unfold Store.freeS Store.isSlot;simp[hk]
   rw[hf];cases g<;>simp [hE,zP,hk]<;>exact GivesL.keep rfl rfl (by simp[zdi]) (by simp) (by simp[zo,zf])
end
theorem z7c:Valid ρ Tryz.prog 98 (zaT (uwM zpl)):=by
 refine Valid.emb (fo Tryz.func98 zQM) fun vs hs D h=>?_
 obtain⟨args,sl,tr,g,r,sl',ex,a,b,c,d,hF,rfl,_,hr,hg,hfit⟩:=zfQ h;obtain⟨i,x,rfl,h1,h2,h3,hq⟩:=zwK hF;cases hq;exact em hρ (E:=EL []) rfl (zu valid_nil) Tryz.func98 zQM rfl hg (zm7 hρ (E:=EL []) rfl (zu valid_nil) h1 h2 h3 (Store.grow_setP ⟨sl,tr⟩ i x).eq) hfit
theorem zyT:Valid ρ Tryz.prog 99 (zaT (uwM ziC)):=by
 refine Valid.emb (fo Tryz.func99 zQL) fun vs hs D h=>?_
 obtain⟨args,sl,tr,g,r,sl',ex,a,b,c,d,hF,rfl,_,hr,hg,hfit⟩:=zfQ h;obtain⟨i,x,rfl,h1,h2,h3,hq⟩:=zrR hF;cases hq;have hcn:ConsOk ρ (EL [(98,zaT (uwM zpl))]):=zu (zq (z7c hρ) valid_nil);exact em hρ rfl hcn Tryz.func99 zQL rfl hg (zkE hρ rfl hcn rfl h1 h2 h3 (Store.grow_give ⟨sl,tr⟩ i x).eq) hfit
theorem zCJ:Valid ρ Tryz.prog 74 (zaT (uwM zl2)):=by
 refine Valid.emb (fo Tryz.func74 zQR) fun vs hs D h=>?_
 obtain⟨args,sl,tr,g,r,sl',ex,a,b,c,d,hF,rfl,_,hr,hg,hfit⟩:=zfQ h;obtain⟨x,y,i,j,rfl,h1,h2,h3,h4,h5,h6,h7,hq⟩:=zrF hF;cases hq;have hcn:ConsOk ρ (EL [(98,zaT (uwM zpl)),(99,zaT (uwM ziC))]):=zu (zq (z7c hρ) (zq (zyT hρ) valid_nil));refine em hρ rfl hcn Tryz.func74 zQR rfl hg ?_ hfit
 have key:∀ (p q:Ty) (i j:Nat),p.id=i->q.id=j->i<sl.length->j<sl.length->((x=p/\y=q/\i<=j)\/(x=q/\y=p/\i<j))->Store.joinP ⟨sl,tr⟩ x y=(Store.setP ⟨sl,tr⟩ i (Store.joinLP ⟨sl,tr⟩ i j)).giveP j p ->
  Wp ρ (EL [(98,zaT (uwM zpl)),(99,zaT (uwM ziC))]) (uK g 3) 60 zJr (((PT.leaf.set 0 (.ptr 0 0 0)).set 1 (enc x)).set 2 (enc y)) { H:=mkP (zP sl tr g),n:=uK g 3,log:=[] } (J.Leaves Tryz.prog Tryz.f74 (GivesL (uK g 3) (.tuple []) (zP (Store.joinP ⟨sl,tr⟩ x y).slots (tr++(Store.joinP ⟨sl,tr⟩ x y).trail.drop tr.length) (gN g ((Store.joinP ⟨sl,tr⟩ x y).trail.drop tr.length).length)))):=by
  intro p q i j hp hq hi hj hab e;have g1:=Store.grow_setP ⟨sl,tr⟩ i (Store.joinLP ⟨sl,tr⟩ i j);have e1:=g1.eq;have g2:=Store.grow_give (Store.setP ⟨sl,tr⟩ i (Store.joinLP ⟨sl,tr⟩ i j)) j p;have e2:=g2.eq;obtain⟨ex1,t1,t2⟩:=g1.trail;obtain⟨ex2,t3,t4⟩:=g2.trail
  have e3:(Store.joinP ⟨sl,tr⟩ x y).trail.drop tr.length=ex1++ex2:=by
   rw[e,t3,t1];show ((tr++ex1)++ex2).drop tr.length=_;rw[List.append_assoc,List.drop_left]
  rw[e3];have s1:Store.setP ⟨sl,tr⟩ i (Store.joinLP ⟨sl,tr⟩ i j)=⟨(Store.setP ⟨sl,tr⟩ i (Store.joinLP ⟨sl,tr⟩ i j)).slots,tr++ex1⟩:=by rw[<- t1]
  refine zkC hρ rfl hcn rfl rfl hp hq hi hj hab h6 h7 t2 g1.len s1 ?_;rw[<- s1,e];rw[t1]at t3;rw[<- t3]
 by_cases hc:j<i
 . exact key y x j i h2 h1 h4 h3 (.inr ⟨rfl,rfl,hc⟩) (by unfold Store.joinP;rw[if_pos (by rw[h1,h2];omega),h1,h2])
 . exact key x y i j h1 h2 h3 h4 (.inl ⟨rfl,rfl,by omega⟩) (by unfold Store.joinP;rw[if_neg (by rw[h1,h2];omega),h1,h2])
theorem zyS:Valid ρ Tryz.prog 73 (rdT (uwM zg4)):=Valid.rdT (fo Tryz.func73 zQS) fun vs hs D h hp=>by
 obtain⟨args,sl,tr,g,r,sl',ex,a,b,c,d,hF,rfl,_,hr,hg,hfit⟩:=zfQ h;obtain⟨t,rfl,hq⟩:=zqJ hF;cases hq;exact z7Z hρ (zu valid_nil) follows named Tryz.func73 zQS rfl hg (by show zP sl (tr++[]) (gN g 0)=zP sl tr g;rw[List.append_nil];rfl) hp (zkB hρ (E:=EL []) rfl (zu valid_nil)) hfit
end
end Go.Proofs.YtfgmnebfhemnpaaGreat
