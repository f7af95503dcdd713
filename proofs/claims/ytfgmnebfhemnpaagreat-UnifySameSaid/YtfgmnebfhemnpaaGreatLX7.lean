import Derived.Test.YtfgmnebfhemnpaaGreatLX6
import Derived.Test.YtfgmnebfhemnpaaGreatJZ
import Derived.Test.YtfgmnebfhemnpaaGreatJUv
import Derived.Test.YtfgmnebfhemnpaaGreatJRt
set_option linter.all false
noncomputable section
/- The search for type variables of the store's package. -/
namespace Go.Proofs.YtfgmnebfhemnpaaGreat
open Go.J
open Go.J.Enc (enc)
set_option maxRecDepth 100000
set_option maxHeartbeats 4000000
section
variable {ρ:Nat->Value}(hρ:J.Good ρ){E:Env}(hE:E.P=Tryz.prog)(hcon:ConsOk ρ E)
include hρ hE hcon
theorem zbz {k d:Nat} (hk:k=5\/k=6) (hc:E.con 125=zaT (svM 125 (Store.svF d))) {s:Store} (hs0:s.tysOk) {l:List Ty} (hlo:∀ x∈l,x.ok=true) (hll:l.length<=10000) {st0 R:Store.Sv} (hv:Store.svL (Store.svO s d) l st0=some R) (hl:R.2.length<=100000) (hk0:k=6->st0.2≠[])
 {T:PT V} {hs:HS} {Q:Ex->PT V->HS->Prop} (hT:Less k T hs (mkP [(1,.ptr 0 0 0),(2,.ptr 2 0 0),(3,.ptr 3 0 0),(4,.ptr 4 0 0),(41,.sl (l.map zw) false),(42,.int .i64 (l.length:Int)),(43,.int .i64 ((0:Nat):Int))]) { H:=mkP (zaJ 125 s st0.1 st0.2),n:=6,log:=[] })
 (hQ:Q (.exit 0) (mkP []) { H:=mkP (zaJ 125 s R.1 R.2),n:=6,log:=[] }):Ls ρ E k 51 (.loop zec) T hs Q:=by
 refine lpi hρ hE hcon l.length (nn:=6) (fun i (_:Store.Sv)=>[(1,.ptr 0 0 0),(2,.ptr 2 0 0),(3,.ptr 3 0 0),(4,.ptr 4 0 0),(41,.sl (l.map zw) false),(42,.int .i64 (l.length:Int)),(43,.int .i64 (i:Int))])
  (fun i st=>zaJ 125 s st.1 st.2) (fun i st=>Store.svL (Store.svO s d) (l.drop i) st=some R/\(k=6->st.2≠[])) st0 hT ⟨by simpa using hv,hk0⟩ ?_ ?_
 . rintro ⟨seen,out⟩ ⟨h1,h2⟩ K;rw[List.drop_length]at h1;cases h1;simp only at h2 hQ;rcases hk with rfl|rfl
   . rcases out with _|⟨x,out⟩<;>simp [zec,hE,zaJ,zby] <;>
     exact LessQ.mk (Less.auto (by simp[zaJ]) (by simp[zaJ,zby]) (by simp[zaJ]) (by simp[zaJ]<;>(intro x hx;first|omega|exact⟨.inl hx,by omega⟩))) hQ
   . rcases out with _|⟨x,out⟩
     . exact absurd rfl (h2 rfl)
     . simp [zec,hE,zaJ,zby];exact LessQ.mk (Less.auto (by simp[zaJ]) (by simp[zaJ,zby]) (by simp[zaJ]) (by simp[zaJ]<;>(intro x hx;first|omega|exact⟨.inl hx,by omega⟩))) hQ
 . rintro i ⟨seen,out⟩ hil ⟨h1,h2⟩ K hK;have hil':(i:Int)<l.length:=by omega
   have hw:IntKind.i64.wrap ((i:Int)+1)=((i+1:Nat):Int):=zK (by omega);rw[List.drop_eq_getElem_cons hil,Store.svL]at h1;have hxo:=hlo _ (List.getElem_mem hil);obtain⟨x,hx⟩:∃ x,l[i]=x:=⟨_,rfl⟩;rw[hx]at h1 hxo;split at h1
   case h_2=>cases h1
   rename_i st' h3;have hm1:=Store.svO_len s _ _ _ _ h3;have hm2:=Store.svL_len (Store.svO_len s d) _ _ _ h1;have hF:=Store.svF_mk hs0 hxo h3 (Nat.le_trans hm2 hl);obtain⟨seen',out'⟩:=st';simp only at hm1 h2
   have hnew:=hK (seen',out') ⟨h1,fun h e=>h2 h (by
    simp only at e;rw[e]at hm1
    exact List.eq_nil_of_length_eq_zero (Nat.le_zero.1 hm1))⟩
   obtain⟨xk,xn,xi,xh,xa⟩:=x;rcases hk with rfl|rfl
   . rcases out with _|⟨y,out⟩
     . rcases out' with _|⟨z,out'⟩
       . simp [zec,hE,hil,hil',hx,hc,hF,hw,vacant_eq,zaJ,zby,-Int.natCast_add];exact hnew _ _ (Less.auto (by simp[zaJ,zby,-Int.natCast_add]) (by simp[zaJ,zby]) (by simp[zaJ]) (by simp[zaJ]<;>(intro x hx;first|omega|exact⟨.inl hx,by omega⟩)))
       . simp [zec,hE,hil,hil',hx,hc,hF,hw,vacant_eq,zaJ,zby,-Int.natCast_add];exact hnew _ _ (Less.auto (by simp[zaJ,zby,-Int.natCast_add]) (by simp[zaJ,zby]) (by simp[zaJ]) (by simp[zaJ]<;>(intro x hx;first|omega|exact⟨.inl hx,by omega⟩)))
     . rcases out' with _|⟨z,out'⟩
       . simp at hm1
       . have hmono':out.length<=out'.length:=by simpa using hm1
         simp [zec,hE,hil,hil',hx,hc,hF,hw,hmono',vacant_eq,zaJ,zby,-Int.natCast_add];exact hnew _ _ (Less.auto (by simp[zaJ,zby,-Int.natCast_add]) (by simp[zaJ,zby]) (by simp[zaJ]) (by simp[zaJ]<;>(intro x hx;first|omega|exact⟨.inl hx,by omega⟩)))
   . rcases out with _|⟨y,out⟩
     . exact absurd rfl (h2 rfl)
     . rcases out' with _|⟨z,out'⟩
       . simp at hm1
       . have hmono':out.length<=out'.length:=by simpa using hm1
         simp [zec,hE,hil,hil',hx,hc,hF,hw,hmono',vacant_eq,zaJ,zby,-Int.natCast_add];exact hnew _ _ (Less.auto (by simp[zaJ,zby,-Int.natCast_add]) (by simp[zaJ,zby]) (by simp[zaJ]) (by simp[zaJ]<;>(intro x hx;first|omega|exact⟨.inl hx,by omega⟩)))
theorem zg9 {d:Nat} (hc:E.con 125=zaT (svM 125 (Store.svF d))) (hbd:E.con 84=fnS (zV fun (s:Store) (t:Ty)=>some (s.bound t)))
 {s:Store} {t:Ty} {st R:Store.Sv} (hR:Store.svF (d+1) s st t=some R) {a m c b e ro:Nat} {vs:List V} {hs:HS} (hfit:(svD 125 s (enc t) a m c b e ro st R).Fits vs hs) :
 CallOk ρ Tryz.prog 125 vs hs ((svD 125 s (enc t) a m c b e ro st R).val hs) ((svD 125 s (enc t) a m c b e ro st R).heap hs):=by
 obtain⟨hs0,ht,hv,hl⟩:=Store.svF_inv hR;have hmono:=Store.svO_len s _ _ _ _ hv;refine em hρ hE hcon Tryz.func125 zAs rfl (znJ hmono) ?_ hfit;rw[Store.svO]at hv;obtain⟨seen,out⟩:=st;simp only at hv hmono;obtain⟨tk,tn,ti,th,ta⟩:=t;simp only[Ty.kind_mk,Ty.id_mk,Ty.args_mk]at hv;by_cases hk:tk=1
 . subst hk;rw[if_pos rfl]at hv;by_cases hm:ti∈seen
   . rw[if_pos hm]at hv;cases hv;rcases out with _|⟨x,out⟩
     . simp [hE,hm,svD,zaJ,zam,zaz,zbT];exact GivesL.keepX rfl rfl rfl (by simp[zby])
     . simp [hE,hm,svD,zaJ,zam,zaz,zbT];exact GivesL.keepX rfl rfl rfl (by simp[zby])
   rw[if_neg hm]at hv;have hz:zqk I4=some (V.bool false):=by rfl
   cases hb:s.bound (Ty.mk 1 tn ti th ta)with
   | false =>
     rw[if_pos hb]at hv;cases hv;rcases out with _|⟨x,out⟩
     . simp [hE,hm,hbd,hb,svD,zaJ,zam,zaz,zbT,zW,hz];exact GivesL.litX (fun k=>if k=5 then 25 else k) rfl rfl ⟨rfl,rfl⟩ (by simp[zby])
     . have h64:(out.length+1+1)*8<=1048576:=by simp at hl;omega
       simp [hE,hm,hbd,hb,h64,Nat.not_succ_le_self,svD,zaJ,zam,zaz,zbT,zW,hz];exact GivesL.keepX rfl rfl rfl (by simp[zby])
   | true =>
     rw[if_neg (by rw[hb];simp)]at hv;obtain⟨_,i,x,hi,hil,hx,hxb,hto⟩:=Store.bound_slot hb;simp only[Ty.id_mk]at hi;subst hi;rw[hto]at hv;have hx0:s.slots[i]=x:=(List.getElem?_eq_some_iff.1 hx).2;have hi1:i*8 / 8=i:=by omega
     have hi2:i*8 % 8=0:=by omega
     have hi3:(i*8+1) / 8=i:=by omega
     have hi4:(i*8+1) % 8=1:=by omega
     have hxo:x.type.ok=true:=hs0.2 x (hx0 ▸ List.getElem_mem hil);clear hx hto;obtain⟨xb,⟨ck,cn,ci,ch,ca⟩,xh,xg⟩:=x;simp only[Ty.kind_mk,Ty.args_mk]at hv hxo hxb;obtain⟨seen',out'⟩:=R;simp only at hmono hl;by_cases hk2:ck=1
     . subst hk2;rw[if_pos rfl]at hv;have hF:Store.svF d s (seen++[(i:Int)],out) (.mk 1 cn ci ch ca)=some (seen',out'):=Store.svF_mk hs0 hxo hv hl;rcases out with _|⟨y,out⟩
       . rcases out' with _|⟨z,out'⟩
         . simp only[svD,zaJ,zby];simp [hE,hm,hbd,hb,hil,hx0,hi1,hi2,hi3,hi4,hc,hF,vacant_eq,zam,zaz,zbT,zW,hz,zby];exact GivesL.keepX rfl rfl rfl (by simp[zby])
         . simp only[svD,zaJ,zby];simp [hE,hm,hbd,hb,hil,hx0,hi1,hi2,hi3,hi4,hc,hF,vacant_eq,zam,zaz,zbT,zW,hz,zby];exact GivesL.litX (fun k=>if k=5 then 35 else k) rfl rfl ⟨rfl,rfl⟩ (by simp[zby])
       . rcases out' with _|⟨z,out'⟩
         . simp at hmono
         . simp only[svD,zaJ,zby];have hmono':out.length<=out'.length:=by simpa using hmono
           simp [hE,hm,hbd,hb,hil,hx0,hi1,hi2,hi3,hi4,hc,hF,vacant_eq,zam,zaz,zbT,zW,hz,zby];exact⟨hmono',GivesL.keepX rfl rfl rfl (by simp[zby])⟩
     . rw [if_neg hk2]at hv;have hv':Store.svL (Store.svO s d) ca (seen++[(i:Int)],out)=some (seen',out'):=hv;have hao:=(Ty.ok_iff.1 hxo).2;have hall:=Ty.ok_len hxo;simp only[Ty.args_mk]at hao hall;rcases out with _|⟨y,out⟩
       . simp only[svD,zaJ,zby];simp [hE,hm,hbd,hb,hil,hx0,hi1,hi2,hi3,hi4,hk2,vacant_eq,zam,zaz,zbT,zW,hz,zby];refine zbz hρ hE hcon (.inl rfl) hc hs0 hao hall hv' hl (fun h=>by cases h) (Less.auto (by simp[zaJ]) (by simp[zaJ,zby]) (by simp[zaJ]) (by simp[zaJ]<;>(intro x hx;first|omega|exact⟨.inl hx,by omega⟩))) ?_;rcases out' with _|⟨z,out'⟩
         . simp [hE,zaJ,zby];exact GivesL.keepX rfl rfl rfl (by simp[zby])
         . simp [hE,zaJ,zby];exact GivesL.keepX rfl rfl rfl (by simp[zby])
       . simp only[svD,zaJ,zby];simp [hE,hm,hbd,hb,hil,hx0,hi1,hi2,hi3,hi4,hk2,vacant_eq,zam,zaz,zbT,zW,hz,zby];refine zbz hρ hE hcon (.inr rfl) hc hs0 hao hall hv' hl (fun _=>by simp) (Less.auto (by simp[zaJ]) (by simp[zaJ,zby]) (by simp[zaJ]) (by simp[zaJ]<;>(intro x hx;first|omega|exact⟨.inl hx,by omega⟩))) ?_;rcases out' with _|⟨z,out'⟩
         . simp at hmono
         . simp [hE,zaJ,zby];exact GivesL.keepX rfl rfl rfl (by simp[zby])
 . rw [if_neg hk]at hv;have hao:=(Ty.ok_iff.1 ht).2;have hall:=Ty.ok_len ht;simp only[Ty.args_mk]at hao hall;obtain⟨seen',out'⟩:=R;simp only at hmono hl;rcases out with _|⟨y,out⟩
   . simp only[svD,zaJ,zby];simp [hE,hk,zby];refine zbz hρ hE hcon (.inl rfl) hc hs0 hao hall hv hl (fun h=>by cases h) (Less.auto (by simp[zaJ]) (by simp[zaJ,zby]) (by simp[zaJ]) (by simp[zaJ]<;>(intro x hx;first|omega|exact⟨.inl hx,by omega⟩))) ?_;rcases out' with _|⟨z,out'⟩
     . simp [hE,zaJ,zby];exact GivesL.keepX rfl rfl rfl (by simp[zby])
     . simp [hE,zaJ,zby];exact GivesL.keepX rfl rfl rfl (by simp[zby])
   . simp only[svD,zaJ,zby];simp [hE,hk,zby];refine zbz hρ hE hcon (.inr rfl) hc hs0 hao hall hv hl (fun _=>by simp) (Less.auto (by simp[zaJ]) (by simp[zaJ,zby]) (by simp[zaJ]) (by simp[zaJ]<;>(intro x hx;first|omega|exact⟨.inl hx,by omega⟩))) ?_;rcases out' with _|⟨z,out'⟩
     . simp at hmono
     . simp [hE,zaJ,zby];exact GivesL.keepX rfl rfl rfl (by simp[zby])
end
end Go.Proofs.YtfgmnebfhemnpaaGreat
/- store.Vars. -/
namespace Go.Proofs.YtfgmnebfhemnpaaGreat
open Go.J
open Go.J.Enc (enc)
set_option maxRecDepth 100000
set_option maxHeartbeats 4000000
theorem zw3{s:Store}{l:List Ty}(h:zbv s l):(varsS s l).length<=100000:=by
 have h1:=zyL (s:=s) (f:=100000) (fun t st=>ziP s 100000 t st) l (([]:List Int),List.replicate s.slots.length false);have h2:=h.2.2.2;have h3:=h1.2.2.2;unfold varsS;simp only[List.length_nil]at h3;omega
section
variable {ρ:Nat->Value}(hρ:J.Good ρ){E:Env}(hE:E.P=Tryz.prog)(hcon:ConsOk ρ E)
include hρ hE hcon
end
section
variable {ρ:Nat->Value}(hρ:J.Good ρ)
include hρ
theorem zLq(d:Nat):Valid ρ Tryz.prog 125 (zaT (svM 125 (Store.svF d))):=by
 induction d with
 | zero =>
   refine Valid.emb (fo Tryz.func125 zAs) fun vs hs D h=>?_
   obtain⟨s,t,st,r,a,m,c,b,e,ro,hR,rfl,_,_,hfit⟩:=zqB h;have:=(Store.svF_inv hR).2.2.1;cases this
 | succ d ih =>
   refine Valid.emb (fo Tryz.func125 zAs) fun vs hs D h=>?_
   obtain⟨s,t,st,r,a,m,c,b,e,ro,hR,rfl,_,_,hfit⟩:=zqB h;exact zg9 hρ (E:=EL [(125,zaT (svM 125 (Store.svF d))),(84,fnS (zV fun (s:Store) (t:Ty)=>some (s.bound t)))]) rfl (zt (zq ih (zq (zqt hρ) valid_nil))) rfl rfl hR hfit
end
end Go.Proofs.YtfgmnebfhemnpaaGreat
/- The program's unification: what it reads in a store. -/
namespace Go.Proofs.YtfgmnebfhemnpaaGreat
open Go.J
open Go.J.Enc (enc)
set_option maxRecDepth 100000
set_option maxHeartbeats 1000000
def zgY(vs:List V):Option (List (List V)):=match vs with
 | [x,y]=>ob (Enc.dec x:Option Store) fun s=>ob (Enc.dec y:Option (List Ty)) fun l=>if zbv s l then some ((varsS s l).map encI)else none
 |_=>none
@[simp] theorem zIk {x y:V}:zgY [x,y]=ob (Enc.dec x:Option Store) fun s=>ob (Enc.dec y:Option (List Ty)) fun l=>if zbv s l then some ((varsS s l).map encI)else none:=(rfl)
theorem zoM{vs:List V}{es:List (List V)}(h:zgY vs=some es):∃ (s:Store) (l:List Ty),vs=[enc s,enc l]/\zbv s l/\es=(varsS s l).map encI:=by
 unfold zgY at h;split at h
 . simp only[zu]at h;obtain⟨s,hs,l,hl,h⟩:=h;obtain⟨h1,rfl⟩:=zT h;exact⟨s,l,by rw[Enc.enc_dec _ _ hs,Enc.enc_dec _ _ hl],h1,rfl⟩
 . cases h
def zk8(s:Store)(args:List V):Option V:=match args with
 | [tv]=>ob (Enc.dec tv:Option Ty) fun t=>if s.slots.length<=1000000 then some (enc (s.w t))else none
 |_=>none
@[simp] theorem zLh {s:Store} {tv:V}:zk8 s [tv]=ob (Enc.dec tv:Option Ty) fun t=>if s.slots.length<=1000000 then some (enc (s.w t))else none:=(rfl)
theorem zqn{s:Store}{args:List V}{r:V}(h:zk8 s args=some r):∃ t:Ty,args=[enc t]/\s.slots.length<=1000000/\r=enc (s.w t):=by
 unfold zk8 at h;split at h
 . simp only[zu]at h;obtain⟨t,ht,h⟩:=h;obtain⟨h1,rfl⟩:=zT h;exact⟨t,by rw[Enc.enc_dec _ _ ht],h1,rfl⟩
 . cases h
section
variable {ρ:Nat->Value}(hρ:J.Good ρ)
include hρ
section
variable {E:Env}(hE:E.P=Tryz.prog)(hcon:ConsOk ρ E)
include hE hcon
theorem zhk (hc:E.con 125=zaT (svM 125 (Store.svF 100000))) {s:Store} {l:List Ty} (hv:zbv s l) {hs0:HS} (hvac:hs0.H.get hs0.n=none) :
 CallOk ρ Tryz.prog 100 [enc s,enc l] hs0 (oV hs0.n ((varsS s l).map encI)) (bi (Nat.beq (zU ((varsS s l).map encI)) 0) hs0 { H:=hs0.H.set hs0.n (oO 1 ((varsS s l).map encI)),n:=hs0.n+1,log:=hs0.n::hs0.log }):=by
 refine row hρ hE hcon Tryz.func100 zGz rfl (by simp) (zbR _) ?_ hvac;obtain⟨R,hR,hRv⟩:=Store.svs_vars hv;have hlen:=zw3 hv;rw[<- hRv]at hlen ⊢;have hsO:=hv.1;have hlo:=Ty.oks_iff.1 hv.2.1;have hll:=hv.2.2.1;simp [hE]
 refine lpi hρ hE hcon l.length (nn:=6) (fun i (_:Store.Sv)=>[(5,.ptr 3 0 0),(7,.ptr 4 0 0),(12,.sl (l.map zw) false),(13,.int .i64 (l.length:Int)),(14,.int .i64 (i:Int))])
  (fun i st=>zaJ 125 s st.1 st.2) (fun i st=>Store.svL (Store.svO s 100000) (l.drop i) st=some R) ([],[])
  (Less.lit (fun k=>if k=0 then 4 else if k=1 then 3 else if k=2 then 0 else if k=3 then 2 else if k=4 then 6 else k) 6 (by simp[zaJ]) (by simp[zaJ,zby]) rfl rfl) (by simpa using hR) ?_ ?_
 . rintro ⟨seen,out⟩ h1 K;rw[List.drop_length]at h1;cases h1;rcases out with _|⟨x,out⟩
   . simp [zgl,hE,zaJ,zby];refine LessQ.mk (Less.auto (TL:=[(5,.ptr 0 0 0)]) (HL:=[(0,zaR .snil)]) (n:=1) (by simp) (by simp) (by simp) (by simp<;>(intro x hx;first|omega|exact⟨.inl hx,by omega⟩))) ?_;simp [hE];exact GivesL.keepX rfl rfl rfl (by simp)
   . simp [zgl,hE,zaJ,zby];refine LessQ.mk (Less.auto (TL:=[(5,.ptr 0 0 0)]) (HL:=[(0,zaR (.own 1 out.length 0 (out.length+1) none)),(1,.arr 1 out.length ((x::out).map encI) false false true)]) (n:=2) (by simp) (by simp) (by simp) (by simp<;>(intro x hx;first|omega|exact⟨.inl hx,by omega⟩))) ?_;simp [hE];exact GivesL.litX (fun k=>if k=0 then 1 else k) rfl rfl ⟨rfl,rfl⟩ (by simp)
 . rintro i ⟨seen,out⟩ hil h1 K hK;have hil':(i:Int)<l.length:=by omega
   have hw:IntKind.i64.wrap ((i:Int)+1)=((i+1:Nat):Int):=zK (by omega);rw[List.drop_eq_getElem_cons hil,Store.svL]at h1;have hxo:=hlo _ (List.getElem_mem hil);obtain⟨x,hx⟩:∃ x,l[i]=x:=⟨_,rfl⟩;rw[hx]at h1 hxo;split at h1
   case h_2=>cases h1
   rename_i st' h3;have hm1:=Store.svO_len s _ _ _ _ h3;have hm2:=Store.svL_len (Store.svO_len s 100000) _ _ _ h1;have hF:=Store.svF_mk hsO hxo h3 (Nat.le_trans hm2 hlen);obtain⟨seen',out'⟩:=st';simp only at hm1;have hnew:=hK (seen',out') h1;obtain⟨xk,xn,xi,xh,xa⟩:=x;rcases out with _|⟨y,out⟩
   . rcases out' with _|⟨z,out'⟩
     . simp [zgl,hE,hil,hil',hx,hc,hF,hw,vacant_eq,zaJ,zby,-Int.natCast_add];exact hnew _ _ (Less.auto (by simp[zaJ,zby,-Int.natCast_add]) (by simp[zaJ,zby]) (by simp[zaJ]) (by simp[zaJ]))
     . simp [zgl,hE,hil,hil',hx,hc,hF,hw,vacant_eq,zaJ,zby,-Int.natCast_add];exact hnew _ _ (Less.auto (by simp[zaJ,zby,-Int.natCast_add]) (by simp[zaJ,zby]) (by simp[zaJ]) (by simp[zaJ]))
   . rcases out' with _|⟨z,out'⟩
     . simp at hm1
     . have hmono':out.length<=out'.length:=by simpa using hm1
       simp [zgl,hE,hil,hil',hx,hc,hF,hw,hmono',vacant_eq,zaJ,zby,-Int.natCast_add];exact hnew _ _ (Less.auto (by simp[zaJ,zby,-Int.natCast_add]) (by simp[zaJ,zby]) (by simp[zaJ]) (by simp[zaJ]))
theorem zjJ (hc:E.con 84=fnC (zV fun (s:Store) (t:Ty)=>some (s.bound t))) {sl:List Slot} {tr:List Change} {g:Option Nat} (h:sl.length<=1000000) {t r:Ty} (hr:Store.walkN ⟨sl,tr⟩ sl.length t=r) :
 Wp ρ E (uK g 1) 23 zN3 ((PT.leaf.set 0 (.agg [.own 0 0 0 sl.length none,trC 1 tr g])).set 1 (enc t)) { H:=mkP (zqc sl tr g),n:=uK g 1,log:=[] } (J.Leaves E.P Tryz.f67 (GivesL (uK g 1) (enc r) (zqc sl tr g))):=by
 cases g with
 | none =>
   simp [hE,zqc]
   refine lpi hρ hE hcon sl.length (nn:=4) (fun i (t:Ty)=>[(2,.ptr 1 0 0),(3,.ptr 2 0 0),(4,.ptr 3 0 0),(7,.int .i64 (sl.length:Int)),(8,.int .i64 (i:Int))])
    (fun i t=>[(0,slO sl),(1,.arr 2 0 [[.own 0 0 0 sl.length none,.sl (tr.map zA) true]] true false false),(2,box (zw t)),(3,.arr 5 0 [[.int .i64 0,.str [],.int .i64 0,.int .i64 0,.snil]] true false false)])
    (fun i t=>Store.walkN ⟨sl,tr⟩ (sl.length-i) t=r) t (Less.auto (by simp) (by simp) (by simp) (by simp<;>(intro x hx;first|omega|exact⟨.inl hx,by omega⟩))) (by simpa using hr) ?_ ?_
   . intro t h1 K;rw[Nat.sub_self]at h1;cases h1;simp [zeb,hE,Store.walkN];refine LessQ.mk (Less.auto (TL:=[(3,.ptr 2 0 0),(4,.ptr 3 0 0)]) (HL:=[(0,slO sl),(1,.arr 2 0 [[.own 0 0 0 sl.length none,.sl (tr.map zA) true]] true false false),(2,box (zw t)),(3,.arr 5 0 [[.int .i64 0,.str [],.int .i64 0,.int .i64 0,.snil]] true false false)]) (n:=4) (by simp) (by simp) (by simp) (by simp<;>(intro x hx;first|omega|exact⟨.inl hx,by omega⟩))) ?_;simp [hE];exact GivesL.keepX rfl rfl rfl (by simp[zo,zf])
   . intro i t hil h1 K hK;have hil':(i:Int)<sl.length:=by omega
     have hw:IntKind.i64.wrap ((i:Int)+1)=((i+1:Nat):Int):=zK (by omega);rw[show sl.length-i=(sl.length-(i+1))+1 by omega,Store.walkN]at h1;by_cases hb:Store.bound ⟨sl,tr⟩ t=true
     . rw[if_pos hb]at h1;obtain⟨hk,x,hx,hxb⟩:=Store.bound_true hb;obtain⟨j,hjl,hj,hxj⟩:=Store.slot?_at hx;have ht2:Store.to ⟨sl,tr⟩ t=x.type:=by unfold Store.to;rw[hx]
       rw[ht2]at h1;have hnew:=hK _ h1;have d1:j*8 / 8=j:=by omega
       have d2:j*8 % 8=0:=by omega
       have d3:(j*8+1) / 8=j:=by omega
       have d4:(j*8+1) % 8=1:=by omega
       obtain⟨k,n,id,hm,l⟩:=t;simp only[Ty.id_mk]at hj;subst hj;have hjl':j<sl.length:=hjl;have hxj':sl[j]=x:=hxj;obtain⟨xb,⟨xk,xn,xi,xh,xl⟩,xm,xg⟩:=x;simp [zeb,hE,hil,hil',hc,hb,hw,hjl',hxj',d1,d2,d3,d4,-Int.natCast_add];exact hnew _ _ (Less.auto (by simp[-Int.natCast_add]) (by simp) (by simp) (by simp<;>(intro x hx;first|omega|exact⟨.inl hx,by omega⟩)))
     . rw[if_neg hb]at h1;subst h1;simp [zeb,hE,hil,hil',hc,hb];refine LessQ.mk (Less.auto (TL:=[(3,.ptr 2 0 0),(4,.ptr 3 0 0)]) (HL:=[(0,slO sl),(1,.arr 2 0 [[.own 0 0 0 sl.length none,.sl (tr.map zA) true]] true false false),(2,box (zw t)),(3,.arr 5 0 [[.int .i64 0,.str [],.int .i64 0,.int .i64 0,.snil]] true false false)]) (n:=4) (by simp) (by simp) (by simp) (by simp<;>(intro x hx;first|omega|exact⟨.inl hx,by omega⟩))) ?_;simp [hE];exact GivesL.keepX rfl rfl rfl (by simp[zo,zf])
 | some g =>
   simp [hE,zqc]
   refine lpi hρ hE hcon sl.length (nn:=5) (fun i (t:Ty)=>[(2,.ptr 2 0 0),(3,.ptr 3 0 0),(4,.ptr 4 0 0),(7,.int .i64 (sl.length:Int)),(8,.int .i64 (i:Int))])
    (fun i t=>[(0,slO sl),(1,.arr 10 g (tr.map zA) false false true),(2,.arr 2 0 [[.own 0 0 0 sl.length none,.own 1 g 0 tr.length none]] true false false),(3,box (zw t)),(4,.arr 5 0 [[.int .i64 0,.str [],.int .i64 0,.int .i64 0,.snil]] true false false)])
    (fun i t=>Store.walkN ⟨sl,tr⟩ (sl.length-i) t=r) t (Less.auto (by simp) (by simp) (by simp) (by simp<;>(intro x hx;first|omega|exact⟨.inl hx,by omega⟩))) (by simpa using hr) ?_ ?_
   . intro t h1 K;rw[Nat.sub_self]at h1;cases h1;simp [zeb,hE,Store.walkN];refine LessQ.mk (Less.auto (TL:=[(3,.ptr 3 0 0),(4,.ptr 4 0 0)]) (HL:=[(0,slO sl),(1,.arr 10 g (tr.map zA) false false true),(2,.arr 2 0 [[.own 0 0 0 sl.length none,.own 1 g 0 tr.length none]] true false false),(3,box (zw t)),(4,.arr 5 0 [[.int .i64 0,.str [],.int .i64 0,.int .i64 0,.snil]] true false false)]) (n:=5) (by simp) (by simp) (by simp) (by simp<;>(intro x hx;first|omega|exact⟨.inl hx,by omega⟩))) ?_;simp [hE];exact GivesL.keepX rfl rfl rfl (by simp[zo,zf])
   . intro i t hil h1 K hK;have hil':(i:Int)<sl.length:=by omega
     have hw:IntKind.i64.wrap ((i:Int)+1)=((i+1:Nat):Int):=zK (by omega);rw[show sl.length-i=(sl.length-(i+1))+1 by omega,Store.walkN]at h1;by_cases hb:Store.bound ⟨sl,tr⟩ t=true
     . rw[if_pos hb]at h1;obtain⟨hk,x,hx,hxb⟩:=Store.bound_true hb;obtain⟨j,hjl,hj,hxj⟩:=Store.slot?_at hx;have ht2:Store.to ⟨sl,tr⟩ t=x.type:=by unfold Store.to;rw[hx]
       rw[ht2]at h1;have hnew:=hK _ h1;have d1:j*8 / 8=j:=by omega
       have d2:j*8 % 8=0:=by omega
       have d3:(j*8+1) / 8=j:=by omega
       have d4:(j*8+1) % 8=1:=by omega
       obtain⟨k,n,id,hm,l⟩:=t;simp only[Ty.id_mk]at hj;subst hj;have hjl':j<sl.length:=hjl;have hxj':sl[j]=x:=hxj;obtain⟨xb,⟨xk,xn,xi,xh,xl⟩,xm,xg⟩:=x;simp [zeb,hE,hil,hil',hc,hb,hw,hjl',hxj',d1,d2,d3,d4,-Int.natCast_add];exact hnew _ _ (Less.auto (by simp[-Int.natCast_add]) (by simp) (by simp) (by simp<;>(intro x hx;first|omega|exact⟨.inl hx,by omega⟩)))
     . rw[if_neg hb]at h1;subst h1;simp [zeb,hE,hil,hil',hc,hb];refine LessQ.mk (Less.auto (TL:=[(3,.ptr 3 0 0),(4,.ptr 4 0 0)]) (HL:=[(0,slO sl),(1,.arr 10 g (tr.map zA) false false true),(2,.arr 2 0 [[.own 0 0 0 sl.length none,.own 1 g 0 tr.length none]] true false false),(3,box (zw t)),(4,.arr 5 0 [[.int .i64 0,.str [],.int .i64 0,.int .i64 0,.snil]] true false false)]) (n:=5) (by simp) (by simp) (by simp) (by simp<;>(intro x hx;first|omega|exact⟨.inl hx,by omega⟩))) ?_;simp [hE];exact GivesL.keepX rfl rfl rfl (by simp[zo,zf])
end
theorem zwn:Valid ρ Tryz.prog 84 (fnC (zV fun (s:Store) (t:Ty)=>some (s.bound t))):=c2 (fo Tryz.func84 zN4) fun a b r h hs=>by
 cases h;exact zdT hρ (E:=EL [(107,fnS (zV fun (s:Store) (i:Int)=>some (s.slot? i).isSome))]) rfl (zt (zq (zDH hρ) valid_nil)) rfl hs
def za6:J.Spec:=fnC (zaK fun (s:Store) (t:Ty) (m:Int)=>if s.tysOk/\t.ok=true/\m<1000000 then some ((sz s.w t (max m 0).toNat:Nat):Int)else none)
theorem z8k:Valid ρ Tryz.prog 44 za6:=c3 (fo Tryz.func44 zGo) fun a b c r h hs=>by
 obtain⟨⟨h1,h2,h3⟩,rfl⟩:=zT h;exact zht hρ (Nat.le_refl _) (zqr hρ 1000000 (Nat.le_refl _)) rfl h1 h2 (by omega) hs
theorem z8j:Valid ρ Tryz.prog 100 (fnR 1 zgY):=Valid.fnR (fo Tryz.func100 zGz) (by omega) fun vs es _ h _ hs hv=>by
 obtain⟨s,l,rfl,h1,rfl⟩:=zoM h;exact zhk hρ (E:=EL [(125,zaT (svM 125 (Store.svF 100000)))]) rfl (zt (zq (zLq hρ 100000) valid_nil)) rfl h1 hv
theorem z8i:Valid ρ Tryz.prog 67 (rdE (usM zk8)):=Valid.rdE (fo Tryz.func67 zJZ) fun vs hs D h hp=>by
 obtain⟨args,sl,tr,g,r,c,d,hF,rfl,_,hr,hg,hfit⟩:=z8t h;obtain⟨t,rfl,h1,rfl⟩:=zqn hF;have hEE:(EL [(84,fnC (zV fun (s:Store) (t:Ty)=>some (s.bound t)))]).P=Tryz.prog:=rfl;have hcn:ConsOk ρ (EL [(84,fnC (zV fun (s:Store) (t:Ty)=>some (s.bound t)))]):=zt (zq (zwn hρ) valid_nil);exact z9d hρ hcn follows named Tryz.func67 zJZ rfl hg rfl hr (zjJ hρ hEE hcn rfl h1 rfl) hfit
end
end Go.Proofs.YtfgmnebfhemnpaaGreat
