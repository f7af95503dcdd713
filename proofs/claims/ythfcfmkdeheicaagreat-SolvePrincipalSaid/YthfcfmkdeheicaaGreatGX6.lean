import Derived.Test.YthfcfmkdeheicaaGreatGT7
import Derived.Test.YthfcfmkdeheicaaGreatJY
import Derived.Test.YthfcfmkdeheicaaGreatJZ
set_option linter.all false
noncomputable section
/- Sizes in a set of types,nodes of types,the variables of equations. -/
namespace Go.Proofs.YthfcfmkdeheicaaGreat
open Go.J
open Go.J.Enc (enc)
set_option maxRecDepth 100000
set_option maxHeartbeats 1000000
open Classical in
def szV(d:Nat)(T:List Assign)(args:List V):Option (V×List Assign):=match args with
 | [tv,.int .i64 m]=>ob (Enc.dec tv:Option Ty) fun t=>if (∃ σ,Tri T σ)∧tok T∧t.ok=true∧t.vplain=true∧0≤m∧m<d then some (.int .i64 (sz (wkF T) t m.toNat:Nat),T)else none
 |_=>none
theorem szV_inv{d:Nat}{T:List Assign}{args:List V}{q:V×List Assign}(h:szV d T args=some q) :
 ∃ t m σ,args=[enc t,.int .i64 ((m:Nat):Int)]∧Tri T σ∧tok T∧t.ok=true∧t.vplain=true∧m<d∧q=(.int .i64 (sz (wkF T) t m:Nat),T):=by
 unfold szV at h
 split at h
 · rename_i tv m
   simp only[zb]at h
   obtain⟨t,ht,h⟩:=h
   split at h
   · rename_i hh
     cases h
     obtain⟨⟨σ,h1⟩,h2,h3,h4,h5,h6⟩:=hh
     exact⟨t,m.toNat,σ,by rw[Enc.enc_dec _ _ ht,Int.toNat_of_nonneg h5],h1,h2,h3,h4,by omega,rfl⟩
   · cases h
 · cases h
theorem szV_mk{d:Nat}{T:List Assign}{σ:Sub}(h1:Tri T σ)(h2:tok T){t:Ty}(h3:t.ok=true)(h4:t.vplain=true){m:Nat}(h5:m<d):szV d T [enc t,.int .i64 (m:Int)]=some (.int .i64 (sz (wkF T) t m:Nat),T):=by
 unfold szV
 simp only[Enc.dec_enc,J.ob_some,if_pos (And.intro (⟨σ,h1⟩:∃ σ,Tri T σ) (And.intro h2 (And.intro h3 (And.intro h4 (And.intro (Int.natCast_nonneg m) (show (m:Int)<d by omega)))))),Int.toNat_natCast]
def sides:List Equation→List Ty
 | []=>[]
 |q::l=>q.left::q.right::sides l
theorem ze8:∀ l:List Equation,(sides l).length=2*l.length
 | []=>rfl
 |q::l=>by rw[sides,List.length_cons,List.length_cons,ze8 l,List.length_cons];omega
theorem zlq:∀ l m:List Equation,sides (l++m)=sides l++sides m
 | [],m=>rfl
 |q::l,m=>by rw[List.cons_append,sides,sides,zlq l m];rfl
theorem sides_mem{l:List Equation}{t:Ty}(h:t∈sides l):∃ q∈l,t=q.left∨t=q.right:=by
 induction l with
 |nil=>cases h
 | cons q l ih =>
   rw[sides]at h
   rcases List.mem_cons.1 h with rfl|h
   · exact⟨q,List.mem_cons_self ..,.inl rfl⟩
   rcases List.mem_cons.1 h with rfl|h
   · exact⟨q,List.mem_cons_self ..,.inr rfl⟩
   · obtain⟨p,hp,h⟩:=ih h
     exact⟨p,List.mem_cons_of_mem _ hp,h⟩
theorem ziE{l:List Equation}{q:Equation}(h:q∈l):q.left∈sides l∧q.right∈sides l:=by
 induction l with
 |nil=>cases h
 | cons p l ih =>
   rw[sides]
   rcases List.mem_cons.1 h with rfl|h
   · exact⟨List.mem_cons_self ..,List.mem_cons_of_mem _ (List.mem_cons_self ..)⟩
   · exact⟨List.mem_cons_of_mem _ (List.mem_cons_of_mem _ (ih h).1),List.mem_cons_of_mem _ (List.mem_cons_of_mem _ (ih h).2)⟩
def ev18F(l:List Equation):Option (List Int):=if Ty.oks (sides l)=true∧l.length≤1000∧(zw 1 (sides l) []).length≤10000 then some (zN (sides l))else none
def evF(l:List Equation):Option (List Int):=if Ty.oks (sides l)=true∧l.length≤1000∧Ty.sizes (sides l)≤100000 then some (zcv (sides l) [])else none
def zh2(i:Nat):V:=match i with
 | 0=>.snil
 |i+1=>.own 0 i 0 (2*i+2) none
def zcy(i:Nat)(L:List Ty):List (Nat×J.Obj):=match i with
 | 0=>[]
 |i+1=>[(0,.arr 5 i (L.map zh) false false true)]
def vuF(l:List Ty):Option (List Int):=if Ty.oks l=true∧l.length≤10000∧(zw 1 l []).length≤10000 then some (zN l)else none
section
variable {ρ:Nat→Value}(hρ:J.Good ρ)
include hρ
section
variable {E:Env}(hE:E.P=Tryz.prog)(hcon:ConsOk ρ E)
include hE hcon
theorem zog {d:Nat} (hd:d≤1000000) (hw:E.con 125=rdE (zll wkV)) (hc:E.con 83=rdE (zll (szV d))) {T:List Assign} {σ:Sub} (hT:Tri T σ) (htk:tok T) {t:Ty} (ht:t.ok=true) (hp:t.vplain=true) {m:Nat} (hm:m<d+1) :
 Wp ρ E 2 36 fS83 (((PT.leaf.set 0 (.ptr 0 0 0)).set 1 (enc t)).set 2 (.int .i64 (m:Int))) { H:=mkP (zb6 T),n:=2,log:=[] } (J.Leaves E.P Tryz.f83 (GivesL 2 (.int .i64 (sz (wkF T) t m:Nat)) (zb6 T))):=by
 obtain⟨w1,w2,w3,w4⟩:=wkF_walk hT hp
 have hso:(wkF T t).ok=true:=by
  obtain⟨n,hn⟩:=zmd w1
  exact wk_ok htk hn ht
 have e:=sz_eq (w:=wkF T) t m
 generalize sz (wkF T) t m=Z at e
 have hlen:=Ty.ok_len hso
 have hargs:=(Ty.ok_iff.1 hso).2
 have hvp:=vplains_iff.1 (zx w2)
 have hF:wkV T [enc t]=some (enc (wkF T t),T):=by unfold wkV;simp only[Enc.dec_enc,J.ob_some,w1]
 generalize wkF T t=u at w1 w2 w3 w4 hso e hlen hargs hvp hF
 obtain⟨tk,tn,ti,th,tl⟩:=t
 obtain⟨uk,un,ui,uh,ul⟩:=u
 simp only[zas,zfS,Ty.kind_mk,Ty.name_mk,Ty.id_mk,Ty.home_mk,Ty.args_mk]at hF e hlen hargs hvp
 simp[zlF,zlE,zlD,zlC,zlB,zlA,zl9,zl8,zlH,zl7,zlG,zl6,fS83,hE,zb6,zi1,hw,hF]
 refine lpi hρ hE hcon ul.length (nn:=2) (fun i (r:Nat)=>[(0,.ptr 0 0 0),(2,.int .i64 (m:Int)),(7,.int .i64 (r:Int)),(14,.sl (ul.map zh) false),(15,.int .i64 (ul.length:Int)),(16,.int .i64 (i:Int))])
  (fun _ _=>[(0,.arr 2 0 [[.map 1,.nilmap]] true false false),(1,.mp (T.map zff))]) (fun i r=>1≤r∧r≤m+1∧min (szL (sz (wkF T)) m (ul.drop i) r) (m+1)=Z) 1
  (Less.auto (by simp) (by simp) (by first|rfl|simp) (by simp<;>(intro x hx;first|omega|exact⟨.inl hx,by omega⟩))) ⟨Nat.le_refl _,by omega,by simpa using e.symm⟩ ?_ ?_
 · rintro r ⟨h1,h2,h3⟩ K
   rw[List.drop_length,szL]at h3
   have hadd:IntKind.i64.wrap ((m:Int)+1)=((m+1:Nat):Int):=zq (by omega)
   simp[fS83l0,zlF,zlE,zlD,zlC,zlB,zlA,zl9,zl8,zlH,zl7,zlG,zl6,fS83,hE]
   refine LessQ.mk (Less.auto (TL:=[(2,.int .i64 (m:Int)),(7,.int .i64 (r:Int))]) (HL:=[(0,.arr 2 0 [[.map 1,.nilmap]] true false false),(1,.mp (T.map zff))]) (n:=2) (by simp) (by simp) (by first|rfl|simp) (by simp<;>(intro x hx;first|omega|exact⟨.inl hx,by omega⟩))) ?_
   by_cases hq:m<r
   · have hq':(m:Int)<r:=by omega
     have e3:Z=m+1:=by omega
     rw[e3]
     simp[zlF,zlE,zlD,zlC,zlB,zlA,zl9,zl8,zlH,zl7,zlG,zl6,fS83,hE,hq,hq',hadd,-Int.natCast_add]
     exact GivesL.keep rfl rfl (by simp<;>omega) (by simp) (by simp)
   · have hq':¬ (m:Int)<r:=by omega
     have e3:Z=r:=by omega
     rw[e3]
     simp[zlF,zlE,zlD,zlC,zlB,zlA,zl9,zl8,zlH,zl7,zlG,zl6,fS83,hE,hq,hq',hadd,-Int.natCast_add]
     exact GivesL.keep rfl rfl (by simp<;>omega) (by simp) (by simp)
 · rintro i r hi ⟨h1,h2,h3⟩ K hK
   have hi':(i:Int)<ul.length:=by omega
   have hw2:IntKind.i64.wrap ((i:Int)+1)=((i+1:Nat):Int):=zq (by omega)
   have hadd:IntKind.i64.wrap ((m:Int)+1)=((m+1:Nat):Int):=zq (by omega)
   have hm5:(i*5) / 5=i:=by omega
   have hm6:(i*5) % 5=0:=by omega
   rw[List.drop_eq_getElem_cons hi,szL]at h3
   obtain⟨x,hx⟩:∃ x,ul[i]=x:=⟨_,rfl⟩
   have hxo:=hargs _ (List.getElem_mem hi)
   have hxp:=hvp _ (List.getElem_mem hi)
   rw[hx]at h3 hxo hxp
   by_cases hr:r≤m
   · rw[if_pos hr]at h3
     have hrm':¬ (m:Int)<(r:Int):=by omega
     have hsub:IntKind.i64.wrap ((m:Int)-(r:Int))=((m-r:Nat):Int):=by rw[wrap_i64 (by omega) (by omega)];omega
     have hG:=szV_mk (d:=d) hT htk hxo hxp (m:=m-r) (by omega)
     have hle:=sz_le (w:=wkF T) x (m-r)
     generalize sz (wkF T) x (m-r)=q at hG hle h3
     have hadd2:IntKind.i64.wrap ((r:Int)+(q:Int))=((r+q:Nat):Int):=by rw[wrap_i64 (by omega) (by omega)];omega
     have hnew:=hK (r+q) ⟨by omega,by omega,h3⟩
     clear hK
     obtain⟨xk,xn,xi,xh,xl⟩:=x
     simp only[zas,zfS,Ty.kind_mk,Ty.name_mk,Ty.id_mk,Ty.home_mk,Ty.args_mk]at hG
     simp[fS83l0,zlF,zlE,zlD,zlC,zlB,zlA,zl9,zl8,zlH,zl7,zlG,zl6,fS83,hE,hi,hi',hm5,hm6,hx,hr,hrm',hsub,hc,hG,hadd2,hw2,-Int.natCast_add]
     exact hnew _ _ (Less.auto (by simp[-Int.natCast_add]) (by simp) (by first|rfl|simp) (by simp<;>(intro x hx;first|omega|exact⟨.inl hx,by omega⟩)))
   · rw[if_neg hr]at h3
     have hrm':(m:Int)<(r:Int):=by omega
     have hrm:m<r:=by omega
     simp[fS83l0,zlF,zlE,zlD,zlC,zlB,zlA,zl9,zl8,zlH,zl7,zlG,zl6,fS83,hE,hi,hi',hm5,hm6,hx,hrm,hrm']
     refine LessQ.mk (Less.auto (TL:=[(2,.int .i64 (m:Int)),(7,.int .i64 (r:Int))]) (HL:=[(0,.arr 2 0 [[.map 1,.nilmap]] true false false),(1,.mp (T.map zff))]) (n:=2) (by simp) (by simp) (by first|rfl|simp) (by simp<;>(intro x hx;first|omega|exact⟨.inl hx,by omega⟩))) ?_
     by_cases hq:m<r
     · have hq':(m:Int)<r:=by omega
       have e3:Z=m+1:=by omega
       rw[e3]
       simp[zlF,zlE,zlD,zlC,zlB,zlA,zl9,zl8,zlH,zl7,zlG,zl6,fS83,hE,hq,hq',hadd,-Int.natCast_add]
       exact GivesL.keep rfl rfl (by simp<;>omega) (by simp) (by simp)
     · have hq':¬ (m:Int)<r:=by omega
       have e3:Z=r:=by omega
       rw[e3]
       simp[zlF,zlE,zlD,zlC,zlB,zlA,zl9,zl8,zlH,zl7,zlG,zl6,fS83,hE,hq,hq',hadd,-Int.natCast_add]
       exact GivesL.keep rfl rfl (by simp<;>omega) (by simp) (by simp)
theorem ref18_Vars_run(hc:E.con 33=fnS (zan vuF)){l:List Equation}{R:List Int}(hl:l.length≤1000)(hF:vuF (sides l)=some R)(hs:HS):CallOk ρ Tryz.prog 32 [enc l] hs (enc R) hs:=by
 refine fn hρ hE hcon Tryz.func32 fB32 rfl (by simp) ?_ hs
 simp[znw,znv,znu,znt,zns,zny,znr,znx,znq,fS32,hE]
 refine lpi hρ hE hcon l.length (nn:=1) (fun i (_:Unit)=>[(0,.sl (l.map zz) false),(3,zh2 i),(4,.int .i64 (i:Int))]) (fun i _=>zcy i (sides (l.take i))) (fun _ _=>True) ()
  (Less.auto (by simp[zh2,zcy]) (by simp[zcy]) (by first|rfl|simp[zcy]) (by first|rfl|simp[zcy])) trivial ?_ ?_
 · intro _ _ K
   rw[List.take_length]
   cases hn:l.length with
   | zero =>
     have h0:l=[]:=List.eq_nil_of_length_eq_zero hn
     subst h0
     simp[fS32l0,znw,znv,znu,znt,zns,zny,znr,znx,znq,fS32,hE,zh2,zcy]
     refine LessQ.mk (Less.auto (TL:=[(3,.snil)]) (HL:=[]) (n:=1) (by simp) (by simp) (by first|rfl|simp) (by first|rfl|simp)) ?_
     simp only[sides]at hF
     simp[znw,znv,znu,znt,zns,zny,znr,znx,znq,fS32,hE,hc,hF]
   | succ n =>
     have hsl:=ze8 l
     rw[hn]at hsl
     have htk:List.take (2*n+2) ((sides l).map zh)=(sides l).map zh:=List.take_of_length_le (by rw[List.length_map,hsl];omega)
     simp[fS32l0,znw,znv,znu,znt,zns,zny,znr,znx,znq,fS32,hE,hn,zh2,zcy]
     refine LessQ.mk (Less.auto (TL:=[(3,.own 0 n 0 (2*n+2) none)]) (HL:=[(0,.arr 5 n ((sides l).map zh) false false true)]) (n:=1) (by simp) (by simp) (by first|rfl|simp) (by first|rfl|simp)) ?_
     have hle2:2*n+2≤(sides l).length:=by omega
     simp[znw,znv,znu,znt,zns,zny,znr,znx,znq,fS32,hE,hc,hF,htk,hle2]
 · intro i _ hi _ K hK
   have hnew:=hK () trivial
   clear hK
   have hi':(i:Int)<l.length:=by omega
   have hw2:IntKind.i64.wrap ((i:Int)+1)=((i+1:Nat):Int):=zq (by omega)
   have ha0:(i*10) / 10=i:=by omega
   have ha1:(i*10) % 10=0:=by omega
   have ha2:(i*10+5) / 10=i:=by omega
   have ha3:(i*10+5) % 10=5:=by omega
   have hsn:sides (l.take (i+1))=sides (l.take i)++[l[i].left,l[i].right]:=by
    rw[List.take_add_one,List.getElem?_eq_getElem hi,Option.toList_some,zlq];rfl
   rw[hsn]at hnew
   have hsl:=ze8 (l.take i)
   rw[List.length_take,Nat.min_eq_left (by omega)]at hsl
   obtain⟨q,hq⟩:∃ q,l[i]=q:=⟨_,rfl⟩
   rw[hq]at hnew
   obtain⟨qa,qb⟩:=q
   rcases i with _|i
   · simp[fS32l0,znw,znv,znu,znt,zns,zny,znr,znx,znq,fS32,hE,hi,hi',hq,zh2,zcy,sides,hw2,-Int.natCast_add]
     simp only[List.take_zero,sides,List.nil_append]at hnew
     exact hnew _ _ (Less.auto (by simp[zh2,zcy,show IntKind.i64.wrap 1=1 from rfl,-Int.natCast_add]) (by simp[zh2,zcy]) (by first|rfl|simp[zcy]) (by first|rfl|simp[zcy]))
   · generalize sides (l.take (i+1))=S at hsl hnew
     have htk:List.take (2*i+2) (S.map zh)=S.map zh:=List.take_of_length_le (by rw[List.length_map,hsl];omega)
     have h64:(2*i+2+2)*64≤1048576:=Nat.le_trans (Nat.mul_le_mul_right 64 (show 2*i+2+2≤2002 by omega)) (by decide)
     have hno:¬ 2*i+2+2≤2*(i+1):=by omega
     have hye:2*i+2≤2*(i+1):=by omega
     have he4:2*(i+1)+2=2*i+2+2:=by omega
     simp[fS32l0,znw,znv,znu,znt,zns,zny,znr,znx,znq,fS32,hE,hi,hi',hq,ha0,ha1,ha2,ha3,zh2,zcy,htk,h64,Nat.not_succ_le_self,hsl,hno,hye,hw2,-Int.natCast_add]
     exact hnew _ _ (Less.auto (by simp[zh2,zcy,he4,-Int.natCast_add]) (by simp[zh2,zcy]) (by first|rfl|simp[zcy]) (by first|rfl|simp[zcy]))
theorem solve_Vars_run(hc:E.con 66=fnS (zan tvF)){l:List Equation}{R:List Int}(hl:l.length≤1000)(hF:tvF (sides l)=some R)(hs:HS):CallOk ρ Tryz.prog 43 [enc l] hs (enc R) hs:=by
 refine fn hρ hE hcon Tryz.func43 fB43 rfl (by simp) ?_ hs
 simp[znn,znm,znl,znk,znj,zni,znp,znh,zno,zng,fS43,hE]
 refine lpi hρ hE hcon l.length (nn:=1) (fun i (_:Unit)=>[(3,zh2 i),(6,.sl (l.map zz) false),(7,.int .i64 (l.length:Int)),(8,.int .i64 (i:Int))]) (fun i _=>zcy i (sides (l.take i))) (fun _ _=>True) ()
  (Less.auto (by simp[zh2,zcy]) (by simp[zcy]) (by first|rfl|simp[zcy]) (by first|rfl|simp[zcy])) trivial ?_ ?_
 · intro _ _ K
   rw[List.take_length]
   cases hn:l.length with
   | zero =>
     have h0:l=[]:=List.eq_nil_of_length_eq_zero hn
     subst h0
     simp[fS43l0,znn,znm,znl,znk,znj,zni,znp,znh,zno,zng,fS43,hE,zh2,zcy]
     refine LessQ.mk (Less.auto (TL:=[(3,.snil)]) (HL:=[]) (n:=1) (by simp) (by simp) (by first|rfl|simp) (by first|rfl|simp)) ?_
     simp only[sides]at hF
     simp[znn,znm,znl,znk,znj,zni,znp,znh,zno,zng,fS43,hE,hc,hF]
   | succ n =>
     have hsl:=ze8 l
     rw[hn]at hsl
     have htk:List.take (2*n+2) ((sides l).map zh)=(sides l).map zh:=List.take_of_length_le (by rw[List.length_map,hsl];omega)
     simp[fS43l0,znn,znm,znl,znk,znj,zni,znp,znh,zno,zng,fS43,hE,hn,zh2,zcy]
     refine LessQ.mk (Less.auto (TL:=[(3,.own 0 n 0 (2*n+2) none)]) (HL:=[(0,.arr 5 n ((sides l).map zh) false false true)]) (n:=1) (by simp) (by simp) (by first|rfl|simp) (by first|rfl|simp)) ?_
     have hle2:2*n+2≤(sides l).length:=by omega
     simp[znn,znm,znl,znk,znj,zni,znp,znh,zno,zng,fS43,hE,hc,hF,htk,hle2]
 · intro i _ hi _ K hK
   have hnew:=hK () trivial
   clear hK
   have hi':(i:Int)<l.length:=by omega
   have hw2:IntKind.i64.wrap ((i:Int)+1)=((i+1:Nat):Int):=zq (by omega)
   have ha0:(i*10) / 10=i:=by omega
   have ha1:(i*10) % 10=0:=by omega
   have ha2:(i*10+5) / 10=i:=by omega
   have ha3:(i*10+5) % 10=5:=by omega
   have hsn:sides (l.take (i+1))=sides (l.take i)++[l[i].left,l[i].right]:=by
    rw[List.take_add_one,List.getElem?_eq_getElem hi,Option.toList_some,zlq];rfl
   rw[hsn]at hnew
   have hsl:=ze8 (l.take i)
   rw[List.length_take,Nat.min_eq_left (by omega)]at hsl
   obtain⟨q,hq⟩:∃ q,l[i]=q:=⟨_,rfl⟩
   rw[hq]at hnew
   obtain⟨qa,qb⟩:=q
   rcases i with _|i
   · simp[fS43l0,znn,znm,znl,znk,znj,zni,znp,znh,zno,zng,fS43,hE,hi,hi',hq,zh2,zcy,sides,hw2,-Int.natCast_add]
     simp only[List.take_zero,sides,List.nil_append]at hnew
     exact hnew _ _ (Less.auto (by simp[zh2,zcy,show IntKind.i64.wrap 1=1 from rfl,-Int.natCast_add]) (by simp[zh2,zcy]) (by first|rfl|simp[zcy]) (by first|rfl|simp[zcy]))
   · generalize sides (l.take (i+1))=S at hsl hnew
     have htk:List.take (2*i+2) (S.map zh)=S.map zh:=List.take_of_length_le (by rw[List.length_map,hsl];omega)
     have h64:(2*i+2+2)*64≤1048576:=Nat.le_trans (Nat.mul_le_mul_right 64 (show 2*i+2+2≤2002 by omega)) (by decide)
     have hno:¬ 2*i+2+2≤2*(i+1):=by omega
     have hye:2*i+2≤2*(i+1):=by omega
     have he4:2*(i+1)+2=2*i+2+2:=by omega
     simp[fS43l0,znn,znm,znl,znk,znj,zni,znp,znh,zno,zng,fS43,hE,hi,hi',hq,ha0,ha1,ha2,ha3,zh2,zcy,htk,h64,Nat.not_succ_le_self,hsl,hno,hye,hw2,-Int.natCast_add]
     exact hnew _ _ (Less.auto (by simp[zh2,zcy,he4,-Int.natCast_add]) (by simp[zh2,zcy]) (by first|rfl|simp[zcy]) (by first|rfl|simp[zcy]))
end
theorem vTSize(d:Nat)(hd:d≤1000000):Valid ρ Tryz.prog 83 (rdE (zll (szV d))):=by
 induction d with
 | zero =>
   refine Valid.rdE (fo Tryz.func83 fB83) fun vs hs D h _=>?_
   obtain⟨args,T,r,T',a,m,hF,rfl,_,hr,hg,hfit⟩:=zj3 h
   obtain⟨_,_,_,_,_,_,_,_,h,_⟩:=szV_inv hF
   omega
 | succ d ih =>
   refine Valid.rdE (fo Tryz.func83 fB83) fun vs hs D h _=>?_
   obtain⟨args,T,r,T',a,m,hF,rfl,_,hr,hg,hfit⟩:=zj3 h
   obtain⟨t,m2,σ,rfl,h1,h2,h3,h4,h5,h6⟩:=szV_inv hF
   cases h6
   have hEE:(EL [(125,rdE (zll wkV)),(83,rdE (zll (szV d)))]).P=Tryz.prog:=rfl
   have hcn:ConsOk ρ (EL [(125,rdE (zll wkV)),(83,rdE (zll (szV d)))]):=zg (za (vTWalk hρ) (za (ih (by omega)) valid_nil))
   exact zii hρ hcn rfl named Tryz.func83 fB83 rfl hg rfl hr (zog hρ hEE hcn (by omega) rfl rfl h1 h2 h3 h4 h5) hfit
theorem vEqVars18:Valid ρ Tryz.prog 32 (fnS (zan ev18F)):=v1 (fo Tryz.func32 fB32) fun a r h hs=>by
 obtain⟨⟨h1,h2,h3⟩,rfl⟩:=z8 h
 exact ref18_Vars_run hρ (E:=EL [(33,fnS (zan vuF))]) rfl (zg (za (vVarsU hρ) valid_nil)) rfl h2 (if_pos ⟨h1,by rw[ze8];omega,h3⟩) hs
theorem vEqVars:Valid ρ Tryz.prog 43 (fnS (zan evF)):=v1 (fo Tryz.func43 fB43) fun a r h hs=>by
 obtain⟨⟨h1,h2,h3⟩,rfl⟩:=z8 h
 exact solve_Vars_run hρ (E:=EL [(66,tvarsS)]) rfl (zg (za (vTVars hρ) valid_nil)) rfl h2 (if_pos ⟨h1,by rw[ze8];omega,h3⟩) hs
end
end Go.Proofs.YthfcfmkdeheicaaGreat
/- Closures over a set of types: whether what it makes of a type is too large. -/
namespace Go.Proofs.YthfcfmkdeheicaaGreat
open Go.J
open Go.J.Enc (enc)
set_option maxRecDepth 100000
set_option maxHeartbeats 1000000
def lgX(T:List Assign):List Int→Int→Int
 | [],_=>-1
 |x::l,i=>if lgB T (zA x)=true then i else lgX T l (i+1)
theorem lgX_any(T:List Assign):∀ (l:List Int) (i:Int),0≤i→decide (0≤lgX T l i)=l.any fun x=>lgB T (zA x):=by
 intro l
 induction l with
 |nil=>intro i _;rfl
 | cons x l ih =>
   intro i hi
   rw[lgX,List.any_cons]
   by_cases h:lgB T (zA x)=true
   · rw[if_pos h,h,Bool.true_or];exact decide_eq_true hi
   · rw[if_neg h,ih (i+1) (by omega)]
     have:lgB T (zA x)=false:=by simpa using h
     rw[this,Bool.false_or]
open Classical in
def lgT(T:List Assign)(av:V):Option V:=ob (Enc.dec av:Option Ty) fun t=>if (∃ σ,Tri T σ)∧tok T∧t.ok=true∧t.vplain=true then some (.bool (lgB T t))else none
open Classical in
def lgI(T:List Assign)(av:V):Option V:=ob (Enc.dec av:Option Int) fun i=>if (∃ σ,Tri T σ)∧tok T then some (.bool (lgB T (zA i)))else none
open Classical in
def lgN(T:List Assign)(av:V):Option V:=ob (Enc.dec av:Option (List Int)) fun l=>if (∃ σ,Tri T σ)∧tok T∧l.length≤100000 then some (.int .i64 (lgX T l 0))else none
open Classical in
def lgA(T:List Assign)(av:V):Option V:=ob (Enc.dec av:Option (List Int)) fun l=>if (∃ σ,Tri T σ)∧tok T∧l.length≤100000 then some (.bool (l.any fun x=>lgB T (zA x)))else none
def lg1S:J.Spec:=rdE (lgM lgT 0 82 85)
def lg2S:J.Spec:=rdE (lgM lgI 1 82 85)
def lg3S:J.Spec:=rdE (lgM lgN 2 82 85)
def lg4S:J.Spec:=rdE (lgM lgA 2 82 85)
section
variable {ρ:Nat→Value}(hρ:J.Good ρ)
include hρ
section
variable {E:Env}(hE:E.P=Tryz.prog)(hcon:ConsOk ρ E)
include hE hcon
theorem zo0(hS:E.con 83=rdE (zll (szV 1000))){T:List Assign}{σ:Sub}(hT:Tri T σ)(htk:tok T){t:Ty}(ht:t.ok=true)(hp:t.vplain=true) :
 Wp ρ E 3 8 fS82 ((PT.leaf.set 0 (enc t)).set 1 (.ptr 0 0 0)) { H:=mkP (lgOL 0 82 T),n:=3,log:=[] } (J.Leaves E.P Tryz.f82 (GivesL 3 (.bool (lgB T t)) (lgOL 0 82 T))):=by
 have hF:=szV_mk (d:=1000) hT htk ht hp (m:=200) (by omega)
 unfold lgB
 generalize sz (wkF T) t 200=z at hF
 obtain⟨tk,tn,ti,th,tl⟩:=t
 simp only[zas,zfS,Ty.kind_mk,Ty.name_mk,Ty.id_mk,Ty.home_mk,Ty.args_mk]at hF
 have hF:szV 1000 T [.agg [.int .i64 tk,.str tn,.int .i64 ti,.int .i64 th,.sl (tl.map zh) false],.int .i64 200]=some (.int .i64 (z:Int),T):=hF
 by_cases hz:200<z
 · have hz':(200:Int)<z:=by omega
   simp[fS82r0,fS82r1,fS82,hE,lgOL,hS,hF,hz,hz']
   exact GivesL.keep rfl rfl (by simp) (by simp) (by simp)
 · have hz':¬ (200:Int)<z:=by omega
   simp[fS82r0,fS82r1,fS82,hE,lgOL,hS,hF,hz,hz']
   exact GivesL.keep rfl rfl (by simp) (by simp) (by simp)
theorem zoz(h1:E.con 82=lg1S)(hv:E.con 86=fnS (zan fun i:Int=>some (zA i))){T:List Assign}{σ:Sub}(hT:Tri T σ)(htk:tok T){x:Int} :
 Wp ρ E 4 8 fS85 ((PT.leaf.set 0 (enc x)).set 1 (.ptr 3 0 0)) { H:=mkP (lgOL 1 82 T),n:=4,log:=[] } (J.Leaves E.P Tryz.f85 (GivesL 4 (.bool (lgB T (zA x))) (lgOL 1 82 T))):=by
 have hF:lgT T (enc (zA x))=some (.bool (lgB T (zA x))):=by
  unfold lgT
  simp only[Enc.dec_enc,J.ob_some]
  exact if_pos ⟨⟨σ,hT⟩,htk,tVar_okJ x,zaz x⟩
 generalize lgB T (zA x)=q at hF
 simp only[zA,zas,zfS,Ty.kind_mk,Ty.name_mk,Ty.id_mk,Ty.home_mk,Ty.args_mk,List.map_nil]at hF
 simp[fS85r0,fS85r1,fS85,hE,lgOL,h1,lg1S,hv,zA,hF]
 exact GivesL.keep rfl rfl (by simp) (by simp) (by simp)
theorem znI(h2:E.con 85=lg2S){T:List Assign}{σ:Sub}(hT:Tri T σ)(htk:tok T){l:List Int}(hl:l.length≤100000) :
 Wp ρ E 4 19 fS112 ((PT.leaf.set 0 (enc l)).set 1 (.func 85 [.ptr 3 0 0])) { H:=mkP (lgOL 2 82 T),n:=4,log:=[] } (J.Leaves E.P Tryz.f112 (GivesL 4 (.int .i64 (lgX T l 0)) (lgOL 2 82 T))):=by
 generalize hR:lgX T l 0=R
 simp[zkU,zkT,zkS,zkR,zkQ,zkP,zkW,zkO,zkV,zkN,fS112,hE,lgOL]
 refine lpi hρ hE hcon l.length (nn:=4) (fun i (_:Unit)=>[(0,.sl (l.map encI) false),(1,.func 85 [.ptr 3 0 0]),(6,.sl (l.map encI) false),(7,.int .i64 (l.length:Int)),(8,.int .i64 (i:Int))])
  (fun _ _=>[(0,.arr 1 0 [[.ptr 1 0 0]] true false false),(1,.arr 2 0 [[.map 2,.nilmap]] true false false),(2,.mp (T.map zff)),(3,.arr 1 0 [[.func 82 [.ptr 0 0 0]]] true false false)]) (fun i _=>lgX T (l.drop i) i=R) ()
  (Less.auto (by simp) (by simp) (by first|rfl|simp) (by simp<;>(intro x hx;first|omega|exact⟨.inl hx,by omega⟩))) (by simpa using hR) ?_ ?_
 · intro _ h K
   rw[List.drop_length,lgX]at h
   subst h
   simp[fS112l0,zkU,zkT,zkS,zkR,zkQ,zkP,zkW,zkO,zkV,zkN,fS112,hE]
   refine LessQ.mk (Less.auto (TL:=[]) (HL:=[(0,.arr 1 0 [[.ptr 1 0 0]] true false false),(1,.arr 2 0 [[.map 2,.nilmap]] true false false),(2,.mp (T.map zff)),(3,.arr 1 0 [[.func 82 [.ptr 0 0 0]]] true false false)]) (n:=4) (by simp) (by simp) (by first|rfl|simp) (by simp<;>(intro x hx;first|omega|exact⟨.inl hx,by omega⟩))) ?_
   simp[zkU,zkT,zkS,zkR,zkQ,zkP,zkW,zkO,zkV,zkN,fS112,hE]
   exact GivesL.keep rfl rfl (by simp) (by simp) (by simp)
 · intro i _ hi h K hK
   have hi':(i:Int)<l.length:=by omega
   have hw2:IntKind.i64.wrap ((i:Int)+1)=((i+1:Nat):Int):=zq (by omega)
   rw[List.drop_eq_getElem_cons hi,lgX]at h
   obtain⟨x,hx⟩:∃ x,l[i]=x:=⟨_,rfl⟩
   rw[hx]at h
   have hF:lgI T (enc x)=some (.bool (lgB T (zA x))):=by
    unfold lgI
    simp only[Enc.dec_enc,J.ob_some]
    exact if_pos ⟨⟨σ,hT⟩,htk⟩
   have hF:lgI T (.int .i64 x)=some (.bool (lgB T (zA x))):=hF
   by_cases hq:lgB T (zA x)=true
   · rw[if_pos hq]at h
     rw[hq]at hF
     subst h
     simp[fS112l0,zkU,zkT,zkS,zkR,zkQ,zkP,zkW,zkO,zkV,zkN,fS112,hE,hi,hi',hx,h2,lg2S,hF]
     refine LessQ.mk (Less.auto (TL:=[(4,.int .i64 (i:Int))]) (HL:=[(0,.arr 1 0 [[.ptr 1 0 0]] true false false),(1,.arr 2 0 [[.map 2,.nilmap]] true false false),(2,.mp (T.map zff)),(3,.arr 1 0 [[.func 82 [.ptr 0 0 0]]] true false false)]) (n:=4) (by simp) (by simp) (by first|rfl|simp) (by simp<;>(intro x hx;first|omega|exact⟨.inl hx,by omega⟩))) ?_
     simp[zkU,zkT,zkS,zkR,zkQ,zkP,zkW,zkO,zkV,zkN,fS112,hE]
     exact GivesL.keep rfl rfl (by simp) (by simp) (by simp)
   · rw[if_neg hq]at h
     have hq':lgB T (zA x)=false:=by simpa using hq
     rw[hq']at hF
     have hnew:=hK () (by rw[← h];congr 1)
     simp[fS112l0,zkU,zkT,zkS,zkR,zkQ,zkP,zkW,zkO,zkV,zkN,fS112,hE,hi,hi',hx,h2,lg2S,hF,hw2,-Int.natCast_add]
     exact hnew _ _ (Less.auto (by simp[-Int.natCast_add]) (by simp) (by first|rfl|simp) (by simp<;>(intro x hx;first|omega|exact⟨.inl hx,by omega⟩)))
theorem zlc(h3:E.con 112=lg3S){T:List Assign}{σ:Sub}(hT:Tri T σ)(htk:tok T){l:List Int}(hl:l.length≤100000) :
 Wp ρ E 4 9 fS65 ((PT.leaf.set 0 (enc l)).set 1 (.func 85 [.ptr 3 0 0])) { H:=mkP (lgOL 2 82 T),n:=4,log:=[] } (J.Leaves E.P Tryz.f65 (GivesL 4 (.bool (l.any fun x=>lgB T (zA x))) (lgOL 2 82 T))):=by
 rw[← lgX_any T l 0 (Int.le_refl _)]
 have hF:lgN T (enc l)=some (.int .i64 (lgX T l 0)):=by
  unfold lgN
  simp only[Enc.dec_enc,J.ob_some]
  exact if_pos ⟨⟨σ,hT⟩,htk,hl⟩
 generalize lgX T l 0=R at hF
 simp at hF
 simp[fS65r0,fS65r1,fS65,hE,lgOL,h3,lg3S,hF]
 exact GivesL.keep rfl rfl (by simp) (by simp) (by simp)
end
theorem vLg1:Valid ρ Tryz.prog 82 lg1S:=Valid.rdE (fo Tryz.func82 fB82) fun vs hs D h _=>by
 obtain⟨av,T,r,c,a,m,b,hF,rfl,hr,hg,hfit⟩:=lgM_inv h
 unfold lgT at hF
 simp only[zb]at hF
 obtain⟨t,ht,hF⟩:=hF
 split at hF
 · rename_i hh
   cases hF
   obtain⟨⟨σ,h1⟩,h2,h3,h4⟩:=hh
   have e:=Enc.enc_dec _ _ ht
   subst e
   exact zii hρ (E:=EL [(83,rdE (zll (szV 1000)))]) (zg (za (vTSize hρ 1000 (by omega)) valid_nil)) rfl named Tryz.func82 fB82 rfl hg rfl hr
    (zo0 hρ (E:=EL [(83,rdE (zll (szV 1000)))]) rfl (zg (za (vTSize hρ 1000 (by omega)) valid_nil)) rfl h1 h2 h3 h4) hfit
 · cases hF
theorem vLg2:Valid ρ Tryz.prog 85 lg2S:=Valid.rdE (fo Tryz.func85 fB85) fun vs hs D h _=>by
 obtain⟨av,T,r,c,a,m,b,hF,rfl,hr,hg,hfit⟩:=lgM_inv h
 unfold lgI at hF
 simp only[zb]at hF
 obtain⟨x,hx,hF⟩:=hF
 split at hF
 · rename_i hh
   cases hF
   obtain⟨⟨σ,h1⟩,h2⟩:=hh
   have e:=Enc.enc_dec _ _ hx
   subst e
   have hcn:ConsOk ρ (EL [(82,lg1S),(86,fnS (zan fun i:Int=>some (zA i)))]):=zg (za (vLg1 hρ) (za (vTVar hρ) valid_nil))
   exact zii hρ hcn rfl named Tryz.func85 fB85 rfl hg rfl hr (zoz hρ (E:=EL [(82,lg1S),(86,fnS (zan fun i:Int=>some (zA i)))]) rfl hcn rfl rfl h1 h2) hfit
 · cases hF
theorem vLg3:Valid ρ Tryz.prog 112 lg3S:=Valid.rdE (fo Tryz.func112 fB112) fun vs hs D h _=>by
 obtain⟨av,T,r,c,a,m,b,hF,rfl,hr,hg,hfit⟩:=lgM_inv h
 unfold lgN at hF
 simp only[zb]at hF
 obtain⟨x,hx,hF⟩:=hF
 split at hF
 · rename_i hh
   cases hF
   obtain⟨⟨σ,h1⟩,h2,h3⟩:=hh
   have e:=Enc.enc_dec _ _ hx
   subst e
   have hcn:ConsOk ρ (EL [(85,lg2S)]):=zg (za (vLg2 hρ) valid_nil)
   exact zii hρ hcn rfl named Tryz.func112 fB112 rfl hg rfl hr (znI hρ (E:=EL [(85,lg2S)]) rfl hcn rfl h1 h2 h3) hfit
 · cases hF
theorem vLg4:Valid ρ Tryz.prog 65 lg4S:=Valid.rdE (fo Tryz.func65 fB65) fun vs hs D h _=>by
 obtain⟨av,T,r,c,a,m,b,hF,rfl,hr,hg,hfit⟩:=lgM_inv h
 unfold lgA at hF
 simp only[zb]at hF
 obtain⟨x,hx,hF⟩:=hF
 split at hF
 · rename_i hh
   cases hF
   obtain⟨⟨σ,h1⟩,h2,h3⟩:=hh
   have e:=Enc.enc_dec _ _ hx
   subst e
   have hcn:ConsOk ρ (EL [(112,lg3S)]):=zg (za (vLg3 hρ) valid_nil)
   exact zii hρ hcn rfl named Tryz.func65 fB65 rfl hg rfl hr (zlc hρ (E:=EL [(112,lg3S)]) rfl hcn rfl h1 h2 h3) hfit
 · cases hF
end
end Go.Proofs.YthfcfmkdeheicaaGreat
/- Solving equations with a set of types. -/
namespace Go.Proofs.YthfcfmkdeheicaaGreat
open Go.J
open Go.J.Enc (enc)
set_option maxRecDepth 100000
set_option maxHeartbeats 1000000
def SU(l:List Equation)(p:T3 (List Assign) Int Int):Prop:=∃ k T σ,slA (zN (sides l)) l 0 zA=(p.c,k,σ)∧p.b=((k:Nat):Int)∧(p.c=0→Tri T σ∧tok T)∧p.a=if p.c=0 then zmJ T σ (zN (sides l))else []
structure EqsOk(l:List Equation):Prop where
 ok:∀ t∈sides l,t.ok=true
 eq:∀ q∈l,EqOk (zN (sides l)) q.left∧EqOk (zN (sides l)) q.right
 len:l.length≤100
 sz:Ty.sizes (sides l)≤8000
open Classical in
def suM(l:List Equation):T3 (List Assign) Int Int:=if h:∃ p,SU l p then h.choose else ⟨[],0,0⟩
open Classical in
def suF(l:List Equation):Option (T3 (List Assign) Int Int):=if EqsOk l then some (suM l)else none
theorem zo1{l:List Equation}(h:EqsOk l):∀ t∈sides l,t.vplain=true:=fun t ht=>by
 obtain⟨q,hq,hh⟩:=sides_mem ht
 rcases hh with rfl|rfl
 · exact(h.eq q hq).1.1
 · exact(h.eq q hq).2.1
theorem eqs_tr{l:List Equation}(h:EqsOk l):∃ g e k T σ,trM g (zN (sides l)) l 0 []=some (e,k,T)∧slA (zN (sides l)) l 0 zA=(e,k,σ)∧(e=0→Tri T σ) :=
 tr_sl l 0 [] zA .nil (sinv0 _) h.eq
theorem trM_tok{g:Nat}{V:List Int}:∀ (l:List Equation) (i:Nat) (T:List Assign) (e:Int) (k:Nat) (T':List Assign),tok T→(∀ q∈l,q.left.ok=true∧q.right.ok=true)→trM g V l i T=some (e,k,T')→tok T':=by
 intro l
 induction l with
 |nil=>intro i T e k T' h _ hr;cases hr;exact h
 | cons q l ih =>
   intro i T e k T' h hl hr
   rw[trM]at hr
   split at hr
   · cases hr;exact h
   cases hq:tuM g T q.left q.right with
   |none=>rw[hq]at hr;cases hr
   | some r =>
     obtain⟨e1,T1⟩:=r
     rw[hq]at hr
     have h1:=tu_tok g T q.left q.right e1 T1 h (hl q (List.mem_cons_self ..)).1 (hl q (List.mem_cons_self ..)).2 hq
     simp only at hr
     split at hr
     · cases hr;exact h1
     split at hr
     · cases hr;exact h1
     · exact ih _ _ _ _ _ h1 (fun q hq=>hl q (List.mem_cons_of_mem _ hq)) hr
theorem eqs_oks{l:List Equation}(h:EqsOk l):∀ q∈l,q.left.ok=true∧q.right.ok=true:=fun q hq=>⟨h.ok _ (ziE hq).1,h.ok _ (ziE hq).2⟩
theorem su_ok{l:List Equation}(h:EqsOk l):SU l (suM l):=by
 have hex:∃ p,SU l p:=by
  obtain⟨g,e,k,T,σ,h1,h2,h3⟩:=eqs_tr h
  exact⟨⟨if e=0 then zmJ T σ (zN (sides l))else [],k,e⟩,k,T,σ,h2,rfl,fun h0=>⟨h3 h0,trM_tok l 0 [] e k T (fun a h=>by cases h) (eqs_oks h) h1⟩,rfl⟩
 unfold suM
 rw[dif_pos hex]
 exact hex.choose_spec
theorem tri_dom{T:List Assign}{σ:Sub}(h:Tri T σ)(i:Int):(zo T i).isSome=true↔σ i≠zA i:=by
 constructor
 · intro hs
   exact h.bound i fun e=>by rw[e]at hs;cases hs
 · intro hn
   cases hl:zo T i with
   |some u=>rfl
   |none=>exact absurd (h.props.free i hl) hn
theorem asgF_same{T T':List Assign}{σ:Sub}(h:Tri T σ)(h':Tri T' σ)(ids:List Int):zmJ T σ ids=zmJ T' σ ids:=by
 unfold zmJ
 congr 1
 refine List.filter_congr fun i _=>?_
 have:=(tri_dom h i).trans (tri_dom h' i).symm
 cases h1:(zo T i).isSome<;>cases h2:(zo T' i).isSome<;>simp[h1,h2]at this ⊢
section
variable {ρ:Nat→Value}(hρ:J.Good ρ)
include hρ
section
variable {E:Env}(hE:E.P=Tryz.prog)(hcon:ConsOk ρ E)
include hE hcon
theorem znA {g:Nat} (h1:E.con 82=lg1S) (hU:E.con 84=zdo (zll (tuV g))) (hC:E.con 65=lg4S) {l:List Equation} {W:List Int} (hWl:W.length≤100000) (hl:l.length≤100) (heq:∀ q∈l,EqOk W q.left∧EqOk W q.right) (hok:∀ q∈l,q.left.ok=true∧q.right.ok=true)
 {e:Int} {k:Nat} {T':List Assign} (htr:trM g W l 0 []=some (e,k,T')) {Q:Ex→PT V→HS→Prop} {T0:PT V} {hs0:HS}
 (h0:Less 0 T0 hs0 (mkP [(0,.sl (l.map zz) false),(5,.sl (W.map encI) false),(6,.ptr 0 0 0),(7,.ptr 3 0 0),(15,.sl (l.map zz) false),(16,.int .i64 (l.length:Int)),(17,.int .i64 ((0:Nat):Int))]) { H:=mkP [(0,.arr 1 0 [[.ptr 1 0 0]] true false false),(1,.arr 2 0 [[.map 2,.nilmap]] true false false),(2,.mp (([]:List Assign).map zff)),(3,.arr 1 0 [[.func 82 [.ptr 0 0 0]]] true false false)],n:=4,log:=[] })
 (hQ0:e=0→Q (.exit 0) (mkP [(0,.sl (l.map zz) false),(5,.sl (W.map encI) false),(6,.ptr 0 0 0)]) { H:=mkP [(0,.arr 1 0 [[.ptr 1 0 0]] true false false),(1,.arr 2 0 [[.map 2,.nilmap]] true false false),(2,.mp (T'.map zff))],n:=3,log:=[] })
 (hQ1:e≠0→Q .ret (mkP [(2,.snil),(3,.int .i64 (k:Int)),(4,.int .i64 e)]) { H:=mkP [],n:=0,log:=[] }) :
 Ls ρ E 0 53 (.loop znz) T0 hs0 Q:=by
 refine lpi hρ hE hcon l.length (nn:=4) (fun i (_:List Assign)=>[(0,.sl (l.map zz) false),(5,.sl (W.map encI) false),(6,.ptr 0 0 0),(7,.ptr 3 0 0),(15,.sl (l.map zz) false),(16,.int .i64 (l.length:Int)),(17,.int .i64 (i:Int))])
  (fun _ T=>[(0,.arr 1 0 [[.ptr 1 0 0]] true false false),(1,.arr 2 0 [[.map 2,.nilmap]] true false false),(2,.mp (T.map zff)),(3,.arr 1 0 [[.func 82 [.ptr 0 0 0]]] true false false)]) (fun i T=>(∃ σ,Tri T σ∧SInv W σ)∧tok T∧trM g W (l.drop i) i T=some (e,k,T')) [] h0 ⟨⟨zA,.nil,sinv0 _⟩,fun a h=>(by cases h),htr⟩ ?_ ?_
 · rintro T ⟨_,_,g3⟩ K
   rw[List.drop_length,trM]at g3
   cases g3
   simp[znz,ziW,ziV,ziU,ziT,ziS,ziR,ziQ,ziP,ziO,ziN,zf6,zf5,zf4,zf3,ziY,zf2,ziX,zf1,fS30,hE]
   exact LessQ.mk (Less.auto (n:=3) (by simp) (by simp) (by first|rfl|simp) (by first|rfl|simp)) (hQ0 rfl)
 · rintro i T hi ⟨⟨σ,hT,hS⟩,htk,g3⟩ K hK
   have hi':(i:Int)<l.length:=by omega
   have hw2:IntKind.i64.wrap ((i:Int)+1)=((i+1:Nat):Int):=zq (by omega)
   have hm5:(i*10) / 10=i:=by omega
   have hm6:(i*10) % 10=0:=by omega
   rw[List.drop_eq_getElem_cons hi,trM]at g3
   obtain⟨ea,eb⟩:=heq _ (List.getElem_mem hi)
   obtain⟨oa,ob⟩:=hok _ (List.getElem_mem hi)
   obtain⟨q,hq⟩:∃ q,l[i]=q:=⟨_,rfl⟩
   rw[hq]at g3 ea eb oa ob
   obtain⟨a,b⟩:=q
   simp only at g3 ea eb oa ob
   have hFa:lgT T (enc a)=some (.bool (lgB T a)):=by
    unfold lgT
    simp only[Enc.dec_enc,J.ob_some]
    exact if_pos ⟨⟨σ,hT⟩,htk,oa,ea.1⟩
   have hFb:lgT T (enc b)=some (.bool (lgB T b)):=by
    unfold lgT
    simp only[Enc.dec_enc,J.ob_some]
    exact if_pos ⟨⟨σ,hT⟩,htk,ob,eb.1⟩
   clear h0
   cases h2:lgB T a with
   | true =>
     rw[h2,if_pos (.inl rfl)]at g3
     cases g3
     rw[h2]at hFa
     clear hQ0 hK hFb
     obtain⟨ak,an,ai,ah,al⟩:=a
     obtain⟨bk,bn,bi,bh,bl⟩:=b
     simp only[zas,zfS,Ty.kind_mk,Ty.name_mk,Ty.id_mk,Ty.home_mk,Ty.args_mk]at hFa
     simp[znz,ziW,ziV,ziU,ziT,ziS,ziR,ziQ,ziP,ziO,ziN,zf6,zf5,zf4,zf3,ziY,zf2,ziX,zf1,fS30,hE,hi,hi',hm5,hm6,hq,h1,lg1S,hFa]
     exact LessQ.mk (Less.auto (n:=0) (by simp) (by simp) (by first|rfl|simp) (by first|rfl|simp)) (hQ1 (by first|decide|assumption))
   | false =>
     cases h3:lgB T b with
     | true =>
       rw[h2,h3,if_pos (.inr rfl)]at g3
       cases g3
       rw[h2]at hFa
       rw[h3]at hFb
       clear hQ0 hK
       obtain⟨ak,an,ai,ah,al⟩:=a
       obtain⟨bk,bn,bi,bh,bl⟩:=b
       simp only[zas,zfS,Ty.kind_mk,Ty.name_mk,Ty.id_mk,Ty.home_mk,Ty.args_mk]at hFa hFb
       simp[znz,ziW,ziV,ziU,ziT,ziS,ziR,ziQ,ziP,ziO,ziN,zf6,zf5,zf4,zf3,ziY,zf2,ziX,zf1,fS30,hE,hi,hi',hm5,hm6,hq,h1,lg1S,hFa,hFb]
       exact LessQ.mk (Less.auto (n:=0) (by simp) (by simp) (by first|rfl|simp) (by first|rfl|simp)) (hQ1 (by first|decide|assumption))
     | false =>
       rw[h2,h3,if_neg (by simp)]at g3
       rw[h2]at hFa
       rw[h3]at hFb
       cases hr:tuM g T a b with
       |none=>rw[hr]at g3;cases g3
       | some r =>
         obtain⟨e1,T1⟩:=r
         rw[hr]at g3
         simp only at g3
         have htk1:=tu_tok g T a b e1 T1 htk oa ob hr
         have hFu:tuV g T [enc a,enc b]=some (.int .i64 e1,T1):=by
          unfold tuV
          simp only[Enc.dec_enc,J.ob_some,if_pos (And.intro htk (And.intro oa ob)),hr]
         by_cases he:e1=0
         · subst he
           simp only[ne_eq,not_true_eq_false,if_false]at g3
           obtain⟨g',e',T2,σ',k1,k2,k3⟩:=tr_step hT hS ea eb
           have hdt:=tu_det hr k1
           cases hdt
           obtain⟨hT1,hS1⟩:=k3 rfl
           have hFc:lgA T1 (enc W)=some (.bool (W.any fun x=>lgB T1 (zA x))):=by
            unfold lgA
            simp only[Enc.dec_enc,J.ob_some]
            exact if_pos ⟨⟨σ',hT1⟩,htk1,hWl⟩
           simp at hFc
           cases h4:(W.any fun x=>lgB T1 (zA x))with
           | true =>
             rw[h4,if_pos rfl]at g3
             cases g3
             rw[h4]at hFc
             clear hQ0 hK k1 k2 k3
             obtain⟨ak,an,ai,ah,al⟩:=a
             obtain⟨bk,bn,bi,bh,bl⟩:=b
             simp only[zas,zfS,Ty.kind_mk,Ty.name_mk,Ty.id_mk,Ty.home_mk,Ty.args_mk]at hFa hFb hFu
             simp[znz,ziW,ziV,ziU,ziT,ziS,ziR,ziQ,ziP,ziO,ziN,zf6,zf5,zf4,zf3,ziY,zf2,ziX,zf1,fS30,hE,hi,hi',hm5,hm6,hq,h1,lg1S,hFa,hFb,hU,hFu,zi1,hC,lg4S,hFc]
             exact LessQ.mk (Less.auto (n:=0) (by simp) (by simp) (by first|rfl|simp) (by first|rfl|simp)) (hQ1 (by first|decide|assumption))
           | false =>
             rw[h4,if_neg (by simp)]at g3
             rw[h4]at hFc
             have hnew:=hK T1 ⟨⟨σ',hT1,hS1⟩,htk1,g3⟩
             clear hQ0 hQ1 hK k1 k2 k3 g3
             obtain⟨ak,an,ai,ah,al⟩:=a
             obtain⟨bk,bn,bi,bh,bl⟩:=b
             simp only[zas,zfS,Ty.kind_mk,Ty.name_mk,Ty.id_mk,Ty.home_mk,Ty.args_mk]at hFa hFb hFu
             simp[znz,ziW,ziV,ziU,ziT,ziS,ziR,ziQ,ziP,ziO,ziN,zf6,zf5,zf4,zf3,ziY,zf2,ziX,zf1,fS30,hE,hi,hi',hm5,hm6,hq,h1,lg1S,hFa,hFb,hU,hFu,zi1,hC,lg4S,hFc,hw2,-Int.natCast_add]
             exact hnew _ _ (Less.auto (by simp[-Int.natCast_add]) (by simp) (by first|rfl|simp) (by first|rfl|simp))
         · rw[if_pos he]at g3
           cases g3
           clear hQ0 hK
           obtain⟨ak,an,ai,ah,al⟩:=a
           obtain⟨bk,bn,bi,bh,bl⟩:=b
           simp only[zas,zfS,Ty.kind_mk,Ty.name_mk,Ty.id_mk,Ty.home_mk,Ty.args_mk]at hFa hFb hFu
           simp[znz,ziW,ziV,ziU,ziT,ziS,ziR,ziQ,ziP,ziO,ziN,zf6,zf5,zf4,zf3,ziY,zf2,ziX,zf1,fS30,hE,hi,hi',hm5,hm6,hq,h1,lg1S,hFa,hFb,hU,hFu,he,zi1]
           exact LessQ.mk (Less.auto (n:=0) (by simp) (by simp) (by first|rfl|simp) (by first|rfl|simp)) (hQ1 (by first|decide|assumption))
theorem ziC{g d:Nat}(hV:E.con 43=fnS (zan evF))(hN:E.con 81=zdo newM)(h1:E.con 82=lg1S)(hU:E.con 84=zdo (zll (tuV g)))(hC:E.con 65=lg4S)(hA:E.con 87=zdo (reM (asV d)))
 {l:List Equation} (hl:EqsOk l) {e:Int} {k:Nat} {T':List Assign} (htr:trM g (zN (sides l)) l 0 []=some (e,k,T')) {R:List Assign} (hR:e=0→∃ σ D',Tri T' σ∧asM T' d (zN (sides l)) [] none=some (R,D')) (hR0:e≠0→R=[]) (hs:HS) :
 CallOk ρ Tryz.prog 30 [enc l] hs (enc (⟨R,k,e⟩:T3 (List Assign) Int Int)) hs:=by
 refine fn hρ hE hcon Tryz.func30 fB30 rfl (by simp) ?_ hs
 have hvl:(zN (sides l)).length≤8000:=by
  have h1:=idsOf_len (zw 1 (sides l) [])
  have h2:=(zbx 1 (sides l) []).2
  have h3:=hl.sz
  simp only[List.length_nil]at h2
  unfold zN;omega
 have hFv:evF l=some (zN (sides l)):=by
  unfold evF
  rw[if_pos ⟨Ty.oks_iff.2 hl.ok,by have:=hl.len;omega,by have:=hl.sz;omega⟩,zlf (zb5 _ (vplains_iff.2 (zo1 hl)))]
 have htk:=trM_tok l 0 [] e k T' (fun a h=>by cases h) (eqs_oks hl) htr
 have lo:=fun (Q) (T0) (hs0)=>znA hρ hE hcon h1 hU hC (W:=zN (sides l)) (by omega) hl.len hl.eq (eqs_oks hl) htr (Q:=Q) (T0:=T0) (hs0:=hs0)
 have hF3:∀ σ D',Tri T' σ→asM T' d (zN (sides l)) [] none=some (R,D')→asV d T' none [enc (zN (sides l))]=some (enc R,D'):=fun σ D' hT hR=>asV_mk (D:=none) hT (fun i r h=>by cases h) htk (by omega) hR
 generalize zN (sides l)=W at *
 simp[ziW,ziV,ziU,ziT,ziS,ziR,ziQ,ziP,ziO,ziN,zf6,zf5,zf4,zf3,ziY,zf2,ziX,zf1,fS30,hE,hV,hFv,hN,vacant_eq]
 refine lo _ _ _ (Less.lit (fun k=>if k=0 then 7 else if k=1 then 9 else if k=2 then 10 else if k=3 then 12 else k) 4 (by simp) (by simp) (by first|rfl|simp) (by first|rfl|simp)) (fun he=>?_) (fun he=>?_)
 · subst he
   obtain⟨σ,D',hT,hR⟩:=hR rfl
   have hF:=hF3 σ D' hT hR
   have hk:k=l.length:=by have:=trM_k l 0 [] k T' htr;omega
   subst hk
   simp at hF
   clear lo hF3 hR0 hR htr
   rcases D' with _|L'
   · simp[ziW,ziV,ziU,ziT,ziS,ziR,ziQ,ziP,ziO,ziN,zf6,zf5,zf4,zf3,ziY,zf2,ziX,zf1,fS30,hE,hA,hF,vacant_eq]
   · simp[ziW,ziV,ziU,ziT,ziS,ziR,ziQ,ziP,ziO,ziN,zf6,zf5,zf4,zf3,ziY,zf2,ziX,zf1,fS30,hE,hA,hF,vacant_eq]
 · have:=hR0 he
   subst this
   simp[ziW,ziV,ziU,ziT,ziS,ziR,ziQ,ziP,ziO,ziN,zf6,zf5,zf4,zf3,ziY,zf2,ziX,zf1,fS30,hE]
end
theorem vSolve:Valid ρ Tryz.prog 30 (fnS (zan suF)):=v1 (fo Tryz.func30 fB30) fun a r h hs=>by
 obtain⟨h1,rfl⟩:=z8 h
 have hSU:=su_ok h1
 generalize suM a=p at hSU
 obtain⟨R,b,e⟩:=p
 obtain⟨k,T,σ,q1,q2,q3,q4⟩:=hSU
 simp only at q1 q2 q3 q4
 subst q2
 obtain⟨g,e',k',T',σ',t1,t2,t3⟩:=eqs_tr h1
 rw[q1]at t2
 cases t2
 by_cases he:e=0
 · rw[if_pos he]at q4
   obtain⟨hT,_⟩:=q3 he
   have hT':=t3 he
   obtain⟨d,D',hd⟩:=as_ok hT' (zN (sides a)) [] none (fun i r h=>by cases h)
   have hasg:zmJ T' σ (zN (sides a))=zmJ T σ (zN (sides a)):=asgF_same hT' hT _
   rw[List.nil_append,hasg,← q4]at hd
   exact ziC hρ (E:=EL [(43,fnS (zan evF)),(81,zdo newM),(82,lg1S),(84,zdo (zll (tuV g))),(65,lg4S),(87,zdo (reM (asV d)))]) rfl
    (zg (za (vEqVars hρ) (za (vTNew hρ) (za (vLg1 hρ) (za (vTUnify hρ g) (za (vLg4 hρ) (za (vAssigns hρ d) valid_nil))))))) rfl rfl rfl rfl rfl rfl h1 t1 (fun _=>⟨σ,D',hT',hd⟩) (fun h=>absurd he h) hs
 · rw[if_neg he]at q4
   exact ziC hρ (E:=EL [(43,fnS (zan evF)),(81,zdo newM),(82,lg1S),(84,zdo (zll (tuV g))),(65,lg4S),(87,zdo (reM (asV 0)))]) rfl
    (zg (za (vEqVars hρ) (za (vTNew hρ) (za (vLg1 hρ) (za (vTUnify hρ g) (za (vLg4 hρ) (za (vAssigns hρ 0) valid_nil))))))) rfl rfl rfl rfl rfl rfl h1 t1 (fun h=>absurd h he) (fun _=>q4) hs
end
end Go.Proofs.YthfcfmkdeheicaaGreat
