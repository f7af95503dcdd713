import Derived.Test.YthfcfmkdeheicaaGreatGX1
import Derived.Test.YthfcfmkdeheicaaGreatJZ
import Derived.Test.YthfcfmkdeheicaaGreatJY
import Derived.Test.YthfcfmkdeheicaaGreatJN
import Derived.Test.YthfcfmkdeheicaaGreatGX2
set_option linter.all false
noncomputable section
/- Sizes in a set of types,nodes of types,the variables of equations. -/
namespace Go.Proofs.YthfcfmkdeheicaaGreat
open Go.J
open Go.J.Enc (enc)
set_option maxRecDepth 100000
set_option maxHeartbeats 1000000
def nodesF(d:Nat)(t:Ty):Option Int:=if t.ok=true∧t.size≤d∧d≤4000000000000000000 then some (t.size:Int)else none
def sides:List Equation→List Ty
 | []=>[]
 |q::l=>q.left::q.right::sides l
theorem sides_len:∀ l:List Equation,(sides l).length=2*l.length
 | []=>rfl
 |q::l=>by rw[sides,List.length_cons,List.length_cons,sides_len l,List.length_cons];omega
theorem sides_app:∀ l m:List Equation,sides (l++m)=sides l++sides m
 | [],m=>rfl
 |q::l,m=>by rw[List.cons_append,sides,sides,sides_app l m];rfl
theorem sides_mem{l:List Equation}{t:Ty}(h:t∈sides l):∃ q∈l,t=q.left∨t=q.right:=by
 induction l with
 |nil=>cases h
 | cons q l ih =>
   rw[sides]at h
   rcases List.mem_cons.1 h with rfl|h
   · exact⟨q,List.mem_cons_self ..,.inl rfl⟩
   rcases List.mem_cons.1 h with rfl|h
   · exact⟨q,List.mem_cons_self ..,.inr rfl⟩
   · obtain⟨p,hp,h⟩:=ih h
     exact⟨p,List.mem_cons_of_mem _ hp,h⟩
theorem sides_l{l:List Equation}{q:Equation}(h:q∈l):q.left∈sides l∧q.right∈sides l:=by
 induction l with
 |nil=>cases h
 | cons p l ih =>
   rw[sides]
   rcases List.mem_cons.1 h with rfl|h
   · exact⟨List.mem_cons_self ..,List.mem_cons_of_mem _ (List.mem_cons_self ..)⟩
   · exact⟨List.mem_cons_of_mem _ (List.mem_cons_of_mem _ (ih h).1),List.mem_cons_of_mem _ (List.mem_cons_of_mem _ (ih h).2)⟩
def ev18F(l:List Equation):Option (List Int):=if Ty.oks (sides l)=true∧l.length≤1000∧(leavesL 1 (sides l) []).length≤10000 then some (varsM (sides l))else none
def evF(l:List Equation):Option (List Int):=if Ty.oks (sides l)=true∧l.length≤1000∧Ty.sizes (sides l)≤100000 then some (colTs (sides l) [])else none
def rowV2(i:Nat):V:=match i with
 | 0=>.snil
 |i+1=>.own 0 i 0 (2*i+2) none
def rowH2(i:Nat)(L:List Ty):List (Nat×J.Obj):=match i with
 | 0=>[]
 |i+1=>[(0,.arr 5 i (L.map encTy) false false true)]
def vuF(l:List Ty):Option (List Int):=if Ty.oks l=true∧l.length≤10000∧(leavesL 1 l []).length≤10000 then some (varsM l)else none
section
variable {ρ:Nat→Value}(hρ:J.Good ρ)
include hρ
section
variable {E:Env}(hE:E.P=Tryz.prog)(hcon:ConsOk ρ E)
include hE hcon
theorem ref3_Nodes_run{d:Nat}(hc:E.con 89=fnS (spec1 (nodesF d)))(hd2:d+1≤4000000000000000000){t:Ty}(ht:t.ok=true)(hd:t.size≤d+1)(hs:HS):CallOk ρ Tryz.prog 89 [enc t] hs (enc (t.size:Int)) hs:=by
 refine fn hρ hE hcon Tryz.func89 fB89 rfl (by simp) ?_ hs
 have hlen:=Ty.ok_len ht
 have hsz:=Ty.size_eq t
 have hargs:=(Ty.ok_iff.1 ht).2
 obtain⟨tk,tn,ti,th,tl⟩:=t
 simp only[Ty.args_mk]at hlen hsz hargs
 generalize (Ty.mk tk tn ti th tl).size=Z at hsz hd
 simp[fS89r0,fS89r1,fS89r2,fS89r3,fS89r4,fS89b0,fS89r5,fS89b1,fS89r6,fS89,hE]
 refine lpi hρ hE hcon tl.length (nn:=1) (fun i (r:Nat)=>[(1,.ptr 0 0 0),(3,.int .i64 (r:Int)),(4,.int .i64 (i:Int))]) (fun _ _=>[(0,box (encTy (.mk tk tn ti th tl)))]) (fun i r=>r+Ty.sizes (tl.drop i)=Z) 1
  (Less.auto (by simp) (by simp) (by first|rfl|simp) (by first|rfl|simp)) (by simp;omega) ?_ ?_
 · intro r h K
   rw[List.drop_length,Ty.sizes]at h
   have e:r=Z:=by omega
   subst e
   simp[fS89l0,fS89r0,fS89r1,fS89r2,fS89r3,fS89r4,fS89b0,fS89r5,fS89b1,fS89r6,fS89,hE]
   refine LessQ.mk (Less.auto (TL:=[(3,.int .i64 (r:Int))]) (HL:=[]) (n:=0) (by simp) (by simp) (by first|rfl|simp) (by first|rfl|simp)) ?_
   simp[fS89r0,fS89r1,fS89r2,fS89r3,fS89r4,fS89b0,fS89r5,fS89b1,fS89r6,fS89,hE]
 · intro i r hi h K hK
   have hi':(i:Int)<tl.length:=by omega
   have hw2:IntKind.i64.wrap ((i:Int)+1)=((i+1:Nat):Int):=wrap_succ (by omega)
   have hm5:(i*5) / 5=i:=by omega
   have hm6:(i*5) % 5=0:=by omega
   rw[List.drop_eq_getElem_cons hi,Ty.sizes]at h
   have hxo:=hargs _ (List.getElem_mem hi)
   obtain⟨x,hx⟩:∃ x,tl[i]=x:=⟨_,rfl⟩
   rw[hx]at h hxo
   have hxs:x.size≤d:=by have:=Ty.size_mem (hx ▸ List.getElem_mem hi:x∈tl);omega
   have hF:nodesF d x=some (x.size:Int):=if_pos ⟨hxo,hxs,by omega⟩
   have hnew:=hK (r+x.size) (by omega)
   have hadd:IntKind.i64.wrap ((r:Int)+(x.size:Int))=((r+x.size:Nat):Int):=by rw[wrap_i64 (by omega) (by omega)];omega
   clear hK
   generalize x.size=z at hF hnew hadd
   obtain⟨xk,xn,xi,xh,xl⟩:=x
   simp[fS89l0,fS89r0,fS89r1,fS89r2,fS89r3,fS89r4,fS89b0,fS89r5,fS89b1,fS89r6,fS89,hE,hi,hi',hm5,hm6,hx,hc,hF,hadd,hw2,-Int.natCast_add]
   exact hnew _ _ (Less.auto (by simp[-Int.natCast_add]) (by simp) (by first|rfl|simp) (by first|rfl|simp))
theorem ref18_Vars_run(hc:E.con 33=fnS (spec1 vuF)){l:List Equation}{R:List Int}(hl:l.length≤1000)(hF:vuF (sides l)=some R)(hs:HS):CallOk ρ Tryz.prog 32 [enc l] hs (enc R) hs:=by
 refine fn hρ hE hcon Tryz.func32 fB32 rfl (by simp) ?_ hs
 simp[fS32r0,fS32r1,fS32r2,fS32r3,fS32r4,fS32b0,fS32r5,fS32b1,fS32r6,fS32,hE]
 refine lpi hρ hE hcon l.length (nn:=1) (fun i (_:Unit)=>[(0,.sl (l.map encEquation) false),(3,rowV2 i),(4,.int .i64 (i:Int))]) (fun i _=>rowH2 i (sides (l.take i))) (fun _ _=>True) ()
  (Less.auto (by simp[rowV2,rowH2]) (by simp[rowH2]) (by first|rfl|simp[rowH2]) (by first|rfl|simp[rowH2])) trivial ?_ ?_
 · intro _ _ K
   rw[List.take_length]
   cases hn:l.length with
   | zero =>
     have h0:l=[]:=List.eq_nil_of_length_eq_zero hn
     subst h0
     simp[fS32l0,fS32r0,fS32r1,fS32r2,fS32r3,fS32r4,fS32b0,fS32r5,fS32b1,fS32r6,fS32,hE,rowV2,rowH2]
     refine LessQ.mk (Less.auto (TL:=[(3,.snil)]) (HL:=[]) (n:=1) (by simp) (by simp) (by first|rfl|simp) (by first|rfl|simp)) ?_
     simp only[sides]at hF
     simp[fS32r0,fS32r1,fS32r2,fS32r3,fS32r4,fS32b0,fS32r5,fS32b1,fS32r6,fS32,hE,hc,hF]
   | succ n =>
     have hsl:=sides_len l
     rw[hn]at hsl
     have htk:List.take (2*n+2) ((sides l).map encTy)=(sides l).map encTy:=List.take_of_length_le (by rw[List.length_map,hsl];omega)
     simp[fS32l0,fS32r0,fS32r1,fS32r2,fS32r3,fS32r4,fS32b0,fS32r5,fS32b1,fS32r6,fS32,hE,hn,rowV2,rowH2]
     refine LessQ.mk (Less.auto (TL:=[(3,.own 0 n 0 (2*n+2) none)]) (HL:=[(0,.arr 5 n ((sides l).map encTy) false false true)]) (n:=1) (by simp) (by simp) (by first|rfl|simp) (by first|rfl|simp)) ?_
     have hle2:2*n+2≤(sides l).length:=by omega
     simp[fS32r0,fS32r1,fS32r2,fS32r3,fS32r4,fS32b0,fS32r5,fS32b1,fS32r6,fS32,hE,hc,hF,htk,hle2]
 · intro i _ hi _ K hK
   have hnew:=hK () trivial
   clear hK
   have hi':(i:Int)<l.length:=by omega
   have hw2:IntKind.i64.wrap ((i:Int)+1)=((i+1:Nat):Int):=wrap_succ (by omega)
   have ha0:(i*10) / 10=i:=by omega
   have ha1:(i*10) % 10=0:=by omega
   have ha2:(i*10+5) / 10=i:=by omega
   have ha3:(i*10+5) % 10=5:=by omega
   have hsn:sides (l.take (i+1))=sides (l.take i)++[l[i].left,l[i].right]:=by
    rw[List.take_add_one,List.getElem?_eq_getElem hi,Option.toList_some,sides_app];rfl
   rw[hsn]at hnew
   have hsl:=sides_len (l.take i)
   rw[List.length_take,Nat.min_eq_left (by omega)]at hsl
   obtain⟨q,hq⟩:∃ q,l[i]=q:=⟨_,rfl⟩
   rw[hq]at hnew
   obtain⟨qa,qb⟩:=q
   rcases i with _|i
   · simp[fS32l0,fS32r0,fS32r1,fS32r2,fS32r3,fS32r4,fS32b0,fS32r5,fS32b1,fS32r6,fS32,hE,hi,hi',hq,rowV2,rowH2,sides,hw2,-Int.natCast_add]
     simp only[List.take_zero,sides,List.nil_append]at hnew
     exact hnew _ _ (Less.auto (by simp[rowV2,rowH2,show IntKind.i64.wrap 1=1 from rfl,-Int.natCast_add]) (by simp[rowV2,rowH2]) (by first|rfl|simp[rowH2]) (by first|rfl|simp[rowH2]))
   · generalize sides (l.take (i+1))=S at hsl hnew
     have htk:List.take (2*i+2) (S.map encTy)=S.map encTy:=List.take_of_length_le (by rw[List.length_map,hsl];omega)
     have h64:(2*i+2+2)*64≤1048576:=Nat.le_trans (Nat.mul_le_mul_right 64 (show 2*i+2+2≤2002 by omega)) (by decide)
     have hno:¬ 2*i+2+2≤2*(i+1):=by omega
     have hye:2*i+2≤2*(i+1):=by omega
     have he4:2*(i+1)+2=2*i+2+2:=by omega
     simp[fS32l0,fS32r0,fS32r1,fS32r2,fS32r3,fS32r4,fS32b0,fS32r5,fS32b1,fS32r6,fS32,hE,hi,hi',hq,ha0,ha1,ha2,ha3,rowV2,rowH2,htk,h64,Nat.not_succ_le_self,hsl,hno,hye,hw2,-Int.natCast_add]
     exact hnew _ _ (Less.auto (by simp[rowV2,rowH2,he4,-Int.natCast_add]) (by simp[rowV2,rowH2]) (by first|rfl|simp[rowH2]) (by first|rfl|simp[rowH2]))
theorem solve_Vars_run(hc:E.con 66=fnS (spec1 tvF)){l:List Equation}{R:List Int}(hl:l.length≤1000)(hF:tvF (sides l)=some R)(hs:HS):CallOk ρ Tryz.prog 43 [enc l] hs (enc R) hs:=by
 refine fn hρ hE hcon Tryz.func43 fB43 rfl (by simp) ?_ hs
 simp[fS43r0,fS43r1,fS43r2,fS43r3,fS43r4,fS43r5,fS43b0,fS43r6,fS43b1,fS43r7,fS43,hE]
 refine lpi hρ hE hcon l.length (nn:=1) (fun i (_:Unit)=>[(3,rowV2 i),(6,.sl (l.map encEquation) false),(7,.int .i64 (l.length:Int)),(8,.int .i64 (i:Int))]) (fun i _=>rowH2 i (sides (l.take i))) (fun _ _=>True) ()
  (Less.auto (by simp[rowV2,rowH2]) (by simp[rowH2]) (by first|rfl|simp[rowH2]) (by first|rfl|simp[rowH2])) trivial ?_ ?_
 · intro _ _ K
   rw[List.take_length]
   cases hn:l.length with
   | zero =>
     have h0:l=[]:=List.eq_nil_of_length_eq_zero hn
     subst h0
     simp[fS43l0,fS43r0,fS43r1,fS43r2,fS43r3,fS43r4,fS43r5,fS43b0,fS43r6,fS43b1,fS43r7,fS43,hE,rowV2,rowH2]
     refine LessQ.mk (Less.auto (TL:=[(3,.snil)]) (HL:=[]) (n:=1) (by simp) (by simp) (by first|rfl|simp) (by first|rfl|simp)) ?_
     simp only[sides]at hF
     simp[fS43r0,fS43r1,fS43r2,fS43r3,fS43r4,fS43r5,fS43b0,fS43r6,fS43b1,fS43r7,fS43,hE,hc,hF]
   | succ n =>
     have hsl:=sides_len l
     rw[hn]at hsl
     have htk:List.take (2*n+2) ((sides l).map encTy)=(sides l).map encTy:=List.take_of_length_le (by rw[List.length_map,hsl];omega)
     simp[fS43l0,fS43r0,fS43r1,fS43r2,fS43r3,fS43r4,fS43r5,fS43b0,fS43r6,fS43b1,fS43r7,fS43,hE,hn,rowV2,rowH2]
     refine LessQ.mk (Less.auto (TL:=[(3,.own 0 n 0 (2*n+2) none)]) (HL:=[(0,.arr 5 n ((sides l).map encTy) false false true)]) (n:=1) (by simp) (by simp) (by first|rfl|simp) (by first|rfl|simp)) ?_
     have hle2:2*n+2≤(sides l).length:=by omega
     simp[fS43r0,fS43r1,fS43r2,fS43r3,fS43r4,fS43r5,fS43b0,fS43r6,fS43b1,fS43r7,fS43,hE,hc,hF,htk,hle2]
 · intro i _ hi _ K hK
   have hnew:=hK () trivial
   clear hK
   have hi':(i:Int)<l.length:=by omega
   have hw2:IntKind.i64.wrap ((i:Int)+1)=((i+1:Nat):Int):=wrap_succ (by omega)
   have ha0:(i*10) / 10=i:=by omega
   have ha1:(i*10) % 10=0:=by omega
   have ha2:(i*10+5) / 10=i:=by omega
   have ha3:(i*10+5) % 10=5:=by omega
   have hsn:sides (l.take (i+1))=sides (l.take i)++[l[i].left,l[i].right]:=by
    rw[List.take_add_one,List.getElem?_eq_getElem hi,Option.toList_some,sides_app];rfl
   rw[hsn]at hnew
   have hsl:=sides_len (l.take i)
   rw[List.length_take,Nat.min_eq_left (by omega)]at hsl
   obtain⟨q,hq⟩:∃ q,l[i]=q:=⟨_,rfl⟩
   rw[hq]at hnew
   obtain⟨qa,qb⟩:=q
   rcases i with _|i
   · simp[fS43l0,fS43r0,fS43r1,fS43r2,fS43r3,fS43r4,fS43r5,fS43b0,fS43r6,fS43b1,fS43r7,fS43,hE,hi,hi',hq,rowV2,rowH2,sides,hw2,-Int.natCast_add]
     simp only[List.take_zero,sides,List.nil_append]at hnew
     exact hnew _ _ (Less.auto (by simp[rowV2,rowH2,show IntKind.i64.wrap 1=1 from rfl,-Int.natCast_add]) (by simp[rowV2,rowH2]) (by first|rfl|simp[rowH2]) (by first|rfl|simp[rowH2]))
   · generalize sides (l.take (i+1))=S at hsl hnew
     have htk:List.take (2*i+2) (S.map encTy)=S.map encTy:=List.take_of_length_le (by rw[List.length_map,hsl];omega)
     have h64:(2*i+2+2)*64≤1048576:=Nat.le_trans (Nat.mul_le_mul_right 64 (show 2*i+2+2≤2002 by omega)) (by decide)
     have hno:¬ 2*i+2+2≤2*(i+1):=by omega
     have hye:2*i+2≤2*(i+1):=by omega
     have he4:2*(i+1)+2=2*i+2+2:=by omega
     simp[fS43l0,fS43r0,fS43r1,fS43r2,fS43r3,fS43r4,fS43r5,fS43b0,fS43r6,fS43b1,fS43r7,fS43,hE,hi,hi',hq,ha0,ha1,ha2,ha3,rowV2,rowH2,htk,h64,Nat.not_succ_le_self,hsl,hno,hye,hw2,-Int.natCast_add]
     exact hnew _ _ (Less.auto (by simp[rowV2,rowH2,he4,-Int.natCast_add]) (by simp[rowV2,rowH2]) (by first|rfl|simp[rowH2]) (by first|rfl|simp[rowH2]))
end
theorem vNodes(d:Nat):Valid ρ Tryz.prog 89 (fnS (spec1 (nodesF d))):=by
 induction d with
 | zero =>
   refine v1 (fo Tryz.func89 fB89) fun a r h hs=>?_
   obtain⟨⟨h1,h2,h3⟩,rfl⟩:=ite_inv h
   have:=Ty.size_pos a
   omega
 | succ d ih =>
   refine v1 (fo Tryz.func89 fB89) fun a r h hs=>?_
   obtain⟨⟨h1,h2,h3⟩,rfl⟩:=ite_inv h
   exact ref3_Nodes_run hρ (E:=EL [(89,fnS (spec1 (nodesF d)))]) rfl (consOk_list (valid_cons ih valid_nil)) rfl h3 h1 h2 hs
theorem vEqVars18:Valid ρ Tryz.prog 32 (fnS (spec1 ev18F)):=v1 (fo Tryz.func32 fB32) fun a r h hs=>by
 obtain⟨⟨h1,h2,h3⟩,rfl⟩:=ite_inv h
 exact ref18_Vars_run hρ (E:=EL [(33,fnS (spec1 vuF))]) rfl (consOk_list (valid_cons (vVarsU hρ) valid_nil)) rfl h2 (if_pos ⟨h1,by rw[sides_len];omega,h3⟩) hs
theorem vEqVars:Valid ρ Tryz.prog 43 (fnS (spec1 evF)):=v1 (fo Tryz.func43 fB43) fun a r h hs=>by
 obtain⟨⟨h1,h2,h3⟩,rfl⟩:=ite_inv h
 exact solve_Vars_run hρ (E:=EL [(66,tvarsS)]) rfl (consOk_list (valid_cons (vTVars hρ) valid_nil)) rfl h2 (if_pos ⟨h1,by rw[sides_len];omega,h3⟩) hs
end
end Go.Proofs.YthfcfmkdeheicaaGreat
/- Solving equations with a set of types. -/
namespace Go.Proofs.YthfcfmkdeheicaaGreat
open Go.J
open Go.J.Enc (enc)
set_option maxRecDepth 100000
set_option maxHeartbeats 1000000
structure EqsOk(l:List Equation):Prop where
 ok:∀ t∈sides l,t.ok=true
 eq:∀ q∈l,EqOk (varsM (sides l)) q.left∧EqOk (varsM (sides l)) q.right
 len:l.length≤100
 sz:Ty.sizes (sides l)≤8000
theorem sides_plain{l:List Equation}(h:EqsOk l):∀ t∈sides l,t.vplain=true:=fun t ht=>by
 obtain⟨q,hq,hh⟩:=sides_mem ht
 rcases hh with rfl|rfl
 · exact(h.eq q hq).1.1
 · exact(h.eq q hq).2.1
section
variable {ρ:Nat→Value}(hρ:J.Good ρ)
include hρ
section
variable {E:Env}(hE:E.P=Tryz.prog)(hcon:ConsOk ρ E)
include hE hcon
end
end
end Go.Proofs.YthfcfmkdeheicaaGreat
