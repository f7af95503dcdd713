import Derived.Test.YthfcfmkdeheicaaGreatGX7
set_option linter.all false
noncomputable section
/- The law SolveAnswers: what its function computes. -/
namespace Go.Proofs.YthfcfmkdeheicaaGreat
open Go.J
open Go.J.Enc (enc)
set_option maxRecDepth 100000
set_option maxHeartbeats 1000000
def hasN(l:List Int)(x:Int):Option Bool:=if l.length≤1000000 then some (decide (x∈l))else none
structure SolOk(l:List Equation)(W:List Int)(S:List Assign):Prop where
 el:∀ x∈S,x.id∈W∧(∀ j∈zG [x.type],j∈W)∧(zD x.id).valid=true∧x.type.valid=true∧x.type.repl S=x.type∧x.type.size≤200∧x.type.ok=true∧(zx 1 [x.type] []).length≤7
 nd:Nd S
 sl:S.length≤7
 un:UnC S l
 so:l.any (neB S)=false
theorem sol_ok{l:List Equation}(h:EqsOk l)(hW:(zG (sides l)).length≤7)(hr:∀ j∈zG (sides l),0≤j∧j≤1000000){k:Nat}{σ:Sub}(hs:slA (zG (sides l)) l 0 zD=(0,k,σ)){T:List Assign}(hT:Tri T σ):SolOk l (zG (sides l)) (zmM T σ (zG (sides l))):=by
 obtain⟨g1,_⟩:=sl_ok l 0 zD 0 k σ (sinv0 _) h.eq hs
 obtain⟨hI,_,hu,_⟩:=g1 rfl
 have hz:=sl_size l 0 zD k σ (fun v _=>by simp[zD,Ty.size,Ty.sizes]) hs
 have hpl:=zjU h
 have hel:∀ x∈zmM T σ (zG (sides l)),x.id∈zG (sides l)∧(∀ j∈zG [x.type],j∈zG (sides l))∧(zD x.id).valid=true∧x.type.valid=true∧x.type.repl (zmM T σ (zG (sides l)))=x.type∧x.type.size≤200∧x.type.ok=true∧(zx 1 [x.type] []).length≤7:=fun x hx=>by
  obtain⟨k1,e⟩:=asgF_mem hx
  obtain⟨r1,r2⟩:=hr _ k1
  have hv:=hI.val _ r1 r2
  have hp:=hI.idem.plain x.id
  rw[e]
  refine⟨k1,fun j hj=>hI.cl _ k1 j ((occ_vars hp j).1 hj),zeX r1 r2,hv,asgF_idem hT _,hz _ k1,zlj _ hv,?_⟩
  refine Nat.le_trans (zmV (V:=zG (sides l)) (fun t ht=>?_) (fun t ht j hj=>?_)) hW
  · rw[List.mem_singleton.1 ht];exact hp
  · rw[List.mem_singleton.1 ht]at hj;exact hI.cl _ k1 j hj
 have hsl:(zmM T σ (zG (sides l))).length≤7:=by
  refine Nat.le_trans ?_ hW
  unfold zmM
  rw[List.length_map]
  exact List.length_filter_le ..
 refine⟨hel,asgF_ids (zlY hpl),hsl,⟨fun x hx=>(hel x hx).2.2.2.2.2.2.1,by omega,fun q hq=>⟨⟨h.ok _ (zi1 hq).1,(h.eq q hq).1.1⟩,h.ok _ (zi1 hq).2,(h.eq q hq).2.1⟩,by have:=h.len;omega⟩,?_⟩
 cases hb:l.any (neB (zmM T σ (zG (sides l))))with
 |false=>rfl
 | true =>
   obtain⟨q,hq,hn⟩:=List.any_eq_true.1 hb
   exfalso
   have e1:=asgF_repl hT (h.eq q hq).1.1 (h.eq q hq).1.2.2
   have e2:=asgF_repl hT (h.eq q hq).2.1 (h.eq q hq).2.2.2
   unfold neB at hn
   rw[e1,e2,hu q hq]at hn
   simp at hn
theorem rsl_same{l:List Equation}(h:EqsOk l)(hW:(zG (sides l)).length≤7){c:Int}{k:Nat}{σ:Sub}(hs:slA (zG (sides l)) l 0 zD=(c,k,σ)):(rsl (zG (sides l)) l 0 []).c=c∧(rsl (zG (sides l)) l 0 []).b=((k:Nat):Int):=by
 obtain⟨k',σ',q1,q2,_⟩:=rsl_sl hW l 0 [] ⟨fun a h=>(by cases h),fun a h=>(by cases h),by rw[zex];exact sinv0 _,by simp⟩ h.eq
 rw[zex,hs]at q1
 cases q1
 exact⟨rfl,q2⟩
section
variable {ρ:Nat→Value}(hρ:J.Good ρ){E:Env}(hE:E.P=Tryz.prog)(hcon:ConsOk ρ E)
include hρ hE hcon
theorem SA_in(hH:E.con 34=fnC (zF hasN)){l:List Equation}{S:List Assign}{v w:List Int}{i:Nat}(hw:w.length≤1000000)(hvl:v.length≤1000000)(hwv:∀ j∈w,j∈v){Q:Ex→PT V→HS→Prop}{T0:PT V}{hs0:HS}
 (h0:Less 0 T0 hs0 (mkP [(7,.sl (l.map zn) false),(9,.sl (S.map zi) false),(15,.sl (v.map encI) false),(16,.int .i64 (i:Int)),(17,.sl (w.map encI) false),(18,.int .i64 ((0:Nat):Int))]) { H:=mkP [],n:=0,log:=[] })
 (hQ:Q (.exit 2) (mkP [(7,.sl (l.map zn) false),(9,.sl (S.map zi) false),(15,.sl (v.map encI) false),(16,.int .i64 (i:Int))]) { H:=mkP [],n:=0,log:=[] }) :
 Ls ρ E 0 108 (.loop fS5l0) T0 hs0 Q:=by
 refine lpi hρ hE hcon w.length (nn:=0) (fun k (_:Unit)=>[(7,.sl (l.map zn) false),(9,.sl (S.map zi) false),(15,.sl (v.map encI) false),(16,.int .i64 (i:Int)),(17,.sl (w.map encI) false),(18,.int .i64 (k:Int))]) (fun _ _=>[]) (fun _ _=>True) () h0 trivial ?_ ?_
 · intro _ _ K
   simp[fS5l0,fS5r0,fS5r1,fS5r2,fS5r3,fS5r4,fS5r5,fS5r6,fS5r7,fS5r8,fS5r9,zjM,zjL,zjK,zjJ,zjI,zjH,zjG,zjF,zjE,zjD,fS5b0,zjC,fS5b1,zjB,zjA,fS5b2,zj9,fS5b3,zj8,fS5,hE]
   exact LessQ.mk (Less.auto (n:=0) (by simp) (by simp) (by simp) (by simp)) hQ
 · intro k _ hk _ K hK
   have hnew:=hK () trivial
   have hk':(k:Int)<w.length:=by omega
   have hw2:IntKind.i64.wrap ((k:Int)+1)=((k+1:Nat):Int):=zu (by omega)
   have hF:hasN v w[k]=some true:=by unfold hasN;rw[if_pos hvl,decide_eq_true (hwv _ (List.getElem_mem hk))]
   generalize hx:w[k]=x at hF
   clear h0 hQ hK
   simp[fS5l0,fS5r0,fS5r1,fS5r2,fS5r3,fS5r4,fS5r5,fS5r6,fS5r7,fS5r8,fS5r9,zjM,zjL,zjK,zjJ,zjI,zjH,zjG,zjF,zjE,zjD,fS5b0,zjC,fS5b1,zjB,zjA,fS5b2,zj9,fS5b3,zj8,fS5,hE,hk,hk',hx,hH,hF,hw2,-Int.natCast_add]
   exact hnew _ _ (Less.auto (by simp[-Int.natCast_add]) (by simp) (by simp) (by simp))
theorem SA_out(hH:E.con 34=fnC (zF hasN))(hV:E.con 33=fnS (zC vuF)){l:List Equation}{S:List Assign}{v:List Int}(hvl:v.length≤1000)(hS:SolOk l v S){Q:Ex→PT V→HS→Prop}{T0:PT V}{hs0:HS}
 (h0:Less 0 T0 hs0 (mkP [(7,.sl (l.map zn) false),(9,.sl (S.map zi) false),(15,.sl (v.map encI) false),(16,.int .i64 ((0:Nat):Int))]) { H:=mkP [],n:=0,log:=[] })
 (hQ:Q (.exit 0) (mkP [(7,.sl (l.map zn) false),(9,.sl (S.map zi) false)]) { H:=mkP [],n:=0,log:=[] }) :
 Ls ρ E 0 108 (.loop fS5l1) T0 hs0 Q:=by
 have hsl:=hS.sl
 refine lpi hρ hE hcon S.length (nn:=0) (fun i (_:Unit)=>[(7,.sl (l.map zn) false),(9,.sl (S.map zi) false),(15,.sl (v.map encI) false),(16,.int .i64 (i:Int))]) (fun _ _=>[]) (fun _ _=>True) () h0 trivial ?_ ?_
 · intro _ _ K
   simp[fS5l1,fS5r0,fS5r1,fS5r2,fS5r3,fS5r4,fS5r5,fS5r6,fS5r7,fS5r8,fS5r9,zjM,zjL,zjK,zjJ,zjI,zjH,zjG,zjF,zjE,zjD,fS5b0,zjC,fS5b1,zjB,zjA,fS5b2,zj9,fS5b3,zj8,fS5,hE]
   exact LessQ.mk (Less.auto (n:=0) (by simp) (by simp) (by simp) (by simp)) hQ
 · intro i _ hi _ K hK
   have hnew:=hK () trivial
   have hi':(i:Int)<S.length:=by omega
   have hw2:IntKind.i64.wrap ((i:Int)+1)=((i+1:Nat):Int):=zu (by omega)
   have hm5:(i*6) / 6=i:=by omega
   have hm6:(i*6) % 6=0:=by omega
   have hm7:(i*6+1) / 6=i:=by omega
   have hm8:(i*6+1) % 6=1:=by omega
   obtain⟨k1,k2,_,_,_,_,k3,k4⟩:=hS.el _ (List.getElem_mem hi)
   have hF1:vuF [S[i].type]=some (zG [S[i].type]):=if_pos ⟨by simp[Ty.oks,k3],by simp,by omega⟩
   have hF2:hasN v S[i].id=some true:=by unfold hasN;rw[if_pos (by omega),decide_eq_true k1]
   have hwl:(zG [S[i].type]).length≤1000000:=by
    have:=ziA (zx 1 [S[i].type] [])
    unfold zG;omega
   have hin:=fun (w:List Int) (h1) (h3) (Q) (T0) (hs0)=>SA_in (l:=l) (S:=S) (v:=v) (w:=w) (i:=i) (Q:=Q) (T0:=T0) (hs0:=hs0) hρ hE hcon hH h1 (by omega) h3
   have hin:=hin (zG [S[i].type]) hwl k2
   generalize zG [S[i].type]=w at hF1 hin
   obtain⟨x,hx⟩:∃ x,S[i]=x:=⟨_,rfl⟩
   rw[hx]at hF1 hF2
   obtain⟨xi,xk,xn,xj,xh,xl⟩:=x
   simp only at hF1 hF2
   clear h0 hQ hK hS
   simp[fS5l1,fS5r0,fS5r1,fS5r2,fS5r3,fS5r4,fS5r5,fS5r6,fS5r7,fS5r8,fS5r9,zjM,zjL,zjK,zjJ,zjI,zjH,zjG,zjF,zjE,zjD,fS5b0,zjC,fS5b1,zjB,zjA,fS5b2,zj9,fS5b3,zj8,fS5,hE,hi,hi',hm5,hm6,hm7,hm8,hx,hV,hF1]
   refine hin _ _ _ (Less.auto (by simp) (by simp) (by simp) (by simp)) ?_
   simp[fS5r0,fS5r1,fS5r2,fS5r3,fS5r4,fS5r5,fS5r6,fS5r7,fS5r8,fS5r9,zjM,zjL,zjK,zjJ,zjI,zjH,zjG,zjF,zjE,zjD,fS5b0,zjC,fS5b1,zjB,zjA,fS5b2,zj9,fS5b3,zj8,fS5,hE,hi,hi',hm5,hm6,hm7,hm8,hx,hH,hF2,hw2,-Int.natCast_add]
   exact hnew _ _ (Less.auto (by simp[-Int.natCast_add]) (by simp) (by simp) (by simp))
theorem zoa(h1:E.con 28=yesS)(h2:E.con 10=fewS)(h3:E.con 29=zdb zpa)(h4:E.con 30=fnS (zC suF))(h5:E.con 31=fnS (zC rs18F))(h6:E.con 32=fnS (zC ev18F))(h7:E.con 33=fnS (zC vuF))(h8:E.con 34=fnC (zF hasN))
 (h9:E.con 35=fnS (zC validF)) (h10:E.con 36=fnS (zC idemF)) (h11:E.con 37=fnS (zF unF)) (h12:E.con 38=fnS (zF unF))
 {bits:Int} {codes:List Int} {n:Int} (hs:HS):CallOk ρ Tryz.prog 5 [enc bits,enc codes,enc n] hs (.bool true) hs:=by
 refine fn hρ hE hcon Tryz.func5 fB5 rfl (by simp) ?_ hs
 by_cases c1:codes.length≤60
 case neg=>simp[fS5r0,fS5r1,fS5r2,fS5r3,fS5r4,fS5r5,fS5r6,fS5r7,fS5r8,fS5r9,zjM,zjL,zjK,zjJ,zjI,zjH,zjG,zjF,zjE,zjD,fS5b0,zjC,fS5b1,zjB,zjA,fS5b2,zj9,fS5b3,zj8,fS5,hE,h1,h2,yesS,fewS,c1]
 have htp:(⟨codes,0⟩:Tp).ok:=⟨Int.le_refl _,by show codes.length≤100000;omega⟩
 have hmn:(znT n 6).toNat≤5:=by have h1:=zjY n 6;have h2:znT n 6<6:=modI_lt (by decide);omega
 have hnc:=eqnsM_nc (t:=⟨codes,0⟩) (datasOf_ok3 bits) (datasOf_val bits) (znT n 6).toNat
 have hle:=(eqnsM_ok htp (zat bits) (znT n 6).toNat).2
 rcases hm:zin ⟨codes,0⟩ (zat bits) (znT n 6).toNat with⟨t,l⟩
 rw[hm]at hnc hle
 simp only at hnc hle
 have hval:=fun hs=>made18D_val (hs:=hs) hm
 have hheap:=fun hs=>made18D_heap (hs:=hs) hm
 obtain⟨hok,hW⟩:=eqs_of (l:=l) (B:=7) (n:=4) (by omega) (by decide) (by decide) hnc
 have hpl:=zjU hok
 have hrg:∀ j∈zG (sides l),0≤j∧j≤1000000:=fun j hj=>by
  obtain⟨u,hu,ho⟩:=(zcv hpl j).1 hj
  have:=(hnc u hu).2.2 j ho
  omega
 have hll:=(zaK 1 (sides l) []).2
 simp only[List.length_nil]at hll
 have f1:suF l=some (suM l):=if_pos hok
 have f2:rs18F l=some (rsl (zG (sides l)) l 0 []):=if_pos ⟨hok,by omega⟩
 have f3:ev18F l=some (zG (sides l)):=if_pos ⟨Ty.oks_iff.2 hok.ok,by omega,by have:=hok.sz;omega⟩
 have hsu:=su_ok hok
 generalize suM l=p at f1 hsu
 obtain⟨S,b,e⟩:=p
 obtain⟨k,T,σ,s1,s2,s3,s4⟩:=hsu
 simp only at s1 s2 s3 s4
 have hsame:=rsl_same hok (by omega) s1
 generalize rsl (zG (sides l)) l 0 []=r at f2 hsame
 obtain⟨ra,rb,rc⟩:=r
 obtain⟨e1,e2⟩:=hsame
 simp only at e1 e2
 subst e1 e2 s2
 by_cases he:rc=0
 · subst he
   rw[if_pos rfl]at s4
   have hsol:=sol_ok hok (by omega) hrg s1 (s3 rfl).1
   rw[← s4]at hsol
   have f4:validF S=some true:=if_pos ⟨hsol.nd,by have:=hsol.sl;omega,fun x hx=>⟨(hsol.el x hx).2.2.1,(hsol.el x hx).2.2.2.1,by have:=(hsol.el x hx).2.2.2.2.2.1;omega⟩⟩
   have f5:idemF S=some true:=if_pos ⟨hsol.nd,by have:=hsol.sl;omega,fun x hx=>⟨(hsol.el x hx).2.2.2.2.2.2.1,(hsol.el x hx).2.2.2.2.1⟩⟩
   have f6:unF S l=some true:=by unfold unF;rw[if_pos hsol.un,hsol.so];rfl
   have hout:=fun (Q) (T0) (hs0)=>SA_out (l:=l) (S:=S) (v:=zG (sides l)) (Q:=Q) (T0:=T0) (hs0:=hs0) hρ hE hcon h8 h7 (by omega) hsol
   clear s1 s3 s4 hsol hnc hok hpl hrg
   generalize zG (sides l)=W at f3 hout
   simp[fS5r0,fS5r1,fS5r2,fS5r3,fS5r4,fS5r5,fS5r6,fS5r7,fS5r8,fS5r9,zjM,zjL,zjK,zjJ,zjI,zjH,zjG,zjF,zjE,zjD,fS5b0,zjC,fS5b1,zjB,zjA,fS5b2,zj9,fS5b3,zj8,fS5,hE,h1,h2,h3,yesS,fewS,c1,hval,hheap,vacant_eq,h4,f1,h5,f2,h6,f3]
   refine hout _ _ _ (Less.auto (by simp) (by simp) (by simp) (by simp)) ?_
   simp[fS5r0,fS5r1,fS5r2,fS5r3,fS5r4,fS5r5,fS5r6,fS5r7,fS5r8,fS5r9,zjM,zjL,zjK,zjJ,zjI,zjH,zjG,zjF,zjE,zjD,fS5b0,zjC,fS5b1,zjB,zjA,fS5b2,zj9,fS5b3,zj8,fS5,hE,h9,f4,h10,f5,h11,f6,h12]
 · rw[if_neg he]at s4
   subst s4
   simp[fS5r0,fS5r1,fS5r2,fS5r3,fS5r4,fS5r5,fS5r6,fS5r7,fS5r8,fS5r9,zjM,zjL,zjK,zjJ,zjI,zjH,zjG,zjF,zjE,zjD,fS5b0,zjC,fS5b1,zjB,zjA,fS5b2,zj9,fS5b3,zj8,fS5,hE,h1,h2,h3,yesS,fewS,c1,hval,hheap,vacant_eq,h4,f1,h5,f2,he]
end
end Go.Proofs.YthfcfmkdeheicaaGreat
