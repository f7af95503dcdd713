import Derived.Test.YthfcfmkdeheicaaGreatGXS
set_option linter.all false
noncomputable section
/- The law SolveChecks: what its function computes. -/
namespace Go.Proofs.YthfcfmkdeheicaaGreat
open Go.J
open Go.J.Enc (enc)
set_option maxRecDepth 100000
set_option maxHeartbeats 1000000
theorem szS_le{s:List Assign}{B:Nat}:∀ (W:List Int),(∀ i∈W,(fnA s i).size≤B)→szS s W≤W.length*B:=by
 intro W
 induction W with
 |nil=>intro _;simp[szS]
 | cons i W ih =>
   intro h
   have h1:=h i (List.mem_cons_self ..)
   have h2:=ih fun j hj=>h j (List.mem_cons_of_mem _ hj)
   rw[szS,repl_tVar,List.length_cons,Nat.add_mul]
   omega
theorem unC_of{x:List Assign}{l:List Equation}(hok:EqsOk l)(ox:okA x)(lx:x.length≤100):UnC x l :=
 ⟨ox,by omega,fun q hq=>⟨⟨hok.ok _ (sides_l hq).1,(hok.eq q hq).1.1⟩,hok.ok _ (sides_l hq).2,(hok.eq q hq).2.1⟩,by have:=hok.len;omega⟩
theorem prC_of{x y:List Assign}{l:List Equation}(hok:EqsOk l)(hW:(varsM (sides l)).length≤4)(ox:okA x)(oy:okA y)(lx:x.length≤100)(ly:y.length≤100)(hz:∀ i∈varsM (sides l),(fnA x i).size≤1000):PrC x l y:=by
 have h1:=szS_le (s:=x) _ hz
 have h2:=Nat.mul_le_mul_right 1000 hW
 exact⟨unC_of hok ox lx,unC_of hok oy ly,⟨ox,oy,by omega,by omega,by omega,by omega⟩,by have:=hok.sz;omega⟩
theorem checks_ok{l:List Equation}(hok:EqsOk l)(hW:(varsM (sides l)).length≤4){a b s:List Assign}(na:∀ x∈a,Nc 3 x.type)(nb:∀ x∈b,Nc 3 x.type)(hal:a.length≤4)(hbl:b.length≤4)
 (hs:okA s∧pls s∧s.length≤7∧∀ i∈varsM (sides l),(fnA s i).size≤200):UnC a l∧cpF s b=some (cpM s b)∧PrC s l (cpM s b)∧PrC a l b∧PrC (cpM s b) l s:=by
 obtain⟨os,ps,ls,zs⟩:=hs
 have oa:okA a:=fun x hx=>(na x hx).ok
 have ob:okA b:=fun x hx=>(nb x hx).ok
 have oc:okA (cpM s b):=cpM_ok os ob
 have lc:(cpM s b).length≤11:=by
  unfold cpM
  rw[List.length_append,List.length_map]
  have:=List.length_filter_le (fun x:Assign=>!hasA s x.id) b
  omega
 have za:∀ i,(fnA a i).size≤3:=fnA_size (by decide) fun x hx=>(na x hx).sz
 have zb:∀ i,(fnA b i).size≤3:=fnA_size (by decide) fun x hx=>(nb x hx).sz
 have zc:∀ i∈varsM (sides l),(fnA (cpM s b) i).size≤1000:=fun i hi=>by
  rw[cp_fn ps]
  have h1:=app_size_le (K:=3) (by decide) zb (fnA s i)
  have h2:=zs i hi
  show ((fnA s i).app (fnA b)).size≤1000
  omega
 refine⟨unC_of hok oa (by omega),if_pos ⟨os,by omega⟩,prC_of hok hW os oc (by omega) (by omega) fun i hi=>?_,prC_of hok hW oa ob (by omega) (by omega) fun i hi=>?_,prC_of hok hW oc os (by omega) (by omega) zc⟩
 · have:=zs i hi;omega
 · have:=za i;omega
theorem rsl_ok{l:List Equation}(hok:EqsOk l)(hW:(varsM (sides l)).length≤4)(hl:l.length≤1)(h0:(rsl (varsM (sides l)) l 0 []).c=0):okA (rsl (varsM (sides l)) l 0 []).a∧pls (rsl (varsM (sides l)) l 0 []).a∧(rsl (varsM (sides l)) l 0 []).a.length≤7∧∀ i∈varsM (sides l),(fnA (rsl (varsM (sides l)) l 0 []).a i).size≤200:=by
 obtain⟨k,σ,q1,_,q3,q4,q5,q6⟩:=rsl_sl (W:=varsM (sides l)) (by omega) l 0 [] ⟨fun a h=>(by cases h),fun a h=>(by cases h),by rw[fnA_nil];exact sinv0 _,by simp⟩ hok.eq
 rw[fnA_nil,h0]at q1
 refine⟨q4,q5,by omega,fun i hi=>?_⟩
 rw[(q3 h0).1]
 exact sl_size l 0 tVar k σ (fun v _=>by simp[tVar,Ty.size,Ty.sizes]) q1 i hi
theorem sides_take{l:List Equation}{k:Nat}{u:Ty}(h:u∈sides (l.take k)):u∈sides l:=by
 obtain⟨q,hq,e⟩:=sides_mem h
 have h2:=sides_l (List.mem_of_mem_take hq)
 rcases e with rfl|rfl
 · exact h2.1
 · exact h2.2
section
variable {ρ:Nat→Value}(hρ:J.Good ρ){E:Env}(hE:E.P=Tryz.prog)(hcon:ConsOk ρ E)
include hρ hE hcon
theorem SC_in{l:List Equation}{a b s:List Assign}{W:List Int}(hwl:W.length≤1000){Q:Ex→PT V→HS→Prop}{T0:PT V}{hs0:HS}
 (h0:Less 0 T0 hs0 (mkP [(7,.sl (l.map encEquation) false),(10,.sl (a.map encAssign) false),(11,.sl (b.map encAssign) false),(12,.sl (s.map encAssign) false),(15,.sl (W.map encI) false),(16,.sl (W.map encI) false),(17,.int .i64 ((0:Nat):Int))]) { H:=mkP [],n:=0,log:=[] })
 (hQ:Q (.exit 0) (mkP [(7,.sl (l.map encEquation) false),(10,.sl (a.map encAssign) false),(11,.sl (b.map encAssign) false),(12,.sl (s.map encAssign) false)]) { H:=mkP [],n:=0,log:=[] }) :
 Ls ρ E 0 124 (.loop fS7l0) T0 hs0 Q:=by
 refine lpi hρ hE hcon W.length (nn:=0) (fun k (_:Unit)=>[(7,.sl (l.map encEquation) false),(10,.sl (a.map encAssign) false),(11,.sl (b.map encAssign) false),(12,.sl (s.map encAssign) false),(15,.sl (W.map encI) false),(16,.sl (W.map encI) false),(17,.int .i64 (k:Int))]) (fun _ _=>[]) (fun _ _=>True) () h0 trivial ?_ ?_
 · intro _ _ K
   simp[fS7l0,fS7r0,fS7r1,fS7r2,fS7r3,fS7r4,fS7r5,fS7r6,fS7r7,fS7r8,fS7r9,fS7r10,fS7r11,fS7r12,fS7r13,fS7r14,fS7r15,fS7r16,fS7r17,fS7r18,fS7r19,fS7b0,fS7r20,fS7b1,fS7r21,fS7r22,fS7,hE]
   exact LessQ.mk (Less.auto (n:=0) (by simp) (by simp) (by simp) (by simp)) hQ
 · intro k _ hk _ K hK
   have hnew:=hK () trivial
   have hk':(k:Int)<W.length:=by omega
   have hw2:IntKind.i64.wrap ((k:Int)+1)=((k+1:Nat):Int):=wrap_succ (by omega)
   generalize hx:W[k]=x
   clear h0 hQ hK
   simp[fS7l0,fS7r0,fS7r1,fS7r2,fS7r3,fS7r4,fS7r5,fS7r6,fS7r7,fS7r8,fS7r9,fS7r10,fS7r11,fS7r12,fS7r13,fS7r14,fS7r15,fS7r16,fS7r17,fS7r18,fS7r19,fS7b0,fS7r20,fS7b1,fS7r21,fS7r22,fS7,hE,hk,hk',hx,hw2,-Int.natCast_add]
   exact hnew _ _ (Less.auto (by simp[-Int.natCast_add]) (by simp) (by simp) (by simp))
theorem SolveChecks_run(h1:E.con 28=yesS)(h2:E.con 10=fewS)(h3:E.con 29=embS made18M)(hm:E.con 14=modS)(hD:E.con 12=fnS (spec1 fun bits:Int=>some (datasOf bits)))(hS:E.con 42=stS (stF2 substF))
 (h5:E.con 31=fnS (spec1 rs18F)) (h4:E.con 43=fnS (spec1 evF)) (h6:E.con 32=fnS (spec1 ev18F)) (h7:E.con 44=fnS (spec2 cpF)) (h12:E.con 38=fnS (spec2 unF)) (h11:E.con 37=fnS (spec2 unF))
 (h8:E.con 41=fnS (spec3 prF)) (h9:E.con 45=fnS (spec3 prF)) {bits:Int} {codes:List Int} {n:Int} (hs:HS):CallOk ρ Tryz.prog 7 [enc bits,enc codes,enc n] hs (.bool true) hs:=by
 refine fn hρ hE hcon Tryz.func7 fB7 rfl (by simp) ?_ hs
 by_cases c1:codes.length≤60
 case neg=>simp[fS7r0,fS7r1,fS7r2,fS7r3,fS7r4,fS7r5,fS7r6,fS7r7,fS7r8,fS7r9,fS7r10,fS7r11,fS7r12,fS7r13,fS7r14,fS7r15,fS7r16,fS7r17,fS7r18,fS7r19,fS7b0,fS7r20,fS7b1,fS7r21,fS7r22,fS7,hE,h1,h2,yesS,fewS,c1]
 have htp:(⟨codes,0⟩:Tp).ok:=⟨Int.le_refl _,by show codes.length≤100000;omega⟩
 have hmn:(modI n 6).toNat≤5:=by have h1:=modI_nonneg n 6;have h2:modI n 6<6:=modI_lt (by decide);omega
 have hnc:=eqnsM_nc (t:=⟨codes,0⟩) (datasOf_ok3 bits) (datasOf_val bits) (modI n 6).toNat
 have hle:=eqnsM_ok htp (datasOf bits) (modI n 6).toNat
 rcases hmm:eqnsM ⟨codes,0⟩ (datasOf bits) (modI n 6).toNat with⟨t,l⟩
 rw[hmm]at hnc hle
 simp only at hnc hle
 have hval:=fun hs=>made18D_val (hs:=hs) hmm
 have hheap:=fun hs=>made18D_heap (hs:=hs) hmm
 obtain⟨kk,hkk⟩:∃ kk:Nat,modI n 2=(kk:Int):=⟨(modI n 2).toNat,by have:=modI_nonneg n 2;omega⟩
 have hk1:kk≤1:=by have h2:modI n 2<2:=modI_lt (by decide);omega
 have hlen1:(l.take kk).length≤1:=by rw[List.length_take];omega
 obtain⟨hok,hW⟩:=eqs_of (l:=l.take kk) (B:=7) (n:=4) (by omega) (by decide) (by decide) fun u hu=>hnc u (sides_take hu)
 have hll:=(leavesL_len 1 (sides (l.take kk)) []).2
 simp only[List.length_nil]at hll
 have hpl:=sides_plain hok
 -- the substitutions
 have hD3:=datasOf_ok3 bits
 have hDk:=datasOf_ok bits
 generalize hDq:datasOf bits=D at hD3 hDk
 have g1:substF t D 4=some (substM t D 4 4):=if_pos ⟨hle.1,hDk,by decide,by decide⟩
 have o1:=substM_ok hle.1 D 4 4
 have na:=substM_nc hD3 t 4 4
 generalize substM t D 4 4=X at g1 o1 na
 obtain⟨t1,a⟩:=X
 simp only at o1 na
 have g2:substF t1 D 4=some (substM t1 D 4 4):=if_pos ⟨o1.1,hDk,by decide,by decide⟩
 have o2:=substM_ok o1.1 D 4 4
 have nb:=substM_nc hD3 t1 4 4
 generalize substM t1 D 4 4=X at g2 o2 nb
 obtain⟨t2,b⟩:=X
 simp only at o2 nb
 -- the reference's solution
 have f2:rs18F (l.take kk)=some (rsl (varsM (sides (l.take kk))) (l.take kk) 0 []):=if_pos ⟨hok,by omega⟩
 have hrs:=rsl_ok hok hW hlen1
 have pa:pls a:=fun x hx=>(na x hx).pl
 have oa:okA a:=fun x hx=>(na x hx).ok
 have za:∀ i,(fnA a i).size≤3:=fnA_size (by decide) fun x hx=>(na x hx).sz
 have hca:=checks_ok hok hW na nb o1.2 o2.2 (s:=a) ⟨oa,pa,by have:=o1.2;omega,fun i _=>by have:=za i;omega⟩
 have hcs:=fun s hs=>checks_ok hok hW na nb o1.2 o2.2 (s:=s) hs
 have f3:ev18F (l.take kk)=some (varsM (sides (l.take kk))):=(prC_ev hca.2.2.1).2
 have f4:evF (l.take kk)=some (varsM (sides (l.take kk))):=(prC_ev hca.2.2.1).1
 have hin:=fun (s:List Assign) (Q) (T0) (hs0)=>SC_in (l:=l.take kk) (a:=a) (b:=b) (s:=s) (W:=varsM (sides (l.take kk))) (Q:=Q) (T0:=T0) (hs0:=hs0) hρ hE hcon (by omega)
 generalize rsl (varsM (sides (l.take kk))) (l.take kk) 0 []=r at f2 hrs
 obtain⟨ra,rb,rc⟩:=r
 simp only at hrs
 have hp:∀ s,cpF s b=some (cpM s b)∧PrC s (l.take kk) (cpM s b)∧PrC a (l.take kk) b∧PrC (cpM s b) (l.take kk) s→∃ c p1 p2 p3,cpF s b=some c∧prF s (l.take kk) c=some p1∧prF a (l.take kk) b=some p2∧prF c (l.take kk) s=some p3:=fun s hh=>⟨_,_,_,_,hh.1,if_pos hh.2.1,if_pos hh.2.2.1,if_pos hh.2.2.2⟩
 have hp1:=hp a hca.2
 have hp2:rc=0→_:=fun h0=>hp ra (hcs ra (hrs h0)).2
 have hu:unF a (l.take kk)=some (!((l.take kk).any (neB a))):=if_pos hca.1
 generalize (!((l.take kk).any (neB a)))=ub at hu
 clear hca hcs hrs hp hok hnc hpl pa oa za na nb
 generalize varsM (sides (l.take kk))=W at f3 f4 hin
 have hle2:kk≤l.length∨l.length≤kk:=by omega
 by_cases hc:kk<l.length
 · have hc':(kk:Int)<l.length:=by omega
   have hle':kk≤l.length:=by omega
   by_cases he:rc=0
   · subst he
     obtain⟨c,p1,p2,p3,e1,e2,e3,e4⟩:=hp2 rfl
     simp[fS7r0,fS7r1,fS7r2,fS7r3,fS7r4,fS7r5,fS7r6,fS7r7,fS7r8,fS7r9,fS7r10,fS7r11,fS7r12,fS7r13,fS7r14,fS7r15,fS7r16,fS7r17,fS7r18,fS7r19,fS7b0,fS7r20,fS7b1,fS7r21,fS7r22,fS7,hE,h1,h2,h3,yesS,fewS,c1,hval,hheap,vacant_eq,hm,modS,hkk,hc,hc',hle',sliceJ,sliceSl,bounds,optJ,isSomeO,orc_some',← List.map_take,hD,hDq,hS,g1,g2,h5,f2,h4,f4,h6,f3]
     refine hin ra _ _ _ (Less.auto (by simp) (by simp) (by simp) (by simp)) ?_
     generalize l.take kk=l2 at hu e2 e3 e4 ⊢
     simp[fS7r0,fS7r1,fS7r2,fS7r3,fS7r4,fS7r5,fS7r6,fS7r7,fS7r8,fS7r9,fS7r10,fS7r11,fS7r12,fS7r13,fS7r14,fS7r15,fS7r16,fS7r17,fS7r18,fS7r19,fS7b0,fS7r20,fS7b1,fS7r21,fS7r22,fS7,hE,h7,e1,h12,h11,hu,h8,h9,e2,e3,e4]
   · obtain⟨c,p1,p2,p3,e1,e2,e3,e4⟩:=hp1
     simp[fS7r0,fS7r1,fS7r2,fS7r3,fS7r4,fS7r5,fS7r6,fS7r7,fS7r8,fS7r9,fS7r10,fS7r11,fS7r12,fS7r13,fS7r14,fS7r15,fS7r16,fS7r17,fS7r18,fS7r19,fS7b0,fS7r20,fS7b1,fS7r21,fS7r22,fS7,hE,h1,h2,h3,yesS,fewS,c1,hval,hheap,vacant_eq,hm,modS,hkk,hc,hc',hle',sliceJ,sliceSl,bounds,optJ,isSomeO,orc_some',← List.map_take,hD,hDq,hS,g1,g2,h5,f2,h4,f4,h6,f3,he]
     refine hin a _ _ _ (Less.auto (by simp) (by simp) (by simp) (by simp)) ?_
     generalize l.take kk=l2 at hu e2 e3 e4 ⊢
     simp[fS7r0,fS7r1,fS7r2,fS7r3,fS7r4,fS7r5,fS7r6,fS7r7,fS7r8,fS7r9,fS7r10,fS7r11,fS7r12,fS7r13,fS7r14,fS7r15,fS7r16,fS7r17,fS7r18,fS7r19,fS7b0,fS7r20,fS7b1,fS7r21,fS7r22,fS7,hE,h7,e1,h12,h11,hu,h8,h9,e2,e3,e4]
 · have hc':¬ (kk:Int)<l.length:=by omega
   rw[List.take_of_length_le (by omega:l.length≤kk)]at *
   by_cases he:rc=0
   · subst he
     obtain⟨c,p1,p2,p3,e1,e2,e3,e4⟩:=hp2 rfl
     simp[fS7r0,fS7r1,fS7r2,fS7r3,fS7r4,fS7r5,fS7r6,fS7r7,fS7r8,fS7r9,fS7r10,fS7r11,fS7r12,fS7r13,fS7r14,fS7r15,fS7r16,fS7r17,fS7r18,fS7r19,fS7b0,fS7r20,fS7b1,fS7r21,fS7r22,fS7,hE,h1,h2,h3,yesS,fewS,c1,hval,hheap,vacant_eq,hm,modS,hkk,hc,hc',hD,hDq,hS,g1,g2,h5,f2,h4,f4,h6,f3]
     refine hin ra _ _ _ (Less.auto (by simp) (by simp) (by simp) (by simp)) ?_
     simp[fS7r0,fS7r1,fS7r2,fS7r3,fS7r4,fS7r5,fS7r6,fS7r7,fS7r8,fS7r9,fS7r10,fS7r11,fS7r12,fS7r13,fS7r14,fS7r15,fS7r16,fS7r17,fS7r18,fS7r19,fS7b0,fS7r20,fS7b1,fS7r21,fS7r22,fS7,hE,h7,e1,h12,h11,hu,h8,h9,e2,e3,e4]
   · obtain⟨c,p1,p2,p3,e1,e2,e3,e4⟩:=hp1
     simp[fS7r0,fS7r1,fS7r2,fS7r3,fS7r4,fS7r5,fS7r6,fS7r7,fS7r8,fS7r9,fS7r10,fS7r11,fS7r12,fS7r13,fS7r14,fS7r15,fS7r16,fS7r17,fS7r18,fS7r19,fS7b0,fS7r20,fS7b1,fS7r21,fS7r22,fS7,hE,h1,h2,h3,yesS,fewS,c1,hval,hheap,vacant_eq,hm,modS,hkk,hc,hc',hD,hDq,hS,g1,g2,h5,f2,h4,f4,h6,f3,he]
     refine hin a _ _ _ (Less.auto (by simp) (by simp) (by simp) (by simp)) ?_
     simp[fS7r0,fS7r1,fS7r2,fS7r3,fS7r4,fS7r5,fS7r6,fS7r7,fS7r8,fS7r9,fS7r10,fS7r11,fS7r12,fS7r13,fS7r14,fS7r15,fS7r16,fS7r17,fS7r18,fS7r19,fS7b0,fS7r20,fS7b1,fS7r21,fS7r22,fS7,hE,h7,e1,h12,h11,hu,h8,h9,e2,e3,e4]
end
end Go.Proofs.YthfcfmkdeheicaaGreat
