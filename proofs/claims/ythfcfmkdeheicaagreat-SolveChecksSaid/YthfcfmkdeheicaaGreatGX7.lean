import Derived.Test.YthfcfmkdeheicaaGreatGX5
import Derived.Test.YthfcfmkdeheicaaGreatJY
import Derived.Test.YthfcfmkdeheicaaGreatGX6
import Derived.Test.YthfcfmkdeheicaaGreatJCx
import Derived.Test.YthfcfmkdeheicaaGreatJN
import Derived.Test.YthfcfmkdeheicaaGreatGX8
set_option linter.all false
noncomputable section
/- The reference's solving of equations. -/
namespace Go.Proofs.YthfcfmkdeheicaaGreat
open Go.J
open Go.J.Enc (enc)
set_option maxRecDepth 100000
set_option maxHeartbeats 1000000
def bigV(W:List Int)(s:List Assign):Bool:=W.any fun v=>decide (200<((tVar v).repl s).size)
def rsl (W:List Int):List Equation→Nat→List Assign→T3 (List Assign) Int Int
 | [],i,s=>⟨s,i,0⟩
 | q::l,i,s=>if 200<(q.left.repl s).size∨200<(q.right.repl s).size then ⟨[],i,15⟩
   else if (rutM (q.left.repl s) (q.right.repl s)).2≠0 then ⟨[],i,(rutM (q.left.repl s) (q.right.repl s)).2⟩
   else if bigV W (cpM s (rutM (q.left.repl s) (q.right.repl s)).1)=true then ⟨[],i,15⟩
   else rsl W l (i+1) (cpM s (rutM (q.left.repl s) (q.right.repl s)).1)
theorem bigV_iff(W:List Int)(s:List Assign):bigV W s=true↔∃ v∈W,200<(fnA s v).size:=by
 unfold bigV
 rw[List.any_eq_true]
 constructor
 · rintro ⟨v,hv,h⟩;exact⟨v,hv,by rw[← repl_tVar];exact of_decide_eq_true h⟩
 · rintro ⟨v,hv,h⟩;exact⟨v,hv,decide_eq_true (by rw[repl_tVar];exact h)⟩
theorem rsl_step{W:List Int}(hW:W.length≤7){s:List Assign}{i:Nat}(h:RInv W s i){a b:Ty}(ha:EqOk W a)(hb:EqOk W b)(sa:(a.repl s).size≤200)(sb:(b.repl s).size≤200) :
 ∃ σ',uR (fnA s) a b=((rutM (a.repl s) (b.repl s)).2,σ')∧((rutM (a.repl s) (b.repl s)).2=0→fnA (cpM s (rutM (a.repl s) (b.repl s)).1)=σ'∧RInv W (cpM s (rutM (a.repl s) (b.repl s)).1) (i+1)∧(rutM (a.repl s) (b.repl s)).1.length≤7∧∀ v∈W,(fnA s v).size≤200→((tVar v).repl (cpM s (rutM (a.repl s) (b.repl s)).1)).size≤4000000000000000000):=by
 have ea:=repl_app s a ha.1
 have eb:=repl_app s b hb.1
 have pa:(a.repl s).vplain=true:=by rw[ea];exact plain_app h.si.idem.plain a ha.1
 have pb:(b.repl s).vplain=true:=by rw[eb];exact plain_app h.si.idem.plain b hb.1
 obtain⟨f,hf⟩:=rut_ok pa pb
 exact r18_step hW h ha hb (by rw[← ea];exact sa) (by rw[← eb];exact sb) hf
theorem rsl_sl {W:List Int} (hW:W.length≤7):∀ (l:List Equation) (i:Nat) (s:List Assign),RInv W s i→(∀ q∈l,EqOk W q.left∧EqOk W q.right) →
 ∃ k σ,slA W l i (fnA s)=((rsl W l i s).c,k,σ)∧(rsl W l i s).b=((k:Nat):Int)∧((rsl W l i s).c=0→fnA (rsl W l i s).a=σ∧RInv W (rsl W l i s).a (i+l.length))∧okA (rsl W l i s).a∧pls (rsl W l i s).a∧(rsl W l i s).a.length≤(i+l.length)*7:=by
 intro l
 induction l with
 |nil=>intro i s h _;exact⟨i,fnA s,rfl,rfl,fun _=>⟨rfl,h⟩,h.ok,h.pl,h.len⟩
 | cons q l ih =>
   intro i s h hl
   obtain⟨ha,hb⟩:=hl q (List.mem_cons_self ..)
   have ea:=repl_app s q.left ha.1
   have eb:=repl_app s q.right hb.1
   rw[rsl,slA]
   have hnil:okA []∧pls []∧([]:List Assign).length≤(i+(q::l).length)*7:=⟨fun a h=>(by cases h),fun a h=>(by cases h),Nat.zero_le _⟩
   by_cases h1:200<(q.left.repl s).size∨200<(q.right.repl s).size
   · rw[if_pos h1,if_pos (by rw[← ea,← eb];exact h1)]
     exact⟨i,fnA s,rfl,rfl,fun h=>(by cases h),hnil⟩
   rw[if_neg h1,if_neg (by rw[← ea,← eb];exact h1)]
   obtain⟨σ',q1,q2⟩:=rsl_step hW h ha hb (by omega) (by omega)
   generalize rutM (q.left.repl s) (q.right.repl s)=x at *
   rw[q1]
   by_cases h2:x.2=0
   · have hn:¬ x.2≠0:=fun h=>h h2
     rw[if_neg hn,if_neg hn]
     obtain⟨r1,r2,r3,r4⟩:=q2 h2
     by_cases h3:bigV W (cpM s x.1)=true
     · rw[if_pos h3,if_pos (by rw[← r1];exact(bigV_iff _ _).1 h3)]
       exact⟨i,fnA s,rfl,rfl,fun h=>(by cases h),hnil⟩
     · rw[if_neg h3,if_neg (by rw[← r1];exact fun hh=>h3 ((bigV_iff _ _).2 hh))]
       obtain⟨k,σ,m1,m2,m3,m4,m5,m6⟩:=ih (i+1) (cpM s x.1) r2 fun q hq=>hl q (List.mem_cons_of_mem _ hq)
       rw[r1]at m1
       have e:i+1+l.length=i+(q::l).length:=by rw[List.length_cons];omega
       rw[e]at m3 m6
       exact⟨k,σ,m1,m2,m3,m4,m5,m6⟩
   · rw[if_pos h2,if_pos h2]
     exact⟨i,fnA s,rfl,rfl,fun h=>absurd h h2,hnil⟩
open Classical in
def rs18F(l:List Equation):Option (T3 (List Assign) Int Int):=if EqsOk l∧(varsM (sides l)).length≤7 then some (rsl (varsM (sides l)) l 0 [])else none
section
variable {ρ:Nat→Value}(hρ:J.Good ρ)
include hρ
section
variable {E:Env}(hE:E.P=Tryz.prog)(hcon:ConsOk ρ E)
include hE hcon
theorem ref18_Solve_in(hA:E.con 88=fnS (spec2 applyU))(hN:E.con 89=fnS (spec1 (nodesF 4000000000000000000)))(hv:E.con 52=fnS (spec1 fun i:Int=>some (tVar i))){l:List Equation}{W:List Int}(hW:W.length≤7){s:List Assign}{i:Nat}(hs:okA s)(hsl:s.length≤8000)
 (hsz:∀ v∈W,((tVar v).repl s).size≤4000000000000000000) {Q:Ex→PT V→HS→Prop} {T0:PT V} {hs0:HS}
 (h0:Less 0 T0 hs0 (mkP [(0,.sl (l.map encEquation) false),(5,.sl (s.map encAssign) false),(6,.int .i64 (i:Int)),(11,.sl (W.map encI) false),(12,.int .i64 ((0:Nat):Int))]) { H:=mkP [],n:=0,log:=[] })
 (hQ0:bigV W s=false→Q (.exit 2) (mkP [(0,.sl (l.map encEquation) false),(5,.sl (s.map encAssign) false),(6,.int .i64 (i:Int))]) { H:=mkP [],n:=0,log:=[] })
 (hQ1:bigV W s=true→Q .ret (mkP [(2,.snil),(3,.int .i64 (i:Int)),(4,.int .i64 15)]) { H:=mkP [],n:=0,log:=[] }) :
 Ls ρ E 0 76 (.loop fS31l0) T0 hs0 Q:=by
 refine lpi hρ hE hcon W.length (nn:=0) (fun k (_:Unit)=>[(0,.sl (l.map encEquation) false),(5,.sl (s.map encAssign) false),(6,.int .i64 (i:Int)),(11,.sl (W.map encI) false),(12,.int .i64 (k:Int))]) (fun _ _=>[]) (fun k _=>bigV (W.drop k) s=bigV W s) () h0 rfl ?_ ?_
 · intro _ h K
   rw[List.drop_length]at h
   have h:false=bigV W s:=h
   simp[fS31l0,fS31r0,fS31r1,fS31r2,fS31r3,fS31r4,fS31r5,fS31r6,fS31r7,fS31r8,fS31r9,fS31r10,fS31r11,fS31r12,fS31r13,fS31r14,fS31r15,fS31b0,fS31r16,fS31b1,fS31b2,fS31r17,fS31b3,fS31r18,fS31,hE]
   exact LessQ.mk (Less.auto (n:=0) (by simp) (by simp) (by simp) (by simp)) (hQ0 h.symm)
 · intro k _ hk h K hK
   have hk':(k:Int)<W.length:=by omega
   have hw2:IntKind.i64.wrap ((k:Int)+1)=((k+1:Nat):Int):=wrap_succ (by omega)
   have hb:=hsz _ (List.getElem_mem hk)
   rw[List.drop_eq_getElem_cons hk]at h
   have hcons:∀ (v:Int) (m:List Int),bigV (v::m) s=(decide (200<((tVar v).repl s).size)||bigV m s):=fun v m=>rfl
   rw[hcons]at h
   obtain⟨v,hx⟩:∃ v,W[k]=v:=⟨_,rfl⟩
   rw[hx]at h hb
   have f1:applyU s (tVar v)=some ((tVar v).repl s):=if_pos ⟨tVar_okJ v,by omega⟩
   have f2:nodesF 4000000000000000000 ((tVar v).repl s)=some (((tVar v).repl s).size:Int):=if_pos ⟨repl_ok hs _ (tVar_okJ v),hb,Nat.le_refl _⟩
   generalize (tVar v).repl s=r at f1 f2 h hb
   generalize r.size=z at f2 h hb
   simp only[tVar]at f1
   clear h0 hQ0
   obtain⟨rk,rn,ri,rh,rl⟩:=r
   by_cases hz:200<z
   · have hz':(200:Int)<z:=by omega
     rw[decide_eq_true hz,Bool.true_or]at h
     clear hK
     simp[fS31l0,fS31r0,fS31r1,fS31r2,fS31r3,fS31r4,fS31r5,fS31r6,fS31r7,fS31r8,fS31r9,fS31r10,fS31r11,fS31r12,fS31r13,fS31r14,fS31r15,fS31b0,fS31r16,fS31b1,fS31b2,fS31r17,fS31b3,fS31r18,fS31,hE,hk,hk',hx,hv,tVar,hA,f1,hN,f2,hz,hz']
     exact LessQ.mk (Less.auto (n:=0) (by simp) (by simp) (by simp) (by simp)) (hQ1 h.symm)
   · have hz':¬ (200:Int)<z:=by omega
     rw[decide_eq_false hz,Bool.false_or]at h
     have hnew:=hK () h
     clear hK hQ1
     simp[fS31l0,fS31r0,fS31r1,fS31r2,fS31r3,fS31r4,fS31r5,fS31r6,fS31r7,fS31r8,fS31r9,fS31r10,fS31r11,fS31r12,fS31r13,fS31r14,fS31r15,fS31b0,fS31r16,fS31b1,fS31b2,fS31r17,fS31b3,fS31r18,fS31,hE,hk,hk',hx,hv,tVar,hA,f1,hN,f2,hz,hz',hw2,-Int.natCast_add]
     exact hnew _ _ (Less.auto (by simp[-Int.natCast_add]) (by simp) (by simp) (by simp))
theorem ref18_Solve_out (hA:E.con 88=fnS (spec2 applyU)) (hN:E.con 89=fnS (spec1 (nodesF 4000000000000000000))) (hv:E.con 52=fnS (spec1 fun i:Int=>some (tVar i))) (hU:E.con 90=fnS (spec2 rutF)) (hC:E.con 44=fnS (spec2 cpF)) (hV:E.con 32=fnS (spec1 ev18F))
 {l:List Equation} {W:List Int} (hW:W.length≤7) (hl:l.length≤100) (heq:∀ q∈l,EqOk W q.left∧EqOk W q.right) (hsz8:∀ q∈l,q.left.size≤8000∧q.right.size≤8000) (hFv:ev18F l=some W) {R:T3 (List Assign) Int Int} (hR:rsl W l 0 []=R) {Q:Ex→PT V→HS→Prop} {T0:PT V} {hs0:HS}
 (h0:Less 0 T0 hs0 (mkP [(0,.sl (l.map encEquation) false),(5,.snil),(6,.int .i64 ((0:Nat):Int))]) { H:=mkP [],n:=0,log:=[] })
 (hQ0:R.c=0→R.b=l.length→(l.length=0→R.a=[])→Q (.exit 0) (mkP [(0,.sl (l.map encEquation) false),(5,slV l.length R.a)]) { H:=mkP [],n:=0,log:=[] })
 (hQ1:∀ (i e:Int),R=⟨[],i,e⟩→Q .ret (mkP [(2,.snil),(3,.int .i64 i),(4,.int .i64 e)]) { H:=mkP [],n:=0,log:=[] }) :
 Ls ρ E 0 76 (.loop fS31l1) T0 hs0 Q:=by
 refine lpi hρ hE hcon l.length (nn:=0) (fun i (s:List Assign)=>[(0,.sl (l.map encEquation) false),(5,slV i s),(6,.int .i64 (i:Int))]) (fun _ _=>[]) (fun i s=>RInv W s i∧(∀ v∈W,(fnA s v).size≤200)∧rsl W (l.drop i) i s=R) [] h0
  ⟨⟨fun a h=>(by cases h),fun a h=>(by cases h),by rw[fnA_nil];exact sinv0 W,by simp⟩,fun v _=>by rw[fnA_nil];simp[tVar,Ty.size,Ty.sizes],hR⟩ ?_ ?_
 · rintro s ⟨hI,_,h⟩ K
   rw[List.drop_length,rsl]at h
   subst h
   have hs0:l.length=0→s=[]:=fun h0=>List.eq_nil_of_length_eq_zero (by have:=hI.len;omega)
   simp[fS31l1,fS31r0,fS31r1,fS31r2,fS31r3,fS31r4,fS31r5,fS31r6,fS31r7,fS31r8,fS31r9,fS31r10,fS31r11,fS31r12,fS31r13,fS31r14,fS31r15,fS31b0,fS31r16,fS31b1,fS31b2,fS31r17,fS31b3,fS31r18,fS31,hE]
   cases hn:l.length with
   | zero =>
     rw[hn]at hQ0
     exact LessQ.mk (Less.auto (n:=0) (by simp[slV]) (by simp) (by simp) (by simp)) (hQ0 rfl rfl (fun _=>hs0 hn))
   | succ n =>
     rw[hn]at hQ0
     exact LessQ.mk (Less.auto (n:=0) (by simp[slV]) (by simp) (by simp) (by simp)) (hQ0 rfl (by simp) (fun h=>by simp at h))
 · rintro i s hi ⟨hI,hS,h⟩ K hK
   have hi':(i:Int)<l.length:=by omega
   have hw2:IntKind.i64.wrap ((i:Int)+1)=((i+1:Nat):Int):=wrap_succ (by omega)
   have ha0:(i*10) / 10=i:=by omega
   have ha1:(i*10) % 10=0:=by omega
   have ha2:(i*10+5) / 10=i:=by omega
   have ha3:(i*10+5) % 10=5:=by omega
   have hsl:s.length≤700:=by have:=hI.len;omega
   rw[List.drop_eq_getElem_cons hi,rsl]at h
   obtain⟨ea,eb⟩:=heq _ (List.getElem_mem hi)
   obtain⟨za,zb⟩:=hsz8 _ (List.getElem_mem hi)
   obtain⟨q,hq⟩:∃ q,l[i]=q:=⟨_,rfl⟩
   rw[hq]at h ea eb za zb
   obtain⟨a,b⟩:=q
   simp only at h ea eb za zb
   have oa:=valid_ok a ea.2.1
   have ob:=valid_ok b eb.2.1
   have f1:applyU s a=some (a.repl s):=if_pos ⟨oa,by omega⟩
   have f2:applyU s b=some (b.repl s):=if_pos ⟨ob,by omega⟩
   have oa':=repl_ok hI.ok a oa
   have ob':=repl_ok hI.ok b ob
   have pa':(a.repl s).vplain=true:=by rw[repl_app s a ea.1];exact plain_app hI.si.idem.plain a ea.1
   have pb':(b.repl s).vplain=true:=by rw[repl_app s b eb.1];exact plain_app hI.si.idem.plain b eb.1
   have sa':(a.repl s).size≤8000*200:=by
    rw[repl_app s a ea.1]
    exact Nat.le_trans (app_size_of (K:=200) (by decide) fun j hj=>hS j (ea.2.2 j hj)) (Nat.mul_le_mul_right _ za)
   have sb':(b.repl s).size≤8000*200:=by
    rw[repl_app s b eb.1]
    exact Nat.le_trans (app_size_of (K:=200) (by decide) fun j hj=>hS j (eb.2.2 j hj)) (Nat.mul_le_mul_right _ zb)
   have f3:nodesF 4000000000000000000 (a.repl s)=some ((a.repl s).size:Int):=if_pos ⟨oa',by omega,Nat.le_refl _⟩
   have f4:nodesF 4000000000000000000 (b.repl s)=some ((b.repl s).size:Int):=if_pos ⟨ob',by omega,Nat.le_refl _⟩
   have hstep:=fun h1 h2=>rsl_step hW hI ea eb h1 h2
   generalize a.repl s=x at *
   generalize b.repl s=y at *
   have hsV:slV i s=.snil∧s=[]∨slV i s=.sl (s.map encAssign) false:=by
    rcases i with _|i
    · exact .inl ⟨rfl,List.eq_nil_of_length_eq_zero (by have:=hI.len;omega)⟩
    · exact .inr rfl
   clear h0
   by_cases hx:200<x.size
   · have hx':(200:Int)<x.size:=by omega
     rw[if_pos (.inl hx)]at h
     have hq1:=hQ1 i 15 h.symm
     clear hQ0 hQ1 hK hstep
     generalize x.size=z at f3 hx hx'
     rcases hsV with⟨e1,rfl⟩|e1
     all_goals
      rw[e1]
      simp[fS31l1,fS31r0,fS31r1,fS31r2,fS31r3,fS31r4,fS31r5,fS31r6,fS31r7,fS31r8,fS31r9,fS31r10,fS31r11,fS31r12,fS31r13,fS31r14,fS31r15,fS31b0,fS31r16,fS31b1,fS31b2,fS31r17,fS31b3,fS31r18,fS31,hE,hi,hi',ha0,ha1,ha2,ha3,hq,hA,f1,f2,hN,f3,hx,hx']
      exact LessQ.mk (Less.auto (n:=0) (by simp) (by simp) (by simp) (by simp)) hq1
   have hx':¬ (200:Int)<x.size:=by omega
   by_cases hy:200<y.size
   · have hy':(200:Int)<y.size:=by omega
     rw[if_pos (.inr hy)]at h
     have hq1:=hQ1 i 15 h.symm
     clear hQ0 hQ1 hK hstep
     generalize x.size=z at f3 hx hx'
     generalize y.size=z2 at f4 hy hy'
     rcases hsV with⟨e1,rfl⟩|e1
     all_goals
      rw[e1]
      simp[fS31l1,fS31r0,fS31r1,fS31r2,fS31r3,fS31r4,fS31r5,fS31r6,fS31r7,fS31r8,fS31r9,fS31r10,fS31r11,fS31r12,fS31r13,fS31r14,fS31r15,fS31b0,fS31r16,fS31b1,fS31b2,fS31r17,fS31b3,fS31r18,fS31,hE,hi,hi',ha0,ha1,ha2,ha3,hq,hA,f1,f2,hN,f3,f4,hx,hx',hy,hy']
      exact LessQ.mk (Less.auto (n:=0) (by simp) (by simp) (by simp) (by simp)) hq1
   have hy':¬ (200:Int)<y.size:=by omega
   rw[if_neg (by omega)]at h
   have f5:rutF x y=some (rutM x y):=if_pos ⟨oa',ob',pa',pb',by omega⟩
   obtain⟨σ',u1,u2⟩:=hstep (by omega) (by omega)
   generalize rutM x y=p at *
   obtain⟨X,e⟩:=p
   simp only at h u1 u2
   clear hstep sa' sb'
   generalize x.size=z at f3 hx hx'
   generalize y.size=z2 at f4 hy hy'
   by_cases he:e=0
   · subst he
     rw[if_neg (by simp)]at h
     obtain⟨r1,r2,r3,r4⟩:=u2 rfl
     have f6:cpF s X=some (cpM s X):=if_pos ⟨hI.ok,by omega⟩
     have hsl2:(cpM s X).length≤8000:=by have:=cpM_len s X;omega
     have hin:=fun (Q) (T0) (hs0)=>ref18_Solve_in hρ hE hcon hA hN hv (l:=l) (W:=W) hW (s:=cpM s X) (i:=i) (Q:=Q) (T0:=T0) (hs0:=hs0) r2.ok hsl2 fun v hv=>r4 v hv (hS v hv)
     have hnew:=fun (hb:bigV W (cpM s X)=false)=>hK (cpM s X) ⟨r2,(fun v hv=>Classical.byContradiction fun hn=>(by
      have:=(bigV_iff W (cpM s X)).2 ⟨v,hv,(by omega)⟩
      rw[hb]at this
      cases this)),(by rw[hb,if_neg (by simp)]at h;exact h)⟩
     have hq1:=fun (hb:bigV W (cpM s X)=true)=>hQ1 i 15 (by rw[hb,if_pos rfl]at h;exact h.symm)
     clear hQ0 hQ1 hK h r1 r2 r3 r4 u1 u2
     generalize cpM s X=s2 at f6 hin hnew hq1
     rcases hsV with⟨e1,rfl⟩|e1
     all_goals
      rw[e1]
      simp[fS31l1,fS31r0,fS31r1,fS31r2,fS31r3,fS31r4,fS31r5,fS31r6,fS31r7,fS31r8,fS31r9,fS31r10,fS31r11,fS31r12,fS31r13,fS31r14,fS31r15,fS31b0,fS31r16,fS31b1,fS31b2,fS31r17,fS31b3,fS31r18,fS31,hE,hi,hi',ha0,ha1,ha2,ha3,hq,hA,f1,f2,hN,f3,f4,hx,hx',hy,hy',hU,f5,hC,f6,hV,hFv]
      refine hin _ _ _ (Less.auto (by simp) (by simp) (by simp) (by simp)) (fun hb=>?_) (fun hb=>?_)
      · simp[fS31r0,fS31r1,fS31r2,fS31r3,fS31r4,fS31r5,fS31r6,fS31r7,fS31r8,fS31r9,fS31r10,fS31r11,fS31r12,fS31r13,fS31r14,fS31r15,fS31b0,fS31r16,fS31b1,fS31b2,fS31r17,fS31b3,fS31r18,fS31,hE,hw2,-Int.natCast_add]
        exact hnew hb _ _ (Less.auto (by simp[slV,-Int.natCast_add]) (by simp) (by simp) (by simp))
      · simp[fS31r0,fS31r1,fS31r2,fS31r3,fS31r4,fS31r5,fS31r6,fS31r7,fS31r8,fS31r9,fS31r10,fS31r11,fS31r12,fS31r13,fS31r14,fS31r15,fS31b0,fS31r16,fS31b1,fS31b2,fS31r17,fS31b3,fS31r18,fS31,hE]
        exact LessQ.mk (Less.auto (n:=0) (by simp) (by simp) (by simp) (by simp)) (hq1 hb)
   · rw[if_pos he]at h
     have hq1:=hQ1 i e h.symm
     clear hQ0 hQ1 hK u1 u2
     rcases hsV with⟨e1,rfl⟩|e1
     all_goals
      rw[e1]
      simp[fS31l1,fS31r0,fS31r1,fS31r2,fS31r3,fS31r4,fS31r5,fS31r6,fS31r7,fS31r8,fS31r9,fS31r10,fS31r11,fS31r12,fS31r13,fS31r14,fS31r15,fS31b0,fS31r16,fS31b1,fS31b2,fS31r17,fS31b3,fS31r18,fS31,hE,hi,hi',ha0,ha1,ha2,ha3,hq,hA,f1,f2,hN,f3,f4,hx,hx',hy,hy',hU,f5,he]
      exact LessQ.mk (Less.auto (n:=0) (by simp) (by simp) (by simp) (by simp)) hq1
theorem ref18_Solve_run(hA:E.con 88=fnS (spec2 applyU))(hN:E.con 89=fnS (spec1 (nodesF 4000000000000000000)))(hv:E.con 52=fnS (spec1 fun i:Int=>some (tVar i)))(hU:E.con 90=fnS (spec2 rutF))(hC:E.con 44=fnS (spec2 cpF))(hV:E.con 32=fnS (spec1 ev18F))
 {l:List Equation} (hl:EqsOk l) (hW:(varsM (sides l)).length≤7) (hs:HS):CallOk ρ Tryz.prog 31 [enc l] hs (enc (rsl (varsM (sides l)) l 0 [])) hs:=by
 refine fn hρ hE hcon Tryz.func31 fB31 rfl (by simp) ?_ hs
 have hll:=(leavesL_len 1 (sides l) []).2
 simp only[List.length_nil]at hll
 have hFv:ev18F l=some (varsM (sides l)):=if_pos ⟨Ty.oks_iff.2 hl.ok,by have:=hl.len;omega,by have:=hl.sz;omega⟩
 have hsz8:∀ q∈l,q.left.size≤8000∧q.right.size≤8000:=fun q hq=>⟨Nat.le_trans (Ty.size_mem (sides_l hq).1) hl.sz,Nat.le_trans (Ty.size_mem (sides_l hq).2) hl.sz⟩
 have heq:=hl.eq
 have hlen:=hl.len
 generalize varsM (sides l)=W at *
 have lo:=fun (R) (hR) (Q) (T0) (hs0)=>ref18_Solve_out hρ hE hcon hA hN hv hU hC hV hW hlen heq hsz8 hFv (R:=R) hR (Q:=Q) (T0:=T0) (hs0:=hs0)
 have lo:=lo _ rfl
 generalize rsl W l 0 []=R at lo
 simp[fS31r0,fS31r1,fS31r2,fS31r3,fS31r4,fS31r5,fS31r6,fS31r7,fS31r8,fS31r9,fS31r10,fS31r11,fS31r12,fS31r13,fS31r14,fS31r15,fS31b0,fS31r16,fS31b1,fS31b2,fS31r17,fS31b3,fS31r18,fS31,hE]
 refine lo _ _ _ (Less.auto (by simp) (by simp) (by simp) (by simp)) (fun h1 h2 h3=>?_) (fun i e h=>?_)
 · obtain⟨Ra,Rb,Rc⟩:=R
   simp only at h1 h2 h3
   subst h1 h2
   cases hn:l.length with
   | zero =>
     obtain rfl:=h3 hn
     simp[fS31r0,fS31r1,fS31r2,fS31r3,fS31r4,fS31r5,fS31r6,fS31r7,fS31r8,fS31r9,fS31r10,fS31r11,fS31r12,fS31r13,fS31r14,fS31r15,fS31b0,fS31r16,fS31b1,fS31b2,fS31r17,fS31b3,fS31r18,fS31,hE,hn,slV]
   |succ n=>simp[fS31r0,fS31r1,fS31r2,fS31r3,fS31r4,fS31r5,fS31r6,fS31r7,fS31r8,fS31r9,fS31r10,fS31r11,fS31r12,fS31r13,fS31r14,fS31r15,fS31b0,fS31r16,fS31b1,fS31b2,fS31r17,fS31b3,fS31r18,fS31,hE,hn,slV]
 · subst h
   simp[fS31r0,fS31r1,fS31r2,fS31r3,fS31r4,fS31r5,fS31r6,fS31r7,fS31r8,fS31r9,fS31r10,fS31r11,fS31r12,fS31r13,fS31r14,fS31r15,fS31b0,fS31r16,fS31b1,fS31b2,fS31r17,fS31b3,fS31r18,fS31,hE]
end
end
end Go.Proofs.YthfcfmkdeheicaaGreat
/- The reference's solving of equations,joined;equations that tapes make. -/
namespace Go.Proofs.YthfcfmkdeheicaaGreat
open Go.J
open Go.J.Enc (enc)
set_option maxRecDepth 100000
set_option maxHeartbeats 1000000
def eqnsM (t:Tp) (D:List Decl):Nat→Tp×List Equation
 | 0=>(t,[])
 | i+1 =>
   let p:=eqnsM t D i
   let a:=typeM 2 p.1 D (varTs 4)
   let b:=typeM 2 a.1 D (varTs 4++[tRigid 0 0])
   (b.1,p.2++[⟨a.2,b.2⟩])
theorem eqnsM_ok{t:Tp}(h:t.ok)(D:List Decl)(i:Nat):(eqnsM t D i).1.ok∧(eqnsM t D i).2.length=i:=by
 induction i with
 |zero=>exact⟨h,rfl⟩
 | succ i ih =>
   unfold eqnsM
   dsimp only
   exact⟨(typeM_ok _ _ (typeM_ok _ _ ih.1).1).1,by simp[ih.2]⟩
theorem eqnsM_nc{t:Tp}{D:List Decl}(hD:DOk3 D)(hv:DVal D)(i:Nat):∀ u∈sides (eqnsM t D i).2,Nc 7 u∧Vd 4 u:=by
 induction i with
 |zero=>intro u hu;cases hu
 | succ i ih =>
   intro u hu
   unfold eqnsM at hu
   dsimp only at hu
   rw[sides_app]at hu
   have hl:∀ l∈varTs 4++[tRigid 0 0],Vd 4 l:=fun l hl=>by
    rcases List.mem_append.1 hl with hl|hl
    · exact vd_varTs (by omega) (by omega) l hl
    · rw[List.mem_singleton.1 hl];exact vd_rigid (by decide)
   rcases List.mem_append.1 hu with hu|hu
   · exact ih u hu
   · simp only[sides,List.mem_cons,List.not_mem_nil,or_false]at hu
     rcases hu with rfl|rfl
     · exact⟨typeM_nc hD (varTs_nc 4) 2 _ (by decide),vd_type hv (fun l hl=>vd_varTs (by omega) (by omega) l hl) 2 _⟩
     · exact⟨typeM_nc hD (leaves_nc (nc_rigid _ _ (Nat.le_refl _))) 2 _ (by decide),vd_type hv hl 2 _⟩
theorem sizes_mul{B:Nat}:∀ {l:List Ty},(∀ u∈l,u.size≤B)→Ty.sizes l≤l.length*B:=by
 intro l
 induction l with
 |nil=>intro _;simp[Ty.sizes]
 | cons u l ih =>
   intro h
   have h1:=h u (List.mem_cons_self ..)
   have h2:=ih fun w hw=>h w (List.mem_cons_of_mem _ hw)
   simp only[Ty.sizes,List.length_cons,Nat.add_mul]
   omega
theorem eqs_of{l:List Equation}{B:Nat}{n:Nat}(hl:l.length≤20)(hB:B≤100)(hn:n≤7)(h:∀ u∈sides l,Nc B u∧Vd n u):EqsOk l∧(varsM (sides l)).length≤n:=by
 have hp:∀ u∈sides l,u.vplain=true:=fun u hu=>(h u hu).1.pl
 have heq:∀ u∈sides l,EqOk (varsM (sides l)) u:=fun u hu=>⟨hp u hu,(h u hu).2.1,fun j hj=>(mem_vars hp j).2 ⟨u,hu,hj⟩⟩
 refine⟨⟨fun u hu=>(h u hu).1.ok,fun q hq=>⟨heq _ (sides_l hq).1,heq _ (sides_l hq).2⟩,by omega,?_⟩,vd_vars hp fun u hu=>(h u hu).2⟩
 have h1:=sizes_mul (B:=100) fun u hu=>Nat.le_trans (h u hu).1.sz hB
 rw[sides_len]at h1
 omega
open Classical in
def eqnsF(t:Tp)(D:List Decl)(n:Int):Option (Tp×List Equation):=if t.ok∧DOk D∧0≤n∧n≤20 then some (eqnsM t D n.toNat)else none
def made18D(bits:Int)(codes:List Int)(n:Int):EmbD where
 k:=0
 k':=1
 π:=fun i=>i
 OL:=[]
 OL':=[(0,box (Cel.cells (eqnsM ⟨codes,0⟩ (datasOf bits) (modI n 6).toNat).1))]
 vs0:=[enc bits,enc codes,enc n]
 v0:=.tuple [enc (eqnsM ⟨codes,0⟩ (datasOf bits) (modI n 6).toNat).2,.ptr 0 0 0]
def made18M(vs:List V)(hs:HS):Option EmbD:=match vs with
 | [bv,cv,nv]=>ob (Enc.dec bv:Option Int) fun bits=>ob (Enc.dec cv:Option (List Int)) fun codes=>ob (Enc.dec nv:Option Int) fun n=>gd (et (Nat.ble (lenL codes) 60) (vacant hs hs.n)) (some (made18D bits codes n))
 |_=>none
@[simp] theorem made18M_n {bv cv nv:V} {hs:HS}:made18M [bv,cv,nv] hs=ob (Enc.dec bv:Option Int) fun bits=>ob (Enc.dec cv:Option (List Int)) fun codes=>ob (Enc.dec nv:Option Int) fun n=>gd (et (Nat.ble (lenL codes) 60) (vacant hs hs.n)) (some (made18D bits codes n)):=(rfl)
theorem made18D_val{bits:Int}{codes:List Int}{n:Int}{hs:HS}{l:List Equation}{t:Tp}(h:eqnsM ⟨codes,0⟩ (datasOf bits) (modI n 6).toNat=(t,l)):(made18D bits codes n).val hs=.tuple [enc l,.ptr hs.n 0 0]:=by
 have e:(made18D bits codes n).v0=.tuple [enc l,.ptr 0 0 0]:=by show V.tuple _=_;rw[h]
 show (made18D bits codes n).v0.ren _=_
 rw[e]
 show V.tuple [(enc l:V).ren2 _,(V.ptr 0 0 0).ren2 _]=_
 rw[V.ren2_none (show (enc l:V).in2 (fun _=>false)=true from rfl)]
 rfl
theorem made18D_heap{bits:Int}{codes:List Int}{n:Int}{hs:HS}{l:List Equation}{t:Tp}(h:eqnsM ⟨codes,0⟩ (datasOf bits) (modI n 6).toNat=(t,l)):(made18D bits codes n).heap hs={ H:=hs.H.set hs.n (box (Cel.cells t)),n:=hs.n+1,log:=hs.n::hs.log }:=by
 have e:(made18D bits codes n).OL'=[(0,box (Cel.cells t))]:=by show [(0,_)]=_;rw[h]
 show embH hs 0 1 _ (made18D bits codes n).OL'=_
 rw[e]
 show ({ H:=hs.H.set (news hs.n 0 (fun i=>i) 0) ((box (Cel.cells t)).ren _),n:=hs.n+1,log:=[news hs.n 0 (fun i=>i) 0]++hs.log }:HS)=_
 rfl
section
variable {ρ:Nat→Value}(hρ:J.Good ρ)
include hρ
section
variable {E:Env}(hE:E.P=Tryz.prog)(hcon:ConsOk ρ E)
include hE hcon
theorem make_Tape_Equations_run(hv:E.con 16=mkVarsS)(hr:E.con 58=fnS (spec2 fun h i:Int=>some (tRigid h i)))(ht:E.con 15=stS (stF3 (typeF 2)))
 {t:Tp} {D:List Decl} {n:Nat} (hto:t.ok) (hD:DOk D) (hn100:n≤20) {hs:HS} {id:Nat} (hid:id<hs.n) (hg:hs.H.get id=some (box (Cel.cells t))) :
 CallOk ρ Tryz.prog 80 [.ptr id 0 0,enc D,enc (n:Int)] hs (enc (eqnsM t D n).2) (hs.wr id (box (Cel.cells (eqnsM t D n).1))):=by
 rw[← hE]
 refine st_runF hρ hcon (by rw[hE];exact follows) (by rw[hE];exact named) (by rw[hE];exact Tryz.func80) fB80 rfl (by simp) (by simp) (by simp) (by simp[V.in3,V.in2,V.in1]) ?_ hid hg
 clear hg hid
 have hlv:=varTs_len 4
 have hF1:∀ u:Tp,u.ok→typeF 2 u D (varTs 4) 2=some (typeM 2 u D (varTs 4)):=fun u hu=>if_pos ⟨hu,hD,by simp,by decide⟩
 have hF2:∀ u:Tp,u.ok→typeF 2 u D (varTs 4++[tRigid 0 0]) 2=some (typeM 2 u D (varTs 4++[tRigid 0 0])):=fun u hu=>if_pos ⟨hu,hD,by simp,by decide⟩
 simp[fS80r0,fS80r1,fS80r2,fS80r3,fS80r4,fS80r5,fS80b0,fS80r6,fS80b1,fS80r7,fS80,hE]
 refine lpi hρ hE hcon n (nn:=2) (fun i (X:Tp×List Equation)=>[(0,.ptr 0 0 0),(1,.sl (D.map encDecl) false),(2,.int .i64 (n:Int)),(7,oV 1 (X.2.map encEquation)),(8,.int .i64 (i:Int))])
  (fun i X=>[(0,box (Cel.cells X.1))]++oH 1 10 (X.2.map encEquation)) (fun i X=>eqnsM t D i=X∧X.1.ok) (t,[])
  (Less.auto (by simp) (by simp) rfl rfl) ⟨rfl,hto⟩ ?_ ?_
 · rintro ⟨u,X⟩ ⟨h1,h2⟩ K
   rw[h1]
   simp only at h2
   rcases X with _|⟨x,X⟩
   · simp[fS80l0,fS80r0,fS80r1,fS80r2,fS80r3,fS80r4,fS80r5,fS80b0,fS80r6,fS80b1,fS80r7,fS80,hE]
     refine LessQ.mk (Less.auto (TL:=[(7,.snil)]) (HL:=[(0,box (Cel.cells u))]) (n:=1) (by simp) (by simp) rfl rfl) ?_
     simp[fS80r0,fS80r1,fS80r2,fS80r3,fS80r4,fS80r5,fS80b0,fS80r6,fS80b1,fS80r7,fS80,hE]
     exact GivesF.keep rfl rfl (by simp[still2]) (by simp[ownB])
   · simp[fS80l0,fS80r0,fS80r1,fS80r2,fS80r3,fS80r4,fS80r5,fS80b0,fS80r6,fS80b1,fS80r7,fS80,hE]
     refine LessQ.mk (Less.auto (TL:=[(7,oV 1 ((x::X).map encEquation))]) (HL:=[(0,box (Cel.cells u))]++oH 1 10 ((x::X).map encEquation)) (n:=2) (by simp) (by simp) rfl rfl) ?_
     simp[fS80r0,fS80r1,fS80r2,fS80r3,fS80r4,fS80r5,fS80b0,fS80r6,fS80b1,fS80r7,fS80,hE]
     exact GivesF.keep rfl rfl (by simp[still2]) (by simp[ownB])
 · rintro i ⟨u,X⟩ hi ⟨h1,h2⟩ K hK
   simp only at h2
   have hi':(i:Int)<n:=by omega
   have hw0:IntKind.i64.wrap 1=1:=rfl
   have hw2:IntKind.i64.wrap ((i:Int)+1)=((i+1:Nat):Int):=wrap_succ (by omega)
   have hXl:X.length=i:=by have:=(eqnsM_ok hto D i).2;rw[h1]at this;exact this
   have hA:=hF1 u h2
   have ho1:=(typeM_ok (D:=D) (Lv:=varTs 4) 2 u h2).1
   have hsi:eqnsM t D (i+1)=((typeM 2 (typeM 2 u D (varTs 4)).1 D (varTs 4++[tRigid 0 0])).1,X++[⟨(typeM 2 u D (varTs 4)).2,(typeM 2 (typeM 2 u D (varTs 4)).1 D (varTs 4++[tRigid 0 0])).2⟩]):=by
    rw[eqnsM,h1]
   rcases hq1:typeM 2 u D (varTs 4)with⟨u1,y⟩
   rw[hq1]at hA ho1 hsi
   simp only at ho1 hsi
   have hB:=hF2 u1 ho1
   have ho2:=(typeM_ok (D:=D) (Lv:=varTs 4++[tRigid 0 0]) 2 u1 ho1).1
   rcases hq2:typeM 2 u1 D (varTs 4++[tRigid 0 0])with⟨u2,z⟩
   rw[hq2]at hB ho2 hsi
   simp only at ho2 hsi
   have hnew:=hK (u2,X++[⟨y,z⟩]) ⟨hsi,ho2⟩
   clear hK hF1 hF2 hsi h1 hq1 hq2
   generalize hV:varTs 4=W at hA hB hlv
   rcases W with _|⟨v,W⟩
   · simp at hlv
   have h64:(W.length+1+1)*64≤1048576:=Nat.le_trans (Nat.mul_le_mul_right 64 (show W.length+1+1≤102 by simp only[List.length_cons]at hlv;omega)) (by decide)
   rw[List.cons_append]at hB
   rcases X with _|⟨x,X⟩
   · simp only[List.nil_append]at hnew
     simp[fS80l0,fS80r0,fS80r1,fS80r2,fS80r3,fS80r4,fS80r5,fS80b0,fS80r6,fS80b1,fS80r7,fS80,hE,hi,hi',hv,hr,ht,mkVarsS,hV,hA,hB,h64,Nat.not_succ_le_self,vacant_eq,hw2,-Int.natCast_add]
     refine⟨rfl,?_⟩
     exact hnew _ _ (Less.auto (by simp[hw0,-Int.natCast_add]) (by simp) rfl rfl)
   · have h128:(X.length+1+1)*128≤1048576:=Nat.le_trans (Nat.mul_le_mul_right 128 (show X.length+1+1≤102 by simp only[List.length_cons]at hXl;omega)) (by decide)
     simp[fS80l0,fS80r0,fS80r1,fS80r2,fS80r3,fS80r4,fS80r5,fS80b0,fS80r6,fS80b1,fS80r7,fS80,hE,hi,hi',hv,hr,ht,mkVarsS,hV,hA,hB,h64,h128,Nat.not_succ_le_self,vacant_eq,hw2,-Int.natCast_add]
     refine⟨rfl,?_⟩
     exact hnew _ _ (Less.auto (by simp[hw0,-Int.natCast_add]) (by simp) rfl rfl)
theorem law18_made_run(h3:E.con 12=fnS (spec1 fun bits:Int=>some (datasOf bits)))(h4:E.con 14=modS)(h5:E.con 80=stS (stF2 eqnsF)){bits:Int}{codes:List Int}{n:Int}(hl:codes.length≤60){hs:HS}(hvac:hs.H.get hs.n=none) :
 CallOk ρ Tryz.prog 29 [enc bits,enc codes,enc n] hs ((made18D bits codes n).v0.ren (news hs.n 0 fun i=>i)) (embH hs 0 1 (fun i=>i) (made18D bits codes n).OL'):=by
 have htp:(⟨codes,0⟩:Tp).ok:=⟨Int.le_refl _,by show codes.length≤100000;omega⟩
 have hDk:=datasOf_ok bits
 have hm0:0≤modI n 6∧modI n 6<6:=⟨modI_nonneg n 6,modI_lt (by decide)⟩
 rcases hm:eqnsM ⟨codes,0⟩ (datasOf bits) (modI n 6).toNat with⟨rt,rl⟩
 have hv0:(made18D bits codes n).v0=.tuple [enc rl,.ptr 0 0 0]:=by show V.tuple _=_;rw[hm]
 have hOL:(made18D bits codes n).OL'=[(0,box (Cel.cells rt))]:=by show [(0,_)]=_;rw[hm]
 refine em hρ hE hcon (D:=made18D bits codes n) Tryz.func29 fB29 rfl ⟨rfl,rfl,Nat.zero_le _,fun p hp=>(by cases hp),fun p hp=>?_,?_,fun v hv=>?_⟩ ?_ ⟨rfl,fun i j hi=>absurd hi (Nat.not_lt_zero _),fun p hp=>(by cases hp),fun i hi=>?_,fun i hi=>absurd hi (Nat.not_lt_zero _)⟩
 · obtain rfl:=List.mem_singleton.1 hp
   exact⟨rfl,rfl⟩
 · rw[hv0,hOL]
   show ([enc rl,V.ptr 0 0 0].all (V.in2 _))=true
   rfl
 · have hv:v∈[(enc bits:V),enc codes,enc n]:=hv
   simp only[List.mem_cons,List.not_mem_nil,or_false]at hv
   rcases hv with rfl|rfl|rfl<;>rfl
 · rw[hv0,hOL]
   show Wp ρ E 0 _ _ _ { H:=mkP [],n:=0,log:=[] } (J.Leaves _ _ (GivesL 0 _ _))
   rw[show Tryz.f29.ntmps=19 from rfl]
   have f1:eqnsF ⟨codes,0⟩ (datasOf bits) (modI n 6)=some (rt,rl):=by rw[← hm];exact if_pos ⟨htp,hDk,hm0.1,by omega⟩
   have hm6:modI n 6=modI n 6:=rfl
   generalize hDq:datasOf bits=D at f1
   generalize hmq:modI n 6=m at f1 hm6
   simp[fS29r0,fS29r1,fS29r2,fS29,hE,h3,hDq,h4,modS,hmq,h5,f1]
   exact GivesL.litX (fun k=>if k=0 then 4 else k) rfl rfl ⟨rfl,rfl⟩ (by simp)
 · obtain rfl:i=0:=Nat.lt_one_iff.1 hi
   exact hvac
end
theorem vSolve18:Valid ρ Tryz.prog 31 (fnS (spec1 rs18F)):=v1 (fo Tryz.func31 fB31) fun a r h hs=>by
 obtain⟨⟨h1,h2⟩,rfl⟩:=ite_inv h
 exact ref18_Solve_run hρ (E:=EL [(88,fnS (spec2 applyU)),(89,fnS (spec1 (nodesF 4000000000000000000))),(52,fnS (spec1 fun i:Int=>some (tVar i))),(90,fnS (spec2 rutF)),(44,fnS (spec2 cpF)),(32,fnS (spec1 ev18F))]) rfl
  (consOk_list (valid_cons (vApplyU hρ) (valid_cons (vNodes hρ 4000000000000000000) (valid_cons (vVar hρ) (valid_cons (vUnify15 hρ) (valid_cons (vCompose13 hρ) (valid_cons (vEqVars18 hρ) valid_nil))))))) rfl rfl rfl rfl rfl rfl h1 h2 hs
theorem vEquations:Valid ρ Tryz.prog 80 (stS (stF2 eqnsF)):=s2 (fo Tryz.func80 fB80) fun s a b q h hs id hid hg=>by
 obtain⟨⟨h1,h2,h3,h4⟩,rfl⟩:=ite_inv h
 obtain⟨n,rfl⟩:=Int.eq_ofNat_of_zero_le h3
 exact make_Tape_Equations_run hρ (E:=EL [(16,mkVarsS),(58,fnS (spec2 fun h i:Int=>some (tRigid h i))),(15,stS (stF3 (typeF 2)))]) rfl
  (consOk_list (valid_cons (vMkVars hρ) (valid_cons (vRigid hρ) (valid_cons (vType hρ 2 (by omega)) valid_nil)))) rfl rfl rfl h1 h2 (by omega) hid hg
theorem vMade18:Valid ρ Tryz.prog 29 (embS made18M):=Valid.emb (fo Tryz.func29 fB29) fun vs hs D h=>by
 unfold made18M at h
 split at h
 · simp only[ob_eq,gd_eq,et_true,ble_true,vacant_eq,lenL_eq]at h
   obtain⟨bits,hb,codes,hc,n,hn,⟨h1,h2⟩,h⟩:=h
   cases h
   rw[Enc.enc_dec _ _ hb,Enc.enc_dec _ _ hc,Enc.enc_dec _ _ hn]
   exact law18_made_run hρ (E:=EL [(12,fnS (spec1 fun bits:Int=>some (datasOf bits))),(14,modS),(80,stS (stF2 eqnsF))]) rfl
    (consOk_list (valid_cons (vDatas hρ) (valid_cons (vMod hρ) (valid_cons (vEquations hρ) valid_nil)))) rfl rfl rfl h1 h2
 · cases h
end
end Go.Proofs.YthfcfmkdeheicaaGreat
/- Whether a substitution solves equations: in the program and in the reference. -/
namespace Go.Proofs.YthfcfmkdeheicaaGreat
open Go.J
open Go.J.Enc (enc)
set_option maxRecDepth 100000
set_option maxHeartbeats 1000000
def treN(t:Ty)(s:List Assign):Option Ty:=if t.ok=true∧s.length≤100000 then some (t.reb (leafR s))else none
def sapF(s:List Assign)(t:Ty):Option Ty:=if t.ok=true∧t.vplain=true∧s.length≤100000 then some (t.repl s)else none
def teN(a b:Ty):Option Bool:=if a.ok=true∧b.ok=true then some (decide (a=b))else none
def neB(s:List Assign)(q:Equation):Bool:=!decide (q.left.repl s=q.right.repl s)
def neX(s:List Assign):List Equation→Int→Int
 | [],_=>-1
 |q::l,i=>if neB s q=true then i else neX s l (i+1)
theorem neX_any(s:List Assign):∀ (l:List Equation) (i:Int),0≤i→decide (0≤neX s l i)=l.any (neB s):=by
 intro l
 induction l with
 |nil=>intro i _;rfl
 | cons x l ih =>
   intro i hi
   rw[neX,List.any_cons]
   by_cases h:neB s x=true
   · rw[if_pos h,h,Bool.true_or];exact decide_eq_true hi
   · rw[if_neg h,ih (i+1) (by omega)]
     have:neB s x=false:=by simpa using h
     rw[this,Bool.false_or]
def SdOk(q:Equation):Prop:=(q.left.ok=true∧q.left.vplain=true)∧q.right.ok=true∧q.right.vplain=true
structure UnC(s:List Assign)(l:List Equation):Prop where
 ok:okA s
 sl:s.length≤8000
 sd:∀ q∈l,SdOk q
 ll:l.length≤1000
open Classical in
def un1(c av:V):Option V:=ob (Enc.dec c:Option (List Assign)) fun s=>ob (Enc.dec av:Option Equation) fun q=>if okA s∧s.length≤8000∧SdOk q then some (.bool (neB s q))else none
open Classical in
def un2(c av:V):Option V:=ob (Enc.dec c:Option (List Assign)) fun s=>ob (Enc.dec av:Option (List Equation)) fun l=>if UnC s l then some (.int .i64 (neX s l 0))else none
open Classical in
def un3(c av:V):Option V:=ob (Enc.dec c:Option (List Assign)) fun s=>ob (Enc.dec av:Option (List Equation)) fun l=>if UnC s l then some (.bool (l.any (neB s)))else none
open Classical in
def unF(s:List Assign)(l:List Equation):Option Bool:=if UnC s l then some (!(l.any (neB s)))else none
def un1S:J.Spec:=rdE (cxM none un1)
def un2S:J.Spec:=rdE (cxM (some 94) un2)
def un3S:J.Spec:=rdE (cxM (some 94) un3)
section
variable {ρ:Nat→Value}(hρ:J.Good ρ)
include hρ
section
variable {E:Env}(hE:E.P=Tryz.prog)(hcon:ConsOk ρ E)
include hE hcon
theorem subst_Apply_frz(hR:E.con 130=fnS (spec2 treN)){s:List Assign}{t:Ty}(ht:t.ok=true)(hp:t.vplain=true)(hl:s.length≤100000)(hs:HS):CallOk ρ Tryz.prog 95 [enc s,enc t] hs (enc (t.repl s)) hs:=by
 refine fn hρ hE hcon Tryz.func95 fB95 rfl (by simp) ?_ hs
 have e:t.reb (leafR s)=t.repl s:=reb_repl s t (vplain_leafy t hp)
 have hF:treN t s=some (t.repl s):=by rw[← e];exact if_pos ⟨ht,hl⟩
 generalize t.repl s=r at hF
 obtain⟨tk,tn,ti,th,tl⟩:=t
 obtain⟨rk,rn,ri,rh,rl⟩:=r
 simp[fS95r0,fS95r1,fS95,hE,hR,hF]
theorem ref18_Unifies_run(hA:E.con 88=fnS (spec2 applyU))(hq:E.con 23=fnS (spec2 eqN)){s:List Assign}{l:List Equation}(h:UnC s l)(hs:HS):CallOk ρ Tryz.prog 37 [enc s,enc l] hs (enc (!(l.any (neB s)))) hs:=by
 refine fn hρ hE hcon Tryz.func37 fB37 rfl (by simp) ?_ hs
 obtain⟨h1,h2,h3,h4⟩:=h
 generalize hB:l.any (neB s)=B
 simp[fS37r0,fS37r1,fS37r2,fS37r3,fS37r4,fS37b0,fS37r5,fS37b1,fS37r6,fS37,hE]
 refine lpi hρ hE hcon l.length (nn:=0) (fun i (_:Unit)=>[(0,.sl (s.map encAssign) false),(1,.sl (l.map encEquation) false),(5,.int .i64 (i:Int))]) (fun _ _=>[]) (fun i _=>(l.drop i).any (neB s)=B) ()
  (Less.auto (by simp) (by simp) (by simp) (by simp)) (by simpa using hB) ?_ ?_
 · intro _ h K
   rw[List.drop_length]at h
   have h:false=B:=h
   subst h
   simp[fS37l0,fS37r0,fS37r1,fS37r2,fS37r3,fS37r4,fS37b0,fS37r5,fS37b1,fS37r6,fS37,hE]
   refine LessQ.mk (Less.auto (TL:=[]) (HL:=[]) (n:=0) (by simp) (by simp) (by simp) (by simp)) ?_
   simp[fS37r0,fS37r1,fS37r2,fS37r3,fS37r4,fS37b0,fS37r5,fS37b1,fS37r6,fS37,hE]
 · intro i _ hi h K hK
   have hi':(i:Int)<l.length:=by omega
   have hw2:IntKind.i64.wrap ((i:Int)+1)=((i+1:Nat):Int):=wrap_succ (by omega)
   have ha0:(i*10) / 10=i:=by omega
   have ha1:(i*10) % 10=0:=by omega
   have ha2:(i*10+5) / 10=i:=by omega
   have ha3:(i*10+5) % 10=5:=by omega
   rw[List.drop_eq_getElem_cons hi,List.any_cons]at h
   obtain⟨⟨oa,pa⟩,ob,pb⟩:=h3 _ (List.getElem_mem hi)
   obtain⟨q,hx⟩:∃ q,l[i]=q:=⟨_,rfl⟩
   rw[hx]at h oa pa ob pb
   obtain⟨a,b⟩:=q
   simp only at oa pa ob pb
   have f1:applyU s a=some (a.repl s):=if_pos ⟨oa,by omega⟩
   have f2:applyU s b=some (b.repl s):=if_pos ⟨ob,by omega⟩
   have f3:eqN (a.repl s) (b.repl s)=some (decide (a.repl s=b.repl s)):=if_pos (repl_ok h1 a oa)
   have hne:neB s ⟨a,b⟩=!decide (a.repl s=b.repl s):=rfl
   rw[hne]at h
   generalize hd:decide (a.repl s=b.repl s)=d at f3 h
   generalize a.repl s=x at f1 f3
   generalize b.repl s=y at f2 f3
   obtain⟨ak,an,ai,ah,al⟩:=a
   obtain⟨bk,bn,bi,bh,bl⟩:=b
   obtain⟨xk,xn,xi,xh,xl⟩:=x
   obtain⟨yk,yn,yi,yh,yl⟩:=y
   cases d with
   | false =>
     have h:true=B:=h
     subst h
     simp[fS37l0,fS37r0,fS37r1,fS37r2,fS37r3,fS37r4,fS37b0,fS37r5,fS37b1,fS37r6,fS37,hE,hi,hi',ha0,ha1,ha2,ha3,hx,hA,f1,f2,hq,f3]
     refine LessQ.mk (Less.auto (TL:=[(4,.bool false)]) (HL:=[]) (n:=0) (by simp) (by simp) (by simp) (by simp)) ?_
     simp[fS37r0,fS37r1,fS37r2,fS37r3,fS37r4,fS37b0,fS37r5,fS37b1,fS37r6,fS37,hE]
   | true =>
     have hnew:=hK () h
     simp[fS37l0,fS37r0,fS37r1,fS37r2,fS37r3,fS37r4,fS37b0,fS37r5,fS37b1,fS37r6,fS37,hE,hi,hi',ha0,ha1,ha2,ha3,hx,hA,f1,f2,hq,f3,hw2,-Int.natCast_add]
     exact hnew _ _ (Less.auto (by simp[-Int.natCast_add]) (by simp) (by simp) (by simp))
theorem solve_Unifies_1_w(hA:E.con 95=fnS (spec2 sapF))(hq:E.con 63=fnS (spec2 teN)){s:List Assign}{q:Equation}(h1:okA s)(h2:s.length≤8000)(h3:SdOk q) :
 Wp ρ E 1 14 fS94 ((PT.leaf.set 0 (enc q)).set 1 (.ptr 0 0 0)) { H:=mkP [(0,capB (enc s))],n:=1,log:=[] } (J.Leaves E.P Tryz.f94 (GivesL 1 (.bool (neB s q)) [(0,capB (enc s))])):=by
 obtain⟨a,b⟩:=q
 obtain⟨⟨oa,pa⟩,ob,pb⟩:=h3
 simp only at oa pa ob pb
 have f1:sapF s a=some (a.repl s):=if_pos ⟨oa,pa,by omega⟩
 have f2:sapF s b=some (b.repl s):=if_pos ⟨ob,pb,by omega⟩
 have f3:teN (a.repl s) (b.repl s)=some (decide (a.repl s=b.repl s)):=if_pos ⟨repl_ok h1 a oa,repl_ok h1 b ob⟩
 have hne:neB s ⟨a,b⟩=!decide (a.repl s=b.repl s):=rfl
 rw[hne]
 generalize hd:decide (a.repl s=b.repl s)=d at f3
 generalize a.repl s=x at f1 f3
 generalize b.repl s=y at f2 f3
 obtain⟨ak,an,ai,ah,al⟩:=a
 obtain⟨bk,bn,bi,bh,bl⟩:=b
 obtain⟨xk,xn,xi,xh,xl⟩:=x
 obtain⟨yk,yn,yi,yh,yl⟩:=y
 simp[fS94r0,fS94r1,fS94,hE,hA,f1,f2,hq,f3]
 exact GivesL.keep rfl rfl (by simp) (by simp) (by simp)
theorem IndexFunc_eqs_w(h2:E.con 94=un1S){s:List Assign}{l:List Equation}(h:UnC s l) :
 Wp ρ E 1 19 fS129 ((PT.leaf.set 0 (enc l)).set 1 (.func 94 [.ptr 0 0 0])) { H:=mkP [(0,capB (enc s))],n:=1,log:=[] } (J.Leaves E.P Tryz.f129 (GivesL 1 (.int .i64 (neX s l 0)) [(0,capB (enc s))])):=by
 obtain⟨k1,k2,k3,k4⟩:=h
 generalize hR:neX s l 0=R
 simp[fS129r0,fS129r1,fS129r2,fS129r3,fS129r4,fS129r5,fS129b0,fS129r6,fS129b1,fS129r7,fS129,hE]
 refine lpi hρ hE hcon l.length (nn:=1) (fun i (_:Unit)=>[(0,.sl (l.map encEquation) false),(1,.func 94 [.ptr 0 0 0]),(7,.int .i64 (l.length:Int)),(8,.int .i64 (i:Int))])
  (fun _ _=>[(0,.arr 1 0 [[.sl (s.map encAssign) false]] true false false)]) (fun i _=>neX s (l.drop i) i=R) ()
  (Less.auto (by simp) (by simp) (by first|rfl|simp) (by first|rfl|simp)) (by simpa using hR) ?_ ?_
 · intro _ h K
   rw[List.drop_length,neX]at h
   subst h
   simp[fS129l0,fS129r0,fS129r1,fS129r2,fS129r3,fS129r4,fS129r5,fS129b0,fS129r6,fS129b1,fS129r7,fS129,hE]
   refine LessQ.mk (Less.auto (TL:=[]) (HL:=[(0,.arr 1 0 [[.sl (s.map encAssign) false]] true false false)]) (n:=1) (by simp) (by simp) (by first|rfl|simp) (by first|rfl|simp)) ?_
   simp[fS129r0,fS129r1,fS129r2,fS129r3,fS129r4,fS129r5,fS129b0,fS129r6,fS129b1,fS129r7,fS129,hE]
   exact GivesL.keep rfl rfl (by simp) (by simp) (by simp)
 · intro i _ hi h K hK
   have hi':(i:Int)<l.length:=by omega
   have hw2:IntKind.i64.wrap ((i:Int)+1)=((i+1:Nat):Int):=wrap_succ (by omega)
   have ha0:(i*10) / 10=i:=by omega
   have ha1:(i*10) % 10=0:=by omega
   rw[List.drop_eq_getElem_cons hi,neX]at h
   have hsd:=k3 _ (List.getElem_mem hi)
   obtain⟨q,hx⟩:∃ q,l[i]=q:=⟨_,rfl⟩
   rw[hx]at h hsd
   have hF:un1 (enc s) (enc q)=some (.bool (neB s q)):=by
    unfold un1
    simp only[Enc.dec_enc,J.ob_some]
    exact if_pos ⟨k1,k2,hsd⟩
   by_cases hq:neB s q=true
   · rw[if_pos hq]at h
     rw[hq]at hF
     subst h
     obtain⟨⟨ak,an,ai,ah,al⟩,⟨bk,bn,bi,bh,bl⟩⟩:=q
     simp[encEquation]at hF
     simp[fS129l0,fS129r0,fS129r1,fS129r2,fS129r3,fS129r4,fS129r5,fS129b0,fS129r6,fS129b1,fS129r7,fS129,hE,hi,hi',ha0,ha1,hx,h2,un1S,hF]
     refine LessQ.mk (Less.auto (TL:=[(4,.int .i64 (i:Int))]) (HL:=[(0,.arr 1 0 [[.sl (s.map encAssign) false]] true false false)]) (n:=1) (by simp) (by simp) (by first|rfl|simp) (by first|rfl|simp)) ?_
     simp[fS129r0,fS129r1,fS129r2,fS129r3,fS129r4,fS129r5,fS129b0,fS129r6,fS129b1,fS129r7,fS129,hE]
     exact GivesL.keep rfl rfl (by simp) (by simp) (by simp)
   · rw[if_neg hq]at h
     have hq':neB s q=false:=by simpa using hq
     rw[hq']at hF
     have hnew:=hK () (by rw[← h];congr 1)
     obtain⟨⟨ak,an,ai,ah,al⟩,⟨bk,bn,bi,bh,bl⟩⟩:=q
     simp[encEquation]at hF
     simp[fS129l0,fS129r0,fS129r1,fS129r2,fS129r3,fS129r4,fS129r5,fS129b0,fS129r6,fS129b1,fS129r7,fS129,hE,hi,hi',ha0,ha1,hx,h2,un1S,hF,hw2,-Int.natCast_add]
     exact hnew _ _ (Less.auto (by simp[-Int.natCast_add]) (by simp) (by first|rfl|simp) (by first|rfl|simp))
theorem ContainsFunc_eqs_w(h3:E.con 129=un2S){s:List Assign}{l:List Equation}(h:UnC s l) :
 Wp ρ E 1 9 fS93 ((PT.leaf.set 0 (enc l)).set 1 (.func 94 [.ptr 0 0 0])) { H:=mkP [(0,capB (enc s))],n:=1,log:=[] } (J.Leaves E.P Tryz.f93 (GivesL 1 (.bool (l.any (neB s))) [(0,capB (enc s))])):=by
 rw[← neX_any s l 0 (Int.le_refl _)]
 have hF:un2 (enc s) (enc l)=some (.int .i64 (neX s l 0)):=by
  unfold un2
  simp only[Enc.dec_enc,J.ob_some]
  exact if_pos h
 generalize neX s l 0=R at hF
 simp at hF
 simp[fS93r0,fS93r1,fS93,hE,h3,un2S,hF]
 exact GivesL.keep rfl rfl (by simp) (by simp) (by simp)
theorem solve_Unifies_run(h3:E.con 93=un3S){s:List Assign}{l:List Equation}(h:UnC s l)(hs:HS):CallOk ρ Tryz.prog 38 [enc s,enc l] hs (enc (!(l.any (neB s)))) hs:=by
 refine fn hρ hE hcon Tryz.func38 fB38 rfl (by simp) ?_ hs
 have hF:un3 (enc s) (enc l)=some (.bool (l.any (neB s))):=by
  unfold un3
  simp only[Enc.dec_enc,J.ob_some]
  exact if_pos h
 generalize l.any (neB s)=R at hF
 simp at hF
 simp[fS38r0,fS38r1,fS38,hE,h3,un3S,hF]
end
theorem vSApply:Valid ρ Tryz.prog 95 (fnS (spec2 sapF)):=v2 (fo Tryz.func95 fB95) fun a b r h hs=>by
 obtain⟨⟨h1,h2,h3⟩,rfl⟩:=ite_inv h
 exact subst_Apply_frz hρ (E:=EL [(130,replaceS)]) rfl (consOk_list (valid_cons (vTReplace hρ) valid_nil)) rfl h1 h2 h3 hs
theorem vUnifies18:Valid ρ Tryz.prog 37 (fnS (spec2 unF)):=v2 (fo Tryz.func37 fB37) fun a b r h hs=>by
 obtain⟨h1,rfl⟩:=ite_inv h
 exact ref18_Unifies_run hρ (E:=EL [(88,fnS (spec2 applyU)),(23,equalS)]) rfl (consOk_list (valid_cons (vApplyU hρ) (valid_cons (vEqual hρ) valid_nil))) rfl rfl h1 hs
theorem vUn1:Valid ρ Tryz.prog 94 un1S:=Valid.rdE (fo Tryz.func94 fB94) fun vs hs D h _=>by
 obtain⟨c,id,av,r,hF,rfl,hr,hg,hfit⟩:=cxM_inv h
 unfold un1 at hF
 simp only[ob_eq]at hF
 obtain⟨s,hs1,q,hq,hF⟩:=hF
 split at hF
 · rename_i hh
   cases hF
   have e1:=Enc.enc_dec _ _ hs1
   have e2:=Enc.enc_dec _ _ hq
   subst e1 e2
   have hcn:ConsOk ρ (EL [(95,fnS (spec2 sapF)),(63,tequalS)]):=consOk_list (valid_cons (vSApply hρ) (valid_cons (vTEqual hρ) valid_nil))
   exact rdG_run hρ hcn rfl named Tryz.func94 fB94 rfl hg rfl hr (solve_Unifies_1_w hρ (E:=EL [(95,fnS (spec2 sapF)),(63,tequalS)]) rfl hcn rfl rfl hh.1 hh.2.1 hh.2.2) hfit
 · cases hF
theorem vUn2:Valid ρ Tryz.prog 129 un2S:=Valid.rdE (fo Tryz.func129 fB129) fun vs hs D h _=>by
 obtain⟨c,id,av,r,hF,rfl,hr,hg,hfit⟩:=cxM_inv h
 unfold un2 at hF
 simp only[ob_eq]at hF
 obtain⟨s,hs1,q,hq,hF⟩:=hF
 split at hF
 · rename_i hh
   cases hF
   have e1:=Enc.enc_dec _ _ hs1
   have e2:=Enc.enc_dec _ _ hq
   subst e1 e2
   have hcn:ConsOk ρ (EL [(94,un1S)]):=consOk_list (valid_cons (vUn1 hρ) valid_nil)
   exact rdG_run hρ hcn rfl named Tryz.func129 fB129 rfl hg rfl hr (IndexFunc_eqs_w hρ (E:=EL [(94,un1S)]) rfl hcn rfl hh) hfit
 · cases hF
theorem vUn3:Valid ρ Tryz.prog 93 un3S:=Valid.rdE (fo Tryz.func93 fB93) fun vs hs D h _=>by
 obtain⟨c,id,av,r,hF,rfl,hr,hg,hfit⟩:=cxM_inv h
 unfold un3 at hF
 simp only[ob_eq]at hF
 obtain⟨s,hs1,q,hq,hF⟩:=hF
 split at hF
 · rename_i hh
   cases hF
   have e1:=Enc.enc_dec _ _ hs1
   have e2:=Enc.enc_dec _ _ hq
   subst e1 e2
   have hcn:ConsOk ρ (EL [(129,un2S)]):=consOk_list (valid_cons (vUn2 hρ) valid_nil)
   exact rdG_run hρ hcn rfl named Tryz.func93 fB93 rfl hg rfl hr (ContainsFunc_eqs_w hρ (E:=EL [(129,un2S)]) rfl hcn rfl hh) hfit
 · cases hF
theorem vUnifies:Valid ρ Tryz.prog 38 (fnS (spec2 unF)):=v2 (fo Tryz.func38 fB38) fun a b r h hs=>by
 obtain⟨h1,rfl⟩:=ite_inv h
 exact solve_Unifies_run hρ (E:=EL [(93,un3S)]) rfl (consOk_list (valid_cons (vUn3 hρ) valid_nil)) rfl h1 hs
end
end Go.Proofs.YthfcfmkdeheicaaGreat
