import Derived.Test.YtfgmnebfhemnpaaKXA
import Derived.Test.YtfgmnebfhemnpaaKX8
set_option linter.all false
noncomputable section
/- Tape.Subst,once more: it hands back a row that its caller writes on. -/
namespace Go.Proofs.Ytfgmnebfhemnpaa
open Go.J
open Go.J.Enc (enc)
set_option maxRecDepth 100000
set_option maxHeartbeats 1000000
def suK(X:List Assign):Nat:=match X with
 | []=>1
 |_::_=>2
def substRD(id:Nat)(D:List Decl)(n:Int)(t t2:Tp)(X:List Assign):EmbD where
 k:=1
 k':=suK X
 π:=fun _=>id
 OL:=[(0,box (Cel.cells t))]
 OL':=(0,box (Cel.cells t2))::oH 1 6 (X.map encAssign)
 vs0:=[.ptr 0 0 0,enc D,enc n]
 v0:=oV 1 (X.map encAssign)
def substRM(vs:List V)(hs:HS):Option EmbD:=match vs with
 | [.ptr id 0 0,dv,nv]=>ob (Enc.dec dv:Option (List Decl)) fun D=>ob (Enc.dec nv:Option Int) fun n=>ob (hs.H.get id) fun o=>ob (capO o) fun c=>ob (Cel.dec c:Option Tp) fun t=>ob (substF t D n) fun q =>
  gd (et (Nat.blt id hs.n) (vacant hs hs.n)) (some (substRD id D n t q.1 q.2))
 |_=>none
@[simp] theorem substRM_n {id:Nat} {dv nv:V} {hs:HS}:substRM [.ptr id 0 0,dv,nv] hs=ob (Enc.dec dv:Option (List Decl)) fun D=>ob (Enc.dec nv:Option Int) fun n=>ob (hs.H.get id) fun o=>ob (capO o) fun c=>ob (Cel.dec c:Option Tp) fun t=>ob (substF t D n) fun q =>
      gd (et (Nat.blt id hs.n) (vacant hs hs.n)) (some (substRD id D n t q.1 q.2)):=(rfl)
section
variable {ρ:Nat→Value}(hρ:J.Good ρ)
include hρ
section
variable {E:Env}(hE:E.P=Try.prog)(hcon:ConsOk ρ E)
include hE hcon
end
end
end Go.Proofs.Ytfgmnebfhemnpaa
/- The law SolvePrincipal: what its function computes. -/
namespace Go.Proofs.Ytfgmnebfhemnpaa
open Go.J
open Go.J.Enc (enc)
set_option maxRecDepth 100000
set_option maxHeartbeats 1000000
def V7:List Int:=[0,1,2,3,4,7,8]
structure Pv(B:Nat)(t:Ty):Prop where
 nc:Nc B t
 va:t.valid=true
 oc:∀ j,t.occ j=true→j∈V7
structure UOk(u:List Assign):Prop where
 el:∀ x∈u,Pv 3 x.type∧0≤x.id∧x.id<4
 len:u.length≤4
section
variable {ρ:Nat→Value}(hρ:J.Good ρ){E:Env}(hE:E.P=Try.prog)(hcon:ConsOk ρ E)
include hρ hE hcon
end
end Go.Proofs.Ytfgmnebfhemnpaa
/- The law SolveTurns,without the program: exchanged sides and another order do not matter. -/
namespace Go.Proofs.Ytfgmnebfhemnpaa
open Go.J
open Go.J.Enc (enc)
set_option maxRecDepth 100000
set_option maxHeartbeats 1000000
def swE(q:Equation):Equation:=⟨q.right,q.left⟩
theorem neB_sw(s:List Assign)(q:Equation):neB s (swE q)=neB s q:=by
 show (!decide (q.right.repl s=q.left.repl s))=(!decide (q.left.repl s=q.right.repl s))
 rw[decide_eq_decide.2 ⟨Eq.symm,Eq.symm⟩]
theorem any_sw{l m:List Equation}(h:∀ q∈m,swE q∈l){s:List Assign}(hl:l.any (neB s)=false):m.any (neB s)=false:=by
 cases hm:m.any (neB s)with
 |false=>rfl
 | true =>
   obtain⟨q,hq,hn⟩:=List.any_eq_true.1 hm
   have:l.any (neB s)=true:=List.any_eq_true.2 ⟨swE q,h q hq,by rw[neB_sw];exact hn⟩
   rw[hl]at this
   cases this
theorem vars_sw{l m:List Equation}(hl:EqsOk l)(hm:EqsOk m)(h:∀ q∈m,swE q∈l):∀ j∈varsM (sides m),j∈varsM (sides l):=by
 intro j hj
 obtain⟨t,ht,ho⟩:=(mem_vars (sides_plain hm) j).1 hj
 obtain⟨q,hq,e⟩:=sides_mem ht
 have hs:=sides_l (h q hq)
 refine(mem_vars (sides_plain hl) j).2 ⟨t,?_,ho⟩
 rcases e with rfl|rfl
 · exact hs.2
 · exact hs.1
theorem sp_gen{l m:List Equation}(hok:EqsOk l)(hW:(varsM (sides l)).length≤7)(hr:∀ j∈varsM (sides l),0≤j∧j≤1000000)(hom:EqsOk m)(hWm:(varsM (sides m)).length≤7)(hv:∀ j∈varsM (sides m),j∈varsM (sides l))
 (ham:∀ s:List Assign,l.any (neB s)=false→m.any (neB s)=false) {u:List Assign} (ou:okA u) (lu:u.length≤100) (hb:l.any (neB u)=false):(suM l).c=15∨((suM l).c=0∧prF (suM l).a m u=some true):=by
 obtain⟨k,T,σ,s1,s2,s3,s4⟩:=su_ok hok
 generalize suM l=p at *
 obtain⟨S,b,e⟩:=p
 simp only at s1 s2 s3 s4 ⊢
 have hsol:∀ q∈l,q.left.app (fnA u)=q.right.app (fnA u):=fun q hq=>by
  have h1:neB u q=false:=by
   cases h:neB u q with
   |false=>rfl
   |true=>rw[List.any_eq_true.2 ⟨q,hq,h⟩]at hb;cases hb
  have h2:q.left.repl u=q.right.repl u:=by
   unfold neB at h1
   simpa using h1
  rw[repl_app u _ (hok.eq q hq).1.1,repl_app u _ (hok.eq q hq).2.1]at h2
  exact h2
 obtain⟨_,g2⟩:=sl_ok l 0 tVar e k σ (sinv0 _) hok.eq s1
 rcases g2 (fnA u) (fun i=>app_tVar _ i) hsol with⟨he,hA⟩|he
 · subst he
   obtain⟨hT,_⟩:=s3 rfl
   rw[if_pos rfl]at s4
   have hs:=sol_ok hok hW hr s1 hT
   rw[← s4]at hs
   have hz:=sl_size l 0 tVar k σ (fun v _=>by simp[tVar,Ty.size,Ty.sizes]) s1
   have hfc:(fcL S u (varsM (sides m)) []).2=true:=by
    rw[s4]
    refine fc_ok _ _ (fun i hi=>?_) (fun i u h=>by cases h)
    rw[asgF_fn hT.props (hv i hi)]
    exact⟨hT.props.idem.plain i,hA i⟩
   have hpr:PrC S m u:=prC_of hom hWm hs.un.ok ou (by have:=hs.sl;omega) (by omega) fun i hi=>by
    rw[s4,asgF_fn hT.props (hv i hi)]
    have:=hz i (hv i hi)
    omega
   have hg:gfR S u (varsM (sides m))=((fcL S u (varsM (sides m)) []).1,true):=if_pos hfc
   refine .inr ⟨rfl,?_⟩
   have:prR S m u=true:=by
    unfold prR
    rw[if_neg (by rw[ham S hs.so,ham u hb];simp),hg]
   rw[← this]
   exact if_pos hpr
 · exact .inl he
theorem su_sol{l:List Equation}(hok:EqsOk l)(hW:(varsM (sides l)).length≤7)(hr:∀ j∈varsM (sides l),0≤j∧j≤1000000)(h0:(suM l).c=0):okA (suM l).a∧(suM l).a.length≤100∧l.any (neB (suM l).a)=false:=by
 obtain⟨k,T,σ,s1,s2,s3,s4⟩:=su_ok hok
 generalize suM l=p at *
 obtain⟨S,b,e⟩:=p
 simp only at s1 s2 s3 s4 h0 ⊢
 subst h0
 rw[if_pos rfl]at s4
 have hs:=sol_ok hok hW hr s1 (s3 rfl).1
 rw[← s4]at hs
 exact⟨hs.un.ok,by have:=hs.sl;omega,hs.so⟩
theorem turns_ok{l m:List Equation}(hok:EqsOk l)(hW:(varsM (sides l)).length≤7)(hr:∀ j∈varsM (sides l),0≤j∧j≤1000000)(hom:EqsOk m)(hWm:(varsM (sides m)).length≤7)(hrm:∀ j∈varsM (sides m),0≤j∧j≤1000000)
 (h1:∀ q∈m,swE q∈l) (h2:∀ q∈l,swE q∈m):(suM l).c=15∨(suM m).c=15∨((suM l).c≠0∧(suM m).c≠0)∨((suM l).c=0∧(suM m).c=0∧prF (suM l).a l (suM m).a=some true∧prF (suM m).a l (suM l).a=some true):=by
 by_cases e:(suM l).c=0
 · obtain⟨o1,o2,o3⟩:=su_sol hok hW hr e
   rcases sp_gen hom hWm hrm hok hW (vars_sw hom hok h2) (fun s h=>any_sw h2 h) o1 o2 (any_sw h1 o3)with f|⟨f,p2⟩
   · exact .inr (.inl f)
   · obtain⟨q1,q2,q3⟩:=su_sol hom hWm hrm f
     rcases sp_gen hok hW hr hok hW (fun j h=>h) (fun s h=>h) q1 q2 (any_sw h2 q3)with g|⟨_,p1⟩
     · exact .inl g
     · exact .inr (.inr (.inr ⟨e,f,p1,p2⟩))
 · by_cases f:(suM m).c=0
   · obtain⟨q1,q2,q3⟩:=su_sol hom hWm hrm f
     rcases sp_gen hok hW hr hok hW (fun j h=>h) (fun s h=>h) q1 q2 (any_sw h2 q3)with g|⟨g,_⟩
     · exact .inl g
     · exact absurd g e
   · exact .inr (.inr (.inl ⟨e,f⟩))
end Go.Proofs.Ytfgmnebfhemnpaa
/- The law SolveTurns: what its function computes. -/
namespace Go.Proofs.Ytfgmnebfhemnpaa
open Go.J
open Go.J.Enc (enc)
set_option maxRecDepth 100000
set_option maxHeartbeats 1000000
def turnL(l:List Equation):List Equation:=l.reverse.map swE
theorem swE_sw(q:Equation):swE (swE q)=q:=rfl
theorem turn_mem{l:List Equation}{q:Equation}:q∈turnL l↔swE q∈l:=by
 unfold turnL
 rw[List.mem_map]
 constructor
 · rintro ⟨x,hx,rfl⟩
   exact List.mem_reverse.1 hx
 · intro h
   exact⟨swE q,List.mem_reverse.2 h,rfl⟩
theorem turn_sides{l:List Equation}{u:Ty}(h:u∈sides (turnL l)):u∈sides l:=by
 obtain⟨q,hq,e⟩:=sides_mem h
 have hs:=sides_l (turn_mem.1 hq)
 rcases e with rfl|rfl
 · exact hs.2
 · exact hs.1
theorem turn_len(l:List Equation):(turnL l).length=l.length:=by simp[turnL]
theorem turn_at{l:List Equation}{j:Nat}(hj:j<l.length):(turnL l).take (j+1)=(turnL l).take j++[swE (l[l.length-1-j])]:=by
 have hj':j<(turnL l).length:=by rw[turn_len];exact hj
 rw[List.take_add_one,List.getElem?_eq_getElem hj']
 have e:(turnL l)[j]=swE (l[l.length-1-j]):=by simp[turnL]
 rw[e];rfl
section
variable {ρ:Nat→Value}(hρ:J.Good ρ){E:Env}(hE:E.P=Try.prog)(hcon:ConsOk ρ E)
include hρ hE hcon
theorem ST_loop{l:List Equation}(hl:l.length≤100){Q:Ex→PT V→HS→Prop}{T0:PT V}{hs0:HS}
 (h0:Less 0 T0 hs0 (mkP [(7,.sl (l.map encEquation) false),(9,.snil),(10,.int .i64 ((l.length:Int)-1))]) { H:=mkP [],n:=1,log:=[] })
 (hQ:Q (.exit 0) (mkP [(7,.sl (l.map encEquation) false),(9,oV 0 ((turnL l).map encEquation))]) { H:=mkP (oH 0 10 ((turnL l).map encEquation)),n:=1,log:=[] }) :
 Ls ρ E 0 89 (.loop fS3l0) T0 hs0 Q:=by
 refine lpi hρ hE hcon l.length (nn:=1) (fun i (m:List Equation)=>[(7,.sl (l.map encEquation) false),(9,oV 0 (m.map encEquation)),(10,.int .i64 ((l.length:Int)-1-(i:Int)))]) (fun i m=>oH 0 10 (m.map encEquation)) (fun i m=>m=(turnL l).take i) [] (by simpa using h0) rfl ?_ ?_
 · rintro m hm K
   rw[List.take_of_length_le (by rw[turn_len];exact Nat.le_refl _)]at hm
   subst hm
   have hn:(l.length:Int)-1-(l.length:Int)=-1:=by omega
   rw[hn]
   generalize turnL l=m at hQ
   rcases m with _|⟨x,m⟩
   · simp[fS3l0,fS3r0,fS3r1,fS3r2,fS3r3,fS3r4,fS3r5,fS3r6,fS3r7,fS3r8,fS3r9,fS3b0,fS3r10,fS3b1,fS3r11,fS3r12,fS3r13,fS3r14,fS3r15,fS3r16,fS3r17,fS3,hE]
     exact LessQ.mk (Less.auto (n:=1) (by simp) (by simp) rfl rfl) hQ
   · simp[fS3l0,fS3r0,fS3r1,fS3r2,fS3r3,fS3r4,fS3r5,fS3r6,fS3r7,fS3r8,fS3r9,fS3b0,fS3r10,fS3b1,fS3r11,fS3r12,fS3r13,fS3r14,fS3r15,fS3r16,fS3r17,fS3,hE]
     exact LessQ.mk (Less.auto (n:=1) (by simp) (by simp) rfl rfl) hQ
 · rintro i m hi hm K hK
   have hnew:=hK _ (turn_at hi).symm
   rw[← hm]at hnew
   have hml:m.length=i:=by rw[hm,List.length_take,turn_len];omega
   obtain⟨k,hk⟩:∃ k,l.length-1-i=k:=⟨_,rfl⟩
   have hkl:k<l.length:=by omega
   have hki:(l.length:Int)-1-(i:Int)=(k:Int):=by omega
   have hw2:IntKind.i64.wrap ((k:Int)-1)=(l.length:Int)-1-((i+1:Nat):Int):=by rw[wrap_i64 (by omega) (by omega)];omega
   have hge:¬ (k:Int)<0:=by omega
   rw[hki]
   simp only[hk]at hnew
   have hm5:(k*10) / 10=k:=by omega
   have hm6:(k*10) % 10=0:=by omega
   obtain⟨q,hq⟩:∃ q,l[k]=q:=⟨_,rfl⟩
   rw[hq]at hnew
   obtain⟨⟨ak,an,ai,ah,al⟩,⟨bk,bn,bi,bh,bl⟩⟩:=q
   have h128:(m.length+1)*128≤1048576:=Nat.le_trans (Nat.mul_le_mul_right 128 (show m.length+1≤101 by omega)) (by decide)
   clear hK hQ h0 hm
   rcases m with _|⟨x,m⟩
   · simp only[List.nil_append,swE]at hnew
     simp[fS3l0,fS3r0,fS3r1,fS3r2,fS3r3,fS3r4,fS3r5,fS3r6,fS3r7,fS3r8,fS3r9,fS3b0,fS3r10,fS3b1,fS3r11,fS3r12,fS3r13,fS3r14,fS3r15,fS3r16,fS3r17,fS3,hE,hge,hkl,hm5,hm6,hq,hw2,-Int.natCast_add]
     exact hnew _ _ (Less.auto (by simp[-Int.natCast_add]) (by simp) rfl rfl)
   · simp only[List.length_cons]at h128
     simp only[swE]at hnew
     simp[fS3l0,fS3r0,fS3r1,fS3r2,fS3r3,fS3r4,fS3r5,fS3r6,fS3r7,fS3r8,fS3r9,fS3b0,fS3r10,fS3b1,fS3r11,fS3r12,fS3r13,fS3r14,fS3r15,fS3r16,fS3r17,fS3,hE,hge,hkl,hm5,hm6,hq,hw2,h128,Nat.not_succ_le_self,-Int.natCast_add]
     exact hnew _ _ (Less.auto (by simp[-Int.natCast_add]) (by simp) rfl rfl)
theorem SolveTurns_run (h1:E.con 4=yesS) (h2:E.con 5=fewS) (h3:E.con 6=embS made18M) (h4:E.con 7=fnS (spec1 suF)) (h5:E.con 8=fnS (spec3 prF))
 {bits:Int} {codes:List Int} {n:Int} (hs:HS):CallOk ρ Try.prog 3 [enc bits,enc codes,enc n] hs (.bool true) hs:=by
 refine fn hρ hE hcon Try.func3 fB3 rfl (by simp) ?_ hs
 by_cases c1:codes.length≤60
 case neg=>simp[fS3r0,fS3r1,fS3r2,fS3r3,fS3r4,fS3r5,fS3r6,fS3r7,fS3r8,fS3r9,fS3b0,fS3r10,fS3b1,fS3r11,fS3r12,fS3r13,fS3r14,fS3r15,fS3r16,fS3r17,fS3,hE,h1,h2,yesS,fewS,c1]
 have htp:(⟨codes,0⟩:Tp).ok:=⟨Int.le_refl _,by show codes.length≤100000;omega⟩
 have hmn:(modI n 6).toNat≤5:=by have h1:=modI_nonneg n 6;have h2:modI n 6<6:=modI_lt (by decide);omega
 have hnc:=eqnsM_nc (t:=⟨codes,0⟩) (datasOf_ok3 bits) (datasOf_val bits) (modI n 6).toNat
 have hle:=(eqnsM_ok htp (datasOf bits) (modI n 6).toNat).2
 rcases hm:eqnsM ⟨codes,0⟩ (datasOf bits) (modI n 6).toNat with⟨t,l⟩
 rw[hm]at hnc hle
 simp only at hnc hle
 have hval:=fun hs=>made18D_val (hs:=hs) hm
 have hheap:=fun hs=>made18D_heap (hs:=hs) hm
 have hll:l.length≤5:=by omega
 obtain⟨hok,hW⟩:=eqs_of (l:=l) (B:=7) (n:=4) (by omega) (by decide) (by decide) hnc
 obtain⟨hom,hWm⟩:=eqs_of (l:=turnL l) (B:=7) (n:=4) (by rw[turn_len];omega) (by decide) (by decide) fun u hu=>hnc u (turn_sides hu)
 have hrg:∀ j∈varsM (sides l),0≤j∧j≤1000000:=fun j hj=>by
  obtain⟨u,hu,ho⟩:=(mem_vars (sides_plain hok) j).1 hj
  have:=(hnc u hu).2.2 j ho
  omega
 have hrm:∀ j∈varsM (sides (turnL l)),0≤j∧j≤1000000:=fun j hj=>by
  obtain⟨u,hu,ho⟩:=(mem_vars (sides_plain hom) j).1 hj
  have:=(hnc u (turn_sides hu)).2.2 j ho
  omega
 have f1:suF l=some (suM l):=if_pos hok
 have f2:suF (turnL l)=some (suM (turnL l)):=if_pos hom
 have key:=turns_ok hok (by omega) hrg hom (by omega) hrm (fun q hq=>turn_mem.1 hq) (fun q hq=>turn_mem.2 (by rw[swE_sw];exact hq))
 generalize suM (turnL l)=p2 at f2 key
 generalize suM l=p1 at f1 key
 obtain⟨S,b,e⟩:=p1
 obtain⟨U,d,f⟩:=p2
 simp only at key
 have hin:=fun (Q) (T0) (hs0)=>ST_loop (l:=l) (Q:=Q) (T0:=T0) (hs0:=hs0) hρ hE hcon (by omega)
 have hw1:IntKind.i64.wrap ((l.length:Int)-1)=(l.length:Int)-1:=wrap_i64 (by omega) (by omega)
 clear hnc hle hok hom hW hWm hrg hrm
 simp[fS3r0,fS3r1,fS3r2,fS3r3,fS3r4,fS3r5,fS3r6,fS3r7,fS3r8,fS3r9,fS3b0,fS3r10,fS3b1,fS3r11,fS3r12,fS3r13,fS3r14,fS3r15,fS3r16,fS3r17,fS3,hE,h1,h2,h3,yesS,fewS,c1,hval,hheap,vacant_eq,hm,hw1]
 refine hin _ _ _ (Less.auto (by simp) (by simp) (by simp) (by simp)) ?_
 generalize turnL l=m at f2
 have fin:e=15∨f=15∨(e≠0∧f≠0)∨(e=0∧f=0∧prF S l U=some true∧prF U l S=some true):=key
 rcases m with _|⟨x,m⟩
 · by_cases e15:e=15
   · subst e15
     simp[fS3r0,fS3r1,fS3r2,fS3r3,fS3r4,fS3r5,fS3r6,fS3r7,fS3r8,fS3r9,fS3b0,fS3r10,fS3b1,fS3r11,fS3r12,fS3r13,fS3r14,fS3r15,fS3r16,fS3r17,fS3,hE,h4,f1,f2]
   · by_cases f15:f=15
     · subst f15
       simp[fS3r0,fS3r1,fS3r2,fS3r3,fS3r4,fS3r5,fS3r6,fS3r7,fS3r8,fS3r9,fS3b0,fS3r10,fS3b1,fS3r11,fS3r12,fS3r13,fS3r14,fS3r15,fS3r16,fS3r17,fS3,hE,h4,f1,f2,e15]
     · rcases fin with h|h|⟨g1,g2⟩|⟨rfl,rfl,g1,g2⟩
       · exact absurd h e15
       · exact absurd h f15
       · simp[fS3r0,fS3r1,fS3r2,fS3r3,fS3r4,fS3r5,fS3r6,fS3r7,fS3r8,fS3r9,fS3b0,fS3r10,fS3b1,fS3r11,fS3r12,fS3r13,fS3r14,fS3r15,fS3r16,fS3r17,fS3,hE,h4,f1,f2,e15,f15,g1,g2]
       · simp[fS3r0,fS3r1,fS3r2,fS3r3,fS3r4,fS3r5,fS3r6,fS3r7,fS3r8,fS3r9,fS3b0,fS3r10,fS3b1,fS3r11,fS3r12,fS3r13,fS3r14,fS3r15,fS3r16,fS3r17,fS3,hE,h4,f1,f2,h5,g1,g2]
 · by_cases e15:e=15
   · subst e15
     simp[fS3r0,fS3r1,fS3r2,fS3r3,fS3r4,fS3r5,fS3r6,fS3r7,fS3r8,fS3r9,fS3b0,fS3r10,fS3b1,fS3r11,fS3r12,fS3r13,fS3r14,fS3r15,fS3r16,fS3r17,fS3,hE,h4,f1,f2]
   · by_cases f15:f=15
     · subst f15
       simp[fS3r0,fS3r1,fS3r2,fS3r3,fS3r4,fS3r5,fS3r6,fS3r7,fS3r8,fS3r9,fS3b0,fS3r10,fS3b1,fS3r11,fS3r12,fS3r13,fS3r14,fS3r15,fS3r16,fS3r17,fS3,hE,h4,f1,f2,e15]
     · rcases fin with h|h|⟨g1,g2⟩|⟨rfl,rfl,g1,g2⟩
       · exact absurd h e15
       · exact absurd h f15
       · simp[fS3r0,fS3r1,fS3r2,fS3r3,fS3r4,fS3r5,fS3r6,fS3r7,fS3r8,fS3r9,fS3b0,fS3r10,fS3b1,fS3r11,fS3r12,fS3r13,fS3r14,fS3r15,fS3r16,fS3r17,fS3,hE,h4,f1,f2,e15,f15,g1,g2]
       · simp[fS3r0,fS3r1,fS3r2,fS3r3,fS3r4,fS3r5,fS3r6,fS3r7,fS3r8,fS3r9,fS3b0,fS3r10,fS3b1,fS3r11,fS3r12,fS3r13,fS3r14,fS3r15,fS3r16,fS3r17,fS3,hE,h4,f1,f2,h5,g1,g2]
end
end Go.Proofs.Ytfgmnebfhemnpaa
