import Derived.Test.YthfcfmkdeheicaaGreatGM5
import Derived.Test.YthfcfmkdeheicaaGreatJQ
import Derived.Test.YthfcfmkdeheicaaGreatJZ2
import Derived.Test.YthfcfmkdeheicaaGreatJN
import Derived.Test.YthfcfmkdeheicaaGreatGW5
set_option linter.all false
noncomputable section
namespace Go.Proofs.YthfcfmkdeheicaaGreat
open Go.J
open Go.J.Enc (enc)
set_option maxRecDepth 100000
set_option maxHeartbeats 1000000
open Classical in
def substF(t:Tp)(D:List Decl)(n:Int):Option (Tp×List Assign):=if t.ok∧DOk D∧0≤n∧n≤100 then some (substM t D n.toNat n.toNat)else none
section
variable {ρ:Nat→Value}(hρ:J.Good ρ)
include hρ
section
variable {E:Env}(hE:E.P=Tryz.prog)(hcon:ConsOk ρ E)
include hE hcon
theorem make_Tape_Subst_run (hn:E.con 56=stS (stF1 nextF)) (hv:E.con 16=mkVarsS) (hr:E.con 58=fnS (spec2 fun h i:Int=>some (tRigid h i))) (ht:E.con 15=stS (stF3 (typeF 1)))
 {t:Tp} {D:List Decl} {n:Nat} (hto:t.ok) (hD:DOk D) (hn100:n≤100) {hs:HS} {id:Nat} (hid:id<hs.n) (hg:hs.H.get id=some (box (Cel.cells t))) :
 CallOk ρ Tryz.prog 42 [.ptr id 0 0,enc D,enc (n:Int)] hs (enc (substM t D n n).2) (hs.wr id (box (Cel.cells (substM t D n n).1))):=by
 rw[← hE]
 refine st_runF hρ hcon (by rw[hE];exact follows) (by rw[hE];exact named) (by rw[hE];exact Tryz.func42) fB42 rfl (by simp) (by simp) (by simp) (by simp[V.in3,V.in2,V.in1]) ?_ hid hg
 clear hg hid
 have hwl:IntKind.i64.wrap ((n:Int)+1)=((n+1:Nat):Int):=wrap_succ (by omega)
 have hlv:=varTs_len (n+1)
 have hn1:((n+1:Nat):Int)≤10000:=by omega
 have hn0:n+1≤10000:=by omega
 have hF1:∀ u:Tp,u.ok→typeF 1 u D (varTs (n+1)++[tRigid (-1) 0]) 1=some (typeM 1 u D (varTs (n+1)++[tRigid (-1) 0])):=fun u hu=>if_pos ⟨hu,hD,by simp;omega,by decide⟩
 simp[fS42r0,fS42r1,fS42r2,fS42r3,fS42r4,fS42r5,fS42b0,fS42r6,fS42b1,fS42r7,fS42,hE]
 refine lpi hρ hE hcon n (nn:=2) (fun i (X:Tp×List Assign)=>[(0,.ptr 0 0 0),(1,.sl (D.map encDecl) false),(2,.int .i64 (n:Int)),(7,oV 1 (X.2.map encAssign)),(8,.int .i64 (i:Int))])
  (fun i X=>[(0,box (Cel.cells X.1))]++oH 1 6 (X.2.map encAssign)) (fun i X=>substM t D n i=X∧X.1.ok) (t,[])
  (Less.auto (by simp) (by simp) rfl rfl) ⟨rfl,hto⟩ ?_ ?_
 · rintro ⟨u,X⟩ ⟨h1,h2⟩ K
   rw[h1]
   simp only at h2
   rcases X with _|⟨x,X⟩
   · simp[fS42l0,fS42r0,fS42r1,fS42r2,fS42r3,fS42r4,fS42r5,fS42b0,fS42r6,fS42b1,fS42r7,fS42,hE]
     refine LessQ.mk (Less.auto (TL:=[(7,.snil)]) (HL:=[(0,box (Cel.cells u))]) (n:=1) (by simp) (by simp) rfl rfl) ?_
     simp[fS42r0,fS42r1,fS42r2,fS42r3,fS42r4,fS42r5,fS42b0,fS42r6,fS42b1,fS42r7,fS42,hE]
     exact GivesF.keep rfl rfl (by simp[still2]) (by simp[ownB])
   · simp[fS42l0,fS42r0,fS42r1,fS42r2,fS42r3,fS42r4,fS42r5,fS42b0,fS42r6,fS42b1,fS42r7,fS42,hE]
     refine LessQ.mk (Less.auto (TL:=[(7,oV 1 ((x::X).map encAssign))]) (HL:=[(0,box (Cel.cells u))]++oH 1 6 ((x::X).map encAssign)) (n:=2) (by simp) (by simp) rfl rfl) ?_
     simp[fS42r0,fS42r1,fS42r2,fS42r3,fS42r4,fS42r5,fS42b0,fS42r6,fS42b1,fS42r7,fS42,hE]
     exact GivesF.keep rfl rfl (by simp[still2]) (by simp[ownB])
 · rintro i ⟨u,X⟩ hi ⟨h1,h2⟩ K hK
   simp only at h2
   have hi':(i:Int)<n:=by omega
   have hw0:IntKind.i64.wrap 1=1:=rfl
   have hw2:IntKind.i64.wrap ((i:Int)+1)=((i+1:Nat):Int):=wrap_succ (by omega)
   have hN3:nextF u 3=some (u.next 3):=if_pos ⟨h2,by decide,by decide⟩
   have hu1:=next_ok h2 3
   have hsi:substM t D n (i+1)=(if (u.next 3).2>0 then ((typeM 1 (u.next 3).1 D (varTs (n+1)++[tRigid (-1) 0])).1,X++[⟨i,(typeM 1 (u.next 3).1 D (varTs (n+1)++[tRigid (-1) 0])).2⟩])else ((u.next 3).1,X)):=by
    rw[substM,h1]
   have hXl:X.length≤i:=by have:=(substM_ok hto D n i).2;rw[h1]at this;exact this
   rcases hq:u.next 3 with⟨u1,c⟩
   rw[hq]at hN3 hu1 hsi
   simp only at hu1 hsi
   by_cases hc:c>0
   · rw[if_pos hc]at hsi
     have hF:=hF1 u1 hu1
     have ho2:=(typeM_ok (D:=D) (Lv:=varTs (n+1)++[tRigid (-1) 0]) 1 u1 hu1).1
     rcases hq2:typeM 1 u1 D (varTs (n+1)++[tRigid (-1) 0])with⟨u2,y⟩
     rw[hq2]at hF hsi ho2
     have hnew:=hK (u2,X++[⟨(i:Int),y⟩]) ⟨hsi,ho2⟩
     generalize hV:varTs (n+1)=W at hF hlv
     rcases W with _|⟨v,W⟩
     · simp at hlv
     have h64:(W.length+1+1)*64≤1048576:=Nat.le_trans (Nat.mul_le_mul_right 64 (show W.length+1+1≤102 by simp only[List.length_cons]at hlv;omega)) (by decide)
     rw[List.cons_append]at hF
     rcases X with _|⟨x,X⟩
     · simp only[List.nil_append]at hnew
       simp[fS42l0,fS42r0,fS42r1,fS42r2,fS42r3,fS42r4,fS42r5,fS42b0,fS42r6,fS42b1,fS42r7,fS42,hE,hi,hi',hn,hv,hr,ht,hN3,hc,mkVarsS,hwl,hn1,hn0,hV,hF,h64,Nat.not_succ_le_self,hw2,-Int.natCast_add]
       exact hnew _ _ (Less.auto (by simp[hw0,-Int.natCast_add]) (by simp) rfl rfl)
     · have h72:(X.length+1+1)*72≤1048576:=Nat.le_trans (Nat.mul_le_mul_right 72 (show X.length+1+1≤102 by simp only[List.length_cons]at hXl;omega)) (by decide)
       simp[fS42l0,fS42r0,fS42r1,fS42r2,fS42r3,fS42r4,fS42r5,fS42b0,fS42r6,fS42b1,fS42r7,fS42,hE,hi,hi',hn,hv,hr,ht,hN3,hc,mkVarsS,hwl,hn1,hn0,hV,hF,h64,h72,Nat.not_succ_le_self,hw2,-Int.natCast_add]
       exact hnew _ _ (Less.auto (by simp[hw0,-Int.natCast_add]) (by simp) rfl rfl)
   · rw[if_neg hc]at hsi
     have hc':¬ 0<c:=hc
     have hnew:=hK (u1,X) ⟨hsi,hu1⟩
     rcases X with _|⟨x,X⟩
     · simp[fS42l0,fS42r0,fS42r1,fS42r2,fS42r3,fS42r4,fS42r5,fS42b0,fS42r6,fS42b1,fS42r7,fS42,hE,hi,hi',hn,hN3,hc,hw2,-Int.natCast_add]
       exact hnew _ _ (Less.auto (by simp[hw0,-Int.natCast_add]) (by simp) rfl rfl)
     · simp[fS42l0,fS42r0,fS42r1,fS42r2,fS42r3,fS42r4,fS42r5,fS42b0,fS42r6,fS42b1,fS42r7,fS42,hE,hi,hi',hn,hN3,hc,hw2,-Int.natCast_add]
       exact hnew _ _ (Less.auto (by simp[hw0,-Int.natCast_add]) (by simp) rfl rfl)
end
theorem vSubst:Valid ρ Tryz.prog 42 (stS (stF2 substF)):=s2 (fo Tryz.func42 fB42) fun s a b q h hs id hid hg=>by
 obtain⟨⟨h1,h2,h3,h4⟩,rfl⟩:=ite_inv h
 obtain⟨n,rfl⟩:=Int.eq_ofNat_of_zero_le h3
 exact make_Tape_Subst_run hρ (E:=EL [(56,stS (stF1 nextF)),(16,mkVarsS),(58,fnS (spec2 fun h i:Int=>some (tRigid h i))),(15,stS (stF3 (typeF 1)))]) rfl
  (consOk_list (valid_cons (vNext hρ) (valid_cons (vMkVars hρ) (valid_cons (vRigid hρ) (valid_cons (vType hρ 1 (by omega)) valid_nil))))) rfl rfl rfl rfl h1 h2 (by omega) hid hg
end
end Go.Proofs.YthfcfmkdeheicaaGreat
