import Derived.Test.YthfcfmkdeheicaaGreatGQ7
import Derived.Test.YthfcfmkdeheicaaGreatGXT
set_option linter.all false
noncomputable section
/- The law SolvePrincipal: what its function computes. -/
namespace Go.Proofs.YthfcfmkdeheicaaGreat
open Go.J
open Go.J.Enc (enc)
set_option maxRecDepth 100000
set_option maxHeartbeats 1000000
def V7:List Int:=[0,1,2,3,4,7,8]
structure Pv(B:Nat)(t:Ty):Prop where
 nc:Nc B t
 va:t.valid=true
 oc:∀ j,t.occ j=true→j∈V7
theorem v7_lt{j:Int}(h:j∈V7):0≤j∧j<9:=by
 simp only[V7,List.mem_cons,List.not_mem_nil,or_false]at h
 omega
theorem v7_in{j:Int}(h0:0≤j)(h1:j<4):j∈V7:=by
 simp only[V7,List.mem_cons,List.not_mem_nil,or_false]
 omega
theorem Pv.vd{B:Nat}{t:Ty}(h:Pv B t):Vd 9 t:=⟨h.va,fun j hj=>v7_lt (h.oc j hj)⟩
theorem pv_of{B:Nat}{t:Ty}(h:Nc B t)(hv:Vd 4 t):Pv B t:=⟨h,hv.1,fun j hj=>by obtain⟨h0,h1⟩:=hv.2 j hj;exact v7_in h0 h1⟩
theorem pv_mono{B C:Nat}{t:Ty}(h:Pv B t)(hBC:B≤C):Pv C t:=⟨h.nc.mono hBC,h.va,h.oc⟩
theorem r4_nc:∀ a∈R4,Nc 1 a.type∧Vd 9 a.type:=by
 intro a ha
 simp only[R4,List.mem_cons,List.not_mem_nil,or_false]at ha
 have hi:Nc 1 tInt∧Vd 9 tInt:=⟨⟨rfl,rfl,by decide⟩,by rfl,fun j hj=>by
  obtain⟨u,hu,_⟩:=zj4 (t:=tInt) (by decide) hj
  cases hu⟩
 rcases ha with rfl|rfl|rfl|rfl
 · exact⟨nc_var _ (by decide),vd_tVar (by decide) (by decide) (by decide)⟩
 · exact⟨nc_var _ (by decide),vd_tVar (by decide) (by decide) (by decide)⟩
 · exact hi
 · exact⟨nc_var _ (by decide),vd_tVar (by decide) (by decide) (by decide)⟩
theorem r4_pv{t:Ty}(h:Nc 3 t)(hv:Vd 5 t):Pv 3 (t.repl R4):=by
 have h1:=repl_nc (B:=1) (by decide) (fun a ha=>(r4_nc a ha).1) t h.pl h.ok
 have h2:=vd_repl (n:=9) (by decide) (fun a ha=>(r4_nc a ha).2) h.pl ⟨hv.1,fun j hj=>by have:=hv.2 j hj;omega⟩
 refine⟨h1.mono (by have:=h.sz;omega),h2.1,fun j hj=>?_⟩
 rw[zbF R4 t h.pl]at hj
 obtain⟨i,hi,hj⟩:=zoB t hj
 obtain⟨g0,g1⟩:=hv.2 i hi
 have hvar:∀ k,(zA k).occ j=true→j=k:=fun k hk=>by rw[zbw]at hk;exact(of_decide_eq_true hk).symm
 have hint:tInt.occ j=true→False:=fun hk=>by
  obtain⟨u,hu,_⟩:=zj4 (t:=tInt) (by decide) hk
  cases hu
 rcases(show i=0∨i=1∨i=2∨i=3∨i=4 by omega)with rfl|rfl|rfl|rfl|rfl
 · rw[hvar 7 hj];decide
 · rw[hvar 8 hj];decide
 · exact(hint hj).elim
 · rw[hvar 7 hj];decide
 · rw[hvar 4 hj];decide
theorem substM_id {D:List Decl} (t:Tp) (n i:Nat):∀ a∈(zam t D n i).2,0≤a.id∧a.id<i:=by
 induction i with
 |zero=>intro a ha;cases ha
 | succ i ih =>
   intro a ha
   unfold zam at ha
   dsimp only at ha
   split at ha
   · rcases List.mem_append.1 ha with ha|ha
     · have:=ih a ha;omega
     · rw[List.mem_singleton.1 ha]
       show 0≤(i:Int)∧(i:Int)<((i+1:Nat):Int)
       omega
   · have:=ih a ha;omega
structure UOk(u:List Assign):Prop where
 el:∀ x∈u,Pv 3 x.type∧0≤x.id∧x.id<4
 len:u.length≤4
theorem slvU_ok(bits:Int){codes:List Int}(h:codes.length≤60):UOk (slvU bits codes):=by
 have htp:(⟨codes,0⟩:Tp).ok:=⟨Int.le_refl _,by show codes.length≤100000;omega⟩
 have h1:=substM_nc (zkX bits) ⟨codes,0⟩ 4 4
 have h2:=vd_subst (datasOf_val bits) ⟨codes,0⟩ (n:=4) (by decide) 4
 have h3:=substM_id (D:=zaI bits) ⟨codes,0⟩ 4 4
 refine⟨fun x hx=>?_,by unfold slvU;rw[List.length_map];exact(zor htp _ 4 4).2⟩
 obtain⟨y,hy,rfl⟩:=List.mem_map.1 hx
 have h4:=h3 y hy
 exact⟨r4_pv (h1 y hy) (h2 y hy),h4.1,h4.2⟩
theorem repl_pv{u:List Assign}(hu:UOk u){t:Ty}(h:Nc 7 t)(hv:Vd 4 t):Pv 21 (t.repl u):=by
 have h1:=repl_nc (B:=3) (by decide) (fun a ha=>(hu.el a ha).1.nc) t h.pl h.ok
 have h2:=vd_repl (n:=9) (by decide) (fun a ha=>(hu.el a ha).1.vd) h.pl ⟨hv.1,fun j hj=>by have:=hv.2 j hj;omega⟩
 refine⟨h1.mono (by have:=h.sz;omega),h2.1,fun j hj=>?_⟩
 rw[zbF u t h.pl]at hj
 obtain⟨i,hi,hj⟩:=zoB t hj
 obtain⟨g0,g1⟩:=hv.2 i hi
 unfold fnA at hj
 cases hl:zo u i with
 | some y =>
   rw[hl]at hj
   obtain⟨x,hx,rfl⟩:=zb2 hl
   exact(hu.el x hx).1.oc j hj
 | none =>
   rw[hl]at hj
   have hj:(zA i).occ j=true:=hj
   rw[zbw]at hj
   rw[← of_decide_eq_true hj]
   exact v7_in g0 g1
theorem slvM_pv {t:Tp} {D:List Decl} (hD:DOk3 D) (hv:DVal D) {u:List Assign} (hu:UOk u) (i:Nat):∀ x∈sides (slvM t D u i).2,Pv 21 x:=by
 induction i with
 |zero=>intro x hx;cases hx
 | succ i ih =>
   intro x hx
   have hTn:∀ (d:Nat) (w:Tp),d≤2→Nc 7 (typeM d w D (za0 4)).2∧Vd 4 (typeM d w D (za0 4)).2:=fun d w hd=>⟨typeM_nc hD (varTs_nc 4) d w (by rcases(show d=0∨d=1∨d=2 by omega)with rfl|rfl|rfl<;>decide),vd_type hv (fun l hl=>vd_varTs (by omega) (by omega) l hl) d w⟩
   have hp:=fun d w hd=>pv_mono (pv_of (hTn d w hd).1 (hTn d w hd).2) (by decide:7≤21)
   rw[slvM_succ]at hx
   simp only at hx
   have hcase:∀ q:Equation,Pv 21 q.left→Pv 21 q.right→x∈sides ((slvM t D u i).2++[q])→Pv 21 x:=fun q h1 h2 h=>by
    rw[zlq]at h
    rcases List.mem_append.1 h with h|h
    · exact ih x h
    · simp only[sides,List.mem_cons,List.not_mem_nil,or_false]at h
      rcases h with rfl|rfl
      · exact h1
      · exact h2
   split at hx
   · exact hcase _ (hp 2 _ (by decide)) (repl_pv hu (hTn 2 _ (by decide)).1 (hTn 2 _ (by decide)).2) hx
   · split at hx
     · refine hcase _ ?_ ?_ hx
       · split
         · rename_i y hy
           obtain⟨k1,k2,k3⟩:=hu.el y (List.mem_of_getElem? hy)
           exact⟨nc_var _ (by decide),zdk k2 (by omega),fun j hj=>by
            have hj:(zA y.id).occ j=true:=hj
            rw[zbw]at hj
            rw[← of_decide_eq_true hj]
            exact v7_in k2 k3⟩
         · exact hp 2 _ (by decide)
       · split
         · rename_i y hy
           exact pv_mono (hu.el y (List.mem_of_getElem? hy)).1 (by decide)
         · exact hp 1 _ (by decide)
     · exact hcase _ (hp 2 _ (by decide)) (hp 1 _ (by decide)) hx
theorem eqs_pv{l:List Equation}(hl:l.length≤20)(h:∀ u∈sides l,Pv 21 u):EqsOk l∧(zN (sides l)).length≤7∧∀ j∈zN (sides l),0≤j∧j≤1000000:=by
 have hp:∀ u∈sides l,u.vplain=true:=fun u hu=>(h u hu).nc.pl
 have heq:∀ u∈sides l,EqOk (zN (sides l)) u:=fun u hu=>⟨hp u hu,(h u hu).va,fun j hj=>(mem_vars hp j).2 ⟨u,hu,hj⟩⟩
 have hin:∀ j∈zN (sides l),j∈V7:=fun j hj=>by
  obtain⟨u,hu,ho⟩:=(mem_vars hp j).1 hj
  exact(h u hu).oc j ho
 refine⟨⟨fun u hu=>(h u hu).nc.ok,fun q hq=>⟨heq _ (ziE hq).1,heq _ (ziE hq).2⟩,by omega,?_⟩,nodup_le (m:=V7) (vars_nodup hp) hin,fun j hj=>by have:=v7_lt (hin j hj);omega⟩
 have h1:=sizes_mul (B:=21) fun u hu=>(h u hu).nc.sz
 rw[ze8]at h1
 omega
theorem sp_ok {l:List Equation} {u:List Assign} (hok:EqsOk l) (hW:(zN (sides l)).length≤7) (hr:∀ j∈zN (sides l),0≤j∧j≤1000000) (ou:okA u) (lu:u.length≤4) (hb:l.any (neB u)=false) :
 (suM l).c=15∨((suM l).c=0∧(∃ R,gfF (suM l).a u (zN (sides l))=some (R,true))∧prF (suM l).a l u=some true):=by
 obtain⟨k,T,σ,s1,s2,s3,s4⟩:=su_ok hok
 generalize suM l=p at *
 obtain⟨S,b,e⟩:=p
 simp only at s1 s2 s3 s4 ⊢
 have hsol:∀ q∈l,q.left.app (fnA u)=q.right.app (fnA u):=fun q hq=>by
  have h1:neB u q=false:=by
   cases h:neB u q with
   |false=>rfl
   |true=>rw[List.any_eq_true.2 ⟨q,hq,h⟩]at hb;cases hb
  have h2:q.left.repl u=q.right.repl u:=by
   unfold neB at h1
   simpa using h1
  rw[zbF u _ (hok.eq q hq).1.1,zbF u _ (hok.eq q hq).2.1]at h2
  exact h2
 obtain⟨_,g2⟩:=sl_ok l 0 zA e k σ (sinv0 _) hok.eq s1
 rcases g2 (fnA u) (fun i=>zL _ i) hsol with⟨he,hA⟩|he
 · subst he
   obtain⟨hT,_⟩:=s3 rfl
   rw[if_pos rfl]at s4
   have hs:=sol_ok hok hW hr s1 hT
   rw[← s4]at hs
   have hz:=sl_size l 0 zA k σ (fun v _=>by simp[zA,Ty.size,Ty.sizes]) s1
   have hfc:(fcL S u (zN (sides l)) []).2=true:=by
    rw[s4]
    refine fc_ok _ _ (fun i hi=>?_) (fun i u h=>by cases h)
    rw[asgF_fn hT.props hi]
    exact⟨hT.props.idem.plain i,hA i⟩
   have hpr:PrC S l u:=prC_of hok hW hs.un.ok ou (by have:=hs.sl;omega) (by omega) fun i hi=>by
    rw[s4,asgF_fn hT.props hi]
    have:=hz i hi
    omega
   have hg:gfR S u (zN (sides l))=((fcL S u (zN (sides l)) []).1,true):=if_pos hfc
   refine .inr ⟨rfl,⟨(fcL S u (zN (sides l)) []).1,?_⟩,?_⟩
   · rw[← hg];exact if_pos hpr.gf
   · have:prR S l u=true:=by
      unfold prR
      rw[if_neg (by rw[hs.so,hb];simp),hg]
     rw[← this]
     exact if_pos hpr
 · exact .inl he
section
variable {ρ:Nat→Value}(hρ:J.Good ρ){E:Env}(hE:E.P=Tryz.prog)(hcon:ConsOk ρ E)
include hρ hE hcon
theorem zlZ(h1:E.con 28=yesS)(h2:E.con 10=fewS)(h3:E.con 39=fnS (zfY slvF))(h4:E.con 37=fnS (zD unF))(h5:E.con 30=fnS (zan suF))(h6:E.con 40=fnS (zfY gfF))(h7:E.con 32=fnS (zan ev18F))(h8:E.con 41=fnS (zfY prF))
 {bits:Int} {codes:List Int} {n:Int} (hs:HS):CallOk ρ Tryz.prog 6 [enc bits,enc codes,enc n] hs (.bool true) hs:=by
 refine fn hρ hE hcon Tryz.func6 fB6 rfl (by simp) ?_ hs
 by_cases c1:codes.length≤60
 case neg=>simp[fS6r0,fS6r1,fS6r2,fS6r3,fS6r4,fS6r5,fS6r6,fS6r7,fS6r8,fS6r9,fS6r10,fS6r11,fS6r12,fS6,hE,h1,h2,yesS,fewS,c1]
 have f1:slvF bits codes n=some (slvL bits codes n,slvU bits codes):=if_pos c1
 have hu:=slvU_ok bits c1
 have hll:(slvL bits codes n).length≤5:=by
  unfold slvL
  rw[slvM_len]
  have h1:=zkf n 5;have h2:modI n 5<5:=modI_lt (by decide);omega
 obtain⟨hok,hW,hr⟩:=eqs_pv (l:=slvL bits codes n) (by omega) (slvM_pv (zkX bits) (datasOf_val bits) hu _)
 have ou:okA (slvU bits codes):=fun x hx=>(hu.el x hx).1.nc.ok
 have hul:=hu.len
 generalize slvL bits codes n=l at *
 generalize slvU bits codes=u at *
 have f2:unF u l=some (!(l.any (neB u))):=if_pos (unC_of hok ou (by omega))
 cases hb:l.any (neB u)with
 | true =>
   rw[hb]at f2
   simp[fS6r0,fS6r1,fS6r2,fS6r3,fS6r4,fS6r5,fS6r6,fS6r7,fS6r8,fS6r9,fS6r10,fS6r11,fS6r12,fS6,hE,h1,h2,yesS,fewS,c1,h3,f1,h4,f2]
 | false =>
   rw[hb]at f2
   have hsp:=sp_ok hok hW hr ou hul hb
   have f3:suF l=some (suM l):=if_pos hok
   have hll:=(zbx 1 (sides l) []).2
   simp only[List.length_nil]at hll
   have f4:ev18F l=some (zN (sides l)):=if_pos ⟨Ty.oks_iff.2 hok.ok,by omega,by have:=hok.sz;omega⟩
   generalize suM l=p at hsp f3
   obtain⟨S,b,e⟩:=p
   simp only at hsp
   clear hok hW hr ou hll hb
   generalize zN (sides l)=W at hsp f4
   rcases hsp with rfl|⟨rfl,⟨R,f5⟩,f6⟩
   · simp[fS6r0,fS6r1,fS6r2,fS6r3,fS6r4,fS6r5,fS6r6,fS6r7,fS6r8,fS6r9,fS6r10,fS6r11,fS6r12,fS6,hE,h1,h2,yesS,fewS,c1,h3,f1,h4,f2,h5,f3]
   · simp[fS6r0,fS6r1,fS6r2,fS6r3,fS6r4,fS6r5,fS6r6,fS6r7,fS6r8,fS6r9,fS6r10,fS6r11,fS6r12,fS6,hE,h1,h2,yesS,fewS,c1,h3,f1,h4,f2,h5,f3,h6,h7,f4,f5,h8,f6]
end
end Go.Proofs.YthfcfmkdeheicaaGreat
