import Derived.Test.YtfgmnebfhemnpaaKX2
import Derived.Test.YtfgmnebfhemnpaaJZ
import Derived.Test.YtfgmnebfhemnpaaJY
import Derived.Test.YtfgmnebfhemnpaaKX4
import Derived.Test.YtfgmnebfhemnpaaKX5
set_option linter.all false
noncomputable section
/- The set of types: its assignments;unification of two types. -/
namespace Go.Proofs.Ytfgmnebfhemnpaa
open Go.J
open Go.J.Enc (enc)
set_option maxRecDepth 100000
set_option maxHeartbeats 1000000
def asV(d:Nat)(T:List Assign)(D:Option (List Assign))(args:List V):Option (V×Option (List Assign)):=open Classical in match args with
 | [iv]=>ob (Enc.dec iv:Option (List Int)) fun ids=>if (∃ σ,Tri T σ∧DOkT σ (D.getD []))∧tok T∧ids.length≤10000 then ob (asM T d ids [] D) fun r=>some (enc r.1,r.2)else none
 |_=>none
theorem asV_inv{d:Nat}{T:List Assign}{D:Option (List Assign)}{args:List V}{q:V×Option (List Assign)}(h:asV d T D args=some q) :
 ∃ ids R D' σ,args=[enc ids]∧Tri T σ∧DOkT σ (D.getD [])∧tok T∧ids.length≤10000∧asM T d ids [] D=some (R,D')∧q=(enc R,D'):=by
 unfold asV at h
 split at h
 · simp only[ob_eq]at h
   obtain⟨ids,ht,h⟩:=h
   split at h
   · rename_i hh
     simp only[ob_eq]at h
     obtain⟨⟨r,D'⟩,hr,h⟩:=h
     cases h
     obtain⟨⟨σ,h1,h2⟩,h3,h4⟩:=hh
     exact⟨ids,r,D',σ,by rw[Enc.enc_dec _ _ ht],h1,h2,h3,h4,hr,rfl⟩
   · cases h
 · cases h
theorem asV_mk{d:Nat}{T:List Assign}{D D':Option (List Assign)}{ids:List Int}{R:List Assign}{σ:Sub}(h1:Tri T σ)(h2:DOkT σ (D.getD []))(h3:tok T)(h4:ids.length≤10000)(h:asM T d ids [] D=some (R,D')):asV d T D [enc ids]=some (enc R,D'):=by
 unfold asV
 simp only[Enc.dec_enc,J.ob_some,if_pos (And.intro (⟨σ,h1,h2⟩:∃ σ,Tri T σ∧DOkT σ (D.getD [])) (And.intro h3 h4)),h]
section
variable {ρ:Nat→Value}(hρ:J.Good ρ)
include hρ
section
variable {E:Env}(hE:E.P=Try.prog)(hcon:ConsOk ρ E)
include hE hcon
theorem triangle_Assigns_w {d:Nat} (hc:E.con 37=embS (reM (rsV d))) (hv:E.con 22=fnS (spec1 fun i:Int=>some (tVar i))) {T:List Assign} {D D':Option (List Assign)} {ids:List Int} {R:List Assign} {σ:Sub} (hT:Tri T σ) (htk:tok T) (hl:ids.length≤10000) (hD:DOkT σ (D.getD [])) (h:asM T d ids [] D=some (R,D')) (hle:reK D≤reK D') :
 Wp ρ E (reK D) 37 fS23 ((PT.leaf.set 0 (.ptr 0 0 0)).set 1 (enc ids)) { H:=mkP (reOL T D),n:=reK D,log:=[] } (J.Leaves E.P Try.f23 (GLF (reK D) (enc R) (reOL T D'))):=by
 have hmain:∀ (T0:PT V) (hs:HS) (Q:Ex→PT V→HS→Prop),
  Less (reK D) T0 hs (mkP [(0,.ptr 0 0 0),(5,.snil),(10,.sl (ids.map encI) false),(11,.int .i64 (ids.length:Int)),(12,.int .i64 ((0:Nat):Int))]) { H:=mkP (reOL T D),n:=4,log:=[] } →
  Q (.exit 0) (mkP [(5,oV 3 (R.map encAssign))]) { H:=mkP (reOL T D'++oH 3 6 (R.map encAssign)),n:=4,log:=[] } →
  Ls ρ E (reK D) 37 (.loop fS23l0) T0 hs Q:=by
  intro T0 hs Q h0 hQ
  refine lpi hρ hE hcon ids.length (nn:=4) (fun i (X:List Assign×Option (List Assign))=>[(0,.ptr 0 0 0),(5,oV 3 (X.1.map encAssign)),(10,.sl (ids.map encI) false),(11,.int .i64 (ids.length:Int)),(12,.int .i64 (i:Int))])
   (fun i X=>reOL T X.2++oH 3 6 (X.1.map encAssign)) (fun i X=>DOkT σ (X.2.getD [])∧asM T d (ids.drop i) X.1 X.2=some (R,D')∧X.1.length≤i∧reK D≤reK X.2) ([],D)
   (by simpa using h0) ⟨hD,by simpa using h,Nat.le_refl _,Nat.le_refl _⟩ ?_ ?_
  · rintro ⟨out,D1⟩ ⟨h1,h2,h3,h4⟩ K
    simp only[List.drop_length,asM]at h2
    cases h2
    clear h0
    rcases D with _|L
    · rcases D' with _|L1
      all_goals
       rcases R with _|⟨r,R⟩
       all_goals
        simp[fS23l0,fS23r0,fS23r1,fS23r2,fS23r3,fS23r4,fS23r5,fS23r6,fS23r7,fS23b0,fS23r8,fS23b1,fS23r9,fS23,hE,reOL,reK]
        exact LessQ.mk (Less.auto (n:=4) (by simp[reOL,reK]) (by simp[reOL,reK]) (by first|rfl|simp[reOL,reK]) (by simp[reK,reOL]<;>(intro x hx;first|omega|exact⟨.inl hx,by omega⟩))) hQ
    · rcases D' with _|L1
      · simp[reK]at h4
      · rcases R with _|⟨r,R⟩
        all_goals
         simp[fS23l0,fS23r0,fS23r1,fS23r2,fS23r3,fS23r4,fS23r5,fS23r6,fS23r7,fS23b0,fS23r8,fS23b1,fS23r9,fS23,hE,reOL,reK]
         exact LessQ.mk (Less.auto (n:=4) (by simp[reOL,reK]) (by simp[reOL,reK]) (by first|rfl|simp[reOL,reK]) (by simp[reK,reOL]<;>(intro x hx;first|omega|exact⟨.inl hx,by omega⟩))) hQ
  · rintro i ⟨out,D1⟩ hi ⟨h1,h2,h3,h4⟩ K hK
    simp only at h1 h2 h3 h4
    clear h0 hQ
    have hi':(i:Int)<ids.length:=by omega
    have hw2:IntKind.i64.wrap ((i:Int)+1)=((i+1:Nat):Int):=wrap_succ (by omega)
    rw[List.drop_eq_getElem_cons hi,asM]at h2
    obtain⟨x,hx⟩:∃ x,ids[i]=x:=⟨_,rfl⟩
    rw[hx]at h2
    cases hlk:lookA T x with
    | none =>
      rw[hlk,if_neg (by decide)]at h2
      have hnew:=hK (out,D1) ⟨h1,h2,Nat.le_succ_of_le h3,h4⟩
      clear hK
      rcases D with _|L
      · rcases D1 with _|L1
        all_goals
         rcases out with _|⟨r,out⟩
         all_goals
          simp[fS23l0,fS23r0,fS23r1,fS23r2,fS23r3,fS23r4,fS23r5,fS23r6,fS23r7,fS23b0,fS23r8,fS23b1,fS23r9,fS23,hE,hi,hi',hx,reOL,reK,hlk,lookupJ,entriesJ,keyOk,zeroTy,hw2,-Int.natCast_add]
          exact hnew _ _ (Less.auto (by simp[reOL,reK,-Int.natCast_add]) (by simp[reOL,reK]) (by first|rfl|simp[reOL,reK]) (by simp[reK,reOL]<;>(intro x hx;first|omega|exact⟨.inl hx,by omega⟩)))
      · rcases D1 with _|L1
        · simp[reK]at h4
        · rcases out with _|⟨r,out⟩
          all_goals
           simp[fS23l0,fS23r0,fS23r1,fS23r2,fS23r3,fS23r4,fS23r5,fS23r6,fS23r7,fS23b0,fS23r8,fS23b1,fS23r9,fS23,hE,hi,hi',hx,reOL,reK,hlk,lookupJ,entriesJ,keyOk,zeroTy,hw2,-Int.natCast_add]
           exact hnew _ _ (Less.auto (by simp[reOL,reK,-Int.natCast_add]) (by simp[reOL,reK]) (by first|rfl|simp[reOL,reK]) (by simp[reK,reOL]<;>(intro x hx;first|omega|exact⟨.inl hx,by omega⟩)))
    | some u =>
      rw[hlk,if_pos (show (some u).isSome=true from rfl)]at h2
      cases hr:rsM T d (tVar x) (D1.getD [])with
      |none=>rw[hr]at h2;cases h2
      | some p =>
        obtain⟨r,D2⟩:=p
        rw[hr]at h2
        simp only at h2
        have hdt:=rs_det hT (vplain_tVar x) h1 hr
        have hF:=rsV_mk (D:=D1) hT h1 htk (by simp[tVar,Ty.ok,Ty.oks]) (vplain_tVar x) hr
        have hnew:=hK (out++[⟨x,r⟩],some D2) ⟨hdt.2.1,h2,by simp;omega,by cases D<;>simp[reK]⟩
        clear hK hdt hr h2
        obtain⟨uk,un,ui,uh,ul⟩:=u
        obtain⟨rk,rn,ri,rh,rl⟩:=r
        simp only[tVar,encTy_n,enc_Ty,Ty.kind_mk,Ty.name_mk,Ty.id_mk,Ty.home_mk,Ty.args_mk,List.map_nil]at hF
        have h72:(out.length+1)*72≤1048576:=Nat.le_trans (Nat.mul_le_mul_right 72 (show out.length+1≤10001 by omega)) (by decide)
        rcases out with _|⟨y,out⟩
        · rcases D with _|L
          · rcases D1 with _|L1
            all_goals
             simp[fS23l0,fS23r0,fS23r1,fS23r2,fS23r3,fS23r4,fS23r5,fS23r6,fS23r7,fS23b0,fS23r8,fS23b1,fS23r9,fS23,hE,hi,hi',hx,reOL,reK,hlk,lookupJ,entriesJ,keyOk,zeroTy,hv,tVar,hc,hF,vacant_eq,hw2,-Int.natCast_add]
             exact hnew _ _ (Less.auto (by simp[reOL,reK,-Int.natCast_add]) (by simp[reOL,reK]) (by first|rfl|simp[reOL,reK]) (by simp[reK,reOL]<;>(intro x hx;first|omega|exact⟨.inl hx,by omega⟩)))
          · rcases D1 with _|L1
            · simp[reK]at h4
            · simp[fS23l0,fS23r0,fS23r1,fS23r2,fS23r3,fS23r4,fS23r5,fS23r6,fS23r7,fS23b0,fS23r8,fS23b1,fS23r9,fS23,hE,hi,hi',hx,reOL,reK,hlk,lookupJ,entriesJ,keyOk,zeroTy,hv,tVar,hc,hF,vacant_eq,hw2,-Int.natCast_add]
              exact hnew _ _ (Less.auto (by simp[reOL,reK,-Int.natCast_add]) (by simp[reOL,reK]) (by first|rfl|simp[reOL,reK]) (by simp[reK,reOL]<;>(intro x hx;first|omega|exact⟨.inl hx,by omega⟩)))
        · have hx72:(out.length+1+1)*72≤1048576:=by simpa using h72
          rcases D with _|L
          · rcases D1 with _|L1
            all_goals
             simp[fS23l0,fS23r0,fS23r1,fS23r2,fS23r3,fS23r4,fS23r5,fS23r6,fS23r7,fS23b0,fS23r8,fS23b1,fS23r9,fS23,hE,hi,hi',hx,reOL,reK,hlk,lookupJ,entriesJ,keyOk,zeroTy,hv,tVar,hc,hF,vacant_eq,hw2,hx72,Nat.not_succ_le_self,-Int.natCast_add]
             exact hnew _ _ (Less.auto (by simp[reOL,reK,-Int.natCast_add]) (by simp[reOL,reK]) (by first|rfl|simp[reOL,reK]) (by simp[reK,reOL]<;>(intro x hx;first|omega|exact⟨.inl hx,by omega⟩)))
          · rcases D1 with _|L1
            · simp[reK]at h4
            · simp[fS23l0,fS23r0,fS23r1,fS23r2,fS23r3,fS23r4,fS23r5,fS23r6,fS23r7,fS23b0,fS23r8,fS23b1,fS23r9,fS23,hE,hi,hi',hx,reOL,reK,hlk,lookupJ,entriesJ,keyOk,zeroTy,hv,tVar,hc,hF,vacant_eq,hw2,hx72,Nat.not_succ_le_self,-Int.natCast_add]
              exact hnew _ _ (Less.auto (by simp[reOL,reK,-Int.natCast_add]) (by simp[reOL,reK]) (by first|rfl|simp[reOL,reK]) (by simp[reK,reOL]<;>(intro x hx;first|omega|exact⟨.inl hx,by omega⟩)))
 rcases D with _|L
 · rcases D' with _|L'
   all_goals
    simp[fS23r0,fS23r1,fS23r2,fS23r3,fS23r4,fS23r5,fS23r6,fS23r7,fS23b0,fS23r8,fS23b1,fS23r9,fS23,hE,reOL,reK]
    refine hmain _ _ _ (Less.auto (by simp[reOL,reK]) (by simp[reOL,reK]) (by first|rfl|simp[reOL,reK]) (by simp[reOL,reK]<;>(intro x hx;first|omega|exact⟨.inl hx,by omega⟩))) ?_
    clear hmain h
    rcases R with _|⟨r,R⟩
    all_goals
     simp[fS23r0,fS23r1,fS23r2,fS23r3,fS23r4,fS23r5,fS23r6,fS23r7,fS23b0,fS23r8,fS23b1,fS23r9,fS23,hE,reOL,reK]
     exact .inr (GivesF.keep rfl rfl (by simp[still2]) (by simp[ownB]))
 · rcases D' with _|L'
   · simp[reK]at hle
   · simp[fS23r0,fS23r1,fS23r2,fS23r3,fS23r4,fS23r5,fS23r6,fS23r7,fS23b0,fS23r8,fS23b1,fS23r9,fS23,hE,reOL,reK]
     refine hmain _ _ _ (Less.auto (by simp[reOL,reK]) (by simp[reOL,reK]) (by first|rfl|simp[reOL,reK]) (by simp[reOL,reK]<;>(intro x hx;first|omega|exact⟨.inl hx,by omega⟩))) ?_
     clear hmain h
     rcases R with _|⟨r,R⟩
     all_goals
      simp[fS23r0,fS23r1,fS23r2,fS23r3,fS23r4,fS23r5,fS23r6,fS23r7,fS23b0,fS23r8,fS23b1,fS23r9,fS23,hE,reOL,reK]
      exact .inr (GivesF.keep rfl rfl (by simp[still2]) (by simp[ownB]))
end
theorem vAssigns(d:Nat):Valid ρ Try.prog 23 (embS (reM (asV d))):=by
 refine Valid.emb (fo Try.func23 fB23) fun vs hs D h=>?_
 obtain⟨args,T,D0,r,D1,a,m,c,hF,rfl,_,hr,hg,hfit⟩:=reM_inv h
 obtain⟨ids,R,D',σ,rfl,h1,h2,h3,h4,h5,h6⟩:=asV_inv hF
 cases h6
 have hEE:(EL [(37,embS (reM (rsV d))),(22,fnS (spec1 fun i:Int=>some (tVar i)))]).P=Try.prog:=rfl
 have hcn:ConsOk ρ (EL [(37,embS (reM (rsV d))),(22,fnS (spec1 fun i:Int=>some (tVar i)))]):=consOk_list (valid_cons (vResolve' hρ d) (valid_cons (vTVar hρ) valid_nil))
 exact emf hρ hEE hcn Try.func23 fB23 rfl hg (triangle_Assigns_w hρ hEE hcn rfl rfl h1 h3 h4 h2 h5 hg.le) hfit
end
end Go.Proofs.Ytfgmnebfhemnpaa
/- Which substitutions are valid and idempotent,and how one factors through another: the reference of chapter 13. -/
namespace Go.Proofs.Ytfgmnebfhemnpaa
open Go.J
open Go.J.Enc (enc)
set_option maxRecDepth 100000
set_option maxHeartbeats 1000000
theorem tVar_ok(i:Int):(tVar i).ok=true:=by simp[tVar,Ty.ok,Ty.oks]
section
variable {ρ:Nat→Value}(hρ:J.Good ρ)
include hρ
section
variable {E:Env}(hE:E.P=Try.prog)(hcon:ConsOk ρ E)
include hE hcon
end
end
end Go.Proofs.Ytfgmnebfhemnpaa
/- Sizes in a set of types,nodes of types,the variables of equations. -/
namespace Go.Proofs.Ytfgmnebfhemnpaa
open Go.J
open Go.J.Enc (enc)
set_option maxRecDepth 100000
set_option maxHeartbeats 1000000
open Classical in
def szV(d:Nat)(T:List Assign)(args:List V):Option (V×List Assign):=match args with
 | [tv,.int .i64 m]=>ob (Enc.dec tv:Option Ty) fun t=>if (∃ σ,Tri T σ)∧tok T∧t.ok=true∧t.vplain=true∧0≤m∧m<d then some (.int .i64 (sz (wkF T) t m.toNat:Nat),T)else none
 |_=>none
theorem szV_inv{d:Nat}{T:List Assign}{args:List V}{q:V×List Assign}(h:szV d T args=some q) :
 ∃ t m σ,args=[enc t,.int .i64 ((m:Nat):Int)]∧Tri T σ∧tok T∧t.ok=true∧t.vplain=true∧m<d∧q=(.int .i64 (sz (wkF T) t m:Nat),T):=by
 unfold szV at h
 split at h
 · rename_i tv m
   simp only[ob_eq]at h
   obtain⟨t,ht,h⟩:=h
   split at h
   · rename_i hh
     cases h
     obtain⟨⟨σ,h1⟩,h2,h3,h4,h5,h6⟩:=hh
     exact⟨t,m.toNat,σ,by rw[Enc.enc_dec _ _ ht,Int.toNat_of_nonneg h5],h1,h2,h3,h4,by omega,rfl⟩
   · cases h
 · cases h
theorem szV_mk{d:Nat}{T:List Assign}{σ:Sub}(h1:Tri T σ)(h2:tok T){t:Ty}(h3:t.ok=true)(h4:t.vplain=true){m:Nat}(h5:m<d):szV d T [enc t,.int .i64 (m:Int)]=some (.int .i64 (sz (wkF T) t m:Nat),T):=by
 unfold szV
 simp only[Enc.dec_enc,J.ob_some,if_pos (And.intro (⟨σ,h1⟩:∃ σ,Tri T σ) (And.intro h2 (And.intro h3 (And.intro h4 (And.intro (Int.natCast_nonneg m) (show (m:Int)<d by omega)))))),Int.toNat_natCast]
def sides:List Equation→List Ty
 | []=>[]
 |q::l=>q.left::q.right::sides l
theorem sides_len:∀ l:List Equation,(sides l).length=2*l.length
 | []=>rfl
 |q::l=>by rw[sides,List.length_cons,List.length_cons,sides_len l,List.length_cons];omega
theorem sides_app:∀ l m:List Equation,sides (l++m)=sides l++sides m
 | [],m=>rfl
 |q::l,m=>by rw[List.cons_append,sides,sides,sides_app l m];rfl
theorem sides_mem{l:List Equation}{t:Ty}(h:t∈sides l):∃ q∈l,t=q.left∨t=q.right:=by
 induction l with
 |nil=>cases h
 | cons q l ih =>
   rw[sides]at h
   rcases List.mem_cons.1 h with rfl|h
   · exact⟨q,List.mem_cons_self ..,.inl rfl⟩
   rcases List.mem_cons.1 h with rfl|h
   · exact⟨q,List.mem_cons_self ..,.inr rfl⟩
   · obtain⟨p,hp,h⟩:=ih h
     exact⟨p,List.mem_cons_of_mem _ hp,h⟩
theorem sides_l{l:List Equation}{q:Equation}(h:q∈l):q.left∈sides l∧q.right∈sides l:=by
 induction l with
 |nil=>cases h
 | cons p l ih =>
   rw[sides]
   rcases List.mem_cons.1 h with rfl|h
   · exact⟨List.mem_cons_self ..,List.mem_cons_of_mem _ (List.mem_cons_self ..)⟩
   · exact⟨List.mem_cons_of_mem _ (List.mem_cons_of_mem _ (ih h).1),List.mem_cons_of_mem _ (List.mem_cons_of_mem _ (ih h).2)⟩
def ev18F(l:List Equation):Option (List Int):=if Ty.oks (sides l)=true∧l.length≤1000∧(leavesL 1 (sides l) []).length≤10000 then some (varsM (sides l))else none
def evF(l:List Equation):Option (List Int):=if Ty.oks (sides l)=true∧l.length≤1000∧Ty.sizes (sides l)≤100000 then some (colTs (sides l) [])else none
def rowV2(i:Nat):V:=match i with
 | 0=>.snil
 |i+1=>.own 0 i 0 (2*i+2) none
def rowH2(i:Nat)(L:List Ty):List (Nat×J.Obj):=match i with
 | 0=>[]
 |i+1=>[(0,.arr 5 i (L.map encTy) false false true)]
section
variable {ρ:Nat→Value}(hρ:J.Good ρ)
include hρ
section
variable {E:Env}(hE:E.P=Try.prog)(hcon:ConsOk ρ E)
include hE hcon
theorem triangle_Size_w {d:Nat} (hd:d≤1000000) (hw:E.con 34=rdE (triM wkV)) (hc:E.con 18=rdE (triM (szV d))) {T:List Assign} {σ:Sub} (hT:Tri T σ) (htk:tok T) {t:Ty} (ht:t.ok=true) (hp:t.vplain=true) {m:Nat} (hm:m<d+1) :
 Wp ρ E 2 36 fS18 (((PT.leaf.set 0 (.ptr 0 0 0)).set 1 (enc t)).set 2 (.int .i64 (m:Int))) { H:=mkP (triOL T),n:=2,log:=[] } (J.Leaves E.P Try.f18 (GivesL 2 (.int .i64 (sz (wkF T) t m:Nat)) (triOL T))):=by
 obtain⟨w1,w2,w3,w4⟩:=wkF_walk hT hp
 have hso:(wkF T t).ok=true:=by
  obtain⟨n,hn⟩:=wk_some w1
  exact wk_ok htk hn ht
 have e:=sz_eq (w:=wkF T) t m
 generalize sz (wkF T) t m=Z at e
 have hlen:=Ty.ok_len hso
 have hargs:=(Ty.ok_iff.1 hso).2
 have hvp:=vplains_iff.1 (vplain_args w2)
 have hF:wkV T [enc t]=some (enc (wkF T t),T):=by unfold wkV;simp only[Enc.dec_enc,J.ob_some,w1]
 generalize wkF T t=u at w1 w2 w3 w4 hso e hlen hargs hvp hF
 obtain⟨tk,tn,ti,th,tl⟩:=t
 obtain⟨uk,un,ui,uh,ul⟩:=u
 simp only[encTy_n,enc_Ty,Ty.kind_mk,Ty.name_mk,Ty.id_mk,Ty.home_mk,Ty.args_mk]at hF e hlen hargs hvp
 simp[fS18r0,fS18r1,fS18r2,fS18r3,fS18r4,fS18r5,fS18r6,fS18r7,fS18b0,fS18r8,fS18b1,fS18r9,fS18,hE,triOL,triB,hw,hF]
 refine lpi hρ hE hcon ul.length (nn:=2) (fun i (r:Nat)=>[(0,.ptr 0 0 0),(2,.int .i64 (m:Int)),(7,.int .i64 (r:Int)),(14,.sl (ul.map encTy) false),(15,.int .i64 (ul.length:Int)),(16,.int .i64 (i:Int))])
  (fun _ _=>[(0,.arr 2 0 [[.map 1,.nilmap]] true false false),(1,.mp (T.map typP))]) (fun i r=>1≤r∧r≤m+1∧min (szL (sz (wkF T)) m (ul.drop i) r) (m+1)=Z) 1
  (Less.auto (by simp) (by simp) (by first|rfl|simp) (by simp<;>(intro x hx;first|omega|exact⟨.inl hx,by omega⟩))) ⟨Nat.le_refl _,by omega,by simpa using e.symm⟩ ?_ ?_
 · rintro r ⟨h1,h2,h3⟩ K
   rw[List.drop_length,szL]at h3
   have hadd:IntKind.i64.wrap ((m:Int)+1)=((m+1:Nat):Int):=wrap_succ (by omega)
   simp[fS18l0,fS18r0,fS18r1,fS18r2,fS18r3,fS18r4,fS18r5,fS18r6,fS18r7,fS18b0,fS18r8,fS18b1,fS18r9,fS18,hE]
   refine LessQ.mk (Less.auto (TL:=[(2,.int .i64 (m:Int)),(7,.int .i64 (r:Int))]) (HL:=[(0,.arr 2 0 [[.map 1,.nilmap]] true false false),(1,.mp (T.map typP))]) (n:=2) (by simp) (by simp) (by first|rfl|simp) (by simp<;>(intro x hx;first|omega|exact⟨.inl hx,by omega⟩))) ?_
   by_cases hq:m<r
   · have hq':(m:Int)<r:=by omega
     have e3:Z=m+1:=by omega
     rw[e3]
     simp[fS18r0,fS18r1,fS18r2,fS18r3,fS18r4,fS18r5,fS18r6,fS18r7,fS18b0,fS18r8,fS18b1,fS18r9,fS18,hE,hq,hq',hadd,-Int.natCast_add]
     exact GivesL.keep rfl rfl (by simp<;>omega) (by simp) (by simp)
   · have hq':¬ (m:Int)<r:=by omega
     have e3:Z=r:=by omega
     rw[e3]
     simp[fS18r0,fS18r1,fS18r2,fS18r3,fS18r4,fS18r5,fS18r6,fS18r7,fS18b0,fS18r8,fS18b1,fS18r9,fS18,hE,hq,hq',hadd,-Int.natCast_add]
     exact GivesL.keep rfl rfl (by simp<;>omega) (by simp) (by simp)
 · rintro i r hi ⟨h1,h2,h3⟩ K hK
   have hi':(i:Int)<ul.length:=by omega
   have hw2:IntKind.i64.wrap ((i:Int)+1)=((i+1:Nat):Int):=wrap_succ (by omega)
   have hadd:IntKind.i64.wrap ((m:Int)+1)=((m+1:Nat):Int):=wrap_succ (by omega)
   have hm5:(i*5) / 5=i:=by omega
   have hm6:(i*5) % 5=0:=by omega
   rw[List.drop_eq_getElem_cons hi,szL]at h3
   obtain⟨x,hx⟩:∃ x,ul[i]=x:=⟨_,rfl⟩
   have hxo:=hargs _ (List.getElem_mem hi)
   have hxp:=hvp _ (List.getElem_mem hi)
   rw[hx]at h3 hxo hxp
   by_cases hr:r≤m
   · rw[if_pos hr]at h3
     have hrm':¬ (m:Int)<(r:Int):=by omega
     have hsub:IntKind.i64.wrap ((m:Int)-(r:Int))=((m-r:Nat):Int):=by rw[wrap_i64 (by omega) (by omega)];omega
     have hG:=szV_mk (d:=d) hT htk hxo hxp (m:=m-r) (by omega)
     have hle:=sz_le (w:=wkF T) x (m-r)
     generalize sz (wkF T) x (m-r)=q at hG hle h3
     have hadd2:IntKind.i64.wrap ((r:Int)+(q:Int))=((r+q:Nat):Int):=by rw[wrap_i64 (by omega) (by omega)];omega
     have hnew:=hK (r+q) ⟨by omega,by omega,h3⟩
     clear hK
     obtain⟨xk,xn,xi,xh,xl⟩:=x
     simp only[encTy_n,enc_Ty,Ty.kind_mk,Ty.name_mk,Ty.id_mk,Ty.home_mk,Ty.args_mk]at hG
     simp[fS18l0,fS18r0,fS18r1,fS18r2,fS18r3,fS18r4,fS18r5,fS18r6,fS18r7,fS18b0,fS18r8,fS18b1,fS18r9,fS18,hE,hi,hi',hm5,hm6,hx,hr,hrm',hsub,hc,hG,hadd2,hw2,-Int.natCast_add]
     exact hnew _ _ (Less.auto (by simp[-Int.natCast_add]) (by simp) (by first|rfl|simp) (by simp<;>(intro x hx;first|omega|exact⟨.inl hx,by omega⟩)))
   · rw[if_neg hr]at h3
     have hrm':(m:Int)<(r:Int):=by omega
     have hrm:m<r:=by omega
     simp[fS18l0,fS18r0,fS18r1,fS18r2,fS18r3,fS18r4,fS18r5,fS18r6,fS18r7,fS18b0,fS18r8,fS18b1,fS18r9,fS18,hE,hi,hi',hm5,hm6,hx,hrm,hrm']
     refine LessQ.mk (Less.auto (TL:=[(2,.int .i64 (m:Int)),(7,.int .i64 (r:Int))]) (HL:=[(0,.arr 2 0 [[.map 1,.nilmap]] true false false),(1,.mp (T.map typP))]) (n:=2) (by simp) (by simp) (by first|rfl|simp) (by simp<;>(intro x hx;first|omega|exact⟨.inl hx,by omega⟩))) ?_
     by_cases hq:m<r
     · have hq':(m:Int)<r:=by omega
       have e3:Z=m+1:=by omega
       rw[e3]
       simp[fS18r0,fS18r1,fS18r2,fS18r3,fS18r4,fS18r5,fS18r6,fS18r7,fS18b0,fS18r8,fS18b1,fS18r9,fS18,hE,hq,hq',hadd,-Int.natCast_add]
       exact GivesL.keep rfl rfl (by simp<;>omega) (by simp) (by simp)
     · have hq':¬ (m:Int)<r:=by omega
       have e3:Z=r:=by omega
       rw[e3]
       simp[fS18r0,fS18r1,fS18r2,fS18r3,fS18r4,fS18r5,fS18r6,fS18r7,fS18b0,fS18r8,fS18b1,fS18r9,fS18,hE,hq,hq',hadd,-Int.natCast_add]
       exact GivesL.keep rfl rfl (by simp<;>omega) (by simp) (by simp)
theorem solve_Vars_run(hc:E.con 25=fnS (spec1 tvF)){l:List Equation}{R:List Int}(hl:l.length≤1000)(hF:tvF (sides l)=some R)(hs:HS):CallOk ρ Try.prog 11 [enc l] hs (enc R) hs:=by
 refine fn hρ hE hcon Try.func11 fB11 rfl (by simp) ?_ hs
 simp[fS11r0,fS11r1,fS11r2,fS11r3,fS11r4,fS11r5,fS11b0,fS11r6,fS11b1,fS11r7,fS11,hE]
 refine lpi hρ hE hcon l.length (nn:=1) (fun i (_:Unit)=>[(3,rowV2 i),(6,.sl (l.map encEquation) false),(7,.int .i64 (l.length:Int)),(8,.int .i64 (i:Int))]) (fun i _=>rowH2 i (sides (l.take i))) (fun _ _=>True) ()
  (Less.auto (by simp[rowV2,rowH2]) (by simp[rowH2]) (by first|rfl|simp[rowH2]) (by first|rfl|simp[rowH2])) trivial ?_ ?_
 · intro _ _ K
   rw[List.take_length]
   cases hn:l.length with
   | zero =>
     have h0:l=[]:=List.eq_nil_of_length_eq_zero hn
     subst h0
     simp[fS11l0,fS11r0,fS11r1,fS11r2,fS11r3,fS11r4,fS11r5,fS11b0,fS11r6,fS11b1,fS11r7,fS11,hE,rowV2,rowH2]
     refine LessQ.mk (Less.auto (TL:=[(3,.snil)]) (HL:=[]) (n:=1) (by simp) (by simp) (by first|rfl|simp) (by first|rfl|simp)) ?_
     simp only[sides]at hF
     simp[fS11r0,fS11r1,fS11r2,fS11r3,fS11r4,fS11r5,fS11b0,fS11r6,fS11b1,fS11r7,fS11,hE,hc,hF]
   | succ n =>
     have hsl:=sides_len l
     rw[hn]at hsl
     have htk:List.take (2*n+2) ((sides l).map encTy)=(sides l).map encTy:=List.take_of_length_le (by rw[List.length_map,hsl];omega)
     simp[fS11l0,fS11r0,fS11r1,fS11r2,fS11r3,fS11r4,fS11r5,fS11b0,fS11r6,fS11b1,fS11r7,fS11,hE,hn,rowV2,rowH2]
     refine LessQ.mk (Less.auto (TL:=[(3,.own 0 n 0 (2*n+2) none)]) (HL:=[(0,.arr 5 n ((sides l).map encTy) false false true)]) (n:=1) (by simp) (by simp) (by first|rfl|simp) (by first|rfl|simp)) ?_
     have hle2:2*n+2≤(sides l).length:=by omega
     simp[fS11r0,fS11r1,fS11r2,fS11r3,fS11r4,fS11r5,fS11b0,fS11r6,fS11b1,fS11r7,fS11,hE,hc,hF,htk,hle2]
 · intro i _ hi _ K hK
   have hnew:=hK () trivial
   clear hK
   have hi':(i:Int)<l.length:=by omega
   have hw2:IntKind.i64.wrap ((i:Int)+1)=((i+1:Nat):Int):=wrap_succ (by omega)
   have ha0:(i*10) / 10=i:=by omega
   have ha1:(i*10) % 10=0:=by omega
   have ha2:(i*10+5) / 10=i:=by omega
   have ha3:(i*10+5) % 10=5:=by omega
   have hsn:sides (l.take (i+1))=sides (l.take i)++[l[i].left,l[i].right]:=by
    rw[List.take_add_one,List.getElem?_eq_getElem hi,Option.toList_some,sides_app];rfl
   rw[hsn]at hnew
   have hsl:=sides_len (l.take i)
   rw[List.length_take,Nat.min_eq_left (by omega)]at hsl
   obtain⟨q,hq⟩:∃ q,l[i]=q:=⟨_,rfl⟩
   rw[hq]at hnew
   obtain⟨qa,qb⟩:=q
   rcases i with _|i
   · simp[fS11l0,fS11r0,fS11r1,fS11r2,fS11r3,fS11r4,fS11r5,fS11b0,fS11r6,fS11b1,fS11r7,fS11,hE,hi,hi',hq,rowV2,rowH2,sides,hw2,-Int.natCast_add]
     simp only[List.take_zero,sides,List.nil_append]at hnew
     exact hnew _ _ (Less.auto (by simp[rowV2,rowH2,show IntKind.i64.wrap 1=1 from rfl,-Int.natCast_add]) (by simp[rowV2,rowH2]) (by first|rfl|simp[rowH2]) (by first|rfl|simp[rowH2]))
   · generalize sides (l.take (i+1))=S at hsl hnew
     have htk:List.take (2*i+2) (S.map encTy)=S.map encTy:=List.take_of_length_le (by rw[List.length_map,hsl];omega)
     have h64:(2*i+2+2)*64≤1048576:=Nat.le_trans (Nat.mul_le_mul_right 64 (show 2*i+2+2≤2002 by omega)) (by decide)
     have hno:¬ 2*i+2+2≤2*(i+1):=by omega
     have hye:2*i+2≤2*(i+1):=by omega
     have he4:2*(i+1)+2=2*i+2+2:=by omega
     simp[fS11l0,fS11r0,fS11r1,fS11r2,fS11r3,fS11r4,fS11r5,fS11b0,fS11r6,fS11b1,fS11r7,fS11,hE,hi,hi',hq,ha0,ha1,ha2,ha3,rowV2,rowH2,htk,h64,Nat.not_succ_le_self,hsl,hno,hye,hw2,-Int.natCast_add]
     exact hnew _ _ (Less.auto (by simp[rowV2,rowH2,he4,-Int.natCast_add]) (by simp[rowV2,rowH2]) (by first|rfl|simp[rowH2]) (by first|rfl|simp[rowH2]))
end
theorem vTSize(d:Nat)(hd:d≤1000000):Valid ρ Try.prog 18 (rdE (triM (szV d))):=by
 induction d with
 | zero =>
   refine Valid.rdE (fo Try.func18 fB18) fun vs hs D h _=>?_
   obtain⟨args,T,r,T',a,m,hF,rfl,_,hr,hg,hfit⟩:=triM_inv h
   obtain⟨_,_,_,_,_,_,_,_,h,_⟩:=szV_inv hF
   omega
 | succ d ih =>
   refine Valid.rdE (fo Try.func18 fB18) fun vs hs D h _=>?_
   obtain⟨args,T,r,T',a,m,hF,rfl,_,hr,hg,hfit⟩:=triM_inv h
   obtain⟨t,m2,σ,rfl,h1,h2,h3,h4,h5,h6⟩:=szV_inv hF
   cases h6
   have hEE:(EL [(34,rdE (triM wkV)),(18,rdE (triM (szV d)))]).P=Try.prog:=rfl
   have hcn:ConsOk ρ (EL [(34,rdE (triM wkV)),(18,rdE (triM (szV d)))]):=consOk_list (valid_cons (vTWalk hρ) (valid_cons (ih (by omega)) valid_nil))
   exact rdG_run hρ hcn rfl named Try.func18 fB18 rfl hg rfl hr (triangle_Size_w hρ hEE hcn (by omega) rfl rfl h1 h2 h3 h4 h5) hfit
theorem vEqVars:Valid ρ Try.prog 11 (fnS (spec1 evF)):=v1 (fo Try.func11 fB11) fun a r h hs=>by
 obtain⟨⟨h1,h2,h3⟩,rfl⟩:=ite_inv h
 exact solve_Vars_run hρ (E:=EL [(25,tvarsS)]) rfl (consOk_list (valid_cons (vTVars hρ) valid_nil)) rfl h2 (if_pos ⟨h1,by rw[sides_len];omega,h3⟩) hs
end
end Go.Proofs.Ytfgmnebfhemnpaa
/- Closures over a set of types: whether what it makes of a type is too large. -/
namespace Go.Proofs.Ytfgmnebfhemnpaa
open Go.J
open Go.J.Enc (enc)
set_option maxRecDepth 100000
set_option maxHeartbeats 1000000
def lgX(T:List Assign):List Int→Int→Int
 | [],_=>-1
 |x::l,i=>if lgB T (tVar x)=true then i else lgX T l (i+1)
theorem lgX_any(T:List Assign):∀ (l:List Int) (i:Int),0≤i→decide (0≤lgX T l i)=l.any fun x=>lgB T (tVar x):=by
 intro l
 induction l with
 |nil=>intro i _;rfl
 | cons x l ih =>
   intro i hi
   rw[lgX,List.any_cons]
   by_cases h:lgB T (tVar x)=true
   · rw[if_pos h,h,Bool.true_or];exact decide_eq_true hi
   · rw[if_neg h,ih (i+1) (by omega)]
     have:lgB T (tVar x)=false:=by simpa using h
     rw[this,Bool.false_or]
open Classical in
def lgT(T:List Assign)(av:V):Option V:=ob (Enc.dec av:Option Ty) fun t=>if (∃ σ,Tri T σ)∧tok T∧t.ok=true∧t.vplain=true then some (.bool (lgB T t))else none
open Classical in
def lgI(T:List Assign)(av:V):Option V:=ob (Enc.dec av:Option Int) fun i=>if (∃ σ,Tri T σ)∧tok T then some (.bool (lgB T (tVar i)))else none
open Classical in
def lgN(T:List Assign)(av:V):Option V:=ob (Enc.dec av:Option (List Int)) fun l=>if (∃ σ,Tri T σ)∧tok T∧l.length≤100000 then some (.int .i64 (lgX T l 0))else none
open Classical in
def lgA(T:List Assign)(av:V):Option V:=ob (Enc.dec av:Option (List Int)) fun l=>if (∃ σ,Tri T σ)∧tok T∧l.length≤100000 then some (.bool (l.any fun x=>lgB T (tVar x)))else none
def lg1S:J.Spec:=rdE (lgM lgT 0 17 21)
def lg2S:J.Spec:=rdE (lgM lgI 1 17 21)
def lg3S:J.Spec:=rdE (lgM lgN 2 17 21)
def lg4S:J.Spec:=rdE (lgM lgA 2 17 21)
section
variable {ρ:Nat→Value}(hρ:J.Good ρ)
include hρ
section
variable {E:Env}(hE:E.P=Try.prog)(hcon:ConsOk ρ E)
include hE hcon
theorem solve_Solve_1_w(hS:E.con 18=rdE (triM (szV 1000))){T:List Assign}{σ:Sub}(hT:Tri T σ)(htk:tok T){t:Ty}(ht:t.ok=true)(hp:t.vplain=true) :
 Wp ρ E 3 8 fS17 ((PT.leaf.set 0 (enc t)).set 1 (.ptr 0 0 0)) { H:=mkP (lgOL 0 17 T),n:=3,log:=[] } (J.Leaves E.P Try.f17 (GivesL 3 (.bool (lgB T t)) (lgOL 0 17 T))):=by
 have hF:=szV_mk (d:=1000) hT htk ht hp (m:=200) (by omega)
 unfold lgB
 generalize sz (wkF T) t 200=z at hF
 obtain⟨tk,tn,ti,th,tl⟩:=t
 simp only[encTy_n,enc_Ty,Ty.kind_mk,Ty.name_mk,Ty.id_mk,Ty.home_mk,Ty.args_mk]at hF
 have hF:szV 1000 T [.agg [.int .i64 tk,.str tn,.int .i64 ti,.int .i64 th,.sl (tl.map encTy) false],.int .i64 200]=some (.int .i64 (z:Int),T):=hF
 by_cases hz:200<z
 · have hz':(200:Int)<z:=by omega
   simp[fS17r0,fS17r1,fS17,hE,lgOL,hS,hF,hz,hz']
   exact GivesL.keep rfl rfl (by simp) (by simp) (by simp)
 · have hz':¬ (200:Int)<z:=by omega
   simp[fS17r0,fS17r1,fS17,hE,lgOL,hS,hF,hz,hz']
   exact GivesL.keep rfl rfl (by simp) (by simp) (by simp)
theorem solve_Solve_2_w(h1:E.con 17=lg1S)(hv:E.con 22=fnS (spec1 fun i:Int=>some (tVar i))){T:List Assign}{σ:Sub}(hT:Tri T σ)(htk:tok T){x:Int} :
 Wp ρ E 4 8 fS21 ((PT.leaf.set 0 (enc x)).set 1 (.ptr 3 0 0)) { H:=mkP (lgOL 1 17 T),n:=4,log:=[] } (J.Leaves E.P Try.f21 (GivesL 4 (.bool (lgB T (tVar x))) (lgOL 1 17 T))):=by
 have hF:lgT T (enc (tVar x))=some (.bool (lgB T (tVar x))):=by
  unfold lgT
  simp only[Enc.dec_enc,J.ob_some]
  exact if_pos ⟨⟨σ,hT⟩,htk,tVar_okJ x,vplain_tVar x⟩
 generalize lgB T (tVar x)=q at hF
 simp only[tVar,encTy_n,enc_Ty,Ty.kind_mk,Ty.name_mk,Ty.id_mk,Ty.home_mk,Ty.args_mk,List.map_nil]at hF
 simp[fS21r0,fS21r1,fS21,hE,lgOL,h1,lg1S,hv,tVar,hF]
 exact GivesL.keep rfl rfl (by simp) (by simp) (by simp)
theorem IndexFunc_ints_w(h2:E.con 21=lg2S){T:List Assign}{σ:Sub}(hT:Tri T σ)(htk:tok T){l:List Int}(hl:l.length≤100000) :
 Wp ρ E 4 19 fS36 ((PT.leaf.set 0 (enc l)).set 1 (.func 21 [.ptr 3 0 0])) { H:=mkP (lgOL 2 17 T),n:=4,log:=[] } (J.Leaves E.P Try.f36 (GivesL 4 (.int .i64 (lgX T l 0)) (lgOL 2 17 T))):=by
 generalize hR:lgX T l 0=R
 simp[fS36r0,fS36r1,fS36r2,fS36r3,fS36r4,fS36r5,fS36b0,fS36r6,fS36b1,fS36r7,fS36,hE,lgOL]
 refine lpi hρ hE hcon l.length (nn:=4) (fun i (_:Unit)=>[(0,.sl (l.map encI) false),(1,.func 21 [.ptr 3 0 0]),(6,.sl (l.map encI) false),(7,.int .i64 (l.length:Int)),(8,.int .i64 (i:Int))])
  (fun _ _=>[(0,.arr 1 0 [[.ptr 1 0 0]] true false false),(1,.arr 2 0 [[.map 2,.nilmap]] true false false),(2,.mp (T.map typP)),(3,.arr 1 0 [[.func 17 [.ptr 0 0 0]]] true false false)]) (fun i _=>lgX T (l.drop i) i=R) ()
  (Less.auto (by simp) (by simp) (by first|rfl|simp) (by simp<;>(intro x hx;first|omega|exact⟨.inl hx,by omega⟩))) (by simpa using hR) ?_ ?_
 · intro _ h K
   rw[List.drop_length,lgX]at h
   subst h
   simp[fS36l0,fS36r0,fS36r1,fS36r2,fS36r3,fS36r4,fS36r5,fS36b0,fS36r6,fS36b1,fS36r7,fS36,hE]
   refine LessQ.mk (Less.auto (TL:=[]) (HL:=[(0,.arr 1 0 [[.ptr 1 0 0]] true false false),(1,.arr 2 0 [[.map 2,.nilmap]] true false false),(2,.mp (T.map typP)),(3,.arr 1 0 [[.func 17 [.ptr 0 0 0]]] true false false)]) (n:=4) (by simp) (by simp) (by first|rfl|simp) (by simp<;>(intro x hx;first|omega|exact⟨.inl hx,by omega⟩))) ?_
   simp[fS36r0,fS36r1,fS36r2,fS36r3,fS36r4,fS36r5,fS36b0,fS36r6,fS36b1,fS36r7,fS36,hE]
   exact GivesL.keep rfl rfl (by simp) (by simp) (by simp)
 · intro i _ hi h K hK
   have hi':(i:Int)<l.length:=by omega
   have hw2:IntKind.i64.wrap ((i:Int)+1)=((i+1:Nat):Int):=wrap_succ (by omega)
   rw[List.drop_eq_getElem_cons hi,lgX]at h
   obtain⟨x,hx⟩:∃ x,l[i]=x:=⟨_,rfl⟩
   rw[hx]at h
   have hF:lgI T (enc x)=some (.bool (lgB T (tVar x))):=by
    unfold lgI
    simp only[Enc.dec_enc,J.ob_some]
    exact if_pos ⟨⟨σ,hT⟩,htk⟩
   have hF:lgI T (.int .i64 x)=some (.bool (lgB T (tVar x))):=hF
   by_cases hq:lgB T (tVar x)=true
   · rw[if_pos hq]at h
     rw[hq]at hF
     subst h
     simp[fS36l0,fS36r0,fS36r1,fS36r2,fS36r3,fS36r4,fS36r5,fS36b0,fS36r6,fS36b1,fS36r7,fS36,hE,hi,hi',hx,h2,lg2S,hF]
     refine LessQ.mk (Less.auto (TL:=[(4,.int .i64 (i:Int))]) (HL:=[(0,.arr 1 0 [[.ptr 1 0 0]] true false false),(1,.arr 2 0 [[.map 2,.nilmap]] true false false),(2,.mp (T.map typP)),(3,.arr 1 0 [[.func 17 [.ptr 0 0 0]]] true false false)]) (n:=4) (by simp) (by simp) (by first|rfl|simp) (by simp<;>(intro x hx;first|omega|exact⟨.inl hx,by omega⟩))) ?_
     simp[fS36r0,fS36r1,fS36r2,fS36r3,fS36r4,fS36r5,fS36b0,fS36r6,fS36b1,fS36r7,fS36,hE]
     exact GivesL.keep rfl rfl (by simp) (by simp) (by simp)
   · rw[if_neg hq]at h
     have hq':lgB T (tVar x)=false:=by simpa using hq
     rw[hq']at hF
     have hnew:=hK () (by rw[← h];congr 1)
     simp[fS36l0,fS36r0,fS36r1,fS36r2,fS36r3,fS36r4,fS36r5,fS36b0,fS36r6,fS36b1,fS36r7,fS36,hE,hi,hi',hx,h2,lg2S,hF,hw2,-Int.natCast_add]
     exact hnew _ _ (Less.auto (by simp[-Int.natCast_add]) (by simp) (by first|rfl|simp) (by simp<;>(intro x hx;first|omega|exact⟨.inl hx,by omega⟩)))
theorem ContainsFunc_ints_w(h3:E.con 36=lg3S){T:List Assign}{σ:Sub}(hT:Tri T σ)(htk:tok T){l:List Int}(hl:l.length≤100000) :
 Wp ρ E 4 9 fS20 ((PT.leaf.set 0 (enc l)).set 1 (.func 21 [.ptr 3 0 0])) { H:=mkP (lgOL 2 17 T),n:=4,log:=[] } (J.Leaves E.P Try.f20 (GivesL 4 (.bool (l.any fun x=>lgB T (tVar x))) (lgOL 2 17 T))):=by
 rw[← lgX_any T l 0 (Int.le_refl _)]
 have hF:lgN T (enc l)=some (.int .i64 (lgX T l 0)):=by
  unfold lgN
  simp only[Enc.dec_enc,J.ob_some]
  exact if_pos ⟨⟨σ,hT⟩,htk,hl⟩
 generalize lgX T l 0=R at hF
 simp at hF
 simp[fS20r0,fS20r1,fS20,hE,lgOL,h3,lg3S,hF]
 exact GivesL.keep rfl rfl (by simp) (by simp) (by simp)
end
theorem vLg1:Valid ρ Try.prog 17 lg1S:=Valid.rdE (fo Try.func17 fB17) fun vs hs D h _=>by
 obtain⟨av,T,r,c,a,m,b,hF,rfl,hr,hg,hfit⟩:=lgM_inv h
 unfold lgT at hF
 simp only[ob_eq]at hF
 obtain⟨t,ht,hF⟩:=hF
 split at hF
 · rename_i hh
   cases hF
   obtain⟨⟨σ,h1⟩,h2,h3,h4⟩:=hh
   have e:=Enc.enc_dec _ _ ht
   subst e
   exact rdG_run hρ (E:=EL [(18,rdE (triM (szV 1000)))]) (consOk_list (valid_cons (vTSize hρ 1000 (by omega)) valid_nil)) rfl named Try.func17 fB17 rfl hg rfl hr
    (solve_Solve_1_w hρ (E:=EL [(18,rdE (triM (szV 1000)))]) rfl (consOk_list (valid_cons (vTSize hρ 1000 (by omega)) valid_nil)) rfl h1 h2 h3 h4) hfit
 · cases hF
theorem vLg2:Valid ρ Try.prog 21 lg2S:=Valid.rdE (fo Try.func21 fB21) fun vs hs D h _=>by
 obtain⟨av,T,r,c,a,m,b,hF,rfl,hr,hg,hfit⟩:=lgM_inv h
 unfold lgI at hF
 simp only[ob_eq]at hF
 obtain⟨x,hx,hF⟩:=hF
 split at hF
 · rename_i hh
   cases hF
   obtain⟨⟨σ,h1⟩,h2⟩:=hh
   have e:=Enc.enc_dec _ _ hx
   subst e
   have hcn:ConsOk ρ (EL [(17,lg1S),(22,fnS (spec1 fun i:Int=>some (tVar i)))]):=consOk_list (valid_cons (vLg1 hρ) (valid_cons (vTVar hρ) valid_nil))
   exact rdG_run hρ hcn rfl named Try.func21 fB21 rfl hg rfl hr (solve_Solve_2_w hρ (E:=EL [(17,lg1S),(22,fnS (spec1 fun i:Int=>some (tVar i)))]) rfl hcn rfl rfl h1 h2) hfit
 · cases hF
theorem vLg3:Valid ρ Try.prog 36 lg3S:=Valid.rdE (fo Try.func36 fB36) fun vs hs D h _=>by
 obtain⟨av,T,r,c,a,m,b,hF,rfl,hr,hg,hfit⟩:=lgM_inv h
 unfold lgN at hF
 simp only[ob_eq]at hF
 obtain⟨x,hx,hF⟩:=hF
 split at hF
 · rename_i hh
   cases hF
   obtain⟨⟨σ,h1⟩,h2,h3⟩:=hh
   have e:=Enc.enc_dec _ _ hx
   subst e
   have hcn:ConsOk ρ (EL [(21,lg2S)]):=consOk_list (valid_cons (vLg2 hρ) valid_nil)
   exact rdG_run hρ hcn rfl named Try.func36 fB36 rfl hg rfl hr (IndexFunc_ints_w hρ (E:=EL [(21,lg2S)]) rfl hcn rfl h1 h2 h3) hfit
 · cases hF
theorem vLg4:Valid ρ Try.prog 20 lg4S:=Valid.rdE (fo Try.func20 fB20) fun vs hs D h _=>by
 obtain⟨av,T,r,c,a,m,b,hF,rfl,hr,hg,hfit⟩:=lgM_inv h
 unfold lgA at hF
 simp only[ob_eq]at hF
 obtain⟨x,hx,hF⟩:=hF
 split at hF
 · rename_i hh
   cases hF
   obtain⟨⟨σ,h1⟩,h2,h3⟩:=hh
   have e:=Enc.enc_dec _ _ hx
   subst e
   have hcn:ConsOk ρ (EL [(36,lg3S)]):=consOk_list (valid_cons (vLg3 hρ) valid_nil)
   exact rdG_run hρ hcn rfl named Try.func20 fB20 rfl hg rfl hr (ContainsFunc_ints_w hρ (E:=EL [(36,lg3S)]) rfl hcn rfl h1 h2 h3) hfit
 · cases hF
end
end Go.Proofs.Ytfgmnebfhemnpaa
/- Solving equations with a set of types. -/
namespace Go.Proofs.Ytfgmnebfhemnpaa
open Go.J
open Go.J.Enc (enc)
set_option maxRecDepth 100000
set_option maxHeartbeats 1000000
def SU(l:List Equation)(p:T3 (List Assign) Int Int):Prop:=∃ k T σ,slA (varsM (sides l)) l 0 tVar=(p.c,k,σ)∧p.b=((k:Nat):Int)∧(p.c=0→Tri T σ∧tok T)∧p.a=if p.c=0 then asgF T σ (varsM (sides l))else []
structure EqsOk(l:List Equation):Prop where
 ok:∀ t∈sides l,t.ok=true
 eq:∀ q∈l,EqOk (varsM (sides l)) q.left∧EqOk (varsM (sides l)) q.right
 len:l.length≤100
 sz:Ty.sizes (sides l)≤8000
open Classical in
def suM(l:List Equation):T3 (List Assign) Int Int:=if h:∃ p,SU l p then h.choose else ⟨[],0,0⟩
open Classical in
def suF(l:List Equation):Option (T3 (List Assign) Int Int):=if EqsOk l then some (suM l)else none
theorem sides_plain{l:List Equation}(h:EqsOk l):∀ t∈sides l,t.vplain=true:=fun t ht=>by
 obtain⟨q,hq,hh⟩:=sides_mem ht
 rcases hh with rfl|rfl
 · exact(h.eq q hq).1.1
 · exact(h.eq q hq).2.1
theorem eqs_tr{l:List Equation}(h:EqsOk l):∃ g e k T σ,trM g (varsM (sides l)) l 0 []=some (e,k,T)∧slA (varsM (sides l)) l 0 tVar=(e,k,σ)∧(e=0→Tri T σ) :=
 tr_sl l 0 [] tVar .nil (sinv0 _) h.eq
theorem trM_tok{g:Nat}{V:List Int}:∀ (l:List Equation) (i:Nat) (T:List Assign) (e:Int) (k:Nat) (T':List Assign),tok T→(∀ q∈l,q.left.ok=true∧q.right.ok=true)→trM g V l i T=some (e,k,T')→tok T':=by
 intro l
 induction l with
 |nil=>intro i T e k T' h _ hr;cases hr;exact h
 | cons q l ih =>
   intro i T e k T' h hl hr
   rw[trM]at hr
   split at hr
   · cases hr;exact h
   cases hq:tuM g T q.left q.right with
   |none=>rw[hq]at hr;cases hr
   | some r =>
     obtain⟨e1,T1⟩:=r
     rw[hq]at hr
     have h1:=tu_tok g T q.left q.right e1 T1 h (hl q (List.mem_cons_self ..)).1 (hl q (List.mem_cons_self ..)).2 hq
     simp only at hr
     split at hr
     · cases hr;exact h1
     split at hr
     · cases hr;exact h1
     · exact ih _ _ _ _ _ h1 (fun q hq=>hl q (List.mem_cons_of_mem _ hq)) hr
theorem eqs_oks{l:List Equation}(h:EqsOk l):∀ q∈l,q.left.ok=true∧q.right.ok=true:=fun q hq=>⟨h.ok _ (sides_l hq).1,h.ok _ (sides_l hq).2⟩
theorem su_ok{l:List Equation}(h:EqsOk l):SU l (suM l):=by
 have hex:∃ p,SU l p:=by
  obtain⟨g,e,k,T,σ,h1,h2,h3⟩:=eqs_tr h
  exact⟨⟨if e=0 then asgF T σ (varsM (sides l))else [],k,e⟩,k,T,σ,h2,rfl,fun h0=>⟨h3 h0,trM_tok l 0 [] e k T (fun a h=>by cases h) (eqs_oks h) h1⟩,rfl⟩
 unfold suM
 rw[dif_pos hex]
 exact hex.choose_spec
theorem tri_dom{T:List Assign}{σ:Sub}(h:Tri T σ)(i:Int):(lookA T i).isSome=true↔σ i≠tVar i:=by
 constructor
 · intro hs
   exact h.bound i fun e=>by rw[e]at hs;cases hs
 · intro hn
   cases hl:lookA T i with
   |some u=>rfl
   |none=>exact absurd (h.props.free i hl) hn
theorem asgF_same{T T':List Assign}{σ:Sub}(h:Tri T σ)(h':Tri T' σ)(ids:List Int):asgF T σ ids=asgF T' σ ids:=by
 unfold asgF
 congr 1
 refine List.filter_congr fun i _=>?_
 have:=(tri_dom h i).trans (tri_dom h' i).symm
 cases h1:(lookA T i).isSome<;>cases h2:(lookA T' i).isSome<;>simp[h1,h2]at this ⊢
section
variable {ρ:Nat→Value}(hρ:J.Good ρ)
include hρ
section
variable {E:Env}(hE:E.P=Try.prog)(hcon:ConsOk ρ E)
include hE hcon
theorem solve_Solve_loop {g:Nat} (h1:E.con 17=lg1S) (hU:E.con 19=embS (triM (tuV g))) (hC:E.con 20=lg4S) {l:List Equation} {W:List Int} (hWl:W.length≤100000) (hl:l.length≤100) (heq:∀ q∈l,EqOk W q.left∧EqOk W q.right) (hok:∀ q∈l,q.left.ok=true∧q.right.ok=true)
 {e:Int} {k:Nat} {T':List Assign} (htr:trM g W l 0 []=some (e,k,T')) {Q:Ex→PT V→HS→Prop} {T0:PT V} {hs0:HS}
 (h0:Less 0 T0 hs0 (mkP [(0,.sl (l.map encEquation) false),(5,.sl (W.map encI) false),(6,.ptr 0 0 0),(7,.ptr 3 0 0),(15,.sl (l.map encEquation) false),(16,.int .i64 (l.length:Int)),(17,.int .i64 ((0:Nat):Int))]) { H:=mkP [(0,.arr 1 0 [[.ptr 1 0 0]] true false false),(1,.arr 2 0 [[.map 2,.nilmap]] true false false),(2,.mp (([]:List Assign).map typP)),(3,.arr 1 0 [[.func 17 [.ptr 0 0 0]]] true false false)],n:=4,log:=[] })
 (hQ0:e=0→Q (.exit 0) (mkP [(0,.sl (l.map encEquation) false),(5,.sl (W.map encI) false),(6,.ptr 0 0 0)]) { H:=mkP [(0,.arr 1 0 [[.ptr 1 0 0]] true false false),(1,.arr 2 0 [[.map 2,.nilmap]] true false false),(2,.mp (T'.map typP))],n:=3,log:=[] })
 (hQ1:e≠0→Q .ret (mkP [(2,.snil),(3,.int .i64 (k:Int)),(4,.int .i64 e)]) { H:=mkP [],n:=0,log:=[] }) :
 Ls ρ E 0 53 (.loop fS7l0) T0 hs0 Q:=by
 refine lpi hρ hE hcon l.length (nn:=4) (fun i (_:List Assign)=>[(0,.sl (l.map encEquation) false),(5,.sl (W.map encI) false),(6,.ptr 0 0 0),(7,.ptr 3 0 0),(15,.sl (l.map encEquation) false),(16,.int .i64 (l.length:Int)),(17,.int .i64 (i:Int))])
  (fun _ T=>[(0,.arr 1 0 [[.ptr 1 0 0]] true false false),(1,.arr 2 0 [[.map 2,.nilmap]] true false false),(2,.mp (T.map typP)),(3,.arr 1 0 [[.func 17 [.ptr 0 0 0]]] true false false)]) (fun i T=>(∃ σ,Tri T σ∧SInv W σ)∧tok T∧trM g W (l.drop i) i T=some (e,k,T')) [] h0 ⟨⟨tVar,.nil,sinv0 _⟩,fun a h=>(by cases h),htr⟩ ?_ ?_
 · rintro T ⟨_,_,g3⟩ K
   rw[List.drop_length,trM]at g3
   cases g3
   simp[fS7l0,fS7r0,fS7r1,fS7r2,fS7r3,fS7r4,fS7r5,fS7r6,fS7r7,fS7r8,fS7r9,fS7r10,fS7r11,fS7r12,fS7r13,fS7b0,fS7r14,fS7b1,fS7r15,fS7,hE]
   exact LessQ.mk (Less.auto (n:=3) (by simp) (by simp) (by first|rfl|simp) (by first|rfl|simp)) (hQ0 rfl)
 · rintro i T hi ⟨⟨σ,hT,hS⟩,htk,g3⟩ K hK
   have hi':(i:Int)<l.length:=by omega
   have hw2:IntKind.i64.wrap ((i:Int)+1)=((i+1:Nat):Int):=wrap_succ (by omega)
   have hm5:(i*10) / 10=i:=by omega
   have hm6:(i*10) % 10=0:=by omega
   rw[List.drop_eq_getElem_cons hi,trM]at g3
   obtain⟨ea,eb⟩:=heq _ (List.getElem_mem hi)
   obtain⟨oa,ob⟩:=hok _ (List.getElem_mem hi)
   obtain⟨q,hq⟩:∃ q,l[i]=q:=⟨_,rfl⟩
   rw[hq]at g3 ea eb oa ob
   obtain⟨a,b⟩:=q
   simp only at g3 ea eb oa ob
   have hFa:lgT T (enc a)=some (.bool (lgB T a)):=by
    unfold lgT
    simp only[Enc.dec_enc,J.ob_some]
    exact if_pos ⟨⟨σ,hT⟩,htk,oa,ea.1⟩
   have hFb:lgT T (enc b)=some (.bool (lgB T b)):=by
    unfold lgT
    simp only[Enc.dec_enc,J.ob_some]
    exact if_pos ⟨⟨σ,hT⟩,htk,ob,eb.1⟩
   clear h0
   cases h2:lgB T a with
   | true =>
     rw[h2,if_pos (.inl rfl)]at g3
     cases g3
     rw[h2]at hFa
     clear hQ0 hK hFb
     obtain⟨ak,an,ai,ah,al⟩:=a
     obtain⟨bk,bn,bi,bh,bl⟩:=b
     simp only[encTy_n,enc_Ty,Ty.kind_mk,Ty.name_mk,Ty.id_mk,Ty.home_mk,Ty.args_mk]at hFa
     simp[fS7l0,fS7r0,fS7r1,fS7r2,fS7r3,fS7r4,fS7r5,fS7r6,fS7r7,fS7r8,fS7r9,fS7r10,fS7r11,fS7r12,fS7r13,fS7b0,fS7r14,fS7b1,fS7r15,fS7,hE,hi,hi',hm5,hm6,hq,h1,lg1S,hFa]
     exact LessQ.mk (Less.auto (n:=0) (by simp) (by simp) (by first|rfl|simp) (by first|rfl|simp)) (hQ1 (by first|decide|assumption))
   | false =>
     cases h3:lgB T b with
     | true =>
       rw[h2,h3,if_pos (.inr rfl)]at g3
       cases g3
       rw[h2]at hFa
       rw[h3]at hFb
       clear hQ0 hK
       obtain⟨ak,an,ai,ah,al⟩:=a
       obtain⟨bk,bn,bi,bh,bl⟩:=b
       simp only[encTy_n,enc_Ty,Ty.kind_mk,Ty.name_mk,Ty.id_mk,Ty.home_mk,Ty.args_mk]at hFa hFb
       simp[fS7l0,fS7r0,fS7r1,fS7r2,fS7r3,fS7r4,fS7r5,fS7r6,fS7r7,fS7r8,fS7r9,fS7r10,fS7r11,fS7r12,fS7r13,fS7b0,fS7r14,fS7b1,fS7r15,fS7,hE,hi,hi',hm5,hm6,hq,h1,lg1S,hFa,hFb]
       exact LessQ.mk (Less.auto (n:=0) (by simp) (by simp) (by first|rfl|simp) (by first|rfl|simp)) (hQ1 (by first|decide|assumption))
     | false =>
       rw[h2,h3,if_neg (by simp)]at g3
       rw[h2]at hFa
       rw[h3]at hFb
       cases hr:tuM g T a b with
       |none=>rw[hr]at g3;cases g3
       | some r =>
         obtain⟨e1,T1⟩:=r
         rw[hr]at g3
         simp only at g3
         have htk1:=tu_tok g T a b e1 T1 htk oa ob hr
         have hFu:tuV g T [enc a,enc b]=some (.int .i64 e1,T1):=by
          unfold tuV
          simp only[Enc.dec_enc,J.ob_some,if_pos (And.intro htk (And.intro oa ob)),hr]
         by_cases he:e1=0
         · subst he
           simp only[ne_eq,not_true_eq_false,if_false]at g3
           obtain⟨g',e',T2,σ',k1,k2,k3⟩:=tr_step hT hS ea eb
           have hdt:=tu_det hr k1
           cases hdt
           obtain⟨hT1,hS1⟩:=k3 rfl
           have hFc:lgA T1 (enc W)=some (.bool (W.any fun x=>lgB T1 (tVar x))):=by
            unfold lgA
            simp only[Enc.dec_enc,J.ob_some]
            exact if_pos ⟨⟨σ',hT1⟩,htk1,hWl⟩
           simp at hFc
           cases h4:(W.any fun x=>lgB T1 (tVar x))with
           | true =>
             rw[h4,if_pos rfl]at g3
             cases g3
             rw[h4]at hFc
             clear hQ0 hK k1 k2 k3
             obtain⟨ak,an,ai,ah,al⟩:=a
             obtain⟨bk,bn,bi,bh,bl⟩:=b
             simp only[encTy_n,enc_Ty,Ty.kind_mk,Ty.name_mk,Ty.id_mk,Ty.home_mk,Ty.args_mk]at hFa hFb hFu
             simp[fS7l0,fS7r0,fS7r1,fS7r2,fS7r3,fS7r4,fS7r5,fS7r6,fS7r7,fS7r8,fS7r9,fS7r10,fS7r11,fS7r12,fS7r13,fS7b0,fS7r14,fS7b1,fS7r15,fS7,hE,hi,hi',hm5,hm6,hq,h1,lg1S,hFa,hFb,hU,hFu,triB,hC,lg4S,hFc]
             exact LessQ.mk (Less.auto (n:=0) (by simp) (by simp) (by first|rfl|simp) (by first|rfl|simp)) (hQ1 (by first|decide|assumption))
           | false =>
             rw[h4,if_neg (by simp)]at g3
             rw[h4]at hFc
             have hnew:=hK T1 ⟨⟨σ',hT1,hS1⟩,htk1,g3⟩
             clear hQ0 hQ1 hK k1 k2 k3 g3
             obtain⟨ak,an,ai,ah,al⟩:=a
             obtain⟨bk,bn,bi,bh,bl⟩:=b
             simp only[encTy_n,enc_Ty,Ty.kind_mk,Ty.name_mk,Ty.id_mk,Ty.home_mk,Ty.args_mk]at hFa hFb hFu
             simp[fS7l0,fS7r0,fS7r1,fS7r2,fS7r3,fS7r4,fS7r5,fS7r6,fS7r7,fS7r8,fS7r9,fS7r10,fS7r11,fS7r12,fS7r13,fS7b0,fS7r14,fS7b1,fS7r15,fS7,hE,hi,hi',hm5,hm6,hq,h1,lg1S,hFa,hFb,hU,hFu,triB,hC,lg4S,hFc,hw2,-Int.natCast_add]
             exact hnew _ _ (Less.auto (by simp[-Int.natCast_add]) (by simp) (by first|rfl|simp) (by first|rfl|simp))
         · rw[if_pos he]at g3
           cases g3
           clear hQ0 hK
           obtain⟨ak,an,ai,ah,al⟩:=a
           obtain⟨bk,bn,bi,bh,bl⟩:=b
           simp only[encTy_n,enc_Ty,Ty.kind_mk,Ty.name_mk,Ty.id_mk,Ty.home_mk,Ty.args_mk]at hFa hFb hFu
           simp[fS7l0,fS7r0,fS7r1,fS7r2,fS7r3,fS7r4,fS7r5,fS7r6,fS7r7,fS7r8,fS7r9,fS7r10,fS7r11,fS7r12,fS7r13,fS7b0,fS7r14,fS7b1,fS7r15,fS7,hE,hi,hi',hm5,hm6,hq,h1,lg1S,hFa,hFb,hU,hFu,he,triB]
           exact LessQ.mk (Less.auto (n:=0) (by simp) (by simp) (by first|rfl|simp) (by first|rfl|simp)) (hQ1 (by first|decide|assumption))
theorem solve_Solve_run{g d:Nat}(hV:E.con 11=fnS (spec1 evF))(hN:E.con 16=embS newM)(h1:E.con 17=lg1S)(hU:E.con 19=embS (triM (tuV g)))(hC:E.con 20=lg4S)(hA:E.con 23=embS (reM (asV d)))
 {l:List Equation} (hl:EqsOk l) {e:Int} {k:Nat} {T':List Assign} (htr:trM g (varsM (sides l)) l 0 []=some (e,k,T')) {R:List Assign} (hR:e=0→∃ σ D',Tri T' σ∧asM T' d (varsM (sides l)) [] none=some (R,D')) (hR0:e≠0→R=[]) (hs:HS) :
 CallOk ρ Try.prog 7 [enc l] hs (enc (⟨R,k,e⟩:T3 (List Assign) Int Int)) hs:=by
 refine fn hρ hE hcon Try.func7 fB7 rfl (by simp) ?_ hs
 have hvl:(varsM (sides l)).length≤8000:=by
  have h1:=idsOf_len (leavesL 1 (sides l) [])
  have h2:=(leavesL_len 1 (sides l) []).2
  have h3:=hl.sz
  simp only[List.length_nil]at h2
  unfold varsM;omega
 have hFv:evF l=some (varsM (sides l)):=by
  unfold evF
  rw[if_pos ⟨Ty.oks_iff.2 hl.ok,by have:=hl.len;omega,by have:=hl.sz;omega⟩,varsM_col (vplains_leafys _ (vplains_iff.2 (sides_plain hl)))]
 have htk:=trM_tok l 0 [] e k T' (fun a h=>by cases h) (eqs_oks hl) htr
 have lo:=fun (Q) (T0) (hs0)=>solve_Solve_loop hρ hE hcon h1 hU hC (W:=varsM (sides l)) (by omega) hl.len hl.eq (eqs_oks hl) htr (Q:=Q) (T0:=T0) (hs0:=hs0)
 have hF3:∀ σ D',Tri T' σ→asM T' d (varsM (sides l)) [] none=some (R,D')→asV d T' none [enc (varsM (sides l))]=some (enc R,D'):=fun σ D' hT hR=>asV_mk (D:=none) hT (fun i r h=>by cases h) htk (by omega) hR
 generalize varsM (sides l)=W at *
 simp[fS7r0,fS7r1,fS7r2,fS7r3,fS7r4,fS7r5,fS7r6,fS7r7,fS7r8,fS7r9,fS7r10,fS7r11,fS7r12,fS7r13,fS7b0,fS7r14,fS7b1,fS7r15,fS7,hE,hV,hFv,hN,vacant_eq]
 refine lo _ _ _ (Less.lit (fun k=>if k=0 then 7 else if k=1 then 9 else if k=2 then 10 else if k=3 then 12 else k) 4 (by simp) (by simp) (by first|rfl|simp) (by first|rfl|simp)) (fun he=>?_) (fun he=>?_)
 · subst he
   obtain⟨σ,D',hT,hR⟩:=hR rfl
   have hF:=hF3 σ D' hT hR
   have hk:k=l.length:=by have:=trM_k l 0 [] k T' htr;omega
   subst hk
   simp at hF
   clear lo hF3 hR0 hR htr
   rcases D' with _|L'
   · simp[fS7r0,fS7r1,fS7r2,fS7r3,fS7r4,fS7r5,fS7r6,fS7r7,fS7r8,fS7r9,fS7r10,fS7r11,fS7r12,fS7r13,fS7b0,fS7r14,fS7b1,fS7r15,fS7,hE,hA,hF,vacant_eq]
   · simp[fS7r0,fS7r1,fS7r2,fS7r3,fS7r4,fS7r5,fS7r6,fS7r7,fS7r8,fS7r9,fS7r10,fS7r11,fS7r12,fS7r13,fS7b0,fS7r14,fS7b1,fS7r15,fS7,hE,hA,hF,vacant_eq]
 · have:=hR0 he
   subst this
   simp[fS7r0,fS7r1,fS7r2,fS7r3,fS7r4,fS7r5,fS7r6,fS7r7,fS7r8,fS7r9,fS7r10,fS7r11,fS7r12,fS7r13,fS7b0,fS7r14,fS7b1,fS7r15,fS7,hE]
end
theorem vSolve:Valid ρ Try.prog 7 (fnS (spec1 suF)):=v1 (fo Try.func7 fB7) fun a r h hs=>by
 obtain⟨h1,rfl⟩:=ite_inv h
 have hSU:=su_ok h1
 generalize suM a=p at hSU
 obtain⟨R,b,e⟩:=p
 obtain⟨k,T,σ,q1,q2,q3,q4⟩:=hSU
 simp only at q1 q2 q3 q4
 subst q2
 obtain⟨g,e',k',T',σ',t1,t2,t3⟩:=eqs_tr h1
 rw[q1]at t2
 cases t2
 by_cases he:e=0
 · rw[if_pos he]at q4
   obtain⟨hT,_⟩:=q3 he
   have hT':=t3 he
   obtain⟨d,D',hd⟩:=as_ok hT' (varsM (sides a)) [] none (fun i r h=>by cases h)
   have hasg:asgF T' σ (varsM (sides a))=asgF T σ (varsM (sides a)):=asgF_same hT' hT _
   rw[List.nil_append,hasg,← q4]at hd
   exact solve_Solve_run hρ (E:=EL [(11,fnS (spec1 evF)),(16,embS newM),(17,lg1S),(19,embS (triM (tuV g))),(20,lg4S),(23,embS (reM (asV d)))]) rfl
    (consOk_list (valid_cons (vEqVars hρ) (valid_cons (vTNew hρ) (valid_cons (vLg1 hρ) (valid_cons (vTUnify hρ g) (valid_cons (vLg4 hρ) (valid_cons (vAssigns hρ d) valid_nil))))))) rfl rfl rfl rfl rfl rfl h1 t1 (fun _=>⟨σ,D',hT',hd⟩) (fun h=>absurd he h) hs
 · rw[if_neg he]at q4
   exact solve_Solve_run hρ (E:=EL [(11,fnS (spec1 evF)),(16,embS newM),(17,lg1S),(19,embS (triM (tuV g))),(20,lg4S),(23,embS (reM (asV 0)))]) rfl
    (consOk_list (valid_cons (vEqVars hρ) (valid_cons (vTNew hρ) (valid_cons (vLg1 hρ) (valid_cons (vTUnify hρ g) (valid_cons (vLg4 hρ) (valid_cons (vAssigns hρ 0) valid_nil))))))) rfl rfl rfl rfl rfl rfl h1 t1 (fun h=>absurd h he) (fun _=>q4) hs
end
end Go.Proofs.Ytfgmnebfhemnpaa
/- The reference's solving of equations,joined;equations that tapes make. -/
namespace Go.Proofs.Ytfgmnebfhemnpaa
open Go.J
open Go.J.Enc (enc)
set_option maxRecDepth 100000
set_option maxHeartbeats 1000000
def eqnsM (t:Tp) (D:List Decl):Nat→Tp×List Equation
 | 0=>(t,[])
 | i+1 =>
   let p:=eqnsM t D i
   let a:=typeM 2 p.1 D (varTs 4)
   let b:=typeM 2 a.1 D (varTs 4++[tRigid 0 0])
   (b.1,p.2++[⟨a.2,b.2⟩])
theorem eqnsM_ok{t:Tp}(h:t.ok)(D:List Decl)(i:Nat):(eqnsM t D i).1.ok∧(eqnsM t D i).2.length=i:=by
 induction i with
 |zero=>exact⟨h,rfl⟩
 | succ i ih =>
   unfold eqnsM
   dsimp only
   exact⟨(typeM_ok _ _ (typeM_ok _ _ ih.1).1).1,by simp[ih.2]⟩
theorem eqnsM_nc{t:Tp}{D:List Decl}(hD:DOk3 D)(hv:DVal D)(i:Nat):∀ u∈sides (eqnsM t D i).2,Nc 7 u∧Vd 4 u:=by
 induction i with
 |zero=>intro u hu;cases hu
 | succ i ih =>
   intro u hu
   unfold eqnsM at hu
   dsimp only at hu
   rw[sides_app]at hu
   have hl:∀ l∈varTs 4++[tRigid 0 0],Vd 4 l:=fun l hl=>by
    rcases List.mem_append.1 hl with hl|hl
    · exact vd_varTs (by omega) (by omega) l hl
    · rw[List.mem_singleton.1 hl];exact vd_rigid (by decide)
   rcases List.mem_append.1 hu with hu|hu
   · exact ih u hu
   · simp only[sides,List.mem_cons,List.not_mem_nil,or_false]at hu
     rcases hu with rfl|rfl
     · exact⟨typeM_nc hD (varTs_nc 4) 2 _ (by decide),vd_type hv (fun l hl=>vd_varTs (by omega) (by omega) l hl) 2 _⟩
     · exact⟨typeM_nc hD (leaves_nc (nc_rigid _ _ (Nat.le_refl _))) 2 _ (by decide),vd_type hv hl 2 _⟩
theorem sizes_mul{B:Nat}:∀ {l:List Ty},(∀ u∈l,u.size≤B)→Ty.sizes l≤l.length*B:=by
 intro l
 induction l with
 |nil=>intro _;simp[Ty.sizes]
 | cons u l ih =>
   intro h
   have h1:=h u (List.mem_cons_self ..)
   have h2:=ih fun w hw=>h w (List.mem_cons_of_mem _ hw)
   simp only[Ty.sizes,List.length_cons,Nat.add_mul]
   omega
theorem eqs_of{l:List Equation}{B:Nat}{n:Nat}(hl:l.length≤20)(hB:B≤100)(hn:n≤7)(h:∀ u∈sides l,Nc B u∧Vd n u):EqsOk l∧(varsM (sides l)).length≤n:=by
 have hp:∀ u∈sides l,u.vplain=true:=fun u hu=>(h u hu).1.pl
 have heq:∀ u∈sides l,EqOk (varsM (sides l)) u:=fun u hu=>⟨hp u hu,(h u hu).2.1,fun j hj=>(mem_vars hp j).2 ⟨u,hu,hj⟩⟩
 refine⟨⟨fun u hu=>(h u hu).1.ok,fun q hq=>⟨heq _ (sides_l hq).1,heq _ (sides_l hq).2⟩,by omega,?_⟩,vd_vars hp fun u hu=>(h u hu).2⟩
 have h1:=sizes_mul (B:=100) fun u hu=>Nat.le_trans (h u hu).1.sz hB
 rw[sides_len]at h1
 omega
open Classical in
def eqnsF(t:Tp)(D:List Decl)(n:Int):Option (Tp×List Equation):=if t.ok∧DOk D∧0≤n∧n≤20 then some (eqnsM t D n.toNat)else none
def made18D(bits:Int)(codes:List Int)(n:Int):EmbD where
 k:=0
 k':=1
 π:=fun i=>i
 OL:=[]
 OL':=[(0,box (Cel.cells (eqnsM ⟨codes,0⟩ (datasOf bits) (modI n 6).toNat).1))]
 vs0:=[enc bits,enc codes,enc n]
 v0:=.tuple [enc (eqnsM ⟨codes,0⟩ (datasOf bits) (modI n 6).toNat).2,.ptr 0 0 0]
def made18M(vs:List V)(hs:HS):Option EmbD:=match vs with
 | [bv,cv,nv]=>ob (Enc.dec bv:Option Int) fun bits=>ob (Enc.dec cv:Option (List Int)) fun codes=>ob (Enc.dec nv:Option Int) fun n=>gd (et (Nat.ble (lenL codes) 60) (vacant hs hs.n)) (some (made18D bits codes n))
 |_=>none
@[simp] theorem made18M_n {bv cv nv:V} {hs:HS}:made18M [bv,cv,nv] hs=ob (Enc.dec bv:Option Int) fun bits=>ob (Enc.dec cv:Option (List Int)) fun codes=>ob (Enc.dec nv:Option Int) fun n=>gd (et (Nat.ble (lenL codes) 60) (vacant hs hs.n)) (some (made18D bits codes n)):=(rfl)
theorem made18D_val{bits:Int}{codes:List Int}{n:Int}{hs:HS}{l:List Equation}{t:Tp}(h:eqnsM ⟨codes,0⟩ (datasOf bits) (modI n 6).toNat=(t,l)):(made18D bits codes n).val hs=.tuple [enc l,.ptr hs.n 0 0]:=by
 have e:(made18D bits codes n).v0=.tuple [enc l,.ptr 0 0 0]:=by show V.tuple _=_;rw[h]
 show (made18D bits codes n).v0.ren _=_
 rw[e]
 show V.tuple [(enc l:V).ren2 _,(V.ptr 0 0 0).ren2 _]=_
 rw[V.ren2_none (show (enc l:V).in2 (fun _=>false)=true from rfl)]
 rfl
theorem made18D_heap{bits:Int}{codes:List Int}{n:Int}{hs:HS}{l:List Equation}{t:Tp}(h:eqnsM ⟨codes,0⟩ (datasOf bits) (modI n 6).toNat=(t,l)):(made18D bits codes n).heap hs={ H:=hs.H.set hs.n (box (Cel.cells t)),n:=hs.n+1,log:=hs.n::hs.log }:=by
 have e:(made18D bits codes n).OL'=[(0,box (Cel.cells t))]:=by show [(0,_)]=_;rw[h]
 show embH hs 0 1 _ (made18D bits codes n).OL'=_
 rw[e]
 show ({ H:=hs.H.set (news hs.n 0 (fun i=>i) 0) ((box (Cel.cells t)).ren _),n:=hs.n+1,log:=[news hs.n 0 (fun i=>i) 0]++hs.log }:HS)=_
 rfl
section
variable {ρ:Nat→Value}(hρ:J.Good ρ)
include hρ
section
variable {E:Env}(hE:E.P=Try.prog)(hcon:ConsOk ρ E)
include hE hcon
theorem make_Tape_Equations_run(hv:E.con 31=mkVarsS)(hr:E.con 32=fnS (spec2 fun h i:Int=>some (tRigid h i)))(ht:E.con 30=stS (stF3 (typeF 2)))
 {t:Tp} {D:List Decl} {n:Nat} (hto:t.ok) (hD:DOk D) (hn100:n≤20) {hs:HS} {id:Nat} (hid:id<hs.n) (hg:hs.H.get id=some (box (Cel.cells t))) :
 CallOk ρ Try.prog 13 [.ptr id 0 0,enc D,enc (n:Int)] hs (enc (eqnsM t D n).2) (hs.wr id (box (Cel.cells (eqnsM t D n).1))):=by
 rw[← hE]
 refine st_runF hρ hcon (by rw[hE];exact follows) (by rw[hE];exact named) (by rw[hE];exact Try.func13) fB13 rfl (by simp) (by simp) (by simp) (by simp[V.in3,V.in2,V.in1]) ?_ hid hg
 clear hg hid
 have hlv:=varTs_len 4
 have hF1:∀ u:Tp,u.ok→typeF 2 u D (varTs 4) 2=some (typeM 2 u D (varTs 4)):=fun u hu=>if_pos ⟨hu,hD,by simp,by decide⟩
 have hF2:∀ u:Tp,u.ok→typeF 2 u D (varTs 4++[tRigid 0 0]) 2=some (typeM 2 u D (varTs 4++[tRigid 0 0])):=fun u hu=>if_pos ⟨hu,hD,by simp,by decide⟩
 simp[fS13r0,fS13r1,fS13r2,fS13r3,fS13r4,fS13r5,fS13b0,fS13r6,fS13b1,fS13r7,fS13,hE]
 refine lpi hρ hE hcon n (nn:=2) (fun i (X:Tp×List Equation)=>[(0,.ptr 0 0 0),(1,.sl (D.map encDecl) false),(2,.int .i64 (n:Int)),(7,oV 1 (X.2.map encEquation)),(8,.int .i64 (i:Int))])
  (fun i X=>[(0,box (Cel.cells X.1))]++oH 1 10 (X.2.map encEquation)) (fun i X=>eqnsM t D i=X∧X.1.ok) (t,[])
  (Less.auto (by simp) (by simp) rfl rfl) ⟨rfl,hto⟩ ?_ ?_
 · rintro ⟨u,X⟩ ⟨h1,h2⟩ K
   rw[h1]
   simp only at h2
   rcases X with _|⟨x,X⟩
   · simp[fS13l0,fS13r0,fS13r1,fS13r2,fS13r3,fS13r4,fS13r5,fS13b0,fS13r6,fS13b1,fS13r7,fS13,hE]
     refine LessQ.mk (Less.auto (TL:=[(7,.snil)]) (HL:=[(0,box (Cel.cells u))]) (n:=1) (by simp) (by simp) rfl rfl) ?_
     simp[fS13r0,fS13r1,fS13r2,fS13r3,fS13r4,fS13r5,fS13b0,fS13r6,fS13b1,fS13r7,fS13,hE]
     exact GivesF.keep rfl rfl (by simp[still2]) (by simp[ownB])
   · simp[fS13l0,fS13r0,fS13r1,fS13r2,fS13r3,fS13r4,fS13r5,fS13b0,fS13r6,fS13b1,fS13r7,fS13,hE]
     refine LessQ.mk (Less.auto (TL:=[(7,oV 1 ((x::X).map encEquation))]) (HL:=[(0,box (Cel.cells u))]++oH 1 10 ((x::X).map encEquation)) (n:=2) (by simp) (by simp) rfl rfl) ?_
     simp[fS13r0,fS13r1,fS13r2,fS13r3,fS13r4,fS13r5,fS13b0,fS13r6,fS13b1,fS13r7,fS13,hE]
     exact GivesF.keep rfl rfl (by simp[still2]) (by simp[ownB])
 · rintro i ⟨u,X⟩ hi ⟨h1,h2⟩ K hK
   simp only at h2
   have hi':(i:Int)<n:=by omega
   have hw0:IntKind.i64.wrap 1=1:=rfl
   have hw2:IntKind.i64.wrap ((i:Int)+1)=((i+1:Nat):Int):=wrap_succ (by omega)
   have hXl:X.length=i:=by have:=(eqnsM_ok hto D i).2;rw[h1]at this;exact this
   have hA:=hF1 u h2
   have ho1:=(typeM_ok (D:=D) (Lv:=varTs 4) 2 u h2).1
   have hsi:eqnsM t D (i+1)=((typeM 2 (typeM 2 u D (varTs 4)).1 D (varTs 4++[tRigid 0 0])).1,X++[⟨(typeM 2 u D (varTs 4)).2,(typeM 2 (typeM 2 u D (varTs 4)).1 D (varTs 4++[tRigid 0 0])).2⟩]):=by
    rw[eqnsM,h1]
   rcases hq1:typeM 2 u D (varTs 4)with⟨u1,y⟩
   rw[hq1]at hA ho1 hsi
   simp only at ho1 hsi
   have hB:=hF2 u1 ho1
   have ho2:=(typeM_ok (D:=D) (Lv:=varTs 4++[tRigid 0 0]) 2 u1 ho1).1
   rcases hq2:typeM 2 u1 D (varTs 4++[tRigid 0 0])with⟨u2,z⟩
   rw[hq2]at hB ho2 hsi
   simp only at ho2 hsi
   have hnew:=hK (u2,X++[⟨y,z⟩]) ⟨hsi,ho2⟩
   clear hK hF1 hF2 hsi h1 hq1 hq2
   generalize hV:varTs 4=W at hA hB hlv
   rcases W with _|⟨v,W⟩
   · simp at hlv
   have h64:(W.length+1+1)*64≤1048576:=Nat.le_trans (Nat.mul_le_mul_right 64 (show W.length+1+1≤102 by simp only[List.length_cons]at hlv;omega)) (by decide)
   rw[List.cons_append]at hB
   rcases X with _|⟨x,X⟩
   · simp only[List.nil_append]at hnew
     simp[fS13l0,fS13r0,fS13r1,fS13r2,fS13r3,fS13r4,fS13r5,fS13b0,fS13r6,fS13b1,fS13r7,fS13,hE,hi,hi',hv,hr,ht,mkVarsS,hV,hA,hB,h64,Nat.not_succ_le_self,vacant_eq,hw2,-Int.natCast_add]
     refine⟨rfl,?_⟩
     exact hnew _ _ (Less.auto (by simp[hw0,-Int.natCast_add]) (by simp) rfl rfl)
   · have h128:(X.length+1+1)*128≤1048576:=Nat.le_trans (Nat.mul_le_mul_right 128 (show X.length+1+1≤102 by simp only[List.length_cons]at hXl;omega)) (by decide)
     simp[fS13l0,fS13r0,fS13r1,fS13r2,fS13r3,fS13r4,fS13r5,fS13b0,fS13r6,fS13b1,fS13r7,fS13,hE,hi,hi',hv,hr,ht,mkVarsS,hV,hA,hB,h64,h128,Nat.not_succ_le_self,vacant_eq,hw2,-Int.natCast_add]
     refine⟨rfl,?_⟩
     exact hnew _ _ (Less.auto (by simp[hw0,-Int.natCast_add]) (by simp) rfl rfl)
theorem law18_made_run(h3:E.con 14=fnS (spec1 fun bits:Int=>some (datasOf bits)))(h4:E.con 15=modS)(h5:E.con 13=stS (stF2 eqnsF)){bits:Int}{codes:List Int}{n:Int}(hl:codes.length≤60){hs:HS}(hvac:hs.H.get hs.n=none) :
 CallOk ρ Try.prog 6 [enc bits,enc codes,enc n] hs ((made18D bits codes n).v0.ren (news hs.n 0 fun i=>i)) (embH hs 0 1 (fun i=>i) (made18D bits codes n).OL'):=by
 have htp:(⟨codes,0⟩:Tp).ok:=⟨Int.le_refl _,by show codes.length≤100000;omega⟩
 have hDk:=datasOf_ok bits
 have hm0:0≤modI n 6∧modI n 6<6:=⟨modI_nonneg n 6,modI_lt (by decide)⟩
 rcases hm:eqnsM ⟨codes,0⟩ (datasOf bits) (modI n 6).toNat with⟨rt,rl⟩
 have hv0:(made18D bits codes n).v0=.tuple [enc rl,.ptr 0 0 0]:=by show V.tuple _=_;rw[hm]
 have hOL:(made18D bits codes n).OL'=[(0,box (Cel.cells rt))]:=by show [(0,_)]=_;rw[hm]
 refine em hρ hE hcon (D:=made18D bits codes n) Try.func6 fB6 rfl ⟨rfl,rfl,Nat.zero_le _,fun p hp=>(by cases hp),fun p hp=>?_,?_,fun v hv=>?_⟩ ?_ ⟨rfl,fun i j hi=>absurd hi (Nat.not_lt_zero _),fun p hp=>(by cases hp),fun i hi=>?_,fun i hi=>absurd hi (Nat.not_lt_zero _)⟩
 · obtain rfl:=List.mem_singleton.1 hp
   exact⟨rfl,rfl⟩
 · rw[hv0,hOL]
   show ([enc rl,V.ptr 0 0 0].all (V.in2 _))=true
   rfl
 · have hv:v∈[(enc bits:V),enc codes,enc n]:=hv
   simp only[List.mem_cons,List.not_mem_nil,or_false]at hv
   rcases hv with rfl|rfl|rfl<;>rfl
 · rw[hv0,hOL]
   show Wp ρ E 0 _ _ _ { H:=mkP [],n:=0,log:=[] } (J.Leaves _ _ (GivesL 0 _ _))
   rw[show Try.f6.ntmps=19 from rfl]
   have f1:eqnsF ⟨codes,0⟩ (datasOf bits) (modI n 6)=some (rt,rl):=by rw[← hm];exact if_pos ⟨htp,hDk,hm0.1,by omega⟩
   have hm6:modI n 6=modI n 6:=rfl
   generalize hDq:datasOf bits=D at f1
   generalize hmq:modI n 6=m at f1 hm6
   simp[fS6r0,fS6r1,fS6r2,fS6,hE,h3,hDq,h4,modS,hmq,h5,f1]
   exact GivesL.litX (fun k=>if k=0 then 4 else k) rfl rfl ⟨rfl,rfl⟩ (by simp)
 · obtain rfl:i=0:=Nat.lt_one_iff.1 hi
   exact hvac
end
theorem vEquations:Valid ρ Try.prog 13 (stS (stF2 eqnsF)):=s2 (fo Try.func13 fB13) fun s a b q h hs id hid hg=>by
 obtain⟨⟨h1,h2,h3,h4⟩,rfl⟩:=ite_inv h
 obtain⟨n,rfl⟩:=Int.eq_ofNat_of_zero_le h3
 exact make_Tape_Equations_run hρ (E:=EL [(31,mkVarsS),(32,fnS (spec2 fun h i:Int=>some (tRigid h i))),(30,stS (stF3 (typeF 2)))]) rfl
  (consOk_list (valid_cons (vMkVars hρ) (valid_cons (vRigid hρ) (valid_cons (vType hρ 2 (by omega)) valid_nil)))) rfl rfl rfl h1 h2 (by omega) hid hg
theorem vMade18:Valid ρ Try.prog 6 (embS made18M):=Valid.emb (fo Try.func6 fB6) fun vs hs D h=>by
 unfold made18M at h
 split at h
 · simp only[ob_eq,gd_eq,et_true,ble_true,vacant_eq,lenL_eq]at h
   obtain⟨bits,hb,codes,hc,n,hn,⟨h1,h2⟩,h⟩:=h
   cases h
   rw[Enc.enc_dec _ _ hb,Enc.enc_dec _ _ hc,Enc.enc_dec _ _ hn]
   exact law18_made_run hρ (E:=EL [(14,fnS (spec1 fun bits:Int=>some (datasOf bits))),(15,modS),(13,stS (stF2 eqnsF))]) rfl
    (consOk_list (valid_cons (vDatas hρ) (valid_cons (vMod hρ) (valid_cons (vEquations hρ) valid_nil)))) rfl rfl rfl h1 h2
 · cases h
end
end Go.Proofs.Ytfgmnebfhemnpaa
