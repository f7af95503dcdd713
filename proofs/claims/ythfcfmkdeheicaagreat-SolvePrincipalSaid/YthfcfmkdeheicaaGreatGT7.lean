import Derived.Test.YthfcfmkdeheicaaGreatGX1
import Derived.Test.YthfcfmkdeheicaaGreatJZ
import Derived.Test.YthfcfmkdeheicaaGreatJY
import Derived.Test.YthfcfmkdeheicaaGreatGX2
set_option linter.all false
noncomputable section
/- The set of types: its assignments;unification of two types. -/
namespace Go.Proofs.YthfcfmkdeheicaaGreat
open Go.J
open Go.J.Enc (enc)
set_option maxRecDepth 100000
set_option maxHeartbeats 1000000
def asV(d:Nat)(T:List Assign)(D:Option (List Assign))(args:List V):Option (V×Option (List Assign)):=open Classical in match args with
 | [iv]=>ob (Enc.dec iv:Option (List Int)) fun ids=>if (∃ σ,Tri T σ∧DOkT σ (D.getD []))∧tok T∧ids.length≤10000 then ob (asM T d ids [] D) fun r=>some (enc r.1,r.2)else none
 |_=>none
theorem asV_inv{d:Nat}{T:List Assign}{D:Option (List Assign)}{args:List V}{q:V×Option (List Assign)}(h:asV d T D args=some q) :
 ∃ ids R D' σ,args=[enc ids]∧Tri T σ∧DOkT σ (D.getD [])∧tok T∧ids.length≤10000∧asM T d ids [] D=some (R,D')∧q=(enc R,D'):=by
 unfold asV at h
 split at h
 · simp only[zb]at h
   obtain⟨ids,ht,h⟩:=h
   split at h
   · rename_i hh
     simp only[zb]at h
     obtain⟨⟨r,D'⟩,hr,h⟩:=h
     cases h
     obtain⟨⟨σ,h1,h2⟩,h3,h4⟩:=hh
     exact⟨ids,r,D',σ,by rw[Enc.enc_dec _ _ ht],h1,h2,h3,h4,hr,rfl⟩
   · cases h
 · cases h
theorem asV_mk{d:Nat}{T:List Assign}{D D':Option (List Assign)}{ids:List Int}{R:List Assign}{σ:Sub}(h1:Tri T σ)(h2:DOkT σ (D.getD []))(h3:tok T)(h4:ids.length≤10000)(h:asM T d ids [] D=some (R,D')):asV d T D [enc ids]=some (enc R,D'):=by
 unfold asV
 simp only[Enc.dec_enc,J.ob_some,if_pos (And.intro (⟨σ,h1,h2⟩:∃ σ,Tri T σ∧DOkT σ (D.getD [])) (And.intro h3 h4)),h]
section
variable {ρ:Nat→Value}(hρ:J.Good ρ)
include hρ
section
variable {E:Env}(hE:E.P=Tryz.prog)(hcon:ConsOk ρ E)
include hE hcon
theorem zlk {d:Nat} (hc:E.con 127=zdo (reM (rsV d))) (hv:E.con 86=fnS (zan fun i:Int=>some (zA i))) {T:List Assign} {D D':Option (List Assign)} {ids:List Int} {R:List Assign} {σ:Sub} (hT:Tri T σ) (htk:tok T) (hl:ids.length≤10000) (hD:DOkT σ (D.getD [])) (h:asM T d ids [] D=some (R,D')) (hle:reK D≤reK D') :
 Wp ρ E (reK D) 37 fS87 ((PT.leaf.set 0 (.ptr 0 0 0)).set 1 (enc ids)) { H:=mkP (zb1 T D),n:=reK D,log:=[] } (J.Leaves E.P Tryz.f87 (GLF (reK D) (enc R) (zb1 T D'))):=by
 have hmain:∀ (T0:PT V) (hs:HS) (Q:Ex→PT V→HS→Prop),
  Less (reK D) T0 hs (mkP [(0,.ptr 0 0 0),(5,.snil),(10,.sl (ids.map encI) false),(11,.int .i64 (ids.length:Int)),(12,.int .i64 ((0:Nat):Int))]) { H:=mkP (zb1 T D),n:=4,log:=[] } →
  Q (.exit 0) (mkP [(5,oV 3 (R.map zf))]) { H:=mkP (zb1 T D'++oH 3 6 (R.map zf)),n:=4,log:=[] } →
  Ls ρ E (reK D) 37 (.loop zjI) T0 hs Q:=by
  intro T0 hs Q h0 hQ
  refine lpi hρ hE hcon ids.length (nn:=4) (fun i (X:List Assign×Option (List Assign))=>[(0,.ptr 0 0 0),(5,oV 3 (X.1.map zf)),(10,.sl (ids.map encI) false),(11,.int .i64 (ids.length:Int)),(12,.int .i64 (i:Int))])
   (fun i X=>zb1 T X.2++oH 3 6 (X.1.map zf)) (fun i X=>DOkT σ (X.2.getD [])∧asM T d (ids.drop i) X.1 X.2=some (R,D')∧X.1.length≤i∧reK D≤reK X.2) ([],D)
   (by simpa using h0) ⟨hD,by simpa using h,Nat.le_refl _,Nat.le_refl _⟩ ?_ ?_
  · rintro ⟨out,D1⟩ ⟨h1,h2,h3,h4⟩ K
    simp only[List.drop_length,asM]at h2
    cases h2
    clear h0
    rcases D with _|L
    · rcases D' with _|L1
      all_goals
       rcases R with _|⟨r,R⟩
       all_goals
        simp[zjI,zhJ,zhI,zhH,zhG,zhF,zhE,zhD,zhC,zhL,zhB,zhK,zhA,fS87,hE,zb1,reK]
        exact LessQ.mk (Less.auto (n:=4) (by simp[zb1,reK]) (by simp[zb1,reK]) (by first|rfl|simp[zb1,reK]) (by simp[reK,zb1]<;>(intro x hx;first|omega|exact⟨.inl hx,by omega⟩))) hQ
    · rcases D' with _|L1
      · simp[reK]at h4
      · rcases R with _|⟨r,R⟩
        all_goals
         simp[zjI,zhJ,zhI,zhH,zhG,zhF,zhE,zhD,zhC,zhL,zhB,zhK,zhA,fS87,hE,zb1,reK]
         exact LessQ.mk (Less.auto (n:=4) (by simp[zb1,reK]) (by simp[zb1,reK]) (by first|rfl|simp[zb1,reK]) (by simp[reK,zb1]<;>(intro x hx;first|omega|exact⟨.inl hx,by omega⟩))) hQ
  · rintro i ⟨out,D1⟩ hi ⟨h1,h2,h3,h4⟩ K hK
    simp only at h1 h2 h3 h4
    clear h0 hQ
    have hi':(i:Int)<ids.length:=by omega
    have hw2:IntKind.i64.wrap ((i:Int)+1)=((i+1:Nat):Int):=zq (by omega)
    rw[List.drop_eq_getElem_cons hi,asM]at h2
    obtain⟨x,hx⟩:∃ x,ids[i]=x:=⟨_,rfl⟩
    rw[hx]at h2
    cases hlk:zo T x with
    | none =>
      rw[hlk,if_neg (by decide)]at h2
      have hnew:=hK (out,D1) ⟨h1,h2,Nat.le_succ_of_le h3,h4⟩
      clear hK
      rcases D with _|L
      · rcases D1 with _|L1
        all_goals
         rcases out with _|⟨r,out⟩
         all_goals
          simp[zjI,zhJ,zhI,zhH,zhG,zhF,zhE,zhD,zhC,zhL,zhB,zhK,zhA,fS87,hE,hi,hi',hx,zb1,reK,hlk,zao,zaK,zeH,zeO,hw2,-Int.natCast_add]
          exact hnew _ _ (Less.auto (by simp[zb1,reK,-Int.natCast_add]) (by simp[zb1,reK]) (by first|rfl|simp[zb1,reK]) (by simp[reK,zb1]<;>(intro x hx;first|omega|exact⟨.inl hx,by omega⟩)))
      · rcases D1 with _|L1
        · simp[reK]at h4
        · rcases out with _|⟨r,out⟩
          all_goals
           simp[zjI,zhJ,zhI,zhH,zhG,zhF,zhE,zhD,zhC,zhL,zhB,zhK,zhA,fS87,hE,hi,hi',hx,zb1,reK,hlk,zao,zaK,zeH,zeO,hw2,-Int.natCast_add]
           exact hnew _ _ (Less.auto (by simp[zb1,reK,-Int.natCast_add]) (by simp[zb1,reK]) (by first|rfl|simp[zb1,reK]) (by simp[reK,zb1]<;>(intro x hx;first|omega|exact⟨.inl hx,by omega⟩)))
    | some u =>
      rw[hlk,if_pos (show (some u).isSome=true from rfl)]at h2
      cases hr:rsM T d (zA x) (D1.getD [])with
      |none=>rw[hr]at h2;cases h2
      | some p =>
        obtain⟨r,D2⟩:=p
        rw[hr]at h2
        simp only at h2
        have hdt:=rs_det hT (zaz x) h1 hr
        have hF:=rsV_mk (D:=D1) hT h1 htk (by simp[zA,Ty.ok,Ty.oks]) (zaz x) hr
        have hnew:=hK (out++[⟨x,r⟩],some D2) ⟨hdt.2.1,h2,by simp;omega,by cases D<;>simp[reK]⟩
        clear hK hdt hr h2
        obtain⟨uk,un,ui,uh,ul⟩:=u
        obtain⟨rk,rn,ri,rh,rl⟩:=r
        simp only[zA,zas,zfS,Ty.kind_mk,Ty.name_mk,Ty.id_mk,Ty.home_mk,Ty.args_mk,List.map_nil]at hF
        have h72:(out.length+1)*72≤1048576:=Nat.le_trans (Nat.mul_le_mul_right 72 (show out.length+1≤10001 by omega)) (by decide)
        rcases out with _|⟨y,out⟩
        · rcases D with _|L
          · rcases D1 with _|L1
            all_goals
             simp[zjI,zhJ,zhI,zhH,zhG,zhF,zhE,zhD,zhC,zhL,zhB,zhK,zhA,fS87,hE,hi,hi',hx,zb1,reK,hlk,zao,zaK,zeH,zeO,hv,zA,hc,hF,vacant_eq,hw2,-Int.natCast_add]
             exact hnew _ _ (Less.auto (by simp[zb1,reK,-Int.natCast_add]) (by simp[zb1,reK]) (by first|rfl|simp[zb1,reK]) (by simp[reK,zb1]<;>(intro x hx;first|omega|exact⟨.inl hx,by omega⟩)))
          · rcases D1 with _|L1
            · simp[reK]at h4
            · simp[zjI,zhJ,zhI,zhH,zhG,zhF,zhE,zhD,zhC,zhL,zhB,zhK,zhA,fS87,hE,hi,hi',hx,zb1,reK,hlk,zao,zaK,zeH,zeO,hv,zA,hc,hF,vacant_eq,hw2,-Int.natCast_add]
              exact hnew _ _ (Less.auto (by simp[zb1,reK,-Int.natCast_add]) (by simp[zb1,reK]) (by first|rfl|simp[zb1,reK]) (by simp[reK,zb1]<;>(intro x hx;first|omega|exact⟨.inl hx,by omega⟩)))
        · have hx72:(out.length+1+1)*72≤1048576:=by simpa using h72
          rcases D with _|L
          · rcases D1 with _|L1
            all_goals
             simp[zjI,zhJ,zhI,zhH,zhG,zhF,zhE,zhD,zhC,zhL,zhB,zhK,zhA,fS87,hE,hi,hi',hx,zb1,reK,hlk,zao,zaK,zeH,zeO,hv,zA,hc,hF,vacant_eq,hw2,hx72,Nat.not_succ_le_self,-Int.natCast_add]
             exact hnew _ _ (Less.auto (by simp[zb1,reK,-Int.natCast_add]) (by simp[zb1,reK]) (by first|rfl|simp[zb1,reK]) (by simp[reK,zb1]<;>(intro x hx;first|omega|exact⟨.inl hx,by omega⟩)))
          · rcases D1 with _|L1
            · simp[reK]at h4
            · simp[zjI,zhJ,zhI,zhH,zhG,zhF,zhE,zhD,zhC,zhL,zhB,zhK,zhA,fS87,hE,hi,hi',hx,zb1,reK,hlk,zao,zaK,zeH,zeO,hv,zA,hc,hF,vacant_eq,hw2,hx72,Nat.not_succ_le_self,-Int.natCast_add]
              exact hnew _ _ (Less.auto (by simp[zb1,reK,-Int.natCast_add]) (by simp[zb1,reK]) (by first|rfl|simp[zb1,reK]) (by simp[reK,zb1]<;>(intro x hx;first|omega|exact⟨.inl hx,by omega⟩)))
 rcases D with _|L
 · rcases D' with _|L'
   all_goals
    simp[zhJ,zhI,zhH,zhG,zhF,zhE,zhD,zhC,zhL,zhB,zhK,zhA,fS87,hE,zb1,reK]
    refine hmain _ _ _ (Less.auto (by simp[zb1,reK]) (by simp[zb1,reK]) (by first|rfl|simp[zb1,reK]) (by simp[zb1,reK]<;>(intro x hx;first|omega|exact⟨.inl hx,by omega⟩))) ?_
    clear hmain h
    rcases R with _|⟨r,R⟩
    all_goals
     simp[zhJ,zhI,zhH,zhG,zhF,zhE,zhD,zhC,zhL,zhB,zhK,zhA,fS87,hE,zb1,reK]
     exact .inr (GivesF.keep rfl rfl (by simp[zaL]) (by simp[ownB]))
 · rcases D' with _|L'
   · simp[reK]at hle
   · simp[zhJ,zhI,zhH,zhG,zhF,zhE,zhD,zhC,zhL,zhB,zhK,zhA,fS87,hE,zb1,reK]
     refine hmain _ _ _ (Less.auto (by simp[zb1,reK]) (by simp[zb1,reK]) (by first|rfl|simp[zb1,reK]) (by simp[zb1,reK]<;>(intro x hx;first|omega|exact⟨.inl hx,by omega⟩))) ?_
     clear hmain h
     rcases R with _|⟨r,R⟩
     all_goals
      simp[zhJ,zhI,zhH,zhG,zhF,zhE,zhD,zhC,zhL,zhB,zhK,zhA,fS87,hE,zb1,reK]
      exact .inr (GivesF.keep rfl rfl (by simp[zaL]) (by simp[ownB]))
end
theorem vAssigns(d:Nat):Valid ρ Tryz.prog 87 (zdo (reM (asV d))):=by
 refine Valid.emb (fo Tryz.func87 fB87) fun vs hs D h=>?_
 obtain⟨args,T,D0,r,D1,a,m,c,hF,rfl,_,hr,hg,hfit⟩:=reM_inv h
 obtain⟨ids,R,D',σ,rfl,h1,h2,h3,h4,h5,h6⟩:=asV_inv hF
 cases h6
 have hEE:(EL [(127,zdo (reM (rsV d))),(86,fnS (zan fun i:Int=>some (zA i)))]).P=Tryz.prog:=rfl
 have hcn:ConsOk ρ (EL [(127,zdo (reM (rsV d))),(86,fnS (zan fun i:Int=>some (zA i)))]):=zg (za (vResolve' hρ d) (za (vTVar hρ) valid_nil))
 exact emf hρ hEE hcn Tryz.func87 fB87 rfl hg (zlk hρ hEE hcn rfl rfl h1 h3 h4 h2 h5 hg.le) hfit
end
end Go.Proofs.YthfcfmkdeheicaaGreat
