import Derived.Test.YthfcfmkdeheicaaGreatGB22
import Derived.Test.YthfcfmkdeheicaaGreatGAL
import Derived.Test.YthfcfmkdeheicaaGreatJP
set_option linter.all false
noncomputable section
/- Tapes: the contracts joined. -/
namespace Go.Proofs.YthfcfmkdeheicaaGreat
open Go.J
open Go.J.Enc (enc)
set_option maxRecDepth 100000
set_option maxHeartbeats 1000000
section
variable {ρ:Nat→Value} (hρ:J.Good ρ)
include hρ
theorem type_call (d:Nat) (hd:d≤1000) {S:J.Spec} (hv:Valid ρ Tryz.prog 15 S) {t:Tp} {D:List Decl} {Lv:List Ty} {n:Int} (hS:0<n→S=stS (stF3 (typeF d))) (h1:t.ok) (h2:DOk D) (h3:Lv.length≤100000) (h4:n≤d+1) (hs:HS) (id:Nat) (hid:id<hs.n) (hg:hs.H.get id=some (box (Cel.cells t))) :
    CallOk ρ Tryz.prog 15 [.ptr id 0 0,enc D,enc Lv,enc n] hs (enc (typeM n.toNat t D Lv).2) (hs.wr id (box (Cel.cells (typeM n.toNat t D Lv).1))) :=
  make_Tape_Type_run hρ (E:=EL [(56,stS (stF1 nextF)),(61,conS),(49,fnS (spec0 tInt)),(62,fnS (spec2 fun a b:Ty=>some (tArrow a b))),(15,S)]) rfl
    (consOk_list (valid_cons (vNext hρ) (valid_cons (vCon hρ) (valid_cons (vInt hρ) (valid_cons (vArrow hρ) (valid_cons hv valid_nil)))))) rfl rfl rfl rfl hS h1 h2 h3 h4 hd hs id hid hg
def noS:J.Spec:=fun _ _=>none
omit hρ in
theorem vNone {f:Nat} (hf:FnOk Tryz.prog f):Valid ρ Tryz.prog f noS where
  fn:=hf
  ok:=fun {_ _ _ _} h=>by cases h
  kept:=fun {_ _ _} h=>by cases h
theorem vType (d:Nat) (hd:d≤1000):Valid ρ Tryz.prog 15 (stS (stF3 (typeF d))):=by
  induction d with
  | zero =>
    refine s3 (fo Tryz.func15 fB15) fun s a b c q h hs id hid hg=>?_
    obtain⟨⟨h1,h2,h3,h4⟩,rfl⟩:=ite_inv h
    exact type_call hρ 0 hd (vNone (fo Tryz.func15 fB15)) (fun h=>by omega) h1 h2 h3 (by omega) hs id hid hg
  | succ d ih =>
    refine s3 (fo Tryz.func15 fB15) fun s a b c q h hs id hid hg=>?_
    obtain⟨⟨h1,h2,h3,h4⟩,rfl⟩:=ite_inv h
    exact type_call hρ d (by omega) (ih (by omega)) (fun _=>rfl) h1 h2 h3 (by omega) hs id hid hg
omit hρ in
theorem call_norm {f:Nat} {vs:List V} {hs hs':HS} {v r:V} (h:CallOk ρ Tryz.prog f vs hs v hs') (e:normV v=r):CallOk ρ Tryz.prog f vs hs r hs':=by
  intro X w F μ xs hR hD hO hA
  refine CallsIn.mono (h X w F μ xs hR hD hO hA) fun e' w' he=>?_
  cases e' with
  | returned x =>
    obtain⟨F1,μ1,g1,g2,g3⟩:=he
    exact⟨F1,μ1,g1,by rw[← e]; exact g2.norm,g3⟩
  | panicked c=>exact he
  | outgrown=>exact he
theorem vAll:Valid ρ Tryz.prog 60 (fnS (spec0 allD)):=v0 (fnOk Tryz.func60 (by kernel_rfl)) fun hs=>call_norm
  (pure_callOk hρ (E:=EL [(139,pureS scanV)]) (consOk_list (valid_cons (scan_valid hρ) valid_nil)) follows named all_run rfl) (by kernel_rfl)
theorem vDatas:Valid ρ Tryz.prog 12 (fnS (spec1 fun bits:Int=>some (datasOf bits))):=v1 (fo Tryz.func12 fB12) fun a r h hs=>by
  cases h
  exact make_Datas_run hρ (E:=EL [(60,fnS (spec0 allD))]) rfl (consOk_list (valid_cons (vAll hρ) valid_nil)) rfl hs
def mkVarsS:J.Spec:=rowS 5 (fun vs=>ob (spec1 (fun n:Int=>if 0≤n∧n≤10000 then some (varTs n.toNat) else none) vs) fun v=>match v with | .sl es _=>some es | _=>none)
theorem vMkVars:Valid ρ Tryz.prog 16 mkVarsS:=Valid.row (fo Tryz.func16 fB16) fun vs es _ h hs hv=>by
  rw[ob_eq] at h
  obtain⟨v,h1,h2⟩:=h
  obtain⟨n,r,rfl,h3,rfl⟩:=spec1_inv h1
  obtain⟨⟨h4,h5⟩,rfl⟩:=ite_inv h3
  obtain⟨m,rfl⟩:=Int.eq_ofNat_of_zero_le h4
  cases h2
  exact make_Vars_run hρ (E:=EL [(52,fnS (spec1 fun i:Int=>some (tVar i)))]) rfl (consOk_list (valid_cons (vVar hρ) valid_nil)) rfl (by omega) hv
end
end Go.Proofs.YthfcfmkdeheicaaGreat
/- The contracts of unification in a store,joined. -/
namespace Go.Proofs.YthfcfmkdeheicaaGreat
open Go.J
open Go.J.Enc (enc)
set_option maxRecDepth 100000
set_option maxHeartbeats 1000000
section
variable {ρ:Nat→Value} (hρ:J.Good ρ)
include hρ
theorem vNew16:Valid ρ Tryz.prog 55 (fnS (spec0 (⟨[],[]⟩:Store))):=v0 (fo Tryz.func55 fB55) fun hs=>ref16_New_run hρ (E:=EL []) rfl (consOk_list valid_nil) hs
def freshS:J.Spec:=fnS (spec3 fun (s:Store) (h:Int) (b:Bool)=>if s.small then some (s.fresh h b) else none)
theorem vFresh16:Valid ρ Tryz.prog 57 freshS:=v3 (fo Tryz.func57 fB57) fun a b c r h hs=>by
  obtain⟨h1,rfl⟩:=ite_inv h
  exact ref16_Fresh_run hρ (E:=EL [(52,fnS (spec1 fun i:Int=>some (tVar i)))]) rfl (consOk_list (valid_cons (vVar hρ) valid_nil)) rfl h1 hs
def setS:J.Spec:=fnS (spec3 fun (s:Store) (i:Int) (x:Slot)=>if s.small then some (s.set i x) else none)
theorem vSet16:Valid ρ Tryz.prog 13 setS:=v3 (fo Tryz.func13 fB13) fun a b c r h hs=>by
  obtain⟨h1,rfl⟩:=ite_inv h
  exact ref16_Set_run hρ (E:=EL []) rfl (consOk_list valid_nil) h1 hs
theorem vBound16:Valid ρ Tryz.prog 164 (fnS (spec2 fun (s:Store) (t:Ty)=>some (s.bound t))):=v2 (fo Tryz.func164 fB164) fun a b r h hs=>by
  cases h; exact ref16_bound_run hρ (E:=EL []) rfl (consOk_list valid_nil) hs
def walk16S:J.Spec:=fnS (spec2 fun (s:Store) (t:Ty)=>if s.slots.length≤1000000 then some (s.w16 t) else none)
theorem vWalk16:Valid ρ Tryz.prog 135 walk16S:=v2 (fo Tryz.func135 fB135) fun a b r h hs=>by
  obtain⟨h1,rfl⟩:=ite_inv h
  exact ref16_Walk_run hρ (E:=EL [(164,fnS (spec2 fun (s:Store) (t:Ty)=>some (s.bound t)))]) rfl (consOk_list (valid_cons (vBound16 hρ) valid_nil)) rfl h1 hs
theorem vsz16 (d:Nat) (hd:d≤1000000):Valid ρ Tryz.prog 163 (fnS (spec3 (szF d))):=by
  induction d with
  | zero =>
    refine v3 (fo Tryz.func163 fB163) fun a b c r h hs=>?_
    obtain⟨⟨_,_,h1,h2⟩,rfl⟩:=ite_inv h
    omega
  | succ d ih =>
    refine v3 (fo Tryz.func163 fB163) fun a b c r h hs=>?_
    obtain⟨⟨h1,h2,h3,h4⟩,rfl⟩:=ite_inv h
    obtain⟨m,rfl⟩:=Int.eq_ofNat_of_zero_le h3
    exact ref16_size_run hρ (E:=EL [(163,fnS (spec3 (szF d))),(135,walk16S)]) rfl (consOk_list (valid_cons (ih (by omega)) (valid_cons (vWalk16 hρ) valid_nil))) rfl (by omega) rfl h1 h2 (by omega) hs
def size16S:J.Spec:=fnS (spec3 fun (s:Store) (t:Ty) (m:Int)=>if s.tysOk∧t.ok=true∧m<1000000 then some ((sz s.w16 t (max m 0).toNat:Nat):Int) else none)
theorem vSize16:Valid ρ Tryz.prog 134 size16S:=v3 (fo Tryz.func134 fB134) fun a b c r h hs=>by
  obtain⟨⟨h1,h2,h3⟩,rfl⟩:=ite_inv h
  exact ref16_Size_run hρ (E:=EL [(163,fnS (spec3 (szF 1000000)))]) rfl (consOk_list (valid_cons (vsz16 hρ 1000000 (by omega)) valid_nil)) rfl h1 h2 h3 hs
theorem vres16 (d:Nat) (hd:d≤10000):Valid ρ Tryz.prog 189 (fnS (spec2 (resF d))):=by
  induction d with
  | zero =>
    refine v2 (fo Tryz.func189 fB189) fun a b r h hs=>?_
    obtain⟨⟨_,_,h1⟩,rfl⟩:=ite_inv h
    obtain⟨q,_,hq⟩:=sz_fits.1 h1
    have:=Ty.size_pos q
    omega
  | succ d ih =>
    exact v2 (fo Tryz.func189 fB189) fun a b r h hs =>
      ref16_resolve_run hρ (E:=EL [(189,fnS (spec2 (resF d))),(135,walk16S)]) rfl (consOk_list (valid_cons (ih (by omega)) (valid_cons (vWalk16 hρ) valid_nil))) rfl (by omega) rfl h hs
def resolve16S:J.Spec:=fnS (spec2 fun (s:Store) (t:Ty)=>if s.tysOk∧t.ok=true then some (resolveM s.w16 t) else none)
theorem vResolve16:Valid ρ Tryz.prog 167 resolve16S:=v2 (fo Tryz.func167 fB167) fun a b r h hs=>by
  obtain⟨⟨h1,h2⟩,rfl⟩:=ite_inv h
  exact ref16_Resolve_run hρ (E:=EL [(134,size16S),(189,fnS (spec2 (resF 4000)))]) rfl (consOk_list (valid_cons (vSize16 hρ) (valid_cons (vres16 hρ 4000 (by omega)) valid_nil))) rfl rfl h1 h2 hs
theorem vvis16 (d:Nat):Valid ρ Tryz.prog 188 (embS (visM (visF d))):=by
  induction d with
  | zero =>
    refine Valid.emb (fo Tryz.func188 fB188) fun vs hs D h=>?_
    obtain⟨s,out,done,t,R,id,rd,ro,hR,rfl,_,_,_,hfit⟩:=visM_inv h
    obtain⟨⟨_,_,_,_,h1⟩,_⟩:=ite_inv hR
    have:=Ty.size_pos t
    omega
  | succ d ih =>
    refine Valid.emb (fo Tryz.func188 fB188) fun vs hs D h=>?_
    obtain⟨s,out,done,t,R,id,rd,ro,hR,rfl,_,_,_,hfit⟩:=visM_inv h
    exact ref16_finder_visit_run hρ (E:=EL [(188,embS (visM (visF d))),(164,fnS (spec2 fun (s:Store) (t:Ty)=>some (s.bound t))),(34,hasS)]) rfl (consOk_list (valid_cons ih (valid_cons (vBound16 hρ) (valid_cons (vHas hρ) valid_nil)))) rfl rfl rfl hR hfit
def vars16S:J.Spec:=fnS (spec2 fun (s:Store) (l:List Ty)=>if varsOk s l then some (varsS s l) else none)
theorem vVars16:Valid ρ Tryz.prog 165 vars16S:=v2 (fo Tryz.func165 fB165) fun a b r h hs=>by
  obtain⟨h1,rfl⟩:=ite_inv h
  exact ref16_Vars_run hρ (E:=EL [(188,embS (visM (visF 100000)))]) rfl (consOk_list (valid_cons (vvis16 hρ 100000) valid_nil)) rfl h1 hs
theorem vIsArrow:Valid ρ Tryz.prog 166 (fnS (spec1 fun t:Ty=>some (isArrow t))):=v1 (fo Tryz.func166 fB166) fun a r h hs=>by
  cases h; exact ref3_IsArrow_run hρ (E:=EL []) rfl (consOk_list valid_nil) hs
def rigidsS:J.Spec:=fnS (spec1 fun l:List Ty=>if Ty.oks l=true∧l.length≤10000∧Ty.sizes l≤10000 then some (rigidsM l) else none)
theorem vRigids:Valid ρ Tryz.prog 168 rigidsS:=v1 (fo Tryz.func168 fB168) fun a r h hs=>by
  obtain⟨⟨h1,h2,h3⟩,rfl⟩:=ite_inv h
  exact ref3_Rigids_run hρ (E:=EL [(91,ioS 5 (ioF2 (leavesF 10000)) kOne)]) rfl (consOk_list (valid_cons (vLeaves hρ 10000) valid_nil)) rfl h1 h2 h3 (by omega) hs
theorem vSlot17:Valid ρ Tryz.prog 136 (fnS (spec2 fun (s:Store) (t:Ty)=>some (s.isSlot t))):=v2 (fo Tryz.func136 fB136) fun a b r h hs=>by
  cases h; exact ref17_slot_run hρ (E:=EL []) rfl (consOk_list valid_nil) hs
def join17S:J.Spec:=fnS (spec3 fun (s:Store) (x y:Ty)=>if s.slots.length≤1000∧s.trail.length≤990∧s.isSlot x=true∧s.isSlot y=true then some (s.join x.id y.id) else none)
theorem vJoin17:Valid ρ Tryz.prog 137 join17S:=v3 (fo Tryz.func137 fB137) fun a b c r h hs=>by
  obtain⟨⟨h1,h2,h3,h4⟩,rfl⟩:=ite_inv h
  exact ref17_join_run hρ (E:=EL [(13,setS),(52,fnS (spec1 fun i:Int=>some (tVar i)))]) rfl (consOk_list (valid_cons (vSet16 hρ) (valid_cons (vVar hρ) valid_nil))) rfl rfl ⟨h1,h2⟩ h3 h4 hs
theorem vBind17:Valid ρ Tryz.prog 138 (fnS (spec3 Store.bindF)):=v3 (fo Tryz.func138 fB138) fun a b c r h hs=>by
  obtain⟨⟨h1,h2,⟨h3,h4,h5,h6⟩,h7⟩,rfl⟩:=ite_inv h
  exact ref17_bind_run hρ (E:=EL [(13,setS),(165,vars16S),(34,hasS),(166,fnS (spec1 fun t:Ty=>some (isArrow t))),(167,resolve16S),(168,rigidsS)]) rfl
    (consOk_list (valid_cons (vSet16 hρ) (valid_cons (vVars16 hρ) (valid_cons (vHas hρ) (valid_cons (vIsArrow hρ) (valid_cons (vResolve16 hρ) (valid_cons (vRigids hρ) valid_nil))))))) rfl rfl rfl rfl rfl rfl h1 h2 h3 h4 h5 h7 h6 hs
theorem vunify17 (S d:Nat) (hS:1≤S):Valid ρ Tryz.prog 105 (fnS (spec3 (Store.uF S d))):=by
  induction d with
  | zero =>
    refine v3 (fo Tryz.func105 fB105) fun a b c r h hs=>?_
    obtain⟨⟨_,_,_,h1⟩,_⟩:=ite_inv h
    omega
  | succ d ih =>
    refine v3 (fo Tryz.func105 fB105) fun a b c r h hs=>?_
    obtain⟨rfl,h1,h2,h3⟩:=Store.uF_run hS h
    exact ref17_unify_run hρ (E:=EL [(105,fnS (spec3 (Store.uF S d))),(134,size16S),(135,walk16S),(136,fnS (spec2 fun (s:Store) (t:Ty)=>some (s.isSlot t))),(137,join17S),(138,fnS (spec3 Store.bindF))]) rfl
      (consOk_list (valid_cons ih (valid_cons (vSize16 hρ) (valid_cons (vWalk16 hρ) (valid_cons (vSlot17 hρ) (valid_cons (vJoin17 hρ) (valid_cons (vBind17 hρ) valid_nil))))))) rfl rfl rfl rfl rfl rfl h3.tys h3.trail h1 h2 h3.left h3.right (fun a _ _ _=>h3.calls a) hs
end
end Go.Proofs.YthfcfmkdeheicaaGreat
/- The reference's Unify; the stores that tapes make. -/
namespace Go.Proofs.YthfcfmkdeheicaaGreat
open Go.J
open Go.J.Enc (enc)
set_option maxRecDepth 100000
set_option maxHeartbeats 4000000
def storeF (t:Tp) (D:List Decl):Option (Tp×Store):=by
  classical exact if t.ok∧DOk D∧DOk3 D then some (Store.storeM t D) else none
section
variable {ρ:Nat→Value} (hρ:J.Good ρ) {E:Env} (hE:E.P=Tryz.prog) (hcon:ConsOk ρ E)
include hρ hE hcon
theorem ref17_Unify_run {S:Nat} (hc:E.con 105=fnS (spec3 (Store.uF S 300000))) {s:Store} {a b:Ty} (h:Store.UAll S s a b) (hs:HS) :
    CallOk ρ Tryz.prog 59 [enc s,enc a,enc b] hs (enc (Store.topM s a b)) hs:=by
  refine fn hρ hE hcon Tryz.func59 fB59 rfl (by simp) ?_ hs
  have hF:=h.run
  unfold Store.topM
  generalize Store.unifT s a b=r at hF
  obtain⟨r1,r2⟩:=r
  by_cases h0:r2=0
  · subst h0
    simp[fS59r0,fS59r1,fS59r2,fS59r3,fS59r4,fS59,hE,hc,hF]
  · simp[fS59r0,fS59r1,fS59r2,fS59r3,fS59r4,fS59,hE,hc,hF,h0]
theorem make_Tape_Store_run (h1:E.con 55=fnS (spec0 (⟨[],[]⟩:Store))) (h2:E.con 56=stS (stF1 nextF)) (h3:E.con 57=fnS (spec3 fun (s:Store) (h:Int) (b:Bool)=>if s.small then some (s.fresh h b) else none))
    (h4:E.con 16=mkVarsS) (h5:E.con 15=stS (stF3 (typeF 1))) (h6:E.con 58=fnS (spec2 fun h i:Int=>some (tRigid h i))) (h7:E.con 59=fnS (spec3 (Store.topF 7)))
    {t:Tp} {D:List Decl} (ht:t.ok) (hD:DOk D) (hD3:DOk3 D) (hs:HS) (id:Nat) (hid:id<hs.n) (hg:hs.H.get id=some (box (Cel.cells t))) :
    CallOk ρ Tryz.prog 11 [.ptr id 0 0,enc D] hs (enc (Store.storeM t D).2) (hs.wr id (box (Cel.cells (Store.storeM t D).1))):=by
  refine st hρ hE hcon Tryz.func11 fB11 rfl (by simp) (by simp) (by simp) (by simp) ?_ hid hg
  have hnx:∀ (t:Tp) (m:Int),t.ok→-1000000≤m→m≤1000000→nextF t m=some (t.next m):=fun t m h a b=>if_pos ⟨h,a,b⟩
  have hn:=Store.storeN_le t
  have hN5:=next_nn t 5
  have hL5:=next_lt t (n:=5) (by omega)
  have ht1:=next_ok ht 5
  have hx1:=hnx t 5 ht (by omega) (by omega)
  unfold Store.storeM
  have hne:((Store.storeN t:Nat):Int)=1+(t.next 5).2:=by unfold Store.storeN; omega
  generalize hnn:Store.storeN t=n at hn hne
  rcases hq:t.next 5 with⟨t1,k1⟩
  simp only[hq] at hx1 ht1 hne hN5 hL5
  have hw1:IntKind.i64.wrap (1+k1)=(n:Int):=by rw[← hne]; exact wrap_i64 (by omega) (by omega)
  simp[fS11r0,fS11r1,fS11r2,fS11r3,fS11r4,fS11r5,fS11b0,fS11r6,fS11b1,fS11r7,fS11r8,fS11r9,fS11r10,fS11r11,fS11b2,fS11r12,fS11b3,fS11r13,fS11,hE,h1,h2,hx1,hw1]
  have hfo:=Store.frM_ok ht1
  refine lpi hρ hE hcon n (nn:=4) (fun i (p:Tp×Store)=>[(0,.ptr 0 0 0),(1,.sl (D.map encDecl) false),(4,.ptr 1 0 0),(5,.ptr 3 0 0),(6,.int .i64 (n:Int)),(7,.int .i64 (i:Int))])
    (fun i p=>[(0,box (Cel.cells p.1)),(1,box [.snil,.snil]),(3,box (encStore p.2))]) (fun i p=>p=Store.frM t1 i) (t1,⟨[],[]⟩)
    (Less.auto (by simp) (by simp) (by simp) (by simp)) rfl ?_ ?_
  · rintro p hp K
    have hf:=hfo n
    rw[← hp] at hf ⊢
    obtain⟨t2,s⟩:=p
    simp only at hf
    obtain⟨ht2,_,hfr⟩:=hf
    have hx4:=hnx t2 4 ht2 (by omega) (by omega)
    have ht3:=next_ok ht2 4
    have hN4:=next_nn t2 4
    have hL4:=next_lt t2 (n:=4) (by omega)
    rcases hq4:t2.next 4 with⟨t3,k4⟩
    simp only[hq4] at hx4 ht3 hN4 hL4
    obtain⟨m,rfl⟩:=Int.eq_ofNat_of_zero_le hN4
    simp[fS11l0,fS11r0,fS11r1,fS11r2,fS11r3,fS11r4,fS11r5,fS11b0,fS11r6,fS11b1,fS11r7,fS11r8,fS11r9,fS11r10,fS11r11,fS11b2,fS11r12,fS11b3,fS11r13,fS11,hE]
    refine LessQ.mk (Less.auto (TL:=[(0,.ptr 0 0 0),(1,.sl (D.map encDecl) false),(4,.ptr 1 0 0),(5,.ptr 3 0 0),(6,.int .i64 (n:Int))]) (HL:=[(0,box (Cel.cells t2)),(1,box [.snil,.snil]),(3,box (encStore s))]) (n:=4) (by simp) (by simp) (by simp) (by simp)) ?_
    simp[fS11r0,fS11r1,fS11r2,fS11r3,fS11r4,fS11r5,fS11b0,fS11r6,fS11b1,fS11r7,fS11r8,fS11r9,fS11r10,fS11r11,fS11b2,fS11r12,fS11b3,fS11r13,fS11,hE,h2,hx4]
    have hT:=hfr.tame (S:=7)
    have hr:=hfr.room (S:=7)
    have hr':Store.room n 7 s≤990:=by
      have:(n*7+7+2)*n≤44*5:=Nat.mul_le_mul (by omega) hn.2
      omega
    have huo:=Store.unM_ok (D:=D) hD3 ht3 (by omega) (by omega) hT hr'
    have hua:=Store.unM_all (D:=D) hD3 ht3 (by omega) (by omega) hT hr'
    have hF1:∀ (t:Tp) (L:List Ty),t.ok→L.length≤100000→typeF 1 t D L 1=some (typeM 1 t D L):=fun t L ht hl=>if_pos ⟨ht,hD,hl,by decide⟩
    refine lpi hρ hE hcon m (nn:=4) (fun i (p:Tp×Store)=>[(0,.ptr 0 0 0),(1,.sl (D.map encDecl) false),(4,.ptr 1 0 0),(5,.ptr 3 0 0),(6,.int .i64 (n:Int)),(8,.int .i64 (m:Int)),(9,.int .i64 (i:Int))])
      (fun i p=>[(0,box (Cel.cells p.1)),(1,box [.snil,.snil]),(3,box (encStore p.2))]) (fun i p=>p=Store.unM D n t3 s i) (t3,s)
      (Less.auto (by simp) (by simp) (by simp) (by simp)) rfl ?_ ?_
    · rintro p hp K
      rw[← hp]
      obtain⟨t4,s4⟩:=p
      simp[fS11l1,fS11r0,fS11r1,fS11r2,fS11r3,fS11r4,fS11r5,fS11b0,fS11r6,fS11b1,fS11r7,fS11r8,fS11r9,fS11r10,fS11r11,fS11b2,fS11r12,fS11b3,fS11r13,fS11,hE]
      refine LessQ.mk (Less.auto (TL:=[(0,.ptr 0 0 0),(4,.ptr 1 0 0),(5,.ptr 3 0 0)]) (HL:=[(0,box (Cel.cells t4)),(1,box [.snil,.snil]),(3,box (encStore s4))]) (n:=4) (by simp) (by simp) (by simp) (by simp)) ?_
      simp[fS11r0,fS11r1,fS11r2,fS11r3,fS11r4,fS11r5,fS11b0,fS11r6,fS11b1,fS11r7,fS11r8,fS11r9,fS11r10,fS11r11,fS11b2,fS11r12,fS11b3,fS11r13,fS11,hE]
      exact GivesL.keep rfl rfl (by simp) (by simp) (by simp)
    · rintro i p hi hp K hK
      have ho:=huo i
      have ha:=hua i
      have hnew:=hK _ (show _=Store.unM D n t3 s (i+1) from rfl)
      rw[Store.unM] at hnew
      rw[← hp] at ho ha hnew
      obtain⟨t4,s4⟩:=p
      simp only at ho ha hnew
      have hy1:=hF1 t4 (varTs n) ho.1 (by simp; omega)
      have ho1:=(typeM_ok (D:=D) (Lv:=varTs n) 1 t4 ho.1).1
      rcases hq1:typeM 1 t4 D (varTs n) with⟨t5,a⟩
      simp only[hq1] at hy1 ho1 ha hnew
      have hy2:=hF1 t5 (varTs n++[tRigid 1 0]) ho1 (by simp; omega)
      rcases hq2:typeM 1 t5 D (varTs n++[tRigid 1 0]) with⟨t6,b⟩
      simp only[hq2] at hy2 ha hnew
      have hF:Store.topF 7 s4 a b=some (Store.topM s4 a b):=if_pos ha
      rcases hq3:Store.topM s4 a b with⟨s5,e5⟩
      rw[hq3] at hF
      simp only[hq3] at hnew
      have hi':(i:Int)<m:=by omega
      have hn0:n≤10000:=by omega
      have hnI:((n:Nat):Int)≤10000:=by omega
      have hlv:=varTs_len n
      have hw2:IntKind.i64.wrap ((i:Int)+1)=((i+1:Nat):Int):=wrap_succ (by omega)
      generalize hV:varTs n=L at hy1 hy2 hlv
      rcases L with _ | ⟨v,L⟩
      · simp at hlv; omega
      · have h64:(L.length+1+1)*64≤1048576:=by simp at hlv; omega
        rw[List.cons_append] at hy2
        simp[fS11l1,fS11r0,fS11r1,fS11r2,fS11r3,fS11r4,fS11r5,fS11b0,fS11r6,fS11b1,fS11r7,fS11r8,fS11r9,fS11r10,fS11r11,fS11b2,fS11r12,fS11b3,fS11r13,fS11,hE,hi',h4,mkVarsS,h5,h6,h7,hn0,hnI,hV,hy1,hy2,hF,h64,Nat.not_succ_le_self,hw2,-Int.natCast_add]
        exact hnew _ _ (Less.auto (by simp[-Int.natCast_add]) (by simp) (by simp) (by simp))
  · rintro i p hi hp K hK
    have hf:=hfo i
    rw[← hp] at hf
    have hnew:=hK ((((p.1.next 3).1.next 5).1,(p.2.fresh (p.1.next 3).2 (decide (((p.1.next 3).1.next 5).2=0))).1)) (by rw[Store.frM,← hp])
    obtain⟨t2,s⟩:=p
    simp only at hf hnew
    obtain⟨ht2,_,hfr⟩:=hf
    have hx3:=hnx t2 3 ht2 (by omega) (by omega)
    have ht3:=next_ok ht2 3
    rcases hq3:t2.next 3 with⟨t3,k3⟩
    simp only[hq3] at hx3 ht3 hnew
    have hx5:=hnx t3 5 ht3 (by omega) (by omega)
    rcases hq5:t3.next 5 with⟨t4,k5⟩
    simp only[hq5] at hx5 hnew
    have hsm:s.small:=⟨by rw[hfr.1]; omega,by rw[hfr.2.1]; omega⟩
    have hi':(i:Int)<n:=by omega
    have hw2:IntKind.i64.wrap ((i:Int)+1)=((i+1:Nat):Int):=wrap_succ (by omega)
    by_cases h5:k5=0
    · subst h5
      simp only[decide_true] at hnew
      rcases hq6:s.fresh k3 true with⟨s2,x2⟩
      simp only[hq6] at hnew
      simp[fS11l0,fS11r0,fS11r1,fS11r2,fS11r3,fS11r4,fS11r5,fS11b0,fS11r6,fS11b1,fS11r7,fS11r8,fS11r9,fS11r10,fS11r11,fS11b2,fS11r12,fS11b3,fS11r13,fS11,hE,hi',hx3,hx5,h2,h3,hsm,hq6,hw2,-Int.natCast_add]
      exact hnew _ _ (Less.auto (by simp[-Int.natCast_add]) (by simp) (by simp) (by simp))
    · simp only[decide_eq_false h5] at hnew
      rcases hq6:s.fresh k3 false with⟨s2,x2⟩
      simp only[hq6] at hnew
      simp[fS11l0,fS11r0,fS11r1,fS11r2,fS11r3,fS11r4,fS11r5,fS11b0,fS11r6,fS11b1,fS11r7,fS11r8,fS11r9,fS11r10,fS11r11,fS11b2,fS11r12,fS11b3,fS11r13,fS11,hE,hi',hx3,hx5,h2,h3,hsm,h5,hq6,hw2,-Int.natCast_add]
      exact hnew _ _ (Less.auto (by simp[-Int.natCast_add]) (by simp) (by simp) (by simp))
end
end Go.Proofs.YthfcfmkdeheicaaGreat
/- Types made valid; the law StoreOperations: what its function computes. -/
namespace Go.Proofs.YthfcfmkdeheicaaGreat
open Go.J
open Go.J.Enc (enc)
set_option maxRecDepth 100000
set_option maxHeartbeats 4000000
def yesS:J.Spec:=fnS (spec0 true)
section
variable {ρ:Nat→Value} (hρ:J.Good ρ) {E:Env} (hE:E.P=Tryz.prog) (hcon:ConsOk ρ E)
include hρ hE hcon
end
end Go.Proofs.YthfcfmkdeheicaaGreat
/- The contracts that the laws on stores use,joined. -/
namespace Go.Proofs.YthfcfmkdeheicaaGreat
open Go.J
open Go.J.Enc (enc)
set_option maxRecDepth 100000
set_option maxHeartbeats 1000000
section
variable {ρ:Nat→Value} (hρ:J.Good ρ)
include hρ
theorem vTop17 (S:Nat) (hS:1≤S):Valid ρ Tryz.prog 59 (fnS (spec3 (Store.topF S))):=v3 (fo Tryz.func59 fB59) fun a b c r h hs=>by
  obtain⟨h1,rfl⟩:=ite_inv h
  exact ref17_Unify_run hρ (E:=EL [(105,fnS (spec3 (Store.uF S 300000)))]) rfl (consOk_list (valid_cons (vunify17 hρ S 300000 hS) valid_nil)) rfl h1 hs
theorem vTapeStore:Valid ρ Tryz.prog 11 (stS (stF1 storeF)):=s1 (fo Tryz.func11 fB11) fun s a q h hs id hid hg=>by
  obtain⟨⟨h1,h2,h3⟩,rfl⟩:=ite_inv h
  exact make_Tape_Store_run hρ (E:=EL [(55,fnS (spec0 (⟨[],[]⟩:Store))),(56,stS (stF1 nextF)),(57,freshS),(16,mkVarsS),(15,stS (stF3 (typeF 1))),(58,fnS (spec2 fun h i:Int=>some (tRigid h i))),(59,fnS (spec3 (Store.topF 7)))]) rfl
    (consOk_list (valid_cons (vNew16 hρ) (valid_cons (vNext hρ) (valid_cons (vFresh16 hρ) (valid_cons (vMkVars hρ) (valid_cons (vType hρ 1 (by omega)) (valid_cons (vRigid hρ) (valid_cons (vTop17 hρ 7 (by omega)) valid_nil)))))))) rfl rfl rfl rfl rfl rfl rfl h1 h2 h3 hs id hid hg
theorem vSHas:Valid ρ Tryz.prog 68 (fnS (spec2 fun (s:Store) (i:Int)=>some (s.slot? i).isSome)):=v2 (fo Tryz.func68 fB68) fun a b r h hs=>by
  cases h; exact store_has_run hρ (E:=EL []) rfl (consOk_list valid_nil) hs
end
end Go.Proofs.YthfcfmkdeheicaaGreat
