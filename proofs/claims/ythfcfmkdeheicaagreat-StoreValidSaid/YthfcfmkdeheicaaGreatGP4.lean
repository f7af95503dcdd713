import Derived.Test.YthfcfmkdeheicaaGreatGP3
import Derived.Test.YthfcfmkdeheicaaGreatJL
set_option linter.all false
noncomputable section
/- The contracts of small functions,joined. -/
namespace Go.Proofs.YthfcfmkdeheicaaGreat
open Go.J
open Go.J.Enc (enc)
set_option maxRecDepth 100000
set_option maxHeartbeats 1000000
theorem ite_inv {c:Prop} {_:Decidable c} {α:Type} {x r:α} (h:(if c then some x else none)=some r):c∧x=r:=by
  split at h
  · cases h; exact⟨‹_›,rfl⟩
  · cases h
theorem fo {f:Nat} {fn:Func} {sc:SC} (hf:Tryz.prog.funcs[f]?=some fn) (hb:fn.body.bind stripC=some sc):FnOk Tryz.prog f:=fnOk hf (by
  cases h:fn.body with
  | none=>rw[h] at hb; cases hb
  | some c=>rfl)
abbrev EL (L:List (Nat×J.Spec)):Env:=envL Tryz.prog pol L
section
variable {ρ:Nat→Value} (hρ:J.Good ρ)
include hρ
def modS:J.Spec:=fnS (spec2 fun n m:Int=>if -1000000≤m∧m≤1000000 then some (modI n m) else none)
theorem vMod:Valid ρ Tryz.prog 14 modS:=v2 (fo Tryz.func14 fB14) fun a b r h hs=>by
  obtain⟨h1,rfl⟩:=ite_inv h
  exact make_Mod_run hρ (E:=EL []) rfl (consOk_list valid_nil) (by omega) (by omega) hs
def fewS:J.Spec:=fnS (spec1 fun l:List Int=>some (decide (l.length≤60)))
theorem vFew:Valid ρ Tryz.prog 10 fewS:=v1 (fo Tryz.func10 fB10) fun a r h hs=>by
  cases h
  exact make_Few_run hρ (E:=EL []) rfl (consOk_list valid_nil) hs
def conS:J.Spec:=fnS (spec2 fun (n:List Nat) (l:List Ty)=>if l.length≤10000 then some (tCon n l) else none)
theorem vCon:Valid ρ Tryz.prog 61 conS:=v2 (fo Tryz.func61 fB61) fun a b r h hs=>by
  obtain⟨h1,rfl⟩:=ite_inv h
  exact ref3_Con_run hρ (E:=EL []) rfl (consOk_list valid_nil) h1 hs
theorem vInt:Valid ρ Tryz.prog 49 (fnS (spec0 tInt)):=v0 (fo Tryz.func49 fB49) fun hs =>
  ref3_Int_run hρ (E:=EL [(61,conS)]) rfl (consOk_list (valid_cons (vCon hρ) valid_nil)) rfl hs
theorem vArrow:Valid ρ Tryz.prog 62 (fnS (spec2 fun a b:Ty=>some (tArrow a b))):=v2 (fo Tryz.func62 fB62) fun a b r h hs=>by
  cases h
  exact ref3_Arrow_run hρ (E:=EL [(61,conS)]) rfl (consOk_list (valid_cons (vCon hρ) valid_nil)) rfl hs
theorem vVar:Valid ρ Tryz.prog 52 (fnS (spec1 fun i:Int=>some (tVar i))):=v1 (fo Tryz.func52 fB52) fun a r h hs=>by
  cases h
  exact ref3_Var_run hρ (E:=EL []) rfl (consOk_list valid_nil) hs
theorem vRigid:Valid ρ Tryz.prog 58 (fnS (spec2 fun h i:Int=>some (tRigid h i))):=v2 (fo Tryz.func58 fB58) fun a b r h hs=>by
  cases h
  exact ref3_Rigid_run hρ (E:=EL []) rfl (consOk_list valid_nil) hs
theorem vNext:Valid ρ Tryz.prog 56 (stS (stF1 nextF)):=s1 (fo Tryz.func56 fB56) fun s a q h hs id hid hg=>by
  obtain⟨⟨h1,h2⟩,rfl⟩:=ite_inv h
  exact make_Tape_Next_run hρ (E:=EL [(14,modS)]) rfl (consOk_list (valid_cons (vMod hρ) valid_nil)) rfl h1.1 h1.2 h2 hs id hid hg
theorem vEq (d:Nat):Valid ρ Tryz.prog 23 (fnS (spec2 (eqF d)))∧Valid ρ Tryz.prog 77 (fnS (spec2 (eqAllF d))):=by
  have all:∀ d,Valid ρ Tryz.prog 23 (fnS (spec2 (eqF d)))→Valid ρ Tryz.prog 77 (fnS (spec2 (eqAllF d))):=fun d hv=>v2 (fo Tryz.func77 fB77) fun a b r h hs=>by
    obtain⟨⟨h1,h2,h3⟩,rfl⟩:=ite_inv h
    exact ref3_EqualAll_run hρ (E:=EL [(23,fnS (spec2 (eqF d)))]) rfl (consOk_list (valid_cons hv valid_nil)) rfl h1 h2 h3 hs
  have one:∀ d,Valid ρ Tryz.prog 23 (fnS (spec2 (eqF d))):=by
    intro d
    induction d with
    | zero =>
      refine v2 (fo Tryz.func23 fB23) fun a b r h hs=>?_
      obtain⟨⟨h1,h2⟩,rfl⟩:=ite_inv h
      have:=Ty.size_eq a
      omega
    | succ d ih =>
      refine v2 (fo Tryz.func23 fB23) fun a b r h hs=>?_
      obtain⟨⟨h1,h2⟩,rfl⟩:=ite_inv h
      exact ref3_Equal_run hρ (E:=EL [(77,fnS (spec2 (eqAllF d)))]) rfl (consOk_list (valid_cons (all d ih) valid_nil)) rfl h1 h2 hs
  exact⟨one d,all d (one d)⟩
def equalS:J.Spec:=fnS (spec2 fun a b:Ty=>if a.ok=true then some (decide (a=b)) else none)
theorem vEqual:Valid ρ Tryz.prog 23 equalS:=v2 (fo Tryz.func23 fB23) fun a b r h hs=>by
  obtain⟨h1,rfl⟩:=ite_inv h
  exact ref3_Equal_run hρ (E:=EL [(77,fnS (spec2 (eqAllF a.size)))]) rfl (consOk_list (valid_cons (vEq hρ a.size).2 valid_nil)) rfl h1 (by omega) hs
theorem vLeaves (d:Nat):Valid ρ Tryz.prog 91 (ioS 5 (ioF2 (leavesF d)) kOne):=by
  induction d with
  | zero =>
    refine Valid.io (fo Tryz.func91 fB91) fun es vs r _ _ h0 _ _ _ hs v hv hvac=>?_
    obtain⟨l,a,b,q,rfl,rfl,h,rfl⟩:=ioF2_inv h0
    obtain⟨⟨h1,h2,h3⟩,rfl⟩:=ite_inv h
    have:=Ty.size_eq a
    omega
  | succ d ih =>
    refine Valid.io (fo Tryz.func91 fB91) fun es vs r _ _ h0 _ _ _ hs v hv hvac=>?_
    obtain⟨l,a,b,q,rfl,rfl,h,rfl⟩:=ioF2_inv h0
    obtain⟨⟨h1,h2,h3,h4⟩,rfl⟩:=ite_inv h
    exact ref3_leaves_run hρ (E:=EL [(23,equalS),(91,ioS 5 (ioF2 (leavesF d)) kOne)]) rfl (consOk_list (valid_cons (vEqual hρ) (valid_cons ih valid_nil))) rfl rfl h2 h1 h3 h4 hv hvac
def hasS:J.Spec:=fnC (spec2 fun (l:List Int) (x:Int)=>if l.length≤1000000 then some (decide (x∈l)) else none)
theorem vHas:Valid ρ Tryz.prog 34 hasS:=c2 (fo Tryz.func34 fB34) fun a b r h hs=>by
  obtain⟨h1,rfl⟩:=ite_inv h
  exact ref3_Has_run hρ (E:=EL []) rfl (consOk_list valid_nil) h1 hs
def varsS1 (d:Nat):J.Spec:=fnS (spec1 fun l:List Ty=>if Ty.oks l=true∧l.length≤10000∧Ty.sizes l≤d then some (varsM l) else none)
theorem vVars (d:Nat) (hd:d≤10000):Valid ρ Tryz.prog 33 (varsS1 d):=v1 (fo Tryz.func33 fB33) fun a r h hs=>by
  obtain⟨⟨h1,h2,h3⟩,rfl⟩:=ite_inv h
  exact ref3_Vars_run hρ (E:=EL [(34,hasS),(91,ioS 5 (ioF2 (leavesF d)) kOne)]) rfl (consOk_list (valid_cons (vHas hρ) (valid_cons (vLeaves hρ d) valid_nil))) rfl rfl h1 h2 h3 hd hs
end
end Go.Proofs.YthfcfmkdeheicaaGreat
/- The contracts of the functions on stores,joined. -/
namespace Go.Proofs.YthfcfmkdeheicaaGreat
open Go.J
open Go.J.Enc (enc)
set_option maxRecDepth 100000
set_option maxHeartbeats 1000000
theorem args_le (l:List Ty):l.length≤Ty.sizes l:=by
  induction l with
  | nil=>exact Nat.le_refl _
  | cons t l ih=>have:=Ty.size_pos t; simp only[Ty.sizes,List.length_cons]; omega
section
variable {ρ:Nat→Value} (hρ:J.Good ρ)
include hρ
theorem vRLower:Valid ρ Tryz.prog 152 (fnS (spec1 fun c:Byte=>some (lowerB c.n))):=v1 (fo Tryz.func152 fB152) fun a r h hs=>by
  cases h; exact ref2_lower_run hρ (E:=EL []) rfl (consOk_list valid_nil) hs
theorem vRUpper:Valid ρ Tryz.prog 154 (fnS (spec1 fun c:Byte=>some (upperB c.n))):=v1 (fo Tryz.func154 fB154) fun a r h hs=>by
  cases h; exact ref2_upper_run hρ (E:=EL []) rfl (consOk_list valid_nil) hs
theorem vRDigit:Valid ρ Tryz.prog 190 (fnS (spec1 fun c:Byte=>some (digitB c.n))):=v1 (fo Tryz.func190 fB190) fun a r h hs=>by
  cases h; exact ref2_digit_run hρ (E:=EL []) rfl (consOk_list valid_nil) hs
theorem vRInner:Valid ρ Tryz.prog 169 (fnS (spec1 fun c:Byte=>some (innerB c.n))):=v1 (fo Tryz.func169 fB169) fun a r h hs=>by
  cases h
  exact ref2_inner_run hρ (E:=EL [(152,fnS (spec1 fun c:Byte=>some (lowerB c.n))),(154,fnS (spec1 fun c:Byte=>some (upperB c.n))),(190,fnS (spec1 fun c:Byte=>some (digitB c.n)))]) rfl
    (consOk_list (valid_cons (vRLower hρ) (valid_cons (vRUpper hρ) (valid_cons (vRDigit hρ) valid_nil)))) rfl rfl rfl hs
def wordS:J.Spec:=fnS (spec1 fun s:List Nat=>if s.length<2^63 then some (wordN s) else none)
theorem vRWord:Valid ρ Tryz.prog 151 wordS:=v1 (fo Tryz.func151 fB151) fun a r h hs=>by
  obtain⟨h1,rfl⟩:=ite_inv h
  exact ref2_word_run hρ (E:=EL [(169,fnS (spec1 fun c:Byte=>some (innerB c.n)))]) rfl (consOk_list (valid_cons (vRInner hρ) valid_nil)) rfl h1 hs
theorem vRKeyword:Valid ρ Tryz.prog 153 (fnS (spec1 fun s:List Nat=>some (decide (s∈keywords)))):=v1 (fo Tryz.func153 fB153) fun a r h hs=>by
  cases h; exact ref2_Keyword_run hρ (E:=EL []) rfl (consOk_list valid_nil) hs
def lowerS:J.Spec:=fnS (spec1 fun s:List Nat=>if s.length<2^63 then some (lowerN s) else none)
theorem vRLowerW:Valid ρ Tryz.prog 117 lowerS:=v1 (fo Tryz.func117 fB117) fun a r h hs=>by
  obtain⟨h1,rfl⟩:=ite_inv h
  exact ref2_Lower_run hρ (E:=EL [(151,wordS),(152,fnS (spec1 fun c:Byte=>some (lowerB c.n))),(153,fnS (spec1 fun s:List Nat=>some (decide (s∈keywords))))]) rfl
    (consOk_list (valid_cons (vRWord hρ) (valid_cons (vRLower hρ) (valid_cons (vRKeyword hρ) valid_nil)))) rfl rfl rfl h1 hs
def upperS:J.Spec:=fnS (spec1 fun s:List Nat=>if s.length<2^63 then some (upperN s) else none)
theorem vRUpperW:Valid ρ Tryz.prog 118 upperS:=v1 (fo Tryz.func118 fB118) fun a r h hs=>by
  obtain⟨h1,rfl⟩:=ite_inv h
  exact ref2_Upper_run hρ (E:=EL [(151,wordS),(154,fnS (spec1 fun c:Byte=>some (upperB c.n)))]) rfl (consOk_list (valid_cons (vRWord hρ) (valid_cons (vRUpper hρ) valid_nil))) rfl rfl h1 hs
def rvalidS (d:Nat):J.Spec:=fnS (spec1 fun t:Ty=>if t.size≤d∧t.short=true then some t.valid else none)
theorem vRValid (d:Nat) (hd:d≤1000000):Valid ρ Tryz.prog 72 (rvalidS d):=by
  induction d with
  | zero =>
    refine v1 (fo Tryz.func72 fB72) fun a r h hs=>?_
    obtain⟨⟨h1,h2⟩,rfl⟩:=ite_inv h
    have:=Ty.size_eq a
    omega
  | succ d ih =>
    refine v1 (fo Tryz.func72 fB72) fun a r h hs=>?_
    obtain⟨⟨h1,h2⟩,rfl⟩:=ite_inv h
    refine ref3_Valid_run hρ (E:=EL [(72,rvalidS d),(117,lowerS),(118,upperS)]) rfl (consOk_list (valid_cons (ih (by omega)) (valid_cons (vRLowerW hρ) (valid_cons (vRUpperW hρ) valid_nil)))) rfl rfl rfl h1 ?_ h2 hs
    have:=Ty.size_eq a
    have:=args_le a.args
    omega
def typesS (d:Nat):J.Spec:=fnS (spec2 fun (t:Ty) (n:Int)=>if t.size≤d∧-1000000≤n∧n≤1000000 then some (max (n-t.size) 0) else none)
theorem vMTypes (d:Nat):Valid ρ Tryz.prog 104 (typesS d):=by
  induction d with
  | zero =>
    refine v2 (fo Tryz.func104 fB104) fun a b r h hs=>?_
    obtain⟨⟨h1,h2⟩,rfl⟩:=ite_inv h
    have:=Ty.size_eq a
    omega
  | succ d ih =>
    refine v2 (fo Tryz.func104 fB104) fun a b r h hs=>?_
    obtain⟨⟨h1,h2,h3⟩,rfl⟩:=ite_inv h
    exact make_types_run hρ (E:=EL [(104,typesS d)]) rfl (consOk_list (valid_cons ih valid_nil)) rfl h1 h2 h3 hs
def smallTyS:J.Spec:=fnS (spec2 fun (t:Ty) (n:Int)=>if -1000000≤n∧n≤999999 then some (decide ((t.size:Int)≤n)) else none)
theorem vSmallType:Valid ρ Tryz.prog 54 smallTyS:=v2 (fo Tryz.func54 fB54) fun a b r h hs=>by
  obtain⟨⟨h1,h2⟩,rfl⟩:=ite_inv h
  exact make_SmallType_run hρ (E:=EL [(104,typesS a.size)]) rfl (consOk_list (valid_cons (vMTypes hρ a.size) valid_nil)) rfl (Nat.le_refl _) h1 h2 hs
theorem vFew16:Valid ρ Tryz.prog 9 (fnS (spec1 fun s:Store=>some (decide s.few))):=v1 (fo Tryz.func9 fB9) fun a r h hs=>by
  cases h
  exact law16_few_run hρ (E:=EL [(54,smallTyS)]) rfl (consOk_list (valid_cons (vSmallType hρ) valid_nil)) rfl hs
theorem cyc_call {d:Nat} {S:J.Spec} (hv:Valid ρ Tryz.prog 73 S) (hS:S=mtS 2 1 (mtF3 (cycF d))) {s:Store} {i fr:Int} {S1:List Int} {R:List Int×Bool} (hR:cycF (d+1) S1 s i fr=some R) (hs:HS) (id:Nat) (hid:id<hs.n) (hg:hs.H.get id=some (mkO 1 (S1.map encI))) :
    CallOk ρ Tryz.prog 73 [enc s,enc i,mkV id (S1.map encI),enc fr] hs (enc R.2) (hs.wr id (mkO 1 (R.1.map encI))):=by
  subst hS
  exact ref16_cyclic_run hρ (E:=EL [(73,mtS 2 1 (mtF3 (cycF d))),(33,varsS1 10000)]) rfl (consOk_list (valid_cons hv (valid_cons (vVars hρ 10000 (by omega)) valid_nil))) rfl rfl hR hid hg
omit hρ in
theorem mt3 {F:List Int→Store→Int→Int→Option (List Int×Bool)} {f:Nat} (hf:FnOk Tryz.prog f) (h:∀ S s i fr r,F S s i fr=some r→∀ (hs:HS) (id:Nat),id<hs.n→hs.H.get id=some (mkO 1 (S.map encI))→CallOk ρ Tryz.prog f [enc s,enc i,mkV id (S.map encI),enc fr] hs (enc r.2) (hs.wr id (mkO 1 (r.1.map encI)))) :
    Valid ρ Tryz.prog f (mtS 2 1 (mtF3 F)):=Valid.mt hf fun es pre post r hp _ _ hF _ _ _ hs id hid hg=>by
  obtain⟨S,s,i,fr,q,rfl,hv,hq,rfl⟩:=mtF3_inv hF
  obtain⟨x,y,rfl⟩:∃ x y,pre=[x,y]:=by
    match pre,hp with
    | [x,y],_=>exact⟨x,y,rfl⟩
  simp only[List.cons_append,List.nil_append,List.cons.injEq] at hv
  obtain⟨rfl,rfl,rfl⟩:=hv
  exact h S s i fr q hq hs id hid hg
theorem vCyc (d:Nat):Valid ρ Tryz.prog 73 (mtS 2 1 (mtF3 (cycF d))):=by
  induction d with
  | zero =>
    refine mt3 (fo Tryz.func73 fB73) fun S s i fr r h hs id hid hg=>?_
    unfold cycF at h
    obtain⟨⟨_,_,_,_,h1⟩,_⟩:=ite_inv h
    omega
  | succ d ih=>exact mt3 (fo Tryz.func73 fB73) fun S s i fr r h hs id hid hg=>cyc_call hρ ih rfl h hs id hid hg
theorem vCycA:Valid ρ Tryz.prog 73 (mtS 2 1 (mtF3 fun S s i fr=>cycF (s.slots.length+1) S s i fr)) :=
  mt3 (fo Tryz.func73 fB73) fun S s i fr r h hs id hid hg=>cyc_call hρ (vCyc hρ s.slots.length) rfl h hs id hid hg
def valid16S:J.Spec:=fnS (spec1 fun s:Store=>if s.fine then some s.valid else none)
theorem vValid16:Valid ρ Tryz.prog 18 valid16S:=v1 (fo Tryz.func18 fB18) fun a r h hs=>by
  obtain⟨h1,rfl⟩:=ite_inv h
  exact ref16_Valid_run hρ (E:=EL [(73,mtS 2 1 (mtF3 fun S s i fr=>cycF (s.slots.length+1) S s i fr)),(23,equalS),(72,rvalidS 10000),(33,varsS1 10000)]) rfl
    (consOk_list (valid_cons (vCycA hρ) (valid_cons (vEqual hρ) (valid_cons (vRValid hρ 10000 (by omega)) (valid_cons (vVars hρ 10000 (by omega)) valid_nil))))) rfl rfl rfl rfl h1 hs
end
end Go.Proofs.YthfcfmkdeheicaaGreat
