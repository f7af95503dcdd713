import Derived.Test.YthfcfmkdeheicaaPX4
set_option linter.all false
noncomputable section
/- The contracts of the functions on stores,joined. -/
namespace Go.Proofs.Ythfcfmkdeheicaa
open Go.J
open Go.J.Enc (enc)
set_option maxRecDepth 100000
set_option maxHeartbeats 1000000
theorem args_le (l:List Ty):l.length≤Ty.sizes l:=by
  induction l with
  | nil=>exact Nat.le_refl _
  | cons t l ih=>have:=Ty.size_pos t; simp only[Ty.sizes,List.length_cons]; omega
section
variable {ρ:Nat→Value} (hρ:J.Good ρ)
include hρ
theorem vRLower:Valid ρ Try.prog 110 (fnS (spec1 fun c:Byte=>some (lowerB c.n))):=v1 (fo Try.func110 fB110) fun a r h hs=>by
  cases h; exact ref2_lower_run hρ (E:=EL []) rfl (consOk_list valid_nil) hs
theorem vRUpper:Valid ρ Try.prog 112 (fnS (spec1 fun c:Byte=>some (upperB c.n))):=v1 (fo Try.func112 fB112) fun a r h hs=>by
  cases h; exact ref2_upper_run hρ (E:=EL []) rfl (consOk_list valid_nil) hs
theorem vRDigit:Valid ρ Try.prog 149 (fnS (spec1 fun c:Byte=>some (digitB c.n))):=v1 (fo Try.func149 fB149) fun a r h hs=>by
  cases h; exact ref2_digit_run hρ (E:=EL []) rfl (consOk_list valid_nil) hs
theorem vRInner:Valid ρ Try.prog 130 (fnS (spec1 fun c:Byte=>some (innerB c.n))):=v1 (fo Try.func130 fB130) fun a r h hs=>by
  cases h
  exact ref2_inner_run hρ (E:=EL [(110,fnS (spec1 fun c:Byte=>some (lowerB c.n))),(112,fnS (spec1 fun c:Byte=>some (upperB c.n))),(149,fnS (spec1 fun c:Byte=>some (digitB c.n)))]) rfl
    (consOk_list (valid_cons (vRLower hρ) (valid_cons (vRUpper hρ) (valid_cons (vRDigit hρ) valid_nil)))) rfl rfl rfl hs
def wordS:J.Spec:=fnS (spec1 fun s:List Nat=>if s.length<2^63 then some (wordN s) else none)
theorem vRWord:Valid ρ Try.prog 109 wordS:=v1 (fo Try.func109 fB109) fun a r h hs=>by
  obtain⟨h1,rfl⟩:=ite_inv h
  exact ref2_word_run hρ (E:=EL [(130,fnS (spec1 fun c:Byte=>some (innerB c.n)))]) rfl (consOk_list (valid_cons (vRInner hρ) valid_nil)) rfl h1 hs
theorem vRKeyword:Valid ρ Try.prog 111 (fnS (spec1 fun s:List Nat=>some (decide (s∈keywords)))):=v1 (fo Try.func111 fB111) fun a r h hs=>by
  cases h; exact ref2_Keyword_run hρ (E:=EL []) rfl (consOk_list valid_nil) hs
def lowerS:J.Spec:=fnS (spec1 fun s:List Nat=>if s.length<2^63 then some (lowerN s) else none)
theorem vRLowerW:Valid ρ Try.prog 91 lowerS:=v1 (fo Try.func91 fB91) fun a r h hs=>by
  obtain⟨h1,rfl⟩:=ite_inv h
  exact ref2_Lower_run hρ (E:=EL [(109,wordS),(110,fnS (spec1 fun c:Byte=>some (lowerB c.n))),(111,fnS (spec1 fun s:List Nat=>some (decide (s∈keywords))))]) rfl
    (consOk_list (valid_cons (vRWord hρ) (valid_cons (vRLower hρ) (valid_cons (vRKeyword hρ) valid_nil)))) rfl rfl rfl h1 hs
def upperS:J.Spec:=fnS (spec1 fun s:List Nat=>if s.length<2^63 then some (upperN s) else none)
theorem vRUpperW:Valid ρ Try.prog 92 upperS:=v1 (fo Try.func92 fB92) fun a r h hs=>by
  obtain⟨h1,rfl⟩:=ite_inv h
  exact ref2_Upper_run hρ (E:=EL [(109,wordS),(112,fnS (spec1 fun c:Byte=>some (upperB c.n)))]) rfl (consOk_list (valid_cons (vRWord hρ) (valid_cons (vRUpper hρ) valid_nil))) rfl rfl h1 hs
def rvalidS (d:Nat):J.Spec:=fnS (spec1 fun t:Ty=>if t.size≤d∧t.short=true then some t.valid else none)
theorem vRValid (d:Nat) (hd:d≤1000000):Valid ρ Try.prog 57 (rvalidS d):=by
  induction d with
  | zero =>
    refine v1 (fo Try.func57 fB57) fun a r h hs=>?_
    obtain⟨⟨h1,h2⟩,rfl⟩:=ite_inv h
    have:=Ty.size_eq a
    omega
  | succ d ih =>
    refine v1 (fo Try.func57 fB57) fun a r h hs=>?_
    obtain⟨⟨h1,h2⟩,rfl⟩:=ite_inv h
    refine ref3_Valid_run hρ (E:=EL [(57,rvalidS d),(91,lowerS),(92,upperS)]) rfl (consOk_list (valid_cons (ih (by omega)) (valid_cons (vRLowerW hρ) (valid_cons (vRUpperW hρ) valid_nil)))) rfl rfl rfl h1 ?_ h2 hs
    have:=Ty.size_eq a
    have:=args_le a.args
    omega
end
end Go.Proofs.Ythfcfmkdeheicaa
