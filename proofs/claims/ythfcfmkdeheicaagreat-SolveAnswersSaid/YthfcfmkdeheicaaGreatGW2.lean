import Derived.Test.YthfcfmkdeheicaaGreatGX4
set_option linter.all false
noncomputable section
/- The contracts of the functions on stores,joined. -/
namespace Go.Proofs.YthfcfmkdeheicaaGreat
open Go.J
open Go.J.Enc (enc)
set_option maxRecDepth 100000
set_option maxHeartbeats 1000000
theorem args_le(l:List Ty):l.length≤Ty.sizes l:=by
 induction l with
 |nil=>exact Nat.le_refl _
 |cons t l ih=>have:=Ty.size_pos t;simp only[Ty.sizes,List.length_cons];omega
section
variable {ρ:Nat→Value}(hρ:J.Good ρ)
include hρ
theorem vRLower:Valid ρ Tryz.prog 152 (fnS (zC fun c:Byte=>some (lowerB c.n))):=v1 (fo Tryz.func152 fB152) fun a r h hs=>by
 cases h;exact ref2_lower_run hρ (E:=EL []) rfl (zg valid_nil) hs
theorem vRUpper:Valid ρ Tryz.prog 154 (fnS (zC fun c:Byte=>some (upperB c.n))):=v1 (fo Tryz.func154 fB154) fun a r h hs=>by
 cases h;exact ref2_upper_run hρ (E:=EL []) rfl (zg valid_nil) hs
theorem vRDigit:Valid ρ Tryz.prog 190 (fnS (zC fun c:Byte=>some (znG c.n))):=v1 (fo Tryz.func190 fB190) fun a r h hs=>by
 cases h;exact ref2_digit_run hρ (E:=EL []) rfl (zg valid_nil) hs
theorem vRInner:Valid ρ Tryz.prog 169 (fnS (zC fun c:Byte=>some (zhs c.n))):=v1 (fo Tryz.func169 fB169) fun a r h hs=>by
 cases h
 exact ref2_inner_run hρ (E:=EL [(152,fnS (zC fun c:Byte=>some (lowerB c.n))),(154,fnS (zC fun c:Byte=>some (upperB c.n))),(190,fnS (zC fun c:Byte=>some (znG c.n)))]) rfl
  (zg (zf (vRLower hρ) (zf (vRUpper hρ) (zf (vRDigit hρ) valid_nil)))) rfl rfl rfl hs
def wordS:J.Spec:=fnS (zC fun s:List Nat=>if s.length<2^63 then some (zov s)else none)
theorem vRWord:Valid ρ Tryz.prog 151 wordS:=v1 (fo Tryz.func151 fB151) fun a r h hs=>by
 obtain⟨h1,rfl⟩:=zB h
 exact ref2_word_run hρ (E:=EL [(169,fnS (zC fun c:Byte=>some (zhs c.n)))]) rfl (zg (zf (vRInner hρ) valid_nil)) rfl h1 hs
theorem vRKeyword:Valid ρ Tryz.prog 153 (fnS (zC fun s:List Nat=>some (decide (s∈keywords)))):=v1 (fo Tryz.func153 fB153) fun a r h hs=>by
 cases h;exact znQ hρ (E:=EL []) rfl (zg valid_nil) hs
def lowerS:J.Spec:=fnS (zC fun s:List Nat=>if s.length<2^63 then some (zpc s)else none)
theorem vRLowerW:Valid ρ Tryz.prog 117 lowerS:=v1 (fo Tryz.func117 fB117) fun a r h hs=>by
 obtain⟨h1,rfl⟩:=zB h
 exact ref2_Lower_run hρ (E:=EL [(151,wordS),(152,fnS (zC fun c:Byte=>some (lowerB c.n))),(153,fnS (zC fun s:List Nat=>some (decide (s∈keywords))))]) rfl
  (zg (zf (vRWord hρ) (zf (vRLower hρ) (zf (vRKeyword hρ) valid_nil)))) rfl rfl rfl h1 hs
def upperS:J.Spec:=fnS (zC fun s:List Nat=>if s.length<2^63 then some (ziu s)else none)
theorem vRUpperW:Valid ρ Tryz.prog 118 upperS:=v1 (fo Tryz.func118 fB118) fun a r h hs=>by
 obtain⟨h1,rfl⟩:=zB h
 exact ref2_Upper_run hρ (E:=EL [(151,wordS),(154,fnS (zC fun c:Byte=>some (upperB c.n)))]) rfl (zg (zf (vRWord hρ) (zf (vRUpper hρ) valid_nil))) rfl rfl h1 hs
def rvalidS(d:Nat):J.Spec:=fnS (zC fun t:Ty=>if t.size≤d∧t.short=true then some t.valid else none)
theorem vRValid(d:Nat)(hd:d≤1000000):Valid ρ Tryz.prog 72 (rvalidS d):=by
 induction d with
 | zero =>
   refine v1 (fo Tryz.func72 fB72) fun a r h hs=>?_
   obtain⟨⟨h1,h2⟩,rfl⟩:=zB h
   have:=Ty.size_eq a
   omega
 | succ d ih =>
   refine v1 (fo Tryz.func72 fB72) fun a r h hs=>?_
   obtain⟨⟨h1,h2⟩,rfl⟩:=zB h
   refine ref3_Valid_run hρ (E:=EL [(72,rvalidS d),(117,lowerS),(118,upperS)]) rfl (zg (zf (ih (by omega)) (zf (vRLowerW hρ) (zf (vRUpperW hρ) valid_nil)))) rfl rfl rfl h1 ?_ h2 hs
   have:=Ty.size_eq a
   have:=args_le a.args
   omega
end
end Go.Proofs.YthfcfmkdeheicaaGreat
