import Derived.Test.YtfloillkpbhhhaaGreatJK6
import Derived.IntWalk
set_option linter.all false
noncomputable section
namespace Go.J
variable {RO:(Nat->Nat)->Nat×Obj->Obj}{b t x x9 z:Bool}{e:Ending}{C:HS}{n x1 x2 x3 x4 x5 x7 x8:Int}{k:IntKind}{a g i o r:Nat}{A B:Nat->Bool}{π:Nat->Nat}{μ:Nat->Nat->Y MI}{X:Nat->Prop}{ρ':Nat->Value}{H:PT Obj}{P:Program}{α β σ:Type}{c:Y Nat}{OL:Z (Nat×Obj)}{s x6:Z Nat}
class iI (α:Type) where
 cells:α->List V
 dec:List V->Option α
 dD:∀ a,dec (cells a)=some a
 bB:∀ c a,dec c=some a->c=cells a
 bN:∀ a,(cells a).all V.bN=true
 norm:∀ a,fF (cells a)=cells a
class bo (α:Type) where
 enc:α->V
 dec:V->Option α
 dD:∀ a,dec (enc a)=some a
 bB:∀ v a,dec v=some a->v=enc a
 norm:∀ a,ig (enc a)=enc a
open bo (enc)
instance:bo Int where
 enc n:=.int .i64 n
 dec v:=match v with
  |.int .i64 n=>some n
  |_=>none
 dD _:=rfl
 bB v a h:=by split at h;cases h;rfl;cases h
 norm _:=rfl
instance:bo Bool where
 enc b:=.bool b
 dec v:=match v with
  |.bool b=>some b
  |_=>none
 dD _:=rfl
 bB v a h:=by split at h;cases h;rfl;cases h
 norm _:=rfl
instance zIJ:bo (Z Nat) where
 enc b:=.str b
 dec v:=match v with
  |.str b=>some b
  |_=>none
 dD _:=rfl
 bB v a h:=by split at h;cases h;rfl;cases h
 norm _:=rfl
instance:iI Int where
 cells n:=[.int .i64 n]
 dec v:=match v with
  | [.int .i64 n]=>some n
  |_=>none
 dD _:=rfl
 bB v a h:=by split at h;cases h;rfl;cases h
 bN _:=rfl
 norm _:=rfl
instance:iI Bool where
 cells n:=[.bool n]
 dec v:=match v with
  | [.bool n]=>some n
  |_=>none
 dD _:=rfl
 bB v a h:=by split at h;cases h;rfl;cases h
 bN _:=rfl
 norm _:=rfl
instance zFu:iI (Z Nat) where
 cells n:=[.str n]
 dec v:=match v with
  | [.str n]=>some n
  |_=>none
 dD _:=rfl
 bB v a h:=by split at h;cases h;rfl;cases h
 bN _:=rfl
 norm _:=rfl
section
variable [iI α]
def eZ:Z (Z V)->Y (Z α)
 | []=>some []
 | e::r=>match iI.dec e,eZ r with
   |some a,some l=>some (a::l)
   |_,_=>none
def qL:∀ l:Z α,eZ (l.map iI.cells)=some l:=by
 intro l
 induction l with
 |nil=>rfl
 |cons a l ih=>simp[eZ,iI.dD,ih]
def iZ:∀ {es:Z (Z V)} {l:Z α},eZ es=some l->es=l.map iI.cells:=by
 intro es
 induction es with
 |nil=>intro l h;cases h;rfl
 | cons e r ih =>
   intro l h;unfold eZ at h;split at h;rename_i a m M O;cases h;rw[aX,<- ih O,iI.bB _ _ M];cases h
def kY(l:Z α):gP (l.map iI.cells)=l.map iI.cells:=by
 rw[Da,gI];exact ic λa _=>iI.norm a
def nG(l:Z α):((l.map iI.cells).all λe=>e.all V.bN)=true:=by
 rw[au];intro e he;obtain⟨a,_,rfl⟩:=aF.1 he;exact iI.bN a
instance zLC:bo (Z α) where
 enc l:=.sl (l.map iI.cells) false
 dec v:=match v with
  |.sl es false=>eZ es
  |_=>none
 dD l:=qL l
 bB v a h:=by split at h;rw[iZ h];cases h
 norm l:=by
  show V.sl (gP (l.map iI.cells)) false=_;rw[kY]
end
@[reducible] def zf  [iI α]:bo α where
  enc a:=.agg (iI.cells a)
  dec v:=match v with
   |.agg c=>iI.dec c
   |_=>none
  dD a:=iI.dD a
  bB v a h:=by split at h;rw[iI.bB _ _ h];cases h
  norm a:=by
   show V.agg (fF (iI.cells a))=_;rw[iI.norm]
instance zFv{α β:Type} [bo α] [bo β]:bo (α×β) where
 enc p:=.tuple [enc p.1,enc p.2]
 dec v:=match v with
  |.tuple [x,y]=>ob (bo.dec x) λa=>ob (bo.dec y) λb=>some (a,b)
  |_=>none
 dD p:=by simp[bo.dD]
 bB v a h:=by
  split at h;simp only[aC]at h;let⟨x,W,y,hy,h⟩:=h;cases h;rw[bo.bB _ _ W,bo.bB _ _ hy];cases h
 norm p:=by simp[ig,fF,bo.norm]
inductive G where
 |mk (kind:Int) (name:List Nat) (id home:Int) (args:List G)
 deriving Inhabited
namespace G
def kind:G->Int|.mk k _ _ _ _=>k
def name:G->Z Nat|.mk _ n _ _ _=>n
def id:G->Int|.mk _ _ i _ _=>i
def home:G->Int|.mk _ _ _ h _=>h
def args:G->Z G|.mk _ _ _ _ l=>l
section
variable {k i h:Int}{n:Z Nat}{l:Z G}
@[simp] def fH:(mk k n i h l).kind=k:=(rfl)
@[simp] def j4:(mk k n i h l).name=n:=(rfl)
@[simp] def wP:(mk k n i h l).id=i:=(rfl)
@[simp] def Kv:(mk k n i h l).home=h:=(rfl)
@[simp] def iT:(mk k n i h l).args=l:=(rfl)
@[simp] def eta (t:G):mk t.kind t.name t.id t.home t.args=t:=by cases t;rfl
end
theorem ext'{a b:G}(M:a.kind=b.kind)(O:a.name=b.name)(h3:a.id=b.id)(h4:a.home=b.home)(h5:a.args=b.args):a=b:=by
 cases a;cases b;simp_all
def eq_iff{a b:G}:a=b↔a.kind=b.kind/\a.name=b.name/\a.id=b.id/\a.home=b.home/\a.args=b.args :=
 ⟨λh=>by subst h;simp,λ⟨M,O,h3,h4,h5⟩=>ext' M O h3 h4 h5⟩
mutual
def beq:G->G->Bool
 |.mk k n i h l,.mk k' n' i' h' l'=>decide (k=k')&&decide (n=n')&&decide (i=i')&&decide (h=h')&&Z1 l l'
def Z1:Z G->Z G->Bool
 | [],[]=>true
 |a::l,b::m=>beq a b&&Z1 l m
 |_,_=>false
end
mutual
theorem zqw:∀ a b:G,beq a b=true↔a=b
 | .mk k n i h l,.mk k' n' i' h' l'=>by
   simp[beq,ziQ l l',and_assoc]
theorem ziQ:∀ a b:Z G,Z1 a b=true↔a=b
 | [],[]=>by simp[Z1]
 | [],_::_=>by simp[Z1]
 |_::_,[]=>by simp[Z1]
 |a::l,b::m=>by simp[Z1,zqw a b,ziQ l m]
end
instance:DecidableEq G:=λa b=>decidable_of_iff _ (zqw a b)
mutual
def size:G->Nat
 |.mk _ _ _ _ l=>bj l+1
def bj:Z G->Nat
 | []=>0
 |t::l=>size t+bj l
end
def size_eq(t:G):t.size=bj t.args+1:=by cases t;simp[size]
def size_pos(t:G):0<t.size:=by rw[size_eq];omega
theorem FL{t:G}{l:Z G}(h:t∈l):t.size<=bj l:=by
 induction l with
 |nil=>cases h
 | cons a l ih =>
   simp only[bj];grind
def Dr{t u:G}(h:u∈t.args):u.size<t.size:=by
 have:=FL h;rw[size_eq t];omega
def ind{p:G->Prop}(h:∀ t,(∀ u∈t.args,p u)->p t)(t:G):p t:=by
 generalize hn:t.size=n
 induction n using Nat.strongRecOn generalizing t with
 |_ n ih=>exact h t λu hu=>ih u.size (by have:=Dr hu;omega) u rfl
mutual
def ok:G->Bool
 |.mk _ _ _ _ l=>decide (l.length<=10000)&&fl l
def fl:Z G->Bool
 | []=>true
 |t::l=>ok t&&fl l
end
def ny{l:Z G}:fl l=true↔∀ t∈l,t.ok=true:=by
 induction l with
 |nil=>simp[fl]
 |cons a l ih=>simp[fl,ih]
def qH{t:G}:t.ok=true↔t.args.length<=10000/\∀ u∈t.args,u.ok=true:=by
 cases t;simp[ok,ny]
def yJ{t:G}(h:t.ok=true):t.args.length<=10000:=(qH.1 h).1
def GL{t u:G}(h:t.ok=true)(hu:u∈t.args):u.ok=true:=(qH.1 h).2 u hu
end G
mutual
def aA:G->Z V
 |.mk k n i h l=>[.int .i64 k,.str n,.int .i64 i,.int .i64 h,.sl (sH l) false]
def sH:Z G->Z (Z V)
 | []=>[]
 |t::l=>aA t::sH l
end
def QA(l:Z G):sH l=l.map aA:=by
 induction l with
 |nil=>simp[sH]
 |cons t l ih=>simp[sH,ih]
def kZ(t:G):aA t=[.int .i64 t.kind,.str t.name,.int .i64 t.id,.int .i64 t.home,.sl (t.args.map aA) false]:=by
 cases t;simp[aA,QA]
mutual
def BS:V->Y (Z G)
 |.sl es false=>DX es
 |_=>none
def DX:Z (Z V)->Y (Z G)
 | []=>some []
 | e::r=>match JP e,DX r with
   |some t,some l=>some (t::l)
   |_,_=>none
def JP:Z V->Y G
 | [.int .i64 k,.str n,.int .i64 i,.int .i64 h,a]=>(BS a).map (G.mk k n i h)
 |_=>none
end
mutual
theorem YM:∀ t:G,JP (aA t)=some t
 |.mk k n i h l=>by simp[aA,JP,BS,M5 l]
theorem M5:∀ l:Z G,DX (sH l)=some l
 | []=>by simp[sH,DX]
 |t::l=>by simp[sH,DX,YM t,M5 l]
end
mutual
theorem VW:∀ (v:V) (l:Z G),BS v=some l->v=.sl (sH l) false
 | v,l,h=>by
   unfold BS at h;split at h;rename_i es;rw[VV es l h];cases h
theorem VV:∀ (es:Z (Z V)) (l:Z G),DX es=some l->es=sH l
 | [],l,h=>by simp[DX]at h;subst h;simp[sH]
 | e :: r,l,h=>by
   unfold DX at h;split at h;rename_i t m M O;cases h;rw[YE e t M,VV r m O];simp[sH];cases h
theorem YE:∀ (c:Z V) (t:G),JP c=some t->c=aA t
 | c,t,h=>by
   unfold JP at h;split at h;rename_i k n i hm a;rw[bH]at h;obtain⟨l,hl,rfl⟩:=h;rw[VW a l hl];simp[aA];cases h
end
mutual
theorem U5:∀ t:G,fF (aA t)=aA t
 |.mk k n i h l=>by simp[aA,fF,ig,Ry l]
theorem Ry:∀ l:Z G,gP (sH l)=sH l
 | []=>by simp[sH,gP]
 |t::l=>by simp[sH,gP,U5 t,Ry l]
end
instance:iI G where
 cells:=aA
 dec:=JP
 dD:=YM
 bB:=YE
 bN t:=by cases t;simp[aA,V.bN,V.Dw]
 norm:=U5
instance:bo G:=zf
theorem QD:∀ es:Z (Z V),DX es=eZ es:=by
 intro es
 induction es with
 |nil=>simp[DX,eZ]
 | cons e r ih =>
   simp only[DX,eZ,ih];rw[show (iI.dec e:Y G)=JP e from rfl];grind
def zux{k i h:Int}{n:Z Nat}{es:Z (Z V)}:JP [.int .i64 k,.str n,.int .i64 i,.int .i64 h,.sl es false]=ob (eZ es) λl=>some (G.mk k n i h l):=by
 simp only[JP,BS,QD];cases(eZ es:Y (Z G))<;>rfl
@[simp] def zGX:@iI.cells G _=aA:=(rfl)
@[simp] def zCD:@iI.dec G _=JP:=(rfl)
@[simp] def zMK (a:G):enc a=.agg (aA a):=(rfl)
@[simp] def zMQ {c:Z V}:bo.dec (α:=G) (.agg c)=JP c:=(rfl)
@[simp] def EG (l:Z G):eZ (l.map aA)=some l:=qL l
@[simp] def Ez (l:Z G):gP (l.map aA)=l.map aA:=kY l
@[simp] def Bf (l:Z G):((l.map aA).all λe=>e.all V.bN)=true:=nG l
@[simp] def zJy (l:Z G):enc l=.sl (l.map aA) false:=(rfl)
@[simp] def zJH {es:Z (Z V)}:bo.dec (α:=Z G) (.sl es false)=eZ es:=(rfl)
def y8{f:α->Z V}(h:∀ l:Z α,((l.map f).all λe=>e.all V.bN)=true){l:Z α}:kJ (l.map f)=true:=by
 have h:=h l;rw[au]at h;refine(Nh Ka _).2 λe he=>O5.2 λv hv=>?_;have:=au.1 (h e he) v hv;cases v<;>first|rfl|cases this
@[simp] def zD1 (l:Z G):bj 5 (l.map aA)=true:=by rw[lV];intro e he;obtain⟨a,_,rfl⟩:=aF.1 he;rw[kZ];rfl
@[simp] def zOV (l:Z G):kJ (l.map aA)=true:=y8 Bf
attribute [simp] zux kZ
structure T3(α β γ:Type) where
 a:α
 b:β
 c:γ
structure T4(α β γ δ:Type) where
 a:α
 b:β
 c:γ
 d:δ
instance zLB{α β γ:Type} [bo α] [bo β] [bo γ]:bo (T3 α β γ) where
 enc p:=.tuple [enc p.a,enc p.b,enc p.c]
 dec v:=match v with
  |.tuple [x,y,z]=>ob (bo.dec x) λa=>ob (bo.dec y) λb=>ob (bo.dec z) λc=>some ⟨a,b,c⟩
  |_=>none
 dD p:=by simp[bo.dD,ob]
 bB v a h:=by
  split at h;simp only[aC]at h;let⟨x,W,y,hy,z,hz,h⟩:=h;cases h;rw[bo.bB _ _ W,bo.bB _ _ hy,bo.bB _ _ hz];cases h
 norm p:=by simp[ig,fF,bo.norm]
instance zLA{α β γ δ:Type} [bo α] [bo β] [bo γ] [bo δ]:bo (T4 α β γ δ) where
 enc p:=.tuple [enc p.a,enc p.b,enc p.c,enc p.d]
 dec v:=match v with
  |.tuple [x,y,z,u]=>ob (bo.dec x) λa=>ob (bo.dec y) λb=>ob (bo.dec z) λc=>ob (bo.dec u) λd=>some ⟨a,b,c,d⟩
  |_=>none
 dD p:=by simp[bo.dD,ob]
 bB v a h:=by
  split at h;simp only[aC]at h;let⟨x,W,y,hy,z,hz,u,hu,h⟩:=h;cases h;rw[bo.bB _ _ W,bo.bB _ _ hy,bo.bB _ _ hz,bo.bB _ _ hu];cases h
 norm p:=by simp[ig,fF,bo.norm]
@[simp] def zML {γ:Type} [bo α] [bo β] [bo γ] (p:T3 α β γ):enc p=.tuple [enc p.a,enc p.b,enc p.c]:=(rfl)
abbrev cY(n:Int):Z V:=[.int .i64 n]
abbrev b5(s:Z Nat):Z V:=[.str s]
@[simp] def zpW (l:Z Int):eZ (l.map cY)=some l:=qL l
@[simp] def zdC (l:Z (Z Nat)):eZ (l.map b5)=some l:=qL l
@[simp] def zot (l:Z Int):gP (l.map cY)=l.map cY:=kY l
@[simp] def zcN (l:Z (Z Nat)):gP (l.map b5)=l.map b5:=kY l
@[simp] def zkj (l:Z Int):((l.map cY).all λe=>e.all V.bN)=true:=nG l
@[simp] def zki (l:Z (Z Nat)):((l.map b5).all λe=>e.all V.bN)=true:=nG l
@[simp] def zKF (l:Z Int):bj 1 (l.map cY)=true:=by rw[lV];intro e he;obtain⟨a,_,rfl⟩:=aF.1 he;rfl
@[simp] def zKE (l:Z (Z Nat)):bj 1 (l.map b5)=true:=by rw[lV];intro e he;obtain⟨a,_,rfl⟩:=aF.1 he;rfl
@[simp] def zNc (l:Z (Z Nat)):kJ (l.map b5)=true:=y8 zki
@[simp] def zGE (l:Z Int):enc l=.sl (l.map cY) false:=(rfl)
@[simp] def zGD (l:Z (Z Nat)):enc l=.sl (l.map b5) false:=(rfl)
@[simp] def zGM {es:Z (Z V)}:bo.dec (α:=Z Int) (.sl es false)=eZ es:=(rfl)
@[simp] def zGL {es:Z (Z V)}:bo.dec (α:=Z (Z Nat)) (.sl es false)=eZ es:=(rfl)
@[simp] def zJA (n:Int):enc n=.int .i64 n:=(rfl)
@[simp] def zGH (b:Bool):enc b=.bool b:=(rfl)
@[simp] def zJw (s:Z Nat):enc s=.str s:=(rfl)
@[simp] def zJJ :bo.dec (α:=Int) (.int .i64 n)=some n:=(rfl)
@[simp] def zGP :bo.dec (α:=Bool) (.bool b)=some b:=(rfl)
@[simp] def zJF :bo.dec (α:=Z Nat) (.str s)=some s:=(rfl)
@[simp] def zCB:@iI.cells Int _=cY:=(rfl)
@[simp] def zCA:@iI.cells (Z Nat) _=b5:=(rfl)
@[simp] def zzW :iI.dec (α:=Int) [.int .i64 n]=some n:=(rfl)
@[simp] def zwU :iI.dec (α:=Bool) [.bool b]=some b:=(rfl)
@[simp] def zzV :iI.dec (α:=Z Nat) [.str s]=some s:=(rfl)
@[simp] def zGC  [bo α] [bo β] (a:α) (b:β):enc (a,b)=.tuple [enc a,enc b]:=(rfl)
@[simp] def zGQ  [iI α]:eZ ([]:Z (Z V))=some ([]:Z α):=(rfl)
@[simp] def YR  [iI α] {e:Z V} {r:Z (Z V)}:(eZ (e::r):Y (Z α))=ob (iI.dec e) λa=>ob (eZ r) λl=>some (a::l):=by
  show (match (iI.dec e:Y α),(eZ r:Y (Z α))with|some a,some l=>some (a::l)|_,_=>none)=_;cases(iI.dec e:Y α)<;>cases(eZ r:Y (Z α))<;>rfl
@[simp] def zwP  [iI α] {e r:Z (Z V)}:(eZ (e++r):Y (Z α))=ob (eZ e) λa=>ob (eZ r) λl=>some (a++l):=by
  induction e with
  | nil =>show eZ r=ob (some []) _;rw[ed];cases(eZ r:Y (Z α))<;>rfl
  | cons x e ih =>
    show eZ (x::(e++r))=_;rw[YR,YR,ih];cases(iI.dec x:Y α)<;>cases(eZ e:Y (Z α))<;>cases(eZ r:Y (Z α))<;>rfl
structure Slot where
 bound:Bool
 type:G
 home:Int
 base:Bool
 deriving DecidableEq
def dK(a:Slot):Z V:=[.bool a.bound,.int .i64 a.type.kind,.str a.type.name,.int .i64 a.type.id,.int .i64 a.type.home,.sl (a.type.args.map aA) false,.int .i64 a.home,.bool a.base]
def za2(c:Z V):Y Slot :=
 match c with
 | [.bool x0,.int .i64 x1,.str x2,.int .i64 x3,.int .i64 x4,.sl x5 false,.int .i64 x6,.bool x7]=>ob (eZ x5) λy5=>some ⟨x0,(G.mk x1 x2 x3 x4 y5),x6,x7⟩
 |_=>none
def YP{x0:Bool}{x2:Z Nat}{x5:Z (Z V)}{x6:Int}{x7:Bool}:za2 [.bool x0,.int .i64 x1,.str x2,.int .i64 x3,.int .i64 x4,.sl x5 false,.int .i64 x6,.bool x7]=ob (eZ x5) λy5=>some ⟨x0,(G.mk x1 x2 x3 x4 y5),x6,x7⟩:=(rfl)
instance:iI Slot where
 cells:=dK
 dec:=za2
 dD a:=by simp only[dK,YP,EG,ed,G.eta]
 bB c a h:=by unfold za2 at h;split at h;simp only[aC]at h;let⟨y5,RC,h⟩:=h;cases h;have RC:=iZ RC;subst_vars;rfl;cases h
 bN a:=rfl
 norm a:=by simp only[dK,fF,ig,Ez]
instance:bo Slot:=zf
@[simp] def zzU:@iI.cells Slot _=dK:=(rfl)
@[simp] def zGB (a:Slot):enc a=.agg (dK a):=(rfl)
@[simp] def zly (l:Z Slot):eZ (l.map dK)=some l:=qL l
@[simp] def zky (l:Z Slot):gP (l.map dK)=l.map dK:=kY l
@[simp] def zfe (l:Z Slot):((l.map dK).all λe=>e.all V.bN)=true:=nG l
@[simp] def zHG (l:Z Slot):bj 8 (l.map dK)=true:=by rw[lV];intro e he;obtain⟨a,_,rfl⟩:=aF.1 he;rfl
attribute [simp] YP dK
structure Change where
 id:Int
 cb:Slot
 new:Bool
 deriving DecidableEq
def bW(a:Change):Z V:=[.int .i64 a.id,.bool a.cb.bound,.int .i64 a.cb.type.kind,.str a.cb.type.name,.int .i64 a.cb.type.id,.int .i64 a.cb.type.home,.sl (a.cb.type.args.map aA) false,.int .i64 a.cb.home,.bool a.cb.base,.bool a.new]
def QE(c:Z V):Y Change :=
 match c with
 | [.int .i64 x0,.bool x1,.int .i64 x2,.str x3,.int .i64 x4,.int .i64 x5,.sl x6 false,.int .i64 x7,.bool x8,.bool x9]=>ob (eZ x6) λy6=>some ⟨x0,⟨x1,(G.mk x2 x3 x4 x5 y6),x7,x8⟩,x9⟩
 |_=>none
def R6{x0:Int}{x1:Bool}{x3:Z Nat}{x6:Z (Z V)}{x8:Bool}:QE [.int .i64 x0,.bool x1,.int .i64 x2,.str x3,.int .i64 x4,.int .i64 x5,.sl x6 false,.int .i64 x7,.bool x8,.bool x9]=ob (eZ x6) λy6=>some ⟨x0,⟨x1,(G.mk x2 x3 x4 x5 y6),x7,x8⟩,x9⟩:=(rfl)
instance:iI Change where
 cells:=bW
 dec:=QE
 dD a:=by simp only[bW,R6,EG,ed,G.eta]
 bB c a h:=by unfold QE at h;split at h;simp only[aC]at h;let⟨y6,zFK,h⟩:=h;cases h;have zFK:=iZ zFK;subst_vars;rfl;cases h
 bN a:=rfl
 norm a:=by simp only[bW,fF,ig,Ez]
instance:bo Change:=zf
@[simp] def zuO:@iI.cells Change _=bW:=(rfl)
@[simp] def zdD (l:Z Change):eZ (l.map bW)=some l:=qL l
@[simp] def zcO (l:Z Change):gP (l.map bW)=l.map bW:=kY l
@[simp] def Z7 (l:Z Change):((l.map bW).all λe=>e.all V.bN)=true:=nG l
attribute [simp] R6 bW
structure ao where
 bc:List Slot
 b9:List Change
 deriving DecidableEq
def qJ(a:ao):Z V:=[.sl (a.bc.map dK) false,.sl (a.b9.map bW) false]
def OM(c:Z V):Y ao :=
 match c with
 | [.sl x0 false,.sl x1 false]=>ob (eZ x0) λy0=>ob (eZ x1) λy1=>some ⟨y0,y1⟩
 |_=>none
def V8{x0:Z (Z V)}{x1:Z (Z V)}:OM [.sl x0 false,.sl x1 false]=ob (eZ x0) λy0=>ob (eZ x1) λy1=>some ⟨y0,y1⟩:=(rfl)
instance:iI ao where
 cells:=qJ
 dec:=OM
 dD a:=by simp only[qJ,V8,zdD,zly,ed,G.eta]
 bB c a h:=by unfold OM at h;split at h;simp only[aC]at h;let⟨y0,hy0,y1,hy1,h⟩:=h;cases h;have hy0:=iZ hy0;have hy1:=iZ hy1;subst_vars;rfl;cases h
 bN a:=rfl
 norm a:=by simp only[qJ,fF,ig,zcO,zky]
instance:bo ao:=zf
@[simp] def zCb (a:ao):enc a=.agg (qJ a):=(rfl)
@[simp] def zCh {c:Z V}:bo.dec (α:=ao) (.agg c)=OM c:=(rfl)
@[simp] def zB8 (a:ao):ao.mk a.bc a.b9=a:=(rfl)
attribute [simp] V8 qJ
structure cU where
 id:Int
 type:G
 deriving DecidableEq
def mo(a:cU):Z V:=[.int .i64 a.id,.int .i64 a.type.kind,.str a.type.name,.int .i64 a.type.id,.int .i64 a.type.home,.sl (a.type.args.map aA) false]
def KG(c:Z V):Y cU :=
 match c with
 | [.int .i64 x0,.int .i64 x1,.str x2,.int .i64 x3,.int .i64 x4,.sl x5 false]=>ob (eZ x5) λy5=>some ⟨x0,(G.mk x1 x2 x3 x4 y5)⟩
 |_=>none
def R7{x0:Int}{x2:Z Nat}{x5:Z (Z V)}:KG [.int .i64 x0,.int .i64 x1,.str x2,.int .i64 x3,.int .i64 x4,.sl x5 false]=ob (eZ x5) λy5=>some ⟨x0,(G.mk x1 x2 x3 x4 y5)⟩:=(rfl)
instance:iI cU where
 cells:=mo
 dec:=KG
 dD a:=by simp only[mo,R7,EG,ed,G.eta]
 bB c a h:=by unfold KG at h;split at h;simp only[aC]at h;let⟨y5,RC,h⟩:=h;cases h;have RC:=iZ RC;subst_vars;rfl;cases h
 bN a:=rfl
 norm a:=by simp only[mo,fF,ig,Ez]
instance:bo cU:=zf
@[simp] def zrN:@iI.dec cU _=KG:=(rfl)
@[simp] def zwQ (l:Z cU):eZ (l.map mo)=some l:=qL l
@[simp] def zv6 (l:Z cU):gP (l.map mo)=l.map mo:=kY l
@[simp] def zwL (l:Z cU):enc l=.sl (l.map mo) false:=(rfl)
@[simp] def zwO {es:Z (Z V)}:bo.dec (α:=Z cU) (.sl es false)=eZ es:=(rfl)
@[simp] def zAP (l:Z cU):bj 6 (l.map mo)=true:=by rw[lV];intro e he;obtain⟨a,_,rfl⟩:=aF.1 he;rfl
@[simp] def zzt (a:cU):cU.mk a.id a.type=a:=(rfl)
attribute [simp] R7 mo
structure bZ where
 left:G
 right:G
 deriving DecidableEq
def di(a:bZ):Z V:=[.int .i64 a.left.kind,.str a.left.name,.int .i64 a.left.id,.int .i64 a.left.home,.sl (a.left.args.map aA) false,.int .i64 a.right.kind,.str a.right.name,.int .i64 a.right.id,.int .i64 a.right.home,.sl (a.right.args.map aA) false]
def JQ(c:Z V):Y bZ :=
 match c with
 | [.int .i64 x0,.str x1,.int .i64 x2,.int .i64 x3,.sl x4 false,.int .i64 x5,.str x6,.int .i64 x7,.int .i64 x8,.sl x9 false]=>ob (eZ x4) λy4=>ob (eZ x9) λy9=>some ⟨(G.mk x0 x1 x2 x3 y4),(G.mk x5 x6 x7 x8 y9)⟩
 |_=>none
def LF{x0:Int}{x1:Z Nat}{x4:Z (Z V)}{x9:Z (Z V)}:JQ [.int .i64 x0,.str x1,.int .i64 x2,.int .i64 x3,.sl x4 false,.int .i64 x5,.str x6,.int .i64 x7,.int .i64 x8,.sl x9 false]=ob (eZ x4) λy4=>ob (eZ x9) λy9=>some ⟨(G.mk x0 x1 x2 x3 y4),(G.mk x5 x6 x7 x8 y9)⟩:=(rfl)
instance:iI bZ where
 cells:=di
 dec:=JQ
 dD a:=by simp only[di,LF,EG,ed,G.eta]
 bB c a h:=by unfold JQ at h;split at h;simp only[aC]at h;let⟨y4,hy4,y9,zFJ,h⟩:=h;cases h;have hy4:=iZ hy4;have zFJ:=iZ zFJ;subst_vars;rfl;cases h
 bN a:=rfl
 norm a:=by simp only[di,fF,ig,Ez]
instance:bo bZ:=zf
@[simp] def zur (a:bZ):enc a=.agg (di a):=(rfl)
@[simp] def zrw (l:Z bZ):gP (l.map di)=l.map di:=kY l
@[simp] def zrM (l:Z bZ):enc l=.sl (l.map di) false:=(rfl)
@[simp] def zbZ (l:Z bZ):bj 10 (l.map di)=true:=by rw[lV];intro e he;obtain⟨a,_,rfl⟩:=aF.1 he;rfl
attribute [simp] LF di
structure zvh where
 a:G
 b:G
 deriving DecidableEq
def TS(a:zvh):Z V:=[.int .i64 a.a.kind,.str a.a.name,.int .i64 a.a.id,.int .i64 a.a.home,.sl (a.a.args.map aA) false,.int .i64 a.b.kind,.str a.b.name,.int .i64 a.b.id,.int .i64 a.b.home,.sl (a.b.args.map aA) false]
def za3(c:Z V):Y zvh :=
 match c with
 | [.int .i64 x0,.str x1,.int .i64 x2,.int .i64 x3,.sl x4 false,.int .i64 x5,.str x6,.int .i64 x7,.int .i64 x8,.sl x9 false]=>ob (eZ x4) λy4=>ob (eZ x9) λy9=>some ⟨(G.mk x0 x1 x2 x3 y4),(G.mk x5 x6 x7 x8 y9)⟩
 |_=>none
def YQ{x0:Int}{x1:Z Nat}{x4:Z (Z V)}{x9:Z (Z V)}:za3 [.int .i64 x0,.str x1,.int .i64 x2,.int .i64 x3,.sl x4 false,.int .i64 x5,.str x6,.int .i64 x7,.int .i64 x8,.sl x9 false]=ob (eZ x4) λy4=>ob (eZ x9) λy9=>some ⟨(G.mk x0 x1 x2 x3 y4),(G.mk x5 x6 x7 x8 y9)⟩:=(rfl)
instance:iI zvh where
 cells:=TS
 dec:=za3
 dD a:=by simp only[TS,YQ,EG,ed,G.eta]
 bB c a h:=by unfold za3 at h;split at h;simp only[aC]at h;let⟨y4,hy4,y9,zFJ,h⟩:=h;cases h;have hy4:=iZ hy4;have zFJ:=iZ zFJ;subst_vars;rfl;cases h
 bN a:=rfl
 norm a:=by simp only[TS,fF,ig,Ez]
instance:bo zvh:=zf
attribute [simp] YQ TS
structure Tp where
 l:List Int
 i:Int
 deriving DecidableEq
def zdx(a:Tp):Z V:=[.sl (a.l.map (λn=>[V.int .i64 n])) false,.int .i64 a.i]
def ziF(c:Z V):Y Tp :=
 match c with
 | [.sl x0 false,.int .i64 x1]=>ob (eZ x0) λy0=>some ⟨y0,x1⟩
 |_=>none
def ziE{x0:Z (Z V)}:ziF [.sl x0 false,.int .i64 x1]=ob (eZ x0) λy0=>some ⟨y0,x1⟩:=(rfl)
instance:iI Tp where
 cells:=zdx
 dec:=ziF
 dD a:=by simp only[zdx,ziE,zpW,ed,G.eta]
 bB c a h:=by unfold ziF at h;split at h;simp only[aC]at h;let⟨y0,hy0,h⟩:=h;cases h;have hy0:=iZ hy0;subst_vars;rfl;cases h
 bN a:=rfl
 norm a:=by simp only[zdx,fF,ig,zot]
instance:bo Tp:=zf
@[simp] def zGY:@iI.cells Tp _=zdx:=(rfl)
@[simp] def zCE:@iI.dec Tp _=ziF:=(rfl)
@[simp] def zMH (a:Tp):Tp.mk a.l a.i=a:=(rfl)
attribute [simp] ziE zdx
section
variable {γ δ ε ζ:Type} [bo α] [bo β] [bo γ] [bo δ] [bo ε] [bo ζ]
def Jh(b:β)(vs:Z V):Y V:=match vs with
 | []=>some (enc b)
 |_=>none
def cz(F:α->Y β)(vs:Z V):Y V:=match vs with
 | [x]=>ob (bo.dec x) λa=>ob (F a) λb=>some (enc b)
 |_=>none
def cB(F:α->β->Y γ)(vs:Z V):Y V:=match vs with
 | [x,y]=>ob (bo.dec x) λa=>ob (bo.dec y) λb=>ob (F a b) λc=>some (enc c)
 |_=>none
def zN(F:α->β->γ->Y δ)(vs:Z V):Y V:=match vs with
 | [x,y,z]=>ob (bo.dec x) λa=>ob (bo.dec y) λb=>ob (bo.dec z) λc=>ob (F a b c) λd=>some (enc d)
 |_=>none
def Jg(F:α->β->γ->δ->Y ε)(vs:Z V):Y V:=match vs with
 | [x,y,z,u]=>ob (bo.dec x) λa=>ob (bo.dec y) λb=>ob (bo.dec z) λc=>ob (bo.dec u) λd=>ob (F a b c d) λe=>some (enc e)
 |_=>none
@[simp] def zHS {b:β}:Jh b []=some (enc b):=(rfl)
@[simp] def zHR {F:α->Y β} {x:V}:cz F [x]=ob (bo.dec x) λa=>ob (F a) λb=>some (enc b):=(rfl)
@[simp] def zHQ {F:α->β->Y γ} {x y:V}:cB F [x,y]=ob (bo.dec x) λa=>ob (bo.dec y) λb=>ob (F a b) λc=>some (enc c):=(rfl)
@[simp] def zHP {F:α->β->γ->Y δ} {x y z:V}:zN F [x,y,z]=ob (bo.dec x) λa=>ob (bo.dec y) λb=>ob (bo.dec z) λc=>ob (F a b c) λd=>some (enc d):=(rfl)
@[simp] def zHO {F:α->β->γ->δ->Y ε} {x y z u:V}:Jg F [x,y,z,u]=ob (bo.dec x) λa=>ob (bo.dec y) λb=>ob (bo.dec z) λc=>ob (bo.dec u) λd=>ob (F a b c d) λe=>some (enc e):=(rfl)
theorem zjH{b:β}{vs:Z V}{v:V}(h:Jh b vs=some v):vs=[]/\v=enc b:=by
 grind [Jh]
def PU{F:α->Y β}{vs:Z V}{v:V}(h:cz F vs=some v):∃ a r,vs=[enc a]/\F a=some r/\v=enc r:=by
 unfold cz at h;split at h;simp only[aC]at h;let⟨a,ha,r,hr,h⟩:=h;cases h;exact⟨a,r,by rw[bo.bB _ _ ha],hr,rfl⟩;cases h
def XU{F:α->β->Y γ}{vs:Z V}{v:V}(h:cB F vs=some v):∃ a b r,vs=[enc a,enc b]/\F a b=some r/\v=enc r:=by
 unfold cB at h;split at h;simp only[aC]at h;let⟨a,ha,b,hb,r,hr,h⟩:=h;cases h;exact⟨a,b,r,by rw[bo.bB _ _ ha,bo.bB _ _ hb],hr,rfl⟩;cases h
def XT{F:α->β->γ->Y δ}{vs:Z V}{v:V}(h:zN F vs=some v):∃ a b c r,vs=[enc a,enc b,enc c]/\F a b c=some r/\v=enc r:=by
 unfold zN at h;split at h;simp only[aC]at h;let⟨a,ha,b,hb,c,hc,r,hr,h⟩:=h;cases h;exact⟨a,b,c,r,by rw[bo.bB _ _ ha,bo.bB _ _ hb,bo.bB _ _ hc],hr,rfl⟩;cases h
def zjG{F:α->β->γ->δ->Y ε}{vs:Z V}{v:V}(h:Jg F vs=some v):∃ a b c d r,vs=[enc a,enc b,enc c,enc d]/\F a b c d=some r/\v=enc r:=by
 unfold Jg at h;split at h;simp only[aC]at h;let⟨a,ha,b,hb,c,hc,d,hd,r,hr,h⟩:=h;cases h;exact⟨a,b,c,d,r,by rw[bo.bB _ _ ha,bo.bB _ _ hb,bo.bB _ _ hc,bo.bB _ _ hd],hr,rfl⟩;cases h
end
section
variable {I:Nat->Value}{E:Env}{f:FuncId}{fn:Func}{sc:SC}{vs:Z V}{T:PT V}{r:V}
def zf4(hρ:Good I)(aq:bK I E)(hP:E.P.follows .mixedOrders=true)(hN:vX E.P)(hf:E.P.funcs[f]?=some fn)(hb:fn.body.bind aV=some sc)(he:jH fn.ntmps vs 0 .leaf=some T)(hp:bX vs=true)
 (h:Wp I E 0 fn.ntmps sc T { H:=.leaf,n:=0,log:=[] } (Leaves E.P fn (Ej r))) (C:HS):aS I E.P f vs C r C :=
 zlV hf hb he (Eb hρ aq hP hN h) hp C
end
section
@[simp] def zIZ  :V.MQ A (.int k n)=true:=(rfl)
@[simp] def zFD :V.MQ A (.bool b)=true:=(rfl)
@[simp] def zIW :V.MQ A (.str s)=true:=(rfl)
@[simp] def zLF {es:Z (Z V)} :V.MQ A (.sl es t)=true:=(rfl)
@[simp] def zFC :V.MQ A .a8=true:=(rfl)
@[simp] def zIX :V.MQ A (.ptr i g o)=A i:=(rfl)
@[simp] def zIY {n:Nat} :V.MQ A (.own i g o n c)=A i:=(rfl)
@[simp] def zIU  :V.Ai A (.int k n)=true:=(rfl)
@[simp] def zFB :V.Ai A (.bool b)=true:=(rfl)
@[simp] def zIQ :V.Ai A (.str s)=true:=(rfl)
@[simp] def zLE {es:Z (Z V)} :V.Ai A (.sl es t)=true:=(rfl)
@[simp] def zFz :V.Ai A .a8=true:=(rfl)
@[simp] def zIP {k:Nat}:V.Ai A (.sym k)=true:=(rfl)
@[simp] def zIR :V.Ai A (.ptr i g o)=A i:=(rfl)
@[simp] def zIS {n:Nat} :V.Ai A (.own i g o n c)=A i:=(rfl)
@[simp] def zIT :V.Ai A (.map i)=A i:=(rfl)
@[simp] def zIV {l:Z V}:V.Ai A (.agg l)=l.all (V.MQ A):=(rfl)
@[simp] def zFA  {l:Z V}:V.Ai A (.func i l)=l.all (V.MQ A):=(rfl)
@[simp] def zIN  :V.sS A (.int k n)=true:=(rfl)
@[simp] def zFy :V.sS A (.bool b)=true:=(rfl)
@[simp] def zIK :V.sS A (.str s)=true:=(rfl)
@[simp] def zLD {es:Z (Z V)} :V.sS A (.sl es t)=true:=(rfl)
@[simp] def zFw :V.sS A .a8=true:=(rfl)
@[simp] def zIL :V.sS A (.ptr i g o)=A i:=(rfl)
@[simp] def zIM {n:Nat} :V.sS A (.own i g o n c)=A i:=(rfl)
@[simp] def zIO {l:Z V}:V.sS A (.agg l)=l.all (V.MQ A):=(rfl)
@[simp] def zFx  {l:Z V}:V.sS A (.func i l)=l.all (V.MQ A):=(rfl)
@[simp] def zEs  :V.xI π (.int k n)=(.int k n):=(rfl)
@[simp] def zEp :V.xI π (.str s)=(.str s):=(rfl)
@[simp] def zH5 {es:Z (Z V)} :V.xI π (.sl es t)=(.sl es t):=(rfl)
@[simp] def zBa :V.xI π .a8=.a8:=(rfl)
@[simp] def zEq :V.xI π (.ptr i g o)=.ptr (π i) g o:=(rfl)
@[simp] def zEr {n:Nat} :V.xI π (.own i g o n c)=.own (π i) g o n c:=(rfl)
@[simp] def zEo  :V.jr π (.int k n)=(.int k n):=(rfl)
@[simp] def zA9 :V.jr π (.bool b)=(.bool b):=(rfl)
@[simp] def zEk :V.jr π (.str s)=(.str s):=(rfl)
@[simp] def zH4 {es:Z (Z V)} :V.jr π (.sl es t)=(.sl es t):=(rfl)
@[simp] def zA7 :V.jr π .a8=.a8:=(rfl)
@[simp] def zEj {k:Nat}:V.jr π (.sym k)=(.sym k):=(rfl)
@[simp] def zEl :V.jr π (.ptr i g o)=.ptr (π i) g o:=(rfl)
@[simp] def zEm {n:Nat} :V.jr π (.own i g o n c)=.own (π i) g o n c:=(rfl)
@[simp] def zEn :V.jr π (.map i)=.map (π i):=(rfl)
@[simp] def zA8  {l:Z V}:V.jr π (.func i l)=.func i (l.map (V.xI π)):=(rfl)
@[simp] def zH2  :V.cw π (.int k n)=(.int k n):=(rfl)
@[simp] def zEi :V.cw π (.bool b)=(.bool b):=(rfl)
@[simp] def zHZ :V.cw π (.str s)=(.str s):=(rfl)
@[simp] def zKX {es:Z (Z V)} :V.cw π (.sl es t)=(.sl es t):=(rfl)
@[simp] def zEg :V.cw π .a8=.a8:=(rfl)
@[simp] def zH0 :V.cw π (.ptr i g o)=.ptr (π i) g o:=(rfl)
@[simp] def zH1 {n:Nat} :V.cw π (.own i g o n c)=.own (π i) g o n c:=(rfl)
@[simp] def zH3 {l:Z V}:V.cw π (.agg l)=.agg (l.map (V.xI π)):=(rfl)
@[simp] def zEh  {l:Z V}:V.cw π (.func i l)=.func i (l.map (V.xI π)):=(rfl)
@[simp] def zA6 {l:Z V}:V.cw π (.tuple l)=.tuple (l.map (V.jr π)):=(rfl)
@[simp] def zJ3  {es:Z (Z V)} :Obj.in A (.arr a g es x z true)=es.all λe=>e.all V.bN:=(rfl)
@[simp] def zJ4  {es:Z (Z V)} :Obj.in A (.arr a g es x z false)=es.all λe=>e.all (V.Ai A):=(rfl)
@[simp] def zNj {es:Z (V×V)}:Obj.in A (.mp es)=true:=(rfl)
@[simp] def zHo  {es:Z (Z V)} {r:Bool}:Obj.cw π (.arr a g es x z r)=.arr a g (es.map λe=>e.map (V.jr π)) x z r:=(rfl)
@[simp] def zJ2 {es:Z (V×V)}:Obj.cw π (.mp es)=.mp es:=(rfl)
@[simp] def zJE  :cx ([]:Z (Nat×α)) i=false:=(rfl)
@[simp] def zGK  {p:Nat×α} {l:Z (Nat×α)} :cx (p::l) i=(Nat.beq p.1 i||cx l i):=(rfl)
end
section
variable {r:V}
@[simp] def zwY :Ej r (.bool b) C=(.bool b=r):=by show ok (some (V.bool b)) _=_;rw[dL];rfl
@[simp] def zAx  :Ej r (.int k n) C=(.int k n=r):=by show ok (some (V.int k n)) _=_;rw[dL];rfl
@[simp] def zAv {b:Z Nat}:Ej r (.str b) C=(.str b=r):=by show ok (some (V.str b)) _=_;rw[dL];rfl
@[simp] def zwX:Ej r .a8 C=(.sl [] false=r):=by show ok (some V.a8) _=_;rw[dL];rfl
@[simp] def zDd {es:Z (Z V)} :Ej r (.sl es t) C=(.sl (gP es) false=r):=by show ok (some (V.sl es t)) _=_;rw[dL];rfl
@[simp] def zAw {n:Nat} :Ej r (.own i g o n c) C=ok (uo C (.own i g o n c)) λv'=>ig v'=r:=(rfl)
@[simp] def zAy {l:Z V}:Ej r (.agg l) C=ok (BM C l) λl=>.agg (fF l)=r:=by
  show ok (ob (BM C l) λl=>some (V.agg l)) _=_;rw[iM];simp only[dL,ig]
@[simp] def zvv {l:Z V}:Ej r (.tuple l) C=ok (mf C l) λl=>.tuple (fF l)=r:=by
  show ok (ob (mf C l) λl=>some (V.tuple l)) _=_;rw[iM];simp only[dL,ig]
def wrap_i64(M:-9223372036854775808<=n)(O:n<=9223372036854775807):IntKind.i64.wrap n=n:=IntWalk.i64_in n ⟨M,O⟩
theorem bG(h:i<9223372036854775807:=by omega):IntKind.i64.wrap ((i:Int)+1)=((i+1:Nat):Int):=by rw[wrap_i64 (by omega) (by omega)];omega
@[simp] def zGy (a b:Z Nat):OG a b=decide (a=b):=by
  rw[dI,decide_eq_true_eq];exact Df
@[simp] def zAX :(V.bool b).SP=true:=(rfl)
@[simp] def zD8  :(V.int k n).SP=true:=(rfl)
@[simp] def zsq  (f:α->β) (l:Z α):List.take l.length (l.map f)=l.map f:=aP (by simp)
@[simp] def zAO  (f:α->β) (l:Z α) (x:β):List.take (l.length+1) (l.map f++[x])=l.map f++[x]:=aP (by simp)
@[simp] def zs3  (l:Z α) (n:Nat) (m:Z α):(kF l n m).length=l.length:=uZ l n m
attribute [simp] bytesOf
attribute [simp] ig fF WV L9
@[simp] def zyk:gP []=[]:=by simp only[gP]
@[simp] def zv7 {e:Z V} {l:Z (Z V)}:gP (e::l)=fF e::gP l:=by simp only[gP]
@[simp] def zyl {e l:Z (Z V)}:gP (e++l)=gP e++gP l:=by simp only[Da,fe]
@[simp] def zwt  {l:Z V}:(V.tuple l).sS A=l.all (V.Ai A):=(rfl)
variable {s:Z V->Y V}{vs:Z V}{K:V×HS->Prop}
@[simp] def zMC:BO (dC s vs C) K=BO (kK vs C) λq=>bX q.1=true/\BO (s (fF q.1)) λv=>K (v,q.2):=by
  show ok (dC s vs C) K=ok (kK vs C) λq=>bX q.1=true/\ok (s (fF q.1)) λv=>K (v,q.2);simp only[dC,vO,iM,dL]
@[simp] def zME:BO (K4 s vs C) K=BO (mf C vs) λij=>bX ij=true/\BO (s (fF ij)) λv=>v.SP=true/\K (v,C):=by
  show ok (K4 s vs C) K=ok (mf C vs) λij=>bX ij=true/\ok (s (fF ij)) λv=>v.SP=true/\K (v,C);simp only[K4,vO,iM,dL]
end
def yH(H:PT Obj):Z (Nat×Obj)->PT Obj
 | []=>H
 |p::l=>(yH H l).set p.1 p.2
theorem Jq{id:Nat}:∀ {l:Z (Nat×Obj)},(∀ p∈l,p.1≠id)->(yH H l).get id=H.get id:=by
 intro l
 induction l with
 |nil=>intro _;rfl
 | cons p l ih =>
   intro h;show ((yH H l).set p.1 p.2).get id=_;rw[PT.cZ,if_neg (λe=>h p (aB ..) e.symm)];grind
theorem zcD{p:Nat×Obj}:∀ {l:Z (Nat×Obj)},(l.map Prod.fst).Nodup->p∈l->(yH H l).get p.1=some p.2:=by
 intro l
 induction l with
 |nil=>intro _ h;cases h
 | cons q l ih =>
   intro eV h;rw[aX,gK]at eV;show ((yH H l).set q.1 q.2).get p.1=_;rw[PT.cZ];grind
theorem wz{p:Nat×α}:∀ {l:Z (Nat×α)},(l.map Prod.fst).Nodup->p∈l->(dP l).get p.1=some p.2:=by
 intro l
 induction l with
 |nil=>intro _ h;cases h
 | cons q l ih =>
   intro eV h;rw[aX,gK]at eV;show ((dP l).set q.1 q.2).get p.1=_;rw[PT.cZ];grind
def aJ(k:Nat)(v0:V)(OL:Z (Nat×Obj))(v:V)(C:HS):Prop:=∃ v1,(v1=v0\/ig v1=v0)/\aw k (PT.leaf.set 0 v) C (dP [(0,v1)]) { H:=dP OL,n:=0,log:=[] }
section
variable {I:Nat->Value}{E:Env}{f:FuncId}{fn:Func}{sc:SC}{eb:Z V}{T:PT V}{v0:V}{cJ:Z (Nat×Obj)}{k k':Nat}
def news(n k:Nat)(π:Nat->Nat)(j:Nat):Nat:=if j<k then π j else n+(j-k)
def DV(C:HS)(k k':Nat)(π:Nat->Nat)(cJ:Z (Nat×Obj)):HS :=
 { H:=yH C.H (cJ.map λp=>(news C.n k π p.1,p.2.cw (news C.n k π))),n:=C.n+(k'-k),log:=(cJ.map λp=>news C.n k π p.1)++C.log }
def Cm(k:Nat)(v0:V)(OL:Z (Nat×Obj))(v:V)(C:HS):Prop:=∃ q,nE v C=some q/\aJ k v0 OL q.1 q.2
theorem zG9{s:Start}{K:V->HS->Prop}{k:Nat}{v0:V}(hK:∀ v C,K v C->aJ k v0 OL v C\/Cm k v0 OL v C){w:World}(h:Iz I P s K e w):Iz I P s (aJ k v0 OL) e w:=by
 cases e with
 |panicked c=>exact h
 |outgrown=>exact h
 | returned x =>
   let⟨v,a9,F',μ',q,hL,hR,hD,W⟩:=h;rcases hK _ _ q with h|⟨p,hp,hg⟩;exact⟨v,a9,F',μ',h,hL,hR,hD,W⟩;let⟨F2,R2,f2,_,P2⟩:=zY hR W hp;exact⟨p.1,p.2,F2,μ',hg,hL.step f2,R2,λid g hg=>(pE hp).hm id (hD id g hg),.pure P2⟩
theorem vC{k:Nat}(TR:OL.map Prod.fst=List.range k)(i:Nat):cx OL i=true↔i<k:=by
 rw[<- dh,<- TR];simp[cx,dN,aF,beq_true]
def zlh(RO:(Nat->Nat)->Nat×Obj->Obj)(C:HS)(k k':Nat)(π:Nat->Nat)(cJ:Z (Nat×Obj)):HS :=
 { H:=yH C.H (cJ.map λp=>(news C.n k π p.1,RO (news C.n k π) p)),n:=C.n+(k'-k),log:=(cJ.map λp=>news C.n k π p.1)++C.log }
theorem zdz  {w:World} {F:Nat->Prop}  {K:V->HS->Prop}  (UC:∀ π p,(RO π p).gen=p.2.gen) (zPz:∀ π p,(RO π p).fz=p.2.fz) (hf:E.P.funcs[f]?=some fn) (hb:fn.body.bind aV=some sc) (he:jH fn.ntmps eb 0 .leaf=some T)
 (h:Ls ρ' E k fn.ntmps sc T { H:=dP OL,n:=k,log:=[] } (Leaves E.P fn K)) (hK:∀ (s:Start) (e:Ending) (w:World),Iz ρ' E.P s K e w->Iz ρ' E.P s (aJ k v0 cJ) e w)
 (TR:OL.map Prod.fst=List.range k) (G7:cJ.map Prod.fst=List.range k') (hk:k<=k') (gR:∀ p∈cJ,p.2.fz=false)
   (hπ:∀ i j,i<k->j<k->π i=π j->i=j) (hH:∀ p∈OL,C.H.get (π p.1)=some (RO π p)) (hn:∀ i,i<k'-k->C.H.get (C.n+i)=none) (GO:∀ i,i<k->π i<C.n)
  {xs:Array Value} (hR:R I w F μ E.P C) (hD:Py X μ C) (hO:pP X (zlh RO C k k' π cJ)) (hgl:Gl ρ' w F)
 (zLY:∀ μ0:Nat->Nat->Y MI,(∀ i,i<k->∀ g,μ0 i g=μ (π i) g)->(∀ i o,(i,o)∈OL->pO ρ' w F μ0 E.P i o)/\Nk ρ' w F μ0 eb xs)
 (hbk:∀ {w':World} {F1:Nat->Prop} {μ2 μ':Nat->Nat->Y MI},(∀ b,F b->F1 b)->(∀ b,F b->w'.heap[b]?=w.heap[b]?)->(∀ id g m,μ id g=some m->μ' id g=some m)->(∀ j,j<k'->∀ g,μ' (news C.n k π j) g=μ2 j g)->(∀ i,i<k->(∀ g,μ (π i) g=none)->∀ g,μ2 i g=none) ->
   (∀ j o,(j,o)∈cJ->pO ρ' w' F1 μ2 E.P j o->pO I w' F1 μ' E.P (news C.n k π j) (RO (news C.n k π) (j,o)))/\(∀ x,dZ ρ' w' F1 μ2 v0 x->dZ I w' F1 μ' (v0.cw (news C.n k π)) x)) :
 CallsIn Fence.wide 0 E.P f xs w (zAB I E.P w F μ C (v0.cw (news C.n k π)) (zlh RO C k k' π cJ)):=by
 have eV:(OL.map Prod.fst).Nodup:=by rw[TR];exact gQ
 have tc:(cJ.map Prod.fst).Nodup:=by rw[G7];exact gQ
 have dq:∀ i o,(dP OL).get i=some o->(i,o)∈OL:=λi o h=>AX h;have zOm:∀ i o,(dP cJ).get i=some o->(i,o)∈cJ:=λi o h=>AX h
 have hex:∀ i,i<k->∃ o,(i,o)∈OL:=by
  intro i hi;have:i∈OL.map Prod.fst:=by rw[TR];exact dh.2 hi
  obtain⟨p,hp,rfl⟩:=aF.1 this;exact⟨p.2,hp⟩
 have hex':∀ i,i<k'->∃ o,(i,o)∈cJ:=by
  intro i hi;have:i∈cJ.map Prod.fst:=by rw[G7];exact dh.2 hi
  obtain⟨p,hp,rfl⟩:=aF.1 this;exact⟨p.2,hp⟩
 have cG:∀ p∈OL,p.1<k:=λp hp=>dh.1 (by rw[<- TR];exact aF.2 ⟨p,hp,rfl⟩);have td:∀ p∈cJ,p.1<k':=λp hp=>dh.1 (by rw[<- G7];exact aF.2 ⟨p,hp,rfl⟩);have W4:∀ j,j<k->news C.n k π j=π j:=λj hj=>if_pos hj;have zBB:∀ j,k<=j->news C.n k π j=C.n+(j-k):=λj hj=>if_neg (by omega)
 have zEZ:∀ i j,i<k'->j<k'->news C.n k π i=news C.n k π j->i=j:=by
  intro i j hi hj e;by_cases M:i<k<;>by_cases O:j<k
  rw[W4 i M,W4 j O]at e;exact hπ i j M O e;rw[W4 i M,zBB j (by omega)]at e;have:=GO i M;omega;rw[zBB i (by omega),W4 j O]at e;have:=GO j O;omega;rw[zBB i (by omega),zBB j (by omega)]at e;omega
 let μ0:Nat->Nat->Y MI:=λi g=>if i<k then μ (π i) g else none
 have wb:∀ i,i<k->∀ g,μ0 i g=μ (π i) g:=λi hi g=>if_pos hi;have zyP:∀ i,¬ i<k->∀ g,μ0 i g=none:=λi hi g=>if_neg hi;let⟨zLY,zMx⟩:=zLY μ0 wb;have hR0:R ρ' w F μ0 E.P { H:=dP OL,n:=k,log:=[] }:=by refine⟨λi g m hm=>?_,hR.BR,λi o ho=>?_,λi j o o' m m' ho im hm eW hb=>?_,λi o ho g hg=>?_,hgl⟩;by_cases hi:i<k;rw[wb i hi]at hm;exact hR.lt _ _ _ hm;rw[zyP i hi]at hm;cases hm;exact zLY i o (dq i o ho);have hp:=dq i o ho;have tM:=dq j o' im;rw[wb i (cG _ hp)]at hm;rw[wb j (cG _ tM)]at eW;exact hπ i j (cG _ hp) (cG _ tM) (hR.inj _ _ _ _ m m' (hH _ hp) (hH _ tM) (by rw[UC];exact hm) (by rw[UC];exact eW) hb);have hp:=dq i o ho;rw[wb i (cG _ hp)];exact hR.zL _ _ (hH _ hp) g (by rw[UC];exact hg)
 have S5:∀ b,zS { H:=dP OL,n:=k,log:=[] } μ0 b->∃ i o m,(i,o)∈OL/\o.fz=false/\μ (π i) o.gen=some m/\m.b=b:=by rintro b ⟨i,o,m,ho,hz,hm,rfl⟩;have hp:=dq i o ho;rw[wb i (cG _ hp)]at hm;exact⟨i,o,m,hp,hz,hm,rfl⟩
 have zir:∀ b,zS { H:=dP OL,n:=k,log:=[] } μ0 b->zS C μ b:=by intro b hb;obtain⟨i,o,m,hp,hz,hm,rfl⟩:=S5 b hb;exact⟨π i,RO π (i,o),m,hH _ hp,by rw[zPz];exact hz,by rw[UC];exact hm,rfl⟩
 have hL0:Loc ⟨zS { H:=dP OL,n:=k,log:=[] } μ0,w,F,k,μ0⟩ w F μ0 { H:=dP OL,n:=k,log:=[] } :=
  ⟨⟨rfl,rfl,rfl⟩,af _,λ_ _ _=>rfl,λ_ h=>h,λ_ h=>.inl h,λ_ _ _ _ h=>h,λb hb=>.inl hb,λi hi=>by
    let⟨o,ho⟩:=hex i hi;show (dP OL).get i≠none
    rw[wz eV ho];simp,λ_ _ h=>h,λi g m hm=>.inr ⟨i,g,m,hm,rfl⟩⟩
 have tw:Mb μ0 { H:=dP OL,n:=k,log:=[] }:=by intro i g hg;by_cases hi:i<k;let⟨o,ho⟩:=hex i hi;show (dP OL).get i≠none;rw[wz eV ho];simp;rw[zyP i hi]at hg;exact absurd rfl hg
 refine((zdX hf hb he h rfl hL0 hR0 tw zMx).mono λe w' he=>hK _ e w' he).mono λe w' he=>?_
 cases e with
 |panicked c=>exact he
 |outgrown=>exact he
 | returned x =>
   let⟨v,cp,F1,μ1,⟨v1,rm,hless⟩,s5,g1,_,g2⟩:=he;have ir:kR ρ' w' F1 μ1 (PT.leaf.set 0 v) #[x]:=(by intro t u hu;rw[PT.cZ]at hu;split at hu;rename_i e;subst e;cases hu;exact⟨x,rfl,g2⟩;cases hu);let⟨μ2,tp,pL,hD2,B4⟩:=hless.state (s:=⟨zS { H:=dP OL,n:=k,log:=[] } μ0,w,F,k,μ0⟩) s5 g1 ir;let⟨x',u3,xf⟩:=B4 0 v1 (by show ((PT.leaf.set 0 v1).get 0)=_;rw[PT.cZ,if_pos rfl]);cases u3;have hr3:dZ ρ' w' F1 μ2 v0 x:=rm.elim (λe=>e ▸ xf) λe=>e ▸ xf.norm;let inv:Nat->Y Nat:=λid=>(List.range k').find? λj=>news C.n k π j == id;have hinv:∀ j,j<k'->inv (news C.n k π j)=some j:=(by intro j hj;have M:((List.range k').find? λi=>news C.n k π i == news C.n k π j).isSome=true:=(by rw[List.find?_isSome];exact⟨j,dh.2 hj,by simp⟩);let⟨i,hi⟩:=bQ.1 M;show (List.range k').find? _=_;rw[hi];have O:=List.find?_some hi;have h3:=dh.1 (List.mem_of_find?_eq_some hi);exact congrArg some (zEZ i j h3 hj (by simpa using O)));have VC:∀ id j,inv id=some j->j<k'/\news C.n k π j=id:=by intro id j h;exact⟨dh.1 (List.mem_of_find?_eq_some h),by simpa using List.find?_some h⟩
   let μ':Nat->Nat->Y MI:=λid g=>match inv id with
    |some j=>μ2 j g
    |none=>μ id g
   have ux:∀ j,j<k'->∀ g,μ' (news C.n k π j) g=μ2 j g:=(by intro j hj g;show (match inv (news C.n k π j)with|some j=>μ2 j g|none=>_)=_;rw[hinv j hj]);have Fc:∀ id,inv id=none->∀ g,μ' id g=μ id g:=by intro id hid g;show (match inv id with|some j=>μ2 j g|none=>_)=_;rw[hid]
   have u9:∀ id g m,μ id g=some m->μ' id g=some m:=by
    intro id g m hm
    cases hi:inv id with
    |none=>rw[Fc id hi];exact hm
    | some j =>obtain⟨hj,rfl⟩:=VC id j hi;rw[ux j hj];by_cases xo:j<k;rw[W4 j xo]at hm;exact tp.mm j g m xo (by show μ0 j g=_;rw[wb j xo];exact hm);rw[zBB j (by omega)]at hm;exfalso;rcases hD.1 (C.n+(j-k)) g (by rw[hm];simp)with M|M;exact M (hn _ (by omega));exact hD.2 _ (by omega) M
   have hkeys:((cJ.map λp=>(news C.n k π p.1,RO (news C.n k π) p)).map Prod.fst).Nodup:=(by rw[gI];have:(cJ.map (Prod.fst ∘ λp=>(news C.n k π p.1,RO (news C.n k π) p)))=(cJ.map Prod.fst).map (news C.n k π):=(by rw[gI];rfl);rw[this,G7];refine List.pairwise_map.2 (nP (λ{a b} ha hb cg e=>cg (zEZ a b (dh.1 ha) (dh.1 hb) e)) gQ));have hin1:∀ j o,(j,o)∈cJ->(zlh RO C k k' π cJ).H.get (news C.n k π j)=some (RO (news C.n k π) (j,o)):=(by intro j o hp;exact zcD (p:=(news C.n k π j,RO (news C.n k π) (j,o))) hkeys (aF.2 ⟨(j,o),hp,rfl⟩));have pA:∀ id,inv id=none->(zlh RO C k k' π cJ).H.get id=C.H.get id:=by intro id hid;refine Jq λp hp e=>?_;obtain⟨q,hq,rfl⟩:=aF.1 hp;have:=hinv q.1 (td q hq);rw[show news C.n k π q.1=id from e,hid]at this;cases this
   have xT:∀ id o,(zlh RO C k k' π cJ).H.get id=some o->(inv id=none/\C.H.get id=some o)\/∃ j o0,j<k'/\news C.n k π j=id/\(j,o0)∈cJ/\o=RO (news C.n k π) (j,o0):=by
    intro id o ho
    cases hi:inv id with
    |none=>rw[pA id hi]at ho;exact .inl ⟨rfl,ho⟩
    | some j =>obtain⟨hj,rfl⟩:=VC id j hi;let⟨o0,h0⟩:=hex' j hj;rw[hin1 j o0 h0]at ho;cases ho;exact .inr ⟨j,o0,hj,rfl,h0,rfl⟩
   have hsep:∀ id o m,inv id=none->C.H.get id=some o->μ id o.gen=some m->¬ zS { H:=dP OL,n:=k,log:=[] } μ0 m.b:=(by intro id o m hid ho hm qT;let⟨i,oi,mi,hp,hz,Rg,hb⟩:=S5 _ qT;have e:=hR.inj _ _ _ _ mi m (hH _ hp) ho (by rw[UC];exact Rg) hm hb;have hi:=cG _ hp;have:=hinv i (by omega);rw[W4 i hi]at this;dsimp only at e;rw[e,hid]at this;cases this);have zGn:∀ b,F b->w'.heap[b]?=w.heap[b]?:=λb hb=>tp.bw b (hR.BR b hb) (λho=>hR.vg hb (zir b ho));let⟨hbk,hbv⟩:=hbk tp.fm zGn u9 ux (λi hi js g=>tp.dm i hi (λg=>by show μ0 i g=none;rw[wb i hi];exact js g) g)
   have zQB:R I w' F1 μ' E.P (zlh RO C k k' π cJ):=by
    refine⟨λid g m hm=>?_,pL.BR,λid o ho=>?_,λid j9 o o' m m' ho im hm eW hb=>?_,λid o ho g hg=>?_,hR.gl.bw tp.fm zGn⟩
    cases hi:inv id with
    |none=>rw[Fc id hi]at hm;exact cu (hR.lt _ _ _ hm) tp.size
    | some j =>obtain⟨hj,rfl⟩:=VC id j hi;rw[ux j hj]at hm;exact pL.lt _ _ _ hm
    rcases xT id o ho with⟨hi,M⟩|⟨j,o0,hj,rfl,h0,rfl⟩;refine(hR.obj id o M).mono tp.fm zGn u9 (λm hm=>by rw[Fc id hi]at hm;exact hm) (λm hm=>?_) (λm hm _ wg my=>?_);exact tp.bw m.b (hR.lt _ _ _ hm) (hsep id o m hi M hm);rcases tp.CQ m.b my with O|O|O;exact wg O;exact absurd (hR.lt _ _ _ hm) (Nat.not_lt.2 O);exact hsep id o m hi M hm O;exact hbk j o0 h0 (pL.obj j o0 (wz (p:=(j,o0)) tc h0));have key:∀ (j9:Nat) (o':Obj) (m m':MI) (j:Nat) (o0:Obj),j<k'->(j,o0)∈cJ->μ2 j o0.gen=some m->inv j9=none->C.H.get j9=some o'->μ j9 o'.gen=some m'->m.b=m'.b->False:=(by intro j9 o' m m' j o0 hj h0 hm hi im eW hb;rcases tp.own m.b ⟨j,o0,m,wz (p:=(j,o0)) tc h0,gR _ h0,hm,rfl⟩with O|O;rw[hb]at O;exact hsep j9 o' m' hi im eW O;rw[hb]at O;exact absurd (hR.lt _ _ _ eW) (Nat.not_lt.2 O));rcases xT id o ho with⟨hi,M⟩|⟨j,o0,hj,rfl,h0,rfl⟩<;>rcases xT j9 o' im with⟨cm,wx⟩|⟨j',zK9,gO,rfl,h0',rfl⟩
    rw[Fc id hi]at hm;rw[Fc j9 cm]at eW;exact hR.inj _ _ _ _ m m' M wx hm eW hb;rw[Fc id hi]at hm;rw[UC,ux j' gO]at eW;exact(key id o m' m j' zK9 gO h0' eW hi M hm hb.symm).elim;rw[Fc j9 cm]at eW;rw[UC,ux j hj]at hm;exact(key j9 o' m m' j o0 hj h0 hm cm wx eW hb).elim;rw[UC,ux j hj]at hm;rw[UC,ux j' gO]at eW;rw[pL.inj j j' o0 zK9 m m' (wz (p:=(j,o0)) tc h0) (wz (p:=(j',zK9)) tc h0') hm eW hb];rcases xT id o ho with⟨hi,M⟩|⟨j,o0,hj,rfl,h0,rfl⟩;rw[Fc id hi];exact hR.zL id o M g hg;rw[ux j hj];exact pL.zL j o0 (wz (p:=(j,o0)) tc h0) g (by rw[UC]at hg;exact hg)
   refine⟨F1,μ',zQB,hbv x hr3,?_⟩;refine⟨tp.io,tp.size,λb hb js=>tp.bw b hb (λho=>js (zir b ho)),tp.fm,λb hb=>?_,u9,?_,λid hid=>?_,λid hid g=>?_,λid hid hg g=>?_,λid g m hm=>?_⟩;rcases tp.CQ b hb with O|O|O;exact .inl O;exact .inr (.inl O);exact .inr (.inr (zir b O));rintro b ⟨id,o,m,ho,hz,hm,rfl⟩;rcases xT id o ho with⟨hi,M⟩|⟨j,o0,hj,rfl,h0,rfl⟩;rw[Fc id hi]at hm;exact .inl ⟨id,o,m,M,hz,hm,rfl⟩;rw[UC,ux j hj]at hm;rcases tp.own m.b ⟨j,o0,m,wz (p:=(j,o0)) tc h0,gR _ h0,hm,rfl⟩with O|O;exact .inl (zir _ O);exact .inr O
   cases hi:inv id with
   |none=>rw[pA id hi];exact hid
   | some j =>obtain⟨hj,rfl⟩:=VC id j hi;let⟨o0,h0⟩:=hex' j hj;rw[hin1 j o0 h0];simp
   cases hi:inv id with
   |none=>exact Fc id hi g
   | some j =>obtain⟨hj,rfl⟩:=VC id j hi;let⟨o0,h0⟩:=hex' j hj;rw[hin1 j o0 h0]at hid;cases hid
   cases hi:inv id with
   |none=>rw[Fc id hi];exact hg g
   | some j =>obtain⟨hj,rfl⟩:=VC id j hi;rw[ux j hj];by_cases xo:j<k;refine tp.dm j xo (λg=>?_) g;show μ0 j g=none;rw[wb j xo,<- W4 j xo];exact hg g;rw[zBB j (by omega)]at hid;exact absurd (hn _ (by omega)) hid
   cases hi:inv id with
   |none=>rw[Fc id hi]at hm;exact .inr ⟨id,g,m,hm,rfl⟩
   | some j =>
     obtain⟨hj,rfl⟩:=VC id j hi;rw[ux j hj]at hm;rcases tp.mn j g m hm with O|⟨i,g',m0,O,h3⟩;exact .inl O;by_cases hik:i<k;exact .inr ⟨π i,g',m0,by rw[<- wb i hik];exact O,h3⟩;replace O:μ0 i g'=some m0:=O;rw[zyP i hik]at O;cases O
theorem zus{K:V->HS->Prop}(hf:E.P.funcs[f]?=some fn)(hb:fn.body.bind aV=some sc)(he:jH fn.ntmps eb 0 .leaf=some T)
 (h:Ls I E k fn.ntmps sc T { H:=dP OL,n:=k,log:=[] } (Leaves E.P fn K)) (hK:∀ (s:Start) (e:Ending) (w:World),Iz I E.P s K e w->Iz I E.P s (aJ k v0 cJ) e w)
 (TR:OL.map Prod.fst=List.range k) (G7:cJ.map Prod.fst=List.range k') (hk:k<=k') (h1:∀ p∈OL,p.2.in (cx OL)=true) (gR:∀ p∈cJ,p.2.in (cx cJ)=true/\p.2.fz=false) (ka:v0.sS (cx cJ)=true) (wv:∀ v∈eb,v.sS (cx OL)=true)
   (hπ:∀ i j,i<k->j<k->π i=π j->i=j) (hH:∀ p∈OL,C.H.get (π p.1)=some (p.2.cw π)) (hn:∀ i,i<k'-k->C.H.get (C.n+i)=none) (GO:∀ i,i<k->π i<C.n) :
 aS I E.P f (eb.map (V.cw π)) C (v0.cw (news C.n k π)) (DV C k k' π cJ):=by
 intro X w F μ xs hR hD hO hA;refine zdz (RO:=λπ p=>p.2.cw π) (λ_ _=>Obj.GD _) (λ_ _=>Obj.ZU _) hf hb he h hK TR G7 hk (λp hp=>(gR p hp).2) hπ hH hn GO hR hD hO hR.gl (λμ0 wb=>⟨λi o hp=>?_,by simpa using hA.1,λi v hi=>?_⟩) λ{w' F1 μ2 μ'} _ _ _ ux _=>⟨λj o h0 hr=>?_,λx hr=>?_⟩;have hi:=(vC TR i).1 (dN.2 ⟨_,hp,beq_true.2 rfl⟩);exact pO.B0 (π:=π) (A:=cx OL) (hR.obj _ _ (hH _ hp)) (h1 _ hp) (λg m hm=>by rw[wb i hi]at hm;exact hm) (λj hj g m hm=>by rw[wb j ((vC TR j).1 hj)];exact hm);let⟨x,W,hr⟩:=hA.2 i (v.cw π) (by simp[hi]);exact⟨x,W,hr.B0 (A:=cx OL) (wv v (aI hi)) λj hj g m hm=>by rw[wb j ((vC TR j).1 hj)];exact hm⟩;have hj:=(vC G7 j).1 (dN.2 ⟨_,h0,beq_true.2 rfl⟩);grind [pO.back,cx,vC];exact hr.back (A:=cx cJ) ka λi hi g m hm=>by rw[ux i ((vC G7 i).1 hi)];exact hm
def zaZ{K:V->HS->Prop}(hf:E.P.funcs[f]?=some fn)(hb:fn.body.bind aV=some sc)(he:jH fn.ntmps eb 0 .leaf=some T)
 (h:Ls I E k fn.ntmps sc T { H:=dP OL,n:=k,log:=[] } (Leaves E.P fn K)) (hK:∀ v C,K v C->aJ k v0 cJ v C\/Cm k v0 cJ v C)
 (TR:OL.map Prod.fst=List.range k) (G7:cJ.map Prod.fst=List.range k') (hk:k<=k') (h1:∀ p∈OL,p.2.in (cx OL)=true) (gR:∀ p∈cJ,p.2.in (cx cJ)=true/\p.2.fz=false) (ka:v0.sS (cx cJ)=true) (wv:∀ v∈eb,v.sS (cx OL)=true)
   (hπ:∀ i j,i<k->j<k->π i=π j->i=j) (hH:∀ p∈OL,C.H.get (π p.1)=some (p.2.cw π)) (hn:∀ i,i<k'-k->C.H.get (C.n+i)=none) (GO:∀ i,i<k->π i<C.n) :
 aS I E.P f (eb.map (V.cw π)) C (v0.cw (news C.n k π)) (DV C k k' π cJ):=zus hf hb he h (λ_ _ _ he=>zG9 hK he) TR G7 hk h1 gR ka wv hπ hH hn GO
def He(hf:E.P.funcs[f]?=some fn)(hb:fn.body.bind aV=some sc)(he:jH fn.ntmps eb 0 .leaf=some T)
 (h:Ls I E k fn.ntmps sc T { H:=dP OL,n:=k,log:=[] } (Leaves E.P fn (aJ k v0 cJ)))
 (TR:OL.map Prod.fst=List.range k) (G7:cJ.map Prod.fst=List.range k') (hk:k<=k') (h1:∀ p∈OL,p.2.in (cx OL)=true) (gR:∀ p∈cJ,p.2.in (cx cJ)=true/\p.2.fz=false) (ka:v0.sS (cx cJ)=true) (wv:∀ v∈eb,v.sS (cx OL)=true)
   (hπ:∀ i j,i<k->j<k->π i=π j->i=j) (hH:∀ p∈OL,C.H.get (π p.1)=some (p.2.cw π)) (hn:∀ i,i<k'-k->C.H.get (C.n+i)=none) (GO:∀ i,i<k->π i<C.n) :
 aS I E.P f (eb.map (V.cw π)) C (v0.cw (news C.n k π)) (DV C k k' π cJ) :=
 zaZ hf hb he h (λ_ _ h=>.inl h) TR G7 hk h1 gR ka wv hπ hH hn GO
end
def V.P8{v:V}(h:v.MQ (λ_=>false)=true):v.xI π=v:=by
 cases v<;>first|rfl|cases h
def map_id'{f:V->V}:∀ {l:Z V},(∀ v∈l,f v=v)->l.map f=l:=by
 intro l
 induction l with
 |nil=>intro _;rfl
 |cons a l ih=>intro h;rw[aX,h a (aB ..),ih λv hv=>h v (aD _ hv)]
def V.uW{v:V}(h:v.Ai (λ_=>false)=true):v.jr π=v:=by
 cases v with
 |agg cs=>exact congrArg V.agg (map_id' λv hv=>V.P8 (au.1 h v hv))
 |func f cs=>exact congrArg (V.func f) (map_id' λv hv=>V.P8 (au.1 h v hv))
 |iface t v=>exact congrArg (V.iface t) (V.P8 h)
 |_=>first|rfl|cases h
def V.jq{v:V}(h:v.sS (λ_=>false)=true):v.cw π=v:=by
 cases v with
 |tuple cs=>exact congrArg V.tuple (map_id' λv hv=>V.uW (au.1 h v hv))
 |agg cs=>exact V.uW (v:=.agg cs) h
 |func f cs=>exact V.uW (v:=.func f cs) h
 |iface t v=>exact V.uW (v:=.iface t v) h
 |_=>first|rfl|cases h
def V.Vy(FG:∀ i,A i=true->B i=true){v:V}(h:v.MQ A=true):v.MQ B=true:=by
 cases v<;>first|exact h|exact FG _ h
def V.JF(FG:∀ i,A i=true->B i=true){v:V}(h:v.Ai A=true):v.Ai B=true:=by
 cases v with
 |agg cs=>exact au.2 λv hv=>V.Vy FG (au.1 h v hv)
 |func f cs=>exact au.2 λv hv=>V.Vy FG (au.1 h v hv)
 |iface t v=>exact V.Vy (v:=v) FG h
 |_=>first|exact h|exact FG _ h
def V.Bq(FG:∀ i,A i=true->B i=true){v:V}(h:v.sS A=true):v.sS B=true:=by
 cases v with
 |tuple cs=>exact au.2 λv hv=>V.JF FG (au.1 h v hv)
 |agg cs=>exact V.JF (v:=.agg cs) FG h
 |func f cs=>exact V.JF (v:=.func f cs) FG h
 |iface t v=>exact V.JF (v:=.iface t v) FG h
 |_=>first|exact h|exact FG _ h
def V.Ah{v:V}(h:v.bN=true):v.Ai A=true:=by
 cases v with
 | func f cs=>cases cs with
   |nil=>rfl
   |cons _ _=>cases h
 | iface t v =>
   replace h:v.Dw=true:=h;cases v<;>first|rfl|cases h
 |agg _=>cases h
 |_=>first|rfl|cases h
def V.dU{v:V}(h:v.pure=true):v.sS A=true:=by
 cases v with
 | agg cs =>
   replace h:J9 cs=true:=h;rw[zbh]at h;refine au.2 λv hv=>?_;have:=h v hv;cases v<;>first|rfl|exact this|cases this
 |tuple cs=>cases h
 |func f cs=>exact V.Ah (v:=.func f cs) h
 |iface t v=>exact V.Ah (v:=.iface t v) h
 |_=>first|rfl|cases h
def zff{v:V}(h:v.Dw=true):(ig v).Dw=true:=by
 cases v<;>first|(cases h;done)|(simp[ig,V.Dw])
theorem UO{v:V}(h:v.bN=true):(ig v).bN=true:=by
 cases v with
 | iface t v =>simp only[ig];exact zff (v:=v) h
 | func f cs=>cases cs with
   |nil=>simp[ig,V.bN]
   |cons _ _=>cases h
 |_=>first|(cases h;done)|(simp[ig,V.bN,V.Dw])
theorem zkh{v:V}(h:v.pure=true):(ig v).pure=true:=by
 cases v with
 | agg cs =>replace h:J9 cs=true:=h;simp only[ig];show J9 (fF cs)=true;grind [zbh,mX,UO]
 | iface t v =>have:=UO (v:=.iface t v) h;simp only[ig]at this ⊢;exact this
 | func f cs =>simp_all
 |_=>first|(cases h;done)|(simp only[ig];rfl)
def y7{vs:Z V}(h:bX vs=true):bX (fF vs)=true:=by
 rw[zgP]at h ⊢;intro v hv;rw[mX]at hv;obtain⟨y,hy,rfl⟩:=aF.1 hv;exact zkh (h y hy)
theorem aJ.bw{k:Nat}{v0 v:V}(hi:cj (OL.map λp=>p.1)=true:=by rfl)(hk:(List.range k).all (λi=>cx OL i)=true:=by rfl)(hn:ig v=v0:=by first|rfl|(simp;done))(hv:v.sS (cx OL)=true:=by first|rfl|(simp;done))
 (hH:∀ p∈OL,p.2.in (cx OL)=true/\C.H.get p.1=some p.2:=by simp):aJ k v0 OL v C :=
 ⟨v,.inr hn,aw.bw 0 (λp hp=>by
   simp only[ag]at hp;subst hp
   exact⟨hv,by rw[PT.cZ,if_pos rfl]⟩) hH hi hk⟩
def aJ.lit(π:Nat->Nat){k:Nat}{v0 v v1:V}(hi:cj (OL.map λp=>π p.1)=true)(hk:(List.range k).all (λi=>Nat.beq (π i) i&&cx OL i)=true)(hn:ig v1=v0)(hv:v1.sS (cx OL)=true/\v=v1.cw π)
 (hH:∀ p∈OL,p.2.in (cx OL)=true/\C.H.get (π p.1)=some (p.2.cw π)):aJ k v0 OL v C :=
 ⟨v1,.inr hn,aw.lit π 0 (λp hp=>by
   simp only[ag]at hp;subst hp
   exact⟨hv.1,by rw[PT.cZ,if_pos rfl,hv.2]⟩) hH hi hk⟩
def aJ.fC{k:Nat}{v:V}(hi:cj (OL.map λp=>p.1)=true)(hk:(List.range k).all (λi=>cx OL i)=true)(hv:v.sS (cx OL)=true)
 (hH:∀ p∈OL,p.2.in (cx OL)=true/\C.H.get p.1=some p.2):aJ k v OL v C :=
 ⟨v,.inl rfl,aw.bw 0 (λp hp=>by
   simp only[ag]at hp;subst hp
   exact⟨hv,by rw[PT.cZ,if_pos rfl]⟩) hH hi hk⟩
def aJ.Mz(π:Nat->Nat){k:Nat}{v v1:V}(hi:cj (OL.map λp=>π p.1)=true)(hk:(List.range k).all (λi=>Nat.beq (π i) i&&cx OL i)=true)(hv:v1.sS (cx OL)=true/\v=v1.cw π)
 (hH:∀ p∈OL,p.2.in (cx OL)=true/\C.H.get (π p.1)=some (p.2.cw π)):aJ k v1 OL v C :=
 ⟨v1,.inl rfl,aw.lit π 0 (λp hp=>by
   simp only[ag]at hp;subst hp
   exact⟨hv.1,by rw[PT.cZ,if_pos rfl,hv.2]⟩) hH hi hk⟩
def box(c:Z V):Obj:=.arr (dB c) 0 [c] true false false
def Y4(o:Obj):Y (Z V) :=
 match o with
 |.arr _ 0 [c] true false false=>some c
 |_=>none
section
variable {I:Nat->Value}{E:Env}{f:FuncId}{fn:Func}{sc:SC}{vs:Z V}{T:PT V}{r:V}{c c':Z V}
theorem zxO(hρ:Good I)(aq:bK I E)(hP:E.P.follows .mixedOrders=true)(hN:vX E.P)(hf:E.P.funcs[f]?=some fn)(hb:fn.body.bind aV=some sc)(he:jH fn.ntmps (.ptr 0 0 0::vs) 0 .leaf=some T)(hp:bX vs=true)
 (hc:c.all V.bN=true) (wq:c'.all V.bN=true) (hr:r.sS (λ_=>false)=true)
 (h:Wp I E 1 fn.ntmps sc T { H:=dP [(0,box c)],n:=1,log:=[] } (Leaves E.P fn (aJ 1 r [(0,box c')])))  {id:Nat} (hid:id<C.n) (hg:C.H.get id=some (box c)):aS I E.P f (.ptr id 0 0::vs) C r (C.wr id (box c')):=by
 have zpd:∀ (π:Nat->Nat) (c:Z V),c.all V.bN=true->(box c).cw π=box c:=by intro π c hc;show Obj.arr _ _ [c.map (V.jr π)] _ _ _=_;rw[map_id' λv hv=>V.jF (au.1 hc v hv)];rfl
 have Qr:∀ (A:Nat->Bool) (c:Z V),c.all V.bN=true->(box c).in A=true:=by intro A c hc;show ([c].all λe=>e.all λv=>v.Ai A)=true;simp only[iG,rQ,fT];exact au.2 λv hv=>V.Ah (au.1 hc v hv)
 have oX:=jo hp
 have key:=He (k:=1) (k':=1) (OL:=[(0,box c)]) (cJ:=[(0,box c')]) (v0:=r) (eb:=.ptr 0 0 0::vs) hf hb he (Eb hρ aq hP hN h) rfl rfl (af _)
  (λp hp=>by simp only[ag]at hp;subst hp;exact Qr _ _ hc)
  (λp hp=>by simp only[ag]at hp;subst hp;exact⟨Qr _ _ wq,rfl⟩)
  (V.Bq (λ_ h=>by cases h) hr)
  (λv hv=>by
    rcases ay.1 hv with rfl|hv;rfl
    exact V.dU (oX v hv))
  (C:=C) (π:=λ_=>id) (λi j hi hj _=>by omega) (λp hp=>by simp only[ag]at hp;subst hp;rw[zpd _ _ hc];exact hg) (λi hi=>absurd hi (by omega)) (λ_ _=>hid)
 rw[V.jq hr]at key;have e1:(V.ptr 0 0 0::vs).map (V.cw λ_=>id)=.ptr id 0 0::vs:=by rw[aX,map_id' λv hv=>V.jq (V.dU (oX v hv))];rfl
 rw[e1]at key;have e2:DV C 1 1 (λ_=>id) [(0,box c')]=C.wr id (box c'):=by show ({ H:=(C.H.set (news C.n 1 (λ_=>id) 0) ((box c').cw _)),n:=C.n+0,log:=[news C.n 1 (λ_=>id) 0]++C.log }:HS)=_;rw[zpd _ _ wq];rfl
 grind
end
def IQ [iI σ](F:σ->Z V->Y (σ×V)):Spec:=λvs C =>
 match vs with
 |.ptr id 0 0::rest=>ob (kK rest C) λq=>gd (Nat.blt id q.2.n) (ob (q.2.H.get id) λo=>ob (Y4 o) λc=>ob (iI.dec c) λs=>gd (bX q.1) (ob (F s (fF q.1)) λr=>some (r.2,q.2.wr id (box (iI.cells r.1)))))
 |_=>none
theorem zqo{o:Obj}{c:Z V}(h:Y4 o=some c):∃ n,o=.arr n 0 [c] true false false:=by
 unfold Y4 at h;grind
section
variable {I:Nat->Value}{f:Nat} [iI σ]{F:σ->Z V->Y (σ×V)}
def aS.box{vs:Z V}{a9:HS}{v:V}{id n:Nat}{c:Z V}(hg:C.H.get id=some (.arr n 0 [c] true false false))(h:n=dB c->aS I P f vs C v a9)(hp:∃ rest,vs=.ptr id 0 0::rest):aS I P f vs C v a9:=by
 intro X w F μ xs hR hD hO hA;obtain⟨rest,rfl⟩:=hp;let⟨x,_,W⟩:=hA.2 0 (.ptr id 0 0) rfl;let⟨m,hm,_⟩:=dZ.yI I W;have:=(hR.obj id _ hg m hm).hlen c (ag.2 rfl);exact h (by rw[dH];exact this.symm) X w F μ xs hR hD hO hA
def Valid.st (hf:vM P f) (h:∀ s vs r,bX vs=true->F s vs=some r->∀ (C:HS) (id:Nat),id<C.n->C.H.get id=some (J.box (iI.cells s))->aS I P f (.ptr id 0 0::vs) C r.2 (C.wr id (J.box (iI.cells r.1)))):Valid I P f (IQ F) where
 fn:=hf
 ok := by
  intro vs C v a9 hq;unfold IQ at hq;split at hq;rename_i id rest;simp only[bI,aC]at hq;let⟨⟨ij,cp⟩,hp,hid,o,ho,c,PD,s,eR,DR,r,hr,hq⟩:=hq;cases hq;rw[gz]at hid;obtain⟨n,rfl⟩:=zqo PD;rw[iI.bB _ _ eR]at ho;have GO:bX (fF ij)=true:=y7 DR;intro X w F1 μ xs hR hD hO hA
  let⟨F',k1,k2,k3,k4,k5⟩:=zZ (xs:=xs.toList.drop 1) hp hR (λi u hi=>by
   let⟨x,W,hr⟩:=hA.2 (i+1) u (by simpa using hi)
   exact⟨x,by simpa [nD]using W,hr⟩)
  have wk:aS I P f (.ptr id 0 0::fF ij) cp r.2 (cp.wr id (J.box (iI.cells r.1))) :=
   aS.box ho (λe=>h s _ r GO hr cp id hid (by rw[ho,e];rfl)) ⟨_,rfl⟩
  let⟨x0,u1,z7⟩:=hA.2 0 (.ptr id 0 0) rfl;refine(wk X w F' μ xs k1 (k2.cx k3.le hD) hO ⟨by rw[aL,mX,aN,k4];exact hA.1,λi u hi=>?_⟩).mono λe w' he=>?_
  cases i with
  |zero=>cases hi;exact⟨x0,u1,k2.rep hR z7⟩
  | succ i =>rw[og,mX,bC,bH]at hi;obtain⟨u0,h0,rfl⟩:=hi;let⟨x,W,hr⟩:=k5 i u0 h0;exact⟨x,by simpa [nD]using W,.pure hr.norm⟩
  cases e with
  | returned x =>let⟨F2,μ2,g1,g2,g3⟩:=he;exact⟨F2,μ2,g1,g2,k2.trans g3⟩
  |panicked c=>exact he
  |outgrown=>exact he
  cases hq
 kept:=by
  intro vs C q hq;unfold IQ at hq;split at hq;simp only[bI,aC]at hq;let⟨⟨ij,cp⟩,hp,_,o,ho,c,PD,s,eR,DR,r,hr,hq⟩:=hq;cases hq;exact(uY hp).trans (o9 _ _ _);cases hq
end
section
variable {γ δ:Type} [iI σ] [bo α] [bo β] [bo γ] [bo δ]
def znG(F:σ->Y (σ×δ))(s:σ)(vs:Z V):Y (σ×V):=match vs with
 | []=>ob (F s) λr=>some (r.1,enc r.2)
 |_=>none
def Jf(F:σ->α->Y (σ×δ))(s:σ)(vs:Z V):Y (σ×V):=match vs with
 | [x]=>ob (bo.dec x) λa=>ob (F s a) λr=>some (r.1,enc r.2)
 |_=>none
def Je(F:σ->α->β->γ->Y (σ×δ))(s:σ)(vs:Z V):Y (σ×V):=match vs with
 | [x,y,z]=>ob (bo.dec x) λa=>ob (bo.dec y) λb=>ob (bo.dec z) λc=>ob (F s a b c) λr=>some (r.1,enc r.2)
 |_=>none
@[simp] def zKP {F:σ->Y (σ×δ)} {s:σ}:znG F s []=ob (F s) λr=>some (r.1,enc r.2):=(rfl)
@[simp] def zKO {F:σ->α->Y (σ×δ)} {s:σ} {x:V}:Jf F s [x]=ob (bo.dec x) λa=>ob (F s a) λr=>some (r.1,enc r.2):=(rfl)
@[simp] def zKN {F:σ->α->β->γ->Y (σ×δ)} {s:σ} {x y z:V}:Je F s [x,y,z]=ob (bo.dec x) λa=>ob (bo.dec y) λb=>ob (bo.dec z) λc=>ob (F s a b c) λr=>some (r.1,enc r.2):=(rfl)
theorem znF{F:σ->Y (σ×δ)}{s:σ}{vs:Z V}{r:σ×V}(h:znG F s vs=some r):∃ q,vs=[]/\F s=some q/\r=(q.1,enc q.2):=by
 grind [znG,aC]
def znE{F:σ->α->Y (σ×δ)}{s:σ}{vs:Z V}{r:σ×V}(h:Jf F s vs=some r):∃ a q,vs=[enc a]/\F s a=some q/\r=(q.1,enc q.2):=by
 unfold Jf at h;split at h;simp only[aC]at h;let⟨a,ha,q,hq,h⟩:=h;cases h;exact⟨a,q,by rw[bo.bB _ _ ha],hq,rfl⟩;cases h
def znD{F:σ->α->β->γ->Y (σ×δ)}{s:σ}{vs:Z V}{r:σ×V}(h:Je F s vs=some r):∃ a b c q,vs=[enc a,enc b,enc c]/\F s a b c=some q/\r=(q.1,enc q.2):=by
 unfold Je at h;split at h;simp only[aC]at h;let⟨a,ha,b,hb,c,hc,q,hq,h⟩:=h;cases h;exact⟨a,b,c,q,by rw[bo.bB _ _ ha,bo.bB _ _ hb,bo.bB _ _ hc],hq,rfl⟩;cases h
end
section
variable [iI σ]{F:σ->Z V->Y (σ×V)}{id:Nat}{rest:Z V}{K:V×HS->Prop}
@[simp] def zKM:BO (IQ F (.ptr id 0 0::rest) C) K=BO (kK rest C) λq=>id<q.2.n/\BO (q.2.H.get id) λo=>BO (Y4 o) λc=>BO (iI.dec c) λs=>bX q.1=true/\BO (F s (fF q.1)) λr=>K (r.2,q.2.wr id (box (iI.cells r.1))):=by
  show ok (IQ F (.ptr id 0 0::rest) C) K=ok (kK rest C) λq=>id<q.2.n/\ok (q.2.H.get id) λo=>ok (Y4 o) λc=>ok (iI.dec c) λs=>bX q.1=true/\ok (F s (fF q.1)) λr=>K (r.2,q.2.wr id (box (iI.cells r.1)));simp only[IQ,vO,iM,dL,gz]
@[simp] def zJP {n:Nat} {c:Z V}:Y4 (.arr n 0 [c] true false false)=some c:=(rfl)
@[simp] def zOR {c:Z V}:box c=.arr (dB c) 0 [c] true false false:=(rfl)
end
def oV(r:Nat)(l:Z (Z V)):V :=
 match l with
 | []=>.a8
 |_::_=>.own r (l.length-1) 0 l.length none
def oO(sz:Nat)(l:Z (Z V)):Obj:=.arr sz (l.length-1) l false false true
def oH(r sz:Nat)(l:Z (Z V)):Z (Nat×Obj) :=
 match l with
 | []=>[]
 |_::_=>[(r,oO sz l)]
section
variable {sz:Nat}{x:Z V}{l:Z (Z V)}
@[simp] def zK8:oV r []=.a8:=(rfl)
@[simp] def zIo:oV r (x::l)=.own r l.length 0 (l.length+1) none:=(rfl)
@[simp] theorem Mv:oH r sz []=[]:=(rfl)
@[simp] theorem xu:oH r sz (x::l)=[(r,.arr sz l.length (x::l) false false true)]:=(rfl)
def zhV:oO sz (x::l)=.arr sz l.length (x::l) false false true:=(rfl)
end
def UB(sz:Nat)(s:Z V->Y (Z (Z V))):Spec:=λvs C=>ob (kK vs C) λq=>gd (et (bX q.1) (gW q.2 q.2.n)) (ob (s (fF q.1)) λes =>
 gd (es.all λe=>e.all V.bN) (some (oV q.2.n es,bi (Nat.beq (dB es) 0) q.2 { H:=q.2.H.set q.2.n (oO sz es),n:=q.2.n+1,log:=q.2.n::q.2.log })))
section
variable {I:Nat->Value}{E:Env}{f:FuncId}{fn:Func}{sc:SC}{vs:Z V}{T:PT V}{es:Z (Z V)}{sz:Nat}
theorem AY{f:V->V}{es:Z (Z V)}(h:∀ e∈es,∀ v∈e,f v=v):(es.map λe=>e.map f)=es:=by
 induction es with
 |nil=>rfl
 |cons a l ih=>rw[aX,map_id' (h a (aB ..)),ih λe he=>h e (aD _ he)]
theorem zsN (hρ:Good I) (aq:bK I E) (hP:E.P.follows .mixedOrders=true) (hN:vX E.P) (hf:E.P.funcs[f]?=some fn) (hb:fn.body.bind aV=some sc) (he:jH fn.ntmps vs 0 .leaf=some T) (hp:bX vs=true)
 (fY:(es.all λe=>e.all V.bN)=true)
 (h:Wp I E 0 fn.ntmps sc T { H:=dP [],n:=0,log:=[] } (Leaves E.P fn (aJ 0 (oV 0 es) (oH 0 sz es))))  (hv:C.H.get C.n=none) :
 aS I E.P f vs C (oV C.n es) (bi (Nat.beq (dB es) 0) C { H:=C.H.set C.n (oO sz es),n:=C.n+1,log:=C.n::C.log }):=by
 have oX:=jo hp;have fy:∀ π:Nat->Nat,vs.map (V.cw π)=vs:=λπ=>map_id' λv hv=>V.jq (V.dU (oX v hv))
 cases es with
 | nil =>
   have key:=He (k:=0) (k':=0) (OL:=[]) (cJ:=[]) (v0:=oV 0 []) (eb:=vs) hf hb he (Eb hρ aq hP hN h) rfl rfl (af _) (λp hp=>by cases hp) (λp hp=>by cases hp)
    (by rfl) (λv hv=>V.dU (oX v hv)) (C:=C) (π:=λi=>i) (λi j hi=>by omega) (λp hp=>by cases hp) (λi hi=>by omega) (λi hi=>by omega)
   rw[fy]at key;have e2:DV C 0 0 (λi=>i) []=C:=rfl;rw[e2]at key;exact key
 | cons e es =>
   have e0:oV 0 (e::es)=.own 0 es.length 0 (es.length+1) none:=by simp
   have key:=He (k:=0) (k':=1) (OL:=[]) (cJ:=oH 0 sz (e::es)) (v0:=oV 0 (e::es)) (eb:=vs) hf hb he (Eb hρ aq hP hN h) rfl rfl (aZ _) (λp hp=>by cases hp)
    (λp hp=>by
      simp only[xu,ag]at hp;subst hp
      exact⟨fY,rfl⟩)
    (by rw[e0];rfl) (λv hv=>V.dU (oX v hv)) (C:=C) (π:=λi=>i) (λi j hi=>by omega) (λp hp=>by cases hp) (λi hi=>by
      have:i=0:=by omega
      subst this;exact hv) (λi hi=>by omega)
   rw[fy,e0]at key;have e1:(V.own 0 es.length 0 (es.length+1) none).cw (news C.n 0 λi=>i)=oV C.n (e::es):=(by simp[news]);rw[e1]at key;have e2:DV C 0 1 (λi=>i) (oH 0 sz (e::es))={ H:=C.H.set C.n (oO sz (e::es)),n:=C.n+1,log:=C.n::C.log }:=(by have:((e::es).map λx=>x.map (V.jr (news C.n 0 λi=>i)))=e::es:=AY λx W v hv=>V.jF (au.1 (au.1 fY x W) v hv);show ({ H:=C.H.set (news C.n 0 (λi=>i) 0) (.arr sz es.length ((e::es).map λx=>x.map (V.jr (news C.n 0 λi=>i))) false false true),n:=C.n+1,log:=[news C.n 0 (λi=>i) 0]++C.log }:HS)=_;rw[this];rfl);simp_all
end
section
variable {I:Nat->Value}{f:Nat}{sz:Nat}{s:Z V->Y (Z (Z V))}
theorem Valid.row (hf:vM P f) (h:∀ vs es,bX vs=true->s vs=some es->∀ C:HS,C.H.get C.n=none->aS I P f vs C (oV C.n es) (bi (Nat.beq (dB es) 0) C { H:=C.H.set C.n (oO sz es),n:=C.n+1,log:=C.n::C.log })):Valid I P f (UB sz s) where
 fn:=hf
 ok := by
  intro vs C v a9 hq;simp only[UB,bI,aC,dz]at hq;let⟨⟨ij,cp⟩,hp,⟨DR,nN⟩,es,fY,_,hq⟩:=hq;have hq':=hq;cases hq;rw[aK]at nN;intro X w F μ xs hR hD hO hA;let⟨F',k1,k2,k3,k4,k5⟩:=zZ (xs:=xs.toList) hp hR (λi u hi=>by simpa using hA.2 i u hi);have hc:=(h _ _ (y7 DR) fY cp nN).norm DR;refine(hc X w F' μ xs k1 (k2.cx k3.le hD) hO ⟨by rw[k4];exact hA.1,λi u hi=>?_⟩).mono λe w' he=>?_;let⟨x,W,hr⟩:=k5 i u hi;exact⟨x,by simpa using W,.pure hr⟩
  cases e with
  | returned x =>let⟨F2,μ2,g1,g2,g3⟩:=he;exact⟨F2,μ2,g1,g2,k2.trans g3⟩
  |panicked c=>exact he
  |outgrown=>exact he
 kept:=by
  intro vs C q hq;simp only[UB,bI,aC,dz]at hq;let⟨⟨ij,cp⟩,hp,⟨_,nN⟩,es,_,_,hq⟩:=hq;cases hq;rw[aK]at nN;refine(uY hp).trans ?_;show Kept cp (bi (Nat.beq (dB es) 0) cp _);rw[iV];split;exact .refl _;refine⟨λk hk=>aD _ hk,λk o ho hn=>?_,mQ _,λk hk=>?_⟩;show (cp.H.set cp.n _).get k=_;rw[PT.cZ];split;rename_i e;subst e;rw[nN]at ho;cases ho;exact ho;show (cp.H.set cp.n _).get k≠none;rw[PT.cZ];split;simp;exact hk
end
section
variable {sz:Nat}{s:Z V->Y (Z (Z V))}{vs:Z V}{K:V×HS->Prop}
@[simp] def zHX:BO (UB sz s vs C) K=BO (kK vs C) λq=>(bX q.1=true/\q.2.H.get q.2.n=none)/\BO (s (fF q.1)) λes=>(es.all λe=>e.all V.bN)=true/\K (oV q.2.n es,bi (Nat.beq (dB es) 0) q.2 { H:=q.2.H.set q.2.n (oO sz es),n:=q.2.n+1,log:=q.2.n::q.2.log }):=by
  show ok (UB sz s vs C) K=ok (kK vs C) λq=>(bX q.1=true/\q.2.H.get q.2.n=none)/\ok (s (fF q.1)) λes=>(es.all λe=>e.all V.bN)=true/\K (oV q.2.n es,bi (Nat.beq (dB es) 0) q.2 { H:=q.2.H.set q.2.n (oO sz es),n:=q.2.n+1,log:=q.2.n::q.2.log });simp only[UB,vO,iM,dL,dz,aK]
end
def zhN(sz m id g n:Nat)(o:Obj):Y (Z (Z V)) :=
 match o with
 |.arr s g' es false false true=>gd (et (Nat.beq s sz) (et (Nat.beq g g') (et (Nat.beq n (dB es)) (et (Nat.beq (g+1) n) (et (Nat.blt id m) (es.all λe=>e.all V.bN)))))) (some es)
 |_=>none
def rowOf(sz:Nat)(C:HS)(v:V):Y (Z (Z V)) :=
 match v with
 |.a8=>some []
 |.own id g 0 n none=>ob (C.H.get id) λo=>zhN sz C.n id g n o
 |_=>none
def rT(v:V):Nat :=
 match v with
 |.own id _ _ _ _=>id
 |_=>0
def xS(sz:Nat)(v:V)(es cT:Z (Z V))(C:HS):V×HS :=
 match es with
 | []=>(oV C.n cT,bi (Nat.beq (dB cT) 0) C { H:=C.H.set C.n (oO sz cT),n:=C.n+1,log:=C.n::C.log })
 |_::_=>(oV (rT v) cT,C.wr (rT v) (oO sz cT))
def vt(sz:Nat)(F:Z (Z V)->Z V->Y (Z (Z V)×Z V))(K:V->Z V->V):Spec:=λvs C =>
 match vs with
 | v :: rest=>ob (kK rest C) fun q=>gd (et (bX q.1) (gW q.2 q.2.n)) (ob (rowOf sz q.2 v) fun es=>ob (F es (fF q.1)) fun r =>
     gd (et (r.1.all λe=>e.all V.bN) (et (r.2.all λv=>v.Ai (λ_=>false)) (Nat.ble (dB es) (dB r.1)))) (some (K (xS sz v es r.1 q.2).1 r.2,(xS sz v es r.1 q.2).2)))
 |_=>none
theorem C9 {sz:Nat}  {v:V} {es:Z (Z V)} (h:rowOf sz C v=some es):(v=.a8/\es=[])\/∃ id,v=oV id es/\es≠[]/\C.H.get id=some (oO sz es)/\id<C.n/\(es.all λe=>e.all V.bN)=true:=by
 unfold rowOf at h;split at h;cases h;exact .inl ⟨rfl,rfl⟩;rename_i id g n;simp only[aC]at h;obtain⟨o,ho,h⟩:=h;unfold zhN at h;split at h;rename_i s g' cT;simp only[bI,dz,beq_true,gz]at h;obtain⟨⟨rfl,rfl,rfl,h4,h5,h6⟩,h⟩:=h;cases h;refine .inr ⟨id,?_,?_,?_,h5,h6⟩
 cases es with
 |nil=>simp[dH]at h4
 | cons e es =>simp_all
 rintro rfl;simp[dH]at h4;rw[ho];rw[dH]at h4;unfold oO;rw[<- h4];rfl;cases h;cases h
section
variable {I:Nat->Value}{E:Env}{f:FuncId}{fn:Func}{sc:SC}{vs:Z V}{T T':PT V}{es cT:Z (Z V)}{rs:Z V}{sz:Nat}
def xL(v:V)(_:Z V):V:=v
def zFs(v:V)(rs:Z V):V:=.tuple (v::rs)
def Dx(h:(es.all λe=>e.all V.bN)=true):(oO sz es).cw π=oO sz es:=by
 show Obj.arr _ _ (es.map λe=>e.map (V.jr π)) _ _ _=_;rw[AY λx W v hv=>V.jF (au.1 (au.1 h x W) v hv)];rfl
def uA(h:es≠[]):oV r es=.own r (es.length-1) 0 es.length none:=by
 cases es with
 |nil=>exact absurd rfl h
 |cons x l=>rfl
def jA(h:es≠[]):oH r sz es=[(r,oO sz es)]:=by
 cases es with
 |nil=>exact absurd rfl h
 |cons x l=>rfl
def zyN (hρ:Good I) (aq:bK I E) (hP:E.P.follows .mixedOrders=true) (hN:vX E.P) {K:V->Z V->V} (hK:K=xL\/K=zFs) (hf:E.P.funcs[f]?=some fn) (hb:fn.body.bind aV=some sc) (he:jH fn.ntmps (oV 0 es::vs) 0 .leaf=some T) (hp:bX vs=true)
 (h0:(es.all λe=>e.all V.bN)=true) (M:(cT.all λe=>e.all V.bN)=true) (A6:(rs.all λv=>v.Ai (λ_=>false))=true) (hle:es.length<=cT.length)
 (h:Wp I E (if es=[]then 0 else 1) fn.ntmps sc T { H:=dP (oH 0 sz es),n:=if es=[]then 0 else 1,log:=[] } (Leaves E.P fn (aJ (if es=[]then 0 else 1) (K (oV 0 cT) rs) (oH 0 sz cT))))
  {v:V} (hv:rowOf sz C v=some es) (nN:C.H.get C.n=none):aS I E.P f (v::vs) C (K (xS sz v es cT C).1 rs) (xS sz v es cT C).2:=by
 have oX:=jo hp;have fy:∀ π:Nat->Nat,vs.map (V.cw π)=vs:=λπ=>map_id' λv hv=>V.jq (V.dU (oX v hv));have zLQ:∀ π:Nat->Nat,rs.map (V.jr π)=rs:=λπ=>map_id' λv hv=>V.uW (au.1 A6 v hv)
 have hKr:∀ (π:Nat->Nat) (r:Nat),(K (oV r cT) rs).cw π=K (oV (π r) cT) rs:=by
  intro π r;rcases hK with rfl|rfl;cases cT<;>rfl
  show V.tuple ((oV r cT::rs).map (V.jr π))=_;rw[aX,zLQ];cases cT<;>rfl
 have zMr:(K (oV 0 cT) rs).sS (cx (oH 0 sz cT))=true:=by
  have xf:∀ v∈rs,v.Ai (cx (oH 0 sz cT))=true:=λv hv=>V.JF (λ_ h=>by cases h) (au.1 A6 v hv);rcases hK with rfl|rfl;cases cT<;>rfl
  show ((oV 0 cT::rs).all (V.Ai (cx (oH 0 sz cT))))=true;rw[iG,aW];exact⟨by cases cT<;>rfl,au.2 xf⟩
 have gR:∀ p∈oH 0 sz cT,p.2.in (cx (oH 0 sz cT))=true/\p.2.fz=false:=by
  intro p hp
  cases cT with
  |nil=>cases hp
  | cons a l =>simp only[xu,ag]at hp;subst hp;exact⟨M,rfl⟩
 rcases C9 hv with⟨rfl,rfl⟩|⟨id,rfl,cg,hg,hid,_⟩;rw [if_pos rfl]at h
 cases cT with
 | nil =>
   have key:=He (k:=0) (k':=0) (OL:=oH 0 sz []) (cJ:=oH 0 sz []) (eb:=.a8::vs) hf hb he (Eb hρ aq hP hN h) rfl rfl (af _) (λp hp=>by cases hp) gR zMr
    (λv hv=>by
      rcases ay.1 hv with rfl|hv;rfl
      exact V.dU (oX v hv)) (C:=C) (π:=λi=>i) (λi j hi=>by omega) (λp hp=>by cases hp) (λi hi=>by omega) (λi hi=>by omega)
   rw[aX,fy,hKr]at key;exact key
 | cons a l =>
   have key:=He (k:=0) (k':=1) (OL:=oH 0 sz []) (cJ:=oH 0 sz (a::l)) (eb:=.a8::vs) hf hb he (Eb hρ aq hP hN h) rfl rfl (aZ _) (λp hp=>by cases hp) gR zMr
    (λv hv=>by
      rcases ay.1 hv with rfl|hv;rfl
      exact V.dU (oX v hv)) (C:=C) (π:=λi=>i) (λi j hi=>by omega) (λp hp=>by cases hp) (λi hi=>by
      have:i=0:=by omega
      subst this;exact nN) (λi hi=>by omega)
   rw[aX,fy,hKr]at key;have e2:DV C 0 1 (λi=>i) (oH 0 sz (a::l))={ H:=C.H.set C.n (oO sz (a::l)),n:=C.n+1,log:=C.n::C.log }:=(by show ({ H:=C.H.set (news C.n 0 (λi=>i) 0) ((oO sz (a::l)).cw _),n:=C.n+1,log:=[news C.n 0 (λi=>i) 0]++C.log }:HS)=_;rw[Dx M];rfl);rw[e2]at key;exact key
 rw [if_neg cg]at h;have hne':cT≠[]:=by intro e;rw[e]at hle;exact cg (bV (by simpa using hle))
 have key:=He (k:=1) (k':=1) (OL:=oH 0 sz es) (cJ:=oH 0 sz cT) (eb:=oV 0 es::vs) hf hb he (Eb hρ aq hP hN h) (by rw[jA cg];rfl) (by rw[jA hne'];rfl) (af _)
  (λp hp=>by
    rw[jA cg]at hp;simp only[ag]at hp
    subst hp;exact h0) gR zMr
  (λv hv=>by
    rcases ay.1 hv with rfl|hv;rw[uA cg,jA cg];rfl
    exact V.dU (oX v hv)) (C:=C) (π:=λ_=>id) (λi j hi hj _=>by omega) (λp hp=>by
    rw[jA cg]at hp;simp only[ag]at hp;subst hp
    rw[Dx h0];exact hg) (λi hi=>by omega) (λ_ _=>hid)
 rw[aX,fy,hKr]at key;have e1:(oV 0 es).cw (λ_=>id)=oV id es:=by rw[uA cg,uA cg];rfl
 rw[e1]at key;have e2:DV C 1 1 (λ_=>id) (oH 0 sz cT)=C.wr id (oO sz cT):=by rw[jA hne'];show ({ H:=C.H.set (news C.n 1 (λ_=>id) 0) ((oO sz cT).cw _),n:=C.n+0,log:=[news C.n 1 (λ_=>id) 0]++C.log }:HS)=_;rw[Dx M];rfl
 rw[e2]at key
 have e3:xS sz (oV id es) es cT C=(oV id cT,C.wr id (oO sz cT)):=by
  cases es with
  |nil=>exact absurd rfl cg
  |cons a l=>rfl
 rw[e3];exact key
end
section
variable {I:Nat->Value}{f:Nat}{sz:Nat}{F:Z (Z V)->Z V->Y (Z (Z V)×Z V)}{K:V->Z V->V}
def Valid.io (hf:vM P f) (h:∀ es vs r,bX vs=true->(es.all λe=>e.all V.bN)=true->F es vs=some r->(r.1.all λe=>e.all V.bN)=true->(r.2.all λv=>v.Ai (λ_=>false))=true->es.length<=r.1.length ->
 ∀ (C:HS) (v:V),rowOf sz C v=some es->C.H.get C.n=none->aS I P f (v::vs) C (K (xS sz v es r.1 C).1 r.2) (xS sz v es r.1 C).2):Valid I P f (vt sz F K) where
 fn:=hf
 ok := by
  intro vs C v a9 hq;unfold vt at hq;split at hq;rename_i v0 rest;simp only[bI,aC,dz]at hq;let⟨⟨ij,cp⟩,hp,⟨DR,nN⟩,es,fY,r,hr,⟨M,O,h3⟩,hq⟩:=hq;cases hq;rw[aK]at nN;rw[gM,dH,dH]at h3;have h0:(es.all λe=>e.all V.bN)=true:=by rcases C9 fY with⟨_,rfl⟩|⟨_,_,_,_,_,h⟩;rfl;exact h
  intro X w F1 μ xs hR hD hO hA
  let⟨F',k1,k2,k3,k4,k5⟩:=zZ (xs:=xs.toList.drop 1) hp hR (λi u hi=>by
   let⟨x,W,hr⟩:=hA.2 (i+1) u (by simpa using hi)
   exact⟨x,by simpa [nD]using W,hr⟩)
  have wk:=h es _ r (y7 DR) h0 hr M O h3 cp v0 fY nN;let⟨x0,u1,z7⟩:=hA.2 0 v0 rfl;refine(wk X w F' μ xs k1 (k2.cx k3.le hD) hO ⟨by rw[aL,mX,aN,k4];exact hA.1,λi u hi=>?_⟩).mono λe w' he=>?_
  cases i with
  |zero=>cases hi;exact⟨x0,u1,k2.rep hR z7⟩
  | succ i =>rw[og,mX,bC,bH]at hi;obtain⟨u0,h0,rfl⟩:=hi;let⟨x,W,hr⟩:=k5 i u0 h0;exact⟨x,by simpa [nD]using W,.pure hr.norm⟩
  cases e with
  | returned x =>let⟨F2,μ2,g1,g2,g3⟩:=he;exact⟨F2,μ2,g1,g2,k2.trans g3⟩
  |panicked c=>exact he
  |outgrown=>exact he
  cases hq
 kept := by
  intro vs C q hq;unfold vt at hq;split at hq;rename_i v0 rest;simp only[bI,aC,dz]at hq;let⟨⟨ij,cp⟩,hp,⟨_,nN⟩,es,fY,r,hr,_,hq⟩:=hq;cases hq;rw[aK]at nN;refine(uY hp).trans ?_;unfold xS
  cases es with
  | nil =>show Kept cp (bi (Nat.beq (dB r.1) 0) cp _);rw[iV];split;exact .refl _;refine⟨λk hk=>aD _ hk,λk o ho hn=>?_,mQ _,λk hk=>?_⟩;show (cp.H.set cp.n _).get k=_;rw[PT.cZ];split;rename_i e;subst e;rw[nN]at ho;cases ho;exact ho;show (cp.H.set cp.n _).get k≠none;rw[PT.cZ];split;simp;exact hk
  |cons a l=>exact o9 ..
  cases hq
end
section
variable {sz:Nat}{F:Z (Z V)->Z V->Y (Z (Z V)×Z V)}{K:V->Z V->V}{v:V}{rest:Z V}{Q:V×HS->Prop}{x:Z V}{l:Z (Z V)}
@[simp] def zLx:BO (vt sz F K (v::rest) C) Q=BO (kK rest C) λq=>(bX q.1=true/\q.2.H.get q.2.n=none)/\BO (rowOf sz q.2 v) λes=>BO (F es (fF q.1)) λr =>
 ((r.1.all λe=>e.all V.bN)=true/\(r.2.all λv=>v.Ai (λ_=>false))=true/\es.length<=r.1.length)/\Q (K (xS sz v es r.1 q.2).1 r.2,(xS sz v es r.1 q.2).2):=by
  show ok (vt sz F K (v::rest) C) Q=ok (kK rest C) λq=>(bX q.1=true/\q.2.H.get q.2.n=none)/\ok (rowOf sz q.2 v) λes=>ok (F es (fF q.1)) λr =>
   ((r.1.all λe=>e.all V.bN)=true/\(r.2.all λv=>v.Ai (λ_=>false))=true/\es.length<=r.1.length)/\Q (K (xS sz v es r.1 q.2).1 r.2,(xS sz v es r.1 q.2).2)
  simp only[vt,vO,iM,dL,dz,aK,gM,dH]
@[simp] def zxW:rowOf sz C .a8=some []:=(rfl)
@[simp] def zA0:xS sz v [] l C=(oV C.n l,bi (Nat.beq (dB l) 0) C { H:=C.H.set C.n (oO sz l),n:=C.n+1,log:=C.n::C.log }):=(rfl)
@[simp] def zAZ {n:Nat}  {e:Z V} {es:Z (Z V)}:xS sz (.own i g o n c) (e::es) l C=(oV i l,C.wr i (oO sz l)):=(rfl)
@[simp] def zA1 {n:Nat}:rowOf sz C (.own i g 0 n none)=ob (C.H.get i) λo=>zhN sz C.n i g n o:=(rfl)
@[simp] def zHY {m n s g':Nat} {es:Z (Z V)}:zhN sz m i g n (.arr s g' es false false true)=gd (et (Nat.beq s sz) (et (Nat.beq g g') (et (Nat.beq n (dB es)) (et (Nat.beq (g+1) n) (et (Nat.blt i m) (es.all λe=>e.all V.bN)))))) (some es):=(rfl)
attribute [simp] zhV
end
end Go.J
