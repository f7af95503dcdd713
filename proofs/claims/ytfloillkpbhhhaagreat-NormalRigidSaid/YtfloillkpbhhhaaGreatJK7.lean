import Derived.Test.YtfloillkpbhhhaaGreatJK6
import Derived.IntWalk
set_option linter.all false
noncomputable section
namespace Go.J
variable {RO:(Nat->Nat)->Nat×Obj->Obj}{b t x x9 z:Bool}{e:Ending}{C:HS}{n x1 x2 x3 x4 x5 x7 x8:Int}{k:IntKind}{a g i o r:Nat}{A B:Nat->Bool}{π:Nat->Nat}{μ:Nat->Nat->Y MI}{X:Nat->Prop}{ρ':Nat->Value}{H:PT Obj}{P:Program}{α β σ:Type}{c:Y Nat}{OL:Z (Nat×Obj)}{s x6:Z Nat}
class iC (α:Type) where
 cells:α->List V
 dec:List V->Option α
 bZ:∀ a,dec (cells a)=some a
 bq:∀ c a,dec c=some a->c=cells a
 bM:∀ a,(cells a).all V.bM=true
 norm:∀ a,fI (cells a)=cells a
class bo (α:Type) where
 enc:α->V
 dec:V->Option α
 bZ:∀ a,dec (enc a)=some a
 bq:∀ v a,dec v=some a->v=enc a
 norm:∀ a,gX (enc a)=enc a
open bo (enc)
instance:bo Int where
 enc n:=.int .i64 n
 dec v:=match v with
  |.int .i64 n=>some n
  |_=>none
 bZ _:=rfl
 bq v a h:=by
  split at h
  . cases h;rfl
  . cases h
 norm _:=rfl
instance:bo Bool where
 enc b:=.bool b
 dec v:=match v with
  |.bool b=>some b
  |_=>none
 bZ _:=rfl
 bq v a h:=by
  split at h
  . cases h;rfl
  . cases h
 norm _:=rfl
instance zGJ:bo (Z Nat) where
 enc b:=.str b
 dec v:=match v with
  |.str b=>some b
  |_=>none
 bZ _:=rfl
 bq v a h:=by
  split at h
  . cases h;rfl
  . cases h
 norm _:=rfl
instance:iC Int where
 cells n:=[.int .i64 n]
 dec v:=match v with
  | [.int .i64 n]=>some n
  |_=>none
 bZ _:=rfl
 bq v a h:=by
  split at h
  . cases h;rfl
  . cases h
 bM _:=rfl
 norm _:=rfl
instance:iC Bool where
 cells n:=[.bool n]
 dec v:=match v with
  | [.bool n]=>some n
  |_=>none
 bZ _:=rfl
 bq v a h:=by
  split at h
  . cases h;rfl
  . cases h
 bM _:=rfl
 norm _:=rfl
instance zDD:iC (Z Nat) where
 cells n:=[.str n]
 dec v:=match v with
  | [.str n]=>some n
  |_=>none
 bZ _:=rfl
 bq v a h:=by
  split at h
  . cases h;rfl
  . cases h
 bM _:=rfl
 norm _:=rfl
section
variable [iC α]
def eT:Z (Z V)->Y (Z α)
 | []=>some []
 | e::r=>match iC.dec e,eT r with
   |some a,some l=>some (a::l)
   |_,_=>none
def qD:∀ l:Z α,eT (l.map iC.cells)=some l:=by
 intro l
 induction l with
 |nil=>rfl
 |cons a l ih=>simp[eT,iC.bZ,ih]
def iT:∀ {es:Z (Z V)} {l:Z α},eT es=some l->es=l.map iC.cells:=by
 intro es
 induction es with
 |nil=>intro l h;cases h;rfl
 | cons e r ih =>
   intro l h;unfold eT at h;split at h
   . rename_i a m M O;cases h;rw[aR,<- ih O,iC.bq _ _ M]
   . cases h
def lU(l:Z α):gT (l.map iC.cells)=l.map iC.cells:=by
 rw[Cv,iy];exact gm λa _=>iC.norm a
def nS(l:Z α):((l.map iC.cells).all λe=>e.all V.bM)=true:=by
 rw[aj];intro e he;obtain⟨a,_,rfl⟩:=aI.1 he;exact iC.bM a
instance zJx:bo (Z α) where
 enc l:=.sl (l.map iC.cells) false
 dec v:=match v with
  |.sl es false=>eT es
  |_=>none
 bZ l:=qD l
 bq v a h:=by
  split at h
  . rw[iT h]
  . cases h
 norm l:=by
  show V.sl (gT (l.map iC.cells)) false=_;rw[lU]
end
@[reducible] def yJ  [iC α]:bo α where
  enc a:=.agg (iC.cells a)
  dec v:=match v with
   |.agg c=>iC.dec c
   |_=>none
  bZ a:=iC.bZ a
  bq v a h:=by
   split at h
   . rw[iC.bq _ _ h]
   . cases h
  norm a:=by
   show V.agg (fI (iC.cells a))=_;rw[iC.norm]
instance zDE{α β:Type} [bo α] [bo β]:bo (α×β) where
 enc p:=.tuple [enc p.1,enc p.2]
 dec v:=match v with
  |.tuple [x,y]=>W (bo.dec x) λa=>W (bo.dec y) λb=>some (a,b)
  |_=>none
 bZ p:=by simp[bo.bZ]
 bq v a h:=by
  split at h
  . simp only[aA]at h;obtain⟨x,hx,y,hy,h⟩:=h;cases h;rw[bo.bq _ _ hx,bo.bq _ _ hy]
  . cases h
 norm p:=by simp[gX,fI,bo.norm]
inductive G where
 |mk (kind:Int) (name:List Nat) (id home:Int) (args:List G)
 deriving Inhabited
namespace G
def kind:G->Int|.mk k _ _ _ _=>k
def name:G->Z Nat|.mk _ n _ _ _=>n
def id:G->Int|.mk _ _ i _ _=>i
def home:G->Int|.mk _ _ _ h _=>h
def args:G->Z G|.mk _ _ _ _ l=>l
section
variable {k i h:Int}{n:Z Nat}{l:Z G}
@[simp] def fw:(mk k n i h l).kind=k:=(rfl)
@[simp] def jC:(mk k n i h l).name=n:=(rfl)
@[simp] def o5:(mk k n i h l).id=i:=(rfl)
@[simp] def sJ:(mk k n i h l).home=h:=(rfl)
@[simp] def fC:(mk k n i h l).args=l:=(rfl)
@[simp] def eta (t:G):mk t.kind t.name t.id t.home t.args=t:=by cases t;rfl
end
theorem ext'{a b:G}(M:a.kind=b.kind)(O:a.name=b.name)(h3:a.id=b.id)(h4:a.home=b.home)(h5:a.args=b.args):a=b:=by
 cases a;cases b;simp_all
def eq_iff{a b:G}:a=b↔a.kind=b.kind/\a.name=b.name/\a.id=b.id/\a.home=b.home/\a.args=b.args :=
 ⟨λh=>by subst h;simp,λ⟨M,O,h3,h4,h5⟩=>ext' M O h3 h4 h5⟩
mutual
def beq:G->G->Bool
 |.mk k n i h l,.mk k' n' i' h' l'=>decide (k=k')&&decide (n=n')&&decide (i=i')&&decide (h=h')&&SJ l l'
def SJ:Z G->Z G->Bool
 | [],[]=>true
 |a::l,b::m=>beq a b&&SJ l m
 |_,_=>false
end
mutual
theorem zpc:∀ a b:G,beq a b=true↔a=b
 | .mk k n i h l,.mk k' n' i' h' l'=>by
   simp[beq,zhE l l',and_assoc]
theorem zhE:∀ a b:Z G,SJ a b=true↔a=b
 | [],[]=>by simp[SJ]
 | [],_::_=>by simp[SJ]
 |_::_,[]=>by simp[SJ]
 |a::l,b::m=>by simp[SJ,zpc a b,zhE l m]
end
instance:DecidableEq G:=λa b=>decidable_of_iff _ (zpc a b)
mutual
def size:G->Nat
 |.mk _ _ _ _ l=>bj l+1
def bj:Z G->Nat
 | []=>0
 |t::l=>size t+bj l
end
def size_eq(t:G):t.size=bj t.args+1:=by cases t;simp[size]
def size_pos(t:G):0<t.size:=by rw[size_eq];omega
theorem Fp{t:G}{l:Z G}(h:t∈l):t.size<=bj l:=by
 induction l with
 |nil=>cases h
 | cons a l ih =>
   simp only[bj]
   grind
def Au{t u:G}(h:u∈t.args):u.size<t.size:=by
 have:=Fp h;rw[size_eq t];omega
def ind{p:G->Prop}(h:∀ t,(∀ u∈t.args,p u)->p t)(t:G):p t:=by
 generalize hn:t.size=n
 induction n using Nat.strongRecOn generalizing t with
 |_ n ih=>exact h t λu hu=>ih u.size (by have:=Au hu;omega) u rfl
mutual
def ok:G->Bool
 |.mk _ _ _ _ l=>decide (l.length<=10000)&&eK l
def eK:Z G->Bool
 | []=>true
 |t::l=>ok t&&eK l
end
def lD{l:Z G}:eK l=true↔∀ t∈l,t.ok=true:=by
 induction l with
 |nil=>simp[eK]
 |cons a l ih=>simp[eK,ih]
def oF{t:G}:t.ok=true↔t.args.length<=10000/\∀ u∈t.args,u.ok=true:=by
 cases t;simp[ok,lD]
def wW{t:G}(h:t.ok=true):t.args.length<=10000:=(oF.1 h).1
def EJ{t u:G}(h:t.ok=true)(hu:u∈t.args):u.ok=true:=(oF.1 h).2 u hu
end G
mutual
def au:G->Z V
 |.mk k n i h l=>[.int .i64 k,.str n,.int .i64 i,.int .i64 h,.sl (r9 l) false]
def r9:Z G->Z (Z V)
 | []=>[]
 |t::l=>au t::r9 l
end
def Pq(l:Z G):r9 l=l.map au:=by
 induction l with
 |nil=>simp[r9]
 |cons t l ih=>simp[r9,ih]
def kQ(t:G):au t=[.int .i64 t.kind,.str t.name,.int .i64 t.id,.int .i64 t.home,.sl (t.args.map au) false]:=by
 cases t;simp[au,Pq]
mutual
def Bo:V->Y (Z G)
 |.sl es false=>Dq es
 |_=>none
def Dq:Z (Z V)->Y (Z G)
 | []=>some []
 | e::r=>match Jg e,Dq r with
   |some t,some l=>some (t::l)
   |_,_=>none
def Jg:Z V->Y G
 | [.int .i64 k,.str n,.int .i64 i,.int .i64 h,a]=>(Bo a).map (G.mk k n i h)
 |_=>none
end
mutual
theorem XB:∀ t:G,Jg (au t)=some t
 |.mk k n i h l=>by simp[au,Jg,Bo,L9 l]
theorem L9:∀ l:Z G,Dq (r9 l)=some l
 | []=>by simp[r9,Dq]
 |t::l=>by simp[r9,Dq,XB t,L9 l]
end
mutual
theorem UU:∀ (v:V) (l:Z G),Bo v=some l->v=.sl (r9 l) false
 | v,l,h=>by
   unfold Bo at h;split at h
   . rename_i es;rw[UT es l h]
   . cases h
theorem UT:∀ (es:Z (Z V)) (l:Z G),Dq es=some l->es=r9 l
 | [],l,h=>by simp[Dq]at h;subst h;simp[r9]
 | e :: r,l,h=>by
   unfold Dq at h;split at h
   . rename_i t m M O;cases h;rw[Xu e t M,UT r m O];simp[r9]
   . cases h
theorem Xu:∀ (c:Z V) (t:G),Jg c=some t->c=au t
 | c,t,h=>by
   unfold Jg at h;split at h
   . rename_i k n i hm a;rw[bG]at h;obtain⟨l,hl,rfl⟩:=h;rw[UU a l hl];simp[au]
   . cases h
end
mutual
theorem TU:∀ t:G,fI (au t)=au t
 |.mk k n i h l=>by simp[au,fI,gX,Qp l]
theorem Qp:∀ l:Z G,gT (r9 l)=r9 l
 | []=>by simp[r9,gT]
 |t::l=>by simp[r9,gT,TU t,Qp l]
end
instance:iC G where
 cells:=au
 dec:=Jg
 bZ:=XB
 bq:=Xu
 bM t:=by cases t;simp[au,V.bM,V.CX]
 norm:=TU
instance:bo G:=yJ
theorem Pv:∀ es:Z (Z V),Dq es=eT es:=by
 intro es
 induction es with
 |nil=>simp[Dq,eT]
 | cons e r ih =>
   simp only[Dq,eT,ih];rw[show (iC.dec e:Y G)=Jg e from rfl]
   grind
def zsY{k i h:Int}{n:Z Nat}{es:Z (Z V)}:Jg [.int .i64 k,.str n,.int .i64 i,.int .i64 h,.sl es false]=W (eT es) λl=>some (G.mk k n i h l):=by
 simp only[Jg,Bo,Pv];cases(eT es:Y (Z G))<;>rfl
@[simp] def zE3:@iC.cells G _=au:=(rfl)
@[simp] def zAQ:@iC.dec G _=Jg:=(rfl)
@[simp] def zKA (a:G):enc a=.agg (au a):=(rfl)
@[simp] def zKF {c:Z V}:bo.dec (α:=G) (.agg c)=Jg c:=(rfl)
@[simp] def Eh (l:Z G):eT (l.map au)=some l:=qD l
@[simp] def Eb (l:Z G):gT (l.map au)=l.map au:=lU l
@[simp] def Ay (l:Z G):((l.map au).all λe=>e.all V.bM)=true:=nS l
@[simp] def zHw (l:Z G):enc l=.sl (l.map au) false:=(rfl)
@[simp] def zHF {es:Z (Z V)}:bo.dec (α:=Z G) (.sl es false)=eT es:=(rfl)
def Cn{f:α->Z V}(h:∀ l:Z α,((l.map f).all λe=>e.all V.bM)=true){l:Z α}:kS (l.map f)=true:=by
 have h:=h l;rw[aj]at h;refine(Ml Jz _).2 λe he=>NV.2 λv hv=>?_
 have:=aj.1 (h e he) v hv;cases v<;>first|rfl|cases this
@[simp] def zCd (l:Z G):bj 5 (l.map au)=true:=by rw[lI];intro e he;obtain⟨a,_,rfl⟩:=aI.1 he;rw[kQ];rfl
@[simp] def zMD (l:Z G):kS (l.map au)=true:=Cn Ay
attribute [simp] zsY kQ
structure T3(α β γ:Type) where
 a:α
 b:β
 c:γ
structure T4(α β γ δ:Type) where
 a:α
 b:β
 c:γ
 d:δ
instance zJw{α β γ:Type} [bo α] [bo β] [bo γ]:bo (T3 α β γ) where
 enc p:=.tuple [enc p.a,enc p.b,enc p.c]
 dec v:=match v with
  |.tuple [x,y,z]=>W (bo.dec x) λa=>W (bo.dec y) λb=>W (bo.dec z) λc=>some ⟨a,b,c⟩
  |_=>none
 bZ p:=by simp[bo.bZ,W]
 bq v a h:=by
  split at h
  . simp only[aA]at h;obtain⟨x,hx,y,hy,z,hz,h⟩:=h;cases h;rw[bo.bq _ _ hx,bo.bq _ _ hy,bo.bq _ _ hz]
  . cases h
 norm p:=by simp[gX,fI,bo.norm]
instance zJv{α β γ δ:Type} [bo α] [bo β] [bo γ] [bo δ]:bo (T4 α β γ δ) where
 enc p:=.tuple [enc p.a,enc p.b,enc p.c,enc p.d]
 dec v:=match v with
  |.tuple [x,y,z,u]=>W (bo.dec x) λa=>W (bo.dec y) λb=>W (bo.dec z) λc=>W (bo.dec u) λd=>some ⟨a,b,c,d⟩
  |_=>none
 bZ p:=by simp[bo.bZ,W]
 bq v a h:=by
  split at h
  . simp only[aA]at h;obtain⟨x,hx,y,hy,z,hz,u,hu,h⟩:=h;cases h;rw[bo.bq _ _ hx,bo.bq _ _ hy,bo.bq _ _ hz,bo.bq _ _ hu]
  . cases h
 norm p:=by simp[gX,fI,bo.norm]
@[simp] def zKB {γ:Type} [bo α] [bo β] [bo γ] (p:T3 α β γ):enc p=.tuple [enc p.a,enc p.b,enc p.c]:=(rfl)
abbrev cW(n:Int):Z V:=[.int .i64 n]
abbrev cF(s:Z Nat):Z V:=[.str s]
@[simp] def zoG (l:Z Int):eT (l.map cW)=some l:=qD l
@[simp] def zcu (l:Z (Z Nat)):eT (l.map cF)=some l:=qD l
@[simp] def znq (l:Z Int):gT (l.map cW)=l.map cW:=lU l
@[simp] def zbD (l:Z (Z Nat)):gT (l.map cF)=l.map cF:=lU l
@[simp] def zi8 (l:Z Int):((l.map cW).all λe=>e.all V.bM)=true:=nS l
@[simp] def zi7 (l:Z (Z Nat)):((l.map cF).all λe=>e.all V.bM)=true:=nS l
@[simp] def zID (l:Z Int):bj 1 (l.map cW)=true:=by rw[lI];intro e he;obtain⟨a,_,rfl⟩:=aI.1 he;rfl
@[simp] def zIC (l:Z (Z Nat)):bj 1 (l.map cF)=true:=by rw[lI];intro e he;obtain⟨a,_,rfl⟩:=aI.1 he;rfl
@[simp] def zK0 (l:Z (Z Nat)):kS (l.map cF)=true:=Cn zi7
@[simp] def zEJ (l:Z Int):enc l=.sl (l.map cW) false:=(rfl)
@[simp] def zEI (l:Z (Z Nat)):enc l=.sl (l.map cF) false:=(rfl)
@[simp] def zES {es:Z (Z V)}:bo.dec (α:=Z Int) (.sl es false)=eT es:=(rfl)
@[simp] def zER {es:Z (Z V)}:bo.dec (α:=Z (Z Nat)) (.sl es false)=eT es:=(rfl)
@[simp] def zHy (n:Int):enc n=.int .i64 n:=(rfl)
@[simp] def zEM (b:Bool):enc b=.bool b:=(rfl)
@[simp] def zHu (s:Z Nat):enc s=.str s:=(rfl)
@[simp] def zHH :bo.dec (α:=Int) (.int .i64 n)=some n:=(rfl)
@[simp] def zEV :bo.dec (α:=Bool) (.bool b)=some b:=(rfl)
@[simp] def zHD :bo.dec (α:=Z Nat) (.str s)=some s:=(rfl)
@[simp] def zAO:@iC.cells Int _=cW:=(rfl)
@[simp] def zAN:@iC.cells (Z Nat) _=cF:=(rfl)
@[simp] def zyd :iC.dec (α:=Int) [.int .i64 n]=some n:=(rfl)
@[simp] def zvo :iC.dec (α:=Bool) [.bool b]=some b:=(rfl)
@[simp] def zyc :iC.dec (α:=Z Nat) [.str s]=some s:=(rfl)
@[simp] def zEH  [bo α] [bo β] (a:α) (b:β):enc (a,b)=.tuple [enc a,enc b]:=(rfl)
@[simp] def zEW  [iC α]:eT ([]:Z (Z V))=some ([]:Z α):=(rfl)
@[simp] def XG  [iC α] {e:Z V} {r:Z (Z V)}:(eT (e::r):Y (Z α))=W (iC.dec e) λa=>W (eT r) λl=>some (a::l):=by
  show (match (iC.dec e:Y α),(eT r:Y (Z α))with|some a,some l=>some (a::l)|_,_=>none)=_;cases(iC.dec e:Y α)<;>cases(eT r:Y (Z α))<;>rfl
@[simp] def zvj  [iC α] {e r:Z (Z V)}:(eT (e++r):Y (Z α))=W (eT e) λa=>W (eT r) λl=>some (a++l):=by
  induction e with
  | nil =>
    show eT r=W (some []) _;rw[dY];cases(eT r:Y (Z α))<;>rfl
  | cons x e ih =>
    show eT (x::(e++r))=_;rw[XG,XG,ih];cases(iC.dec x:Y α)<;>cases(eT e:Y (Z α))<;>cases(eT r:Y (Z α))<;>rfl
structure Slot where
 bound:Bool
 type:G
 home:Int
 base:Bool
 deriving DecidableEq
def dG(a:Slot):Z V:=[.bool a.bound,.int .i64 a.type.kind,.str a.type.name,.int .i64 a.type.id,.int .i64 a.type.home,.sl (a.type.args.map au) false,.int .i64 a.home,.bool a.base]
def ZI(c:Z V):Y Slot :=
 match c with
 | [.bool x0,.int .i64 x1,.str x2,.int .i64 x3,.int .i64 x4,.sl x5 false,.int .i64 x6,.bool x7]=>W (eT x5) λy5=>some ⟨x0,(G.mk x1 x2 x3 x4 y5),x6,x7⟩
 |_=>none
def XE{x0:Bool}{x2:Z Nat}{x5:Z (Z V)}{x6:Int}{x7:Bool}:ZI [.bool x0,.int .i64 x1,.str x2,.int .i64 x3,.int .i64 x4,.sl x5 false,.int .i64 x6,.bool x7]=W (eT x5) λy5=>some ⟨x0,(G.mk x1 x2 x3 x4 y5),x6,x7⟩:=(rfl)
instance:iC Slot where
 cells:=dG
 dec:=ZI
 bZ a:=by simp only[dG,XE,Eh,dY,G.eta]
 bq c a h:=by
  unfold ZI at h;split at h
  . simp only[aA]at h;obtain⟨y5,Mn,h⟩:=h;cases h;have Mn:=iT Mn
    subst_vars
    rfl
  . cases h
 bM a:=rfl
 norm a:=by simp only[dG,fI,gX,Eb]
instance:bo Slot:=yJ
@[simp] def zyb:@iC.cells Slot _=dG:=(rfl)
@[simp] def zEG (a:Slot):enc a=.agg (dG a):=(rfl)
@[simp] def zkj (l:Z Slot):eT (l.map dG)=some l:=qD l
@[simp] def zjo (l:Z Slot):gT (l.map dG)=l.map dG:=lU l
@[simp] def zea (l:Z Slot):((l.map dG).all λe=>e.all V.bM)=true:=nS l
@[simp] def zFK (l:Z Slot):bj 8 (l.map dG)=true:=by rw[lI];intro e he;obtain⟨a,_,rfl⟩:=aI.1 he;rfl
attribute [simp] XE dG
structure Change where
 id:Int
 gg:Slot
 new:Bool
 deriving DecidableEq
def bW(a:Change):Z V:=[.int .i64 a.id,.bool a.gg.bound,.int .i64 a.gg.type.kind,.str a.gg.type.name,.int .i64 a.gg.type.id,.int .i64 a.gg.type.home,.sl (a.gg.type.args.map au) false,.int .i64 a.gg.home,.bool a.gg.base,.bool a.new]
def Pw(c:Z V):Y Change :=
 match c with
 | [.int .i64 x0,.bool x1,.int .i64 x2,.str x3,.int .i64 x4,.int .i64 x5,.sl x6 false,.int .i64 x7,.bool x8,.bool x9]=>W (eT x6) λy6=>some ⟨x0,⟨x1,(G.mk x2 x3 x4 x5 y6),x7,x8⟩,x9⟩
 |_=>none
def QK{x0:Int}{x1:Bool}{x3:Z Nat}{x6:Z (Z V)}{x8:Bool}:Pw [.int .i64 x0,.bool x1,.int .i64 x2,.str x3,.int .i64 x4,.int .i64 x5,.sl x6 false,.int .i64 x7,.bool x8,.bool x9]=W (eT x6) λy6=>some ⟨x0,⟨x1,(G.mk x2 x3 x4 x5 y6),x7,x8⟩,x9⟩:=(rfl)
instance:iC Change where
 cells:=bW
 dec:=Pw
 bZ a:=by simp only[bW,QK,Eh,dY,G.eta]
 bq c a h:=by
  unfold Pw at h;split at h
  . simp only[aA]at h;obtain⟨y6,zDT,h⟩:=h;cases h;have zDT:=iT zDT
    subst_vars
    rfl
  . cases h
 bM a:=rfl
 norm a:=by simp only[bW,fI,gX,Eb]
instance:bo Change:=yJ
@[simp] def ztg:@iC.cells Change _=bW:=(rfl)
@[simp] def zcv (l:Z Change):eT (l.map bW)=some l:=qD l
@[simp] def zbE (l:Z Change):gT (l.map bW)=l.map bW:=lU l
@[simp] def YT (l:Z Change):((l.map bW).all λe=>e.all V.bM)=true:=nS l
attribute [simp] QK bW
structure ao where
 a9:List Slot
 b7:List Change
 deriving DecidableEq
def qA(a:ao):Z V:=[.sl (a.a9.map dG) false,.sl (a.b7.map bW) false]
def NI(c:Z V):Y ao :=
 match c with
 | [.sl x0 false,.sl x1 false]=>W (eT x0) λy0=>W (eT x1) λy1=>some ⟨y0,y1⟩
 |_=>none
def U4{x0:Z (Z V)}{x1:Z (Z V)}:NI [.sl x0 false,.sl x1 false]=W (eT x0) λy0=>W (eT x1) λy1=>some ⟨y0,y1⟩:=(rfl)
instance:iC ao where
 cells:=qA
 dec:=NI
 bZ a:=by simp only[qA,U4,zcv,zkj,dY,G.eta]
 bq c a h:=by
  unfold NI at h;split at h
  . simp only[aA]at h;obtain⟨y0,hy0,y1,hy1,h⟩:=h;cases h;have hy0:=iT hy0;have hy1:=iT hy1
    subst_vars
    rfl
  . cases h
 bM a:=rfl
 norm a:=by simp only[qA,fI,gX,zbE,zjo]
instance:bo ao:=yJ
@[simp] def zAo (a:ao):enc a=.agg (qA a):=(rfl)
@[simp] def zAu {c:Z V}:bo.dec (α:=ao) (.agg c)=NI c:=(rfl)
@[simp] def zAl (a:ao):ao.mk a.a9 a.b7=a:=(rfl)
attribute [simp] U4 qA
structure cT where
 id:Int
 type:G
 deriving DecidableEq
def lV(a:cT):Z V:=[.int .i64 a.id,.int .i64 a.type.kind,.str a.type.name,.int .i64 a.type.id,.int .i64 a.type.home,.sl (a.type.args.map au) false]
def J6(c:Z V):Y cT :=
 match c with
 | [.int .i64 x0,.int .i64 x1,.str x2,.int .i64 x3,.int .i64 x4,.sl x5 false]=>W (eT x5) λy5=>some ⟨x0,(G.mk x1 x2 x3 x4 y5)⟩
 |_=>none
def QL{x0:Int}{x2:Z Nat}{x5:Z (Z V)}:J6 [.int .i64 x0,.int .i64 x1,.str x2,.int .i64 x3,.int .i64 x4,.sl x5 false]=W (eT x5) λy5=>some ⟨x0,(G.mk x1 x2 x3 x4 y5)⟩:=(rfl)
instance:iC cT where
 cells:=lV
 dec:=J6
 bZ a:=by simp only[lV,QL,Eh,dY,G.eta]
 bq c a h:=by
  unfold J6 at h;split at h
  . simp only[aA]at h;obtain⟨y5,Mn,h⟩:=h;cases h;have Mn:=iT Mn
    subst_vars
    rfl
  . cases h
 bM a:=rfl
 norm a:=by simp only[lV,fI,gX,Eb]
instance:bo cT:=yJ
@[simp] def zqu:@iC.dec cT _=J6:=(rfl)
@[simp] def zvk (l:Z cT):eT (l.map lV)=some l:=qD l
@[simp] def zuB (l:Z cT):gT (l.map lV)=l.map lV:=lU l
@[simp] def zvf (l:Z cT):enc l=.sl (l.map lV) false:=(rfl)
@[simp] def zvi {es:Z (Z V)}:bo.dec (α:=Z cT) (.sl es false)=eT es:=(rfl)
@[simp] def zy5 (l:Z cT):bj 6 (l.map lV)=true:=by rw[lI];intro e he;obtain⟨a,_,rfl⟩:=aI.1 he;rfl
@[simp] def zxM (a:cT):cT.mk a.id a.type=a:=(rfl)
attribute [simp] QL lV
structure bQ where
 left:G
 right:G
 deriving DecidableEq
def cZ(a:bQ):Z V:=[.int .i64 a.left.kind,.str a.left.name,.int .i64 a.left.id,.int .i64 a.left.home,.sl (a.left.args.map au) false,.int .i64 a.right.kind,.str a.right.name,.int .i64 a.right.id,.int .i64 a.right.home,.sl (a.right.args.map au) false]
def Jh(c:Z V):Y bQ :=
 match c with
 | [.int .i64 x0,.str x1,.int .i64 x2,.int .i64 x3,.sl x4 false,.int .i64 x5,.str x6,.int .i64 x7,.int .i64 x8,.sl x9 false]=>W (eT x4) λy4=>W (eT x9) λy9=>some ⟨(G.mk x0 x1 x2 x3 y4),(G.mk x5 x6 x7 x8 y9)⟩
 |_=>none
def KX{x0:Int}{x1:Z Nat}{x4:Z (Z V)}{x9:Z (Z V)}:Jh [.int .i64 x0,.str x1,.int .i64 x2,.int .i64 x3,.sl x4 false,.int .i64 x5,.str x6,.int .i64 x7,.int .i64 x8,.sl x9 false]=W (eT x4) λy4=>W (eT x9) λy9=>some ⟨(G.mk x0 x1 x2 x3 y4),(G.mk x5 x6 x7 x8 y9)⟩:=(rfl)
instance:iC bQ where
 cells:=cZ
 dec:=Jh
 bZ a:=by simp only[cZ,KX,Eh,dY,G.eta]
 bq c a h:=by
  unfold Jh at h;split at h
  . simp only[aA]at h;obtain⟨y4,hy4,y9,zDS,h⟩:=h;cases h;have hy4:=iT hy4;have zDS:=iT zDS
    subst_vars
    rfl
  . cases h
 bM a:=rfl
 norm a:=by simp only[cZ,fI,gX,Eb]
instance:bo bQ:=yJ
@[simp] def zsR (a:bQ):enc a=.agg (cZ a):=(rfl)
@[simp] def zqc (l:Z bQ):gT (l.map cZ)=l.map cZ:=lU l
@[simp] def zqt (l:Z bQ):enc l=.sl (l.map cZ) false:=(rfl)
@[simp] def zaT (l:Z bQ):bj 10 (l.map cZ)=true:=by rw[lI];intro e he;obtain⟨a,_,rfl⟩:=aI.1 he;rfl
attribute [simp] KX cZ
structure ztG where
 a:G
 b:G
 deriving DecidableEq
def R8(a:ztG):Z V:=[.int .i64 a.a.kind,.str a.a.name,.int .i64 a.a.id,.int .i64 a.a.home,.sl (a.a.args.map au) false,.int .i64 a.b.kind,.str a.b.name,.int .i64 a.b.id,.int .i64 a.b.home,.sl (a.b.args.map au) false]
def ZJ(c:Z V):Y ztG :=
 match c with
 | [.int .i64 x0,.str x1,.int .i64 x2,.int .i64 x3,.sl x4 false,.int .i64 x5,.str x6,.int .i64 x7,.int .i64 x8,.sl x9 false]=>W (eT x4) λy4=>W (eT x9) λy9=>some ⟨(G.mk x0 x1 x2 x3 y4),(G.mk x5 x6 x7 x8 y9)⟩
 |_=>none
def XF{x0:Int}{x1:Z Nat}{x4:Z (Z V)}{x9:Z (Z V)}:ZJ [.int .i64 x0,.str x1,.int .i64 x2,.int .i64 x3,.sl x4 false,.int .i64 x5,.str x6,.int .i64 x7,.int .i64 x8,.sl x9 false]=W (eT x4) λy4=>W (eT x9) λy9=>some ⟨(G.mk x0 x1 x2 x3 y4),(G.mk x5 x6 x7 x8 y9)⟩:=(rfl)
instance:iC ztG where
 cells:=R8
 dec:=ZJ
 bZ a:=by simp only[R8,XF,Eh,dY,G.eta]
 bq c a h:=by
  unfold ZJ at h;split at h
  . simp only[aA]at h;obtain⟨y4,hy4,y9,zDS,h⟩:=h;cases h;have hy4:=iT hy4;have zDS:=iT zDS
    subst_vars
    rfl
  . cases h
 bM a:=rfl
 norm a:=by simp only[R8,fI,gX,Eb]
instance:bo ztG:=yJ
attribute [simp] XF R8
structure Tp where
 l:List Int
 i:Int
 deriving DecidableEq
def zcp(a:Tp):Z V:=[.sl (a.l.map (λn=>[V.int .i64 n])) false,.int .i64 a.i]
def zhv(c:Z V):Y Tp :=
 match c with
 | [.sl x0 false,.int .i64 x1]=>W (eT x0) λy0=>some ⟨y0,x1⟩
 |_=>none
def zhu{x0:Z (Z V)}:zhv [.sl x0 false,.int .i64 x1]=W (eT x0) λy0=>some ⟨y0,x1⟩:=(rfl)
instance:iC Tp where
 cells:=zcp
 dec:=zhv
 bZ a:=by simp only[zcp,zhu,zoG,dY,G.eta]
 bq c a h:=by
  unfold zhv at h;split at h
  . simp only[aA]at h;obtain⟨y0,hy0,h⟩:=h;cases h;have hy0:=iT hy0
    subst_vars
    rfl
  . cases h
 bM a:=rfl
 norm a:=by simp only[zcp,fI,gX,znq]
instance:bo Tp:=yJ
@[simp] def zE4:@iC.cells Tp _=zcp:=(rfl)
@[simp] def zAR:@iC.dec Tp _=zhv:=(rfl)
@[simp] def zKx (a:Tp):Tp.mk a.l a.i=a:=(rfl)
attribute [simp] zhu zcp
section
variable {γ δ ε ζ:Type} [bo α] [bo β] [bo γ] [bo δ] [bo ε] [bo ζ]
def Fh(b:β)(vs:Z V):Y V:=match vs with
 | []=>some (enc b)
 |_=>none
def cO(F:α->Y β)(vs:Z V):Y V:=match vs with
 | [x]=>W (bo.dec x) λa=>W (F a) λb=>some (enc b)
 |_=>none
def dC(F:α->β->Y γ)(vs:Z V):Y V:=match vs with
 | [x,y]=>W (bo.dec x) λa=>W (bo.dec y) λb=>W (F a b) λc=>some (enc c)
 |_=>none
def tZ(F:α->β->γ->Y δ)(vs:Z V):Y V:=match vs with
 | [x,y,z]=>W (bo.dec x) λa=>W (bo.dec y) λb=>W (bo.dec z) λc=>W (F a b c) λd=>some (enc d)
 |_=>none
def za4(F:α->β->γ->δ->Y ε)(vs:Z V):Y V:=match vs with
 | [x,y,z,u]=>W (bo.dec x) λa=>W (bo.dec y) λb=>W (bo.dec z) λc=>W (bo.dec u) λd=>W (F a b c d) λe=>some (enc e)
 |_=>none
@[simp] def zFW {b:β}:Fh b []=some (enc b):=(rfl)
@[simp] def zFV {F:α->Y β} {x:V}:cO F [x]=W (bo.dec x) λa=>W (F a) λb=>some (enc b):=(rfl)
@[simp] def zFU {F:α->β->Y γ} {x y:V}:dC F [x,y]=W (bo.dec x) λa=>W (bo.dec y) λb=>W (F a b) λc=>some (enc c):=(rfl)
@[simp] def zFT {F:α->β->γ->Y δ} {x y z:V}:tZ F [x,y,z]=W (bo.dec x) λa=>W (bo.dec y) λb=>W (bo.dec z) λc=>W (F a b c) λd=>some (enc d):=(rfl)
@[simp] def zFS {F:α->β->γ->δ->Y ε} {x y z u:V}:za4 F [x,y,z,u]=W (bo.dec x) λa=>W (bo.dec y) λb=>W (bo.dec z) λc=>W (bo.dec u) λd=>W (F a b c d) λe=>some (enc e):=(rfl)
theorem zix{b:β}{vs:Z V}{v:V}(h:Fh b vs=some v):vs=[]/\v=enc b:=by
 grind [Fh]
def OG{F:α->Y β}{vs:Z V}{v:V}(h:cO F vs=some v):∃ a r,vs=[enc a]/\F a=some r/\v=enc r:=by
 unfold cO at h;split at h
 . simp only[aA]at h;obtain⟨a,ha,r,hr,h⟩:=h;cases h;exact⟨a,r,by rw[bo.bq _ _ ha],hr,rfl⟩
 . cases h
def WM{F:α->β->Y γ}{vs:Z V}{v:V}(h:dC F vs=some v):∃ a b r,vs=[enc a,enc b]/\F a b=some r/\v=enc r:=by
 unfold dC at h;split at h
 . simp only[aA]at h;obtain⟨a,ha,b,hb,r,hr,h⟩:=h;cases h;exact⟨a,b,r,by rw[bo.bq _ _ ha,bo.bq _ _ hb],hr,rfl⟩
 . cases h
def WL{F:α->β->γ->Y δ}{vs:Z V}{v:V}(h:tZ F vs=some v):∃ a b c r,vs=[enc a,enc b,enc c]/\F a b c=some r/\v=enc r:=by
 unfold tZ at h;split at h
 . simp only[aA]at h;obtain⟨a,ha,b,hb,c,hc,r,hr,h⟩:=h;cases h;exact⟨a,b,c,r,by rw[bo.bq _ _ ha,bo.bq _ _ hb,bo.bq _ _ hc],hr,rfl⟩
 . cases h
def ziw{F:α->β->γ->δ->Y ε}{vs:Z V}{v:V}(h:za4 F vs=some v):∃ a b c d r,vs=[enc a,enc b,enc c,enc d]/\F a b c d=some r/\v=enc r:=by
 unfold za4 at h;split at h
 . simp only[aA]at h;obtain⟨a,ha,b,hb,c,hc,d,hd,r,hr,h⟩:=h;cases h;exact⟨a,b,c,d,r,by rw[bo.bq _ _ ha,bo.bq _ _ hb,bo.bq _ _ hc,bo.bq _ _ hd],hr,rfl⟩
 . cases h
end
section
variable {I:Nat->Value}{E:Env}{f:FuncId}{fn:Func}{sc:SC}{vs:Z V}{T:PT V}{r:V}
def zeZ(hρ:Good I)(aq:bH I E)(hP:E.P.follows .mixedOrders=true)(hN:vK E.P)(hf:E.P.funcs[f]?=some fn)(hb:fn.body.bind aU=some sc)(he:jE fn.ntmps vs 0 .leaf=some T)(hp:cu vs=true)
 (h:Wp I E 0 fn.ntmps sc T { H:=.leaf,n:=0,log:=[] } (Leaves E.P fn (Fa r))) (C:HS):aT I E.P f vs C r C :=
 zkE hf hb he (DF hρ aq hP hN h) hp C
end
section
@[simp] def zGY  :V.Mr A (.int k n)=true:=(rfl)
@[simp] def zDM :V.Mr A (.bool b)=true:=(rfl)
@[simp] def zGW :V.Mr A (.str s)=true:=(rfl)
@[simp] def zJA {es:Z (Z V)} :V.Mr A (.sl es t)=true:=(rfl)
@[simp] def zDL :V.Mr A .aE=true:=(rfl)
@[simp] def zGX :V.Mr A (.ptr i g o)=A i:=(rfl)
@[simp] def zGU  :V.zM A (.int k n)=true:=(rfl)
@[simp] def zDK :V.zM A (.bool b)=true:=(rfl)
@[simp] def zGQ :V.zM A (.str s)=true:=(rfl)
@[simp] def zJz {es:Z (Z V)} :V.zM A (.sl es t)=true:=(rfl)
@[simp] def zDI :V.zM A .aE=true:=(rfl)
@[simp] def zGP {k:Nat}:V.zM A (.sym k)=true:=(rfl)
@[simp] def zGR :V.zM A (.ptr i g o)=A i:=(rfl)
@[simp] def zGS {n:Nat} :V.zM A (.own i g o n c)=A i:=(rfl)
@[simp] def zGT :V.zM A (.map i)=A i:=(rfl)
@[simp] def zGV {l:Z V}:V.zM A (.agg l)=l.all (V.Mr A):=(rfl)
@[simp] def zDJ  {l:Z V}:V.zM A (.func i l)=l.all (V.Mr A):=(rfl)
@[simp] def zGN  :V.tJ A (.int k n)=true:=(rfl)
@[simp] def zDH :V.tJ A (.bool b)=true:=(rfl)
@[simp] def zGK :V.tJ A (.str s)=true:=(rfl)
@[simp] def zJy {es:Z (Z V)} :V.tJ A (.sl es t)=true:=(rfl)
@[simp] def zDF :V.tJ A .aE=true:=(rfl)
@[simp] def zGL :V.tJ A (.ptr i g o)=A i:=(rfl)
@[simp] def zGM {n:Nat} :V.tJ A (.own i g o n c)=A i:=(rfl)
@[simp] def zGO {l:Z V}:V.tJ A (.agg l)=l.all (V.Mr A):=(rfl)
@[simp] def zDG  {l:Z V}:V.tJ A (.func i l)=l.all (V.Mr A):=(rfl)
@[simp] def zCC  :V.xW π (.int k n)=(.int k n):=(rfl)
@[simp] def zCA :V.xW π (.str s)=(.str s):=(rfl)
@[simp] def zF9 {es:Z (Z V)} :V.xW π (.sl es t)=(.sl es t):=(rfl)
@[simp] def zCB :V.xW π (.ptr i g o)=.ptr (π i) g o:=(rfl)
@[simp] def zCz  :V.jl π (.int k n)=(.int k n):=(rfl)
@[simp] def zzp :V.jl π (.bool b)=(.bool b):=(rfl)
@[simp] def zCv :V.jl π (.str s)=(.str s):=(rfl)
@[simp] def zF8 {es:Z (Z V)} :V.jl π (.sl es t)=(.sl es t):=(rfl)
@[simp] def zzn :V.jl π .aE=.aE:=(rfl)
@[simp] def zCu {k:Nat}:V.jl π (.sym k)=(.sym k):=(rfl)
@[simp] def zCw :V.jl π (.ptr i g o)=.ptr (π i) g o:=(rfl)
@[simp] def zCx {n:Nat} :V.jl π (.own i g o n c)=.own (π i) g o n c:=(rfl)
@[simp] def zCy :V.jl π (.map i)=.map (π i):=(rfl)
@[simp] def zzo  {l:Z V}:V.jl π (.func i l)=.func i (l.map (V.xW π)):=(rfl)
@[simp] def zF6  :V.cq π (.int k n)=(.int k n):=(rfl)
@[simp] def zCt :V.cq π (.bool b)=(.bool b):=(rfl)
@[simp] def zF3 :V.cq π (.str s)=(.str s):=(rfl)
@[simp] def zIU {es:Z (Z V)} :V.cq π (.sl es t)=(.sl es t):=(rfl)
@[simp] def zCr :V.cq π .aE=.aE:=(rfl)
@[simp] def zF4 :V.cq π (.ptr i g o)=.ptr (π i) g o:=(rfl)
@[simp] def zF5 {n:Nat} :V.cq π (.own i g o n c)=.own (π i) g o n c:=(rfl)
@[simp] def zF7 {l:Z V}:V.cq π (.agg l)=.agg (l.map (V.xW π)):=(rfl)
@[simp] def zCs  {l:Z V}:V.cq π (.func i l)=.func i (l.map (V.xW π)):=(rfl)
@[simp] def zzm {l:Z V}:V.cq π (.tuple l)=.tuple (l.map (V.jl π)):=(rfl)
@[simp] def zH1  {es:Z (Z V)} :Obj.in A (.arr a g es x z true)=es.all λe=>e.all V.bM:=(rfl)
@[simp] def zH2  {es:Z (Z V)} :Obj.in A (.arr a g es x z false)=es.all λe=>e.all (V.zM A):=(rfl)
@[simp] def zK7 {es:Z (V×V)}:Obj.in A (.mp es)=true:=(rfl)
@[simp] def zFt  {es:Z (Z V)} {r:Bool}:Obj.cq π (.arr a g es x z r)=.arr a g (es.map λe=>e.map (V.jl π)) x z r:=(rfl)
@[simp] def zH0 {es:Z (V×V)}:Obj.cq π (.mp es)=.mp es:=(rfl)
@[simp] def zHC  :cr ([]:Z (Nat×α)) i=false:=(rfl)
@[simp] def zEQ  {p:Nat×α} {l:Z (Nat×α)} :cr (p::l) i=(Nat.beq p.1 i||cr l i):=(rfl)
end
section
variable {r:V}
@[simp] def zvs :Fa r (.bool b) C=(.bool b=r):=by show ok (some (V.bool b)) _=_;rw[dP];rfl
@[simp] def zyN  :Fa r (.int k n) C=(.int k n=r):=by show ok (some (V.int k n)) _=_;rw[dP];rfl
@[simp] def zvr:Fa r .aE C=(.sl [] false=r):=by show ok (some V.aE) _=_;rw[dP];rfl
@[simp] def zBp {es:Z (Z V)} :Fa r (.sl es t) C=(.sl (gT es) false=r):=by show ok (some (V.sl es t)) _=_;rw[dP];rfl
@[simp] def zyM {n:Nat} :Fa r (.own i g o n c) C=ok (tY C (.own i g o n c)) λv'=>gX v'=r:=(rfl)
@[simp] def zyO {l:Z V}:Fa r (.agg l) C=ok (Bf C l) λl=>.agg (fI l)=r:=by
  show ok (W (Bf C l) λl=>some (V.agg l)) _=_;rw[iQ];simp only[dP,gX]
@[simp] def ztU {l:Z V}:Fa r (.tuple l) C=ok (lT C l) λl=>.tuple (fI l)=r:=by
  show ok (W (lT C l) λl=>some (V.tuple l)) _=_;rw[iQ];simp only[dP,gX]
def wrap_i64(M:-9223372036854775808<=n)(O:n<=9223372036854775807):IntKind.i64.wrap n=n:=IntWalk.i64_in n ⟨M,O⟩
def bI(h:i<9223372036854775807:=by omega):IntKind.i64.wrap ((i:Int)+1)=((i+1:Nat):Int):=by rw[wrap_i64 (by omega) (by omega)];omega
@[simp] def zED (a b:Z Nat):ND a b=decide (a=b):=by
  rw[dF,decide_eq_true_eq];exact Cz
@[simp] def zzd :(V.bool b).N0=true:=(rfl)
@[simp] def zCj  :(V.int k n).N0=true:=(rfl)
@[simp] def zrb  (f:α->β) (l:Z α):List.take l.length (l.map f)=l.map f:=aZ (by simp)
@[simp] def zy4  (f:α->β) (l:Z α) (x:β):List.take (l.length+1) (l.map f++[x])=l.map f++[x]:=aZ (by simp)
@[simp] def zrK  (l:Z α) (n:Nat) (m:Z α):(kI l n m).length=l.length:=uP l n m
attribute [simp] bytesOf
attribute [simp] gX fI VF Ld
@[simp] def zwM:gT []=[]:=by simp only[gT]
@[simp] def zuC {e:Z V} {l:Z (Z V)}:gT (e::l)=fI e::gT l:=by simp only[gT]
@[simp] def zwN {e l:Z (Z V)}:gT (e++l)=gT e++gT l:=by simp only[Cv,dz]
@[simp] def zuX  {l:Z V}:(V.tuple l).tJ A=l.all (V.zM A):=(rfl)
variable {s:Z V->Y V}{vs:Z V}{K:V×HS->Prop}
@[simp] def zKs:Cu (dH s vs C) K=Cu (mf vs C) λq=>cu q.1=true/\Cu (s (fI q.1)) λv=>K (v,q.2):=by
  show ok (dH s vs C) K=ok (mf vs C) λq=>cu q.1=true/\ok (s (fI q.1)) λv=>K (v,q.2)
  simp only[dH,wz,iQ,dP]
@[simp] def zKu:Cu (KU s vs C) K=Cu (lT C vs) λjt=>cu jt=true/\Cu (s (fI jt)) λv=>v.N0=true/\K (v,C):=by
  show ok (KU s vs C) K=ok (lT C vs) λjt=>cu jt=true/\ok (s (fI jt)) λv=>v.N0=true/\K (v,C)
  simp only[KU,wz,iQ,dP]
end
def xY(H:PT Obj):Z (Nat×Obj)->PT Obj
 | []=>H
 |p::l=>(xY H l).set p.1 p.2
theorem IJ{id:Nat}:∀ {l:Z (Nat×Obj)},(∀ p∈l,p.1≠id)->(xY H l).get id=H.get id:=by
 intro l
 induction l with
 |nil=>intro _;rfl
 | cons p l ih =>
   intro h;show ((xY H l).set p.1 p.2).get id=_;rw[PT.cK,if_neg (λe=>h p (aD ..) e.symm)]
   grind
theorem zbv{p:Nat×Obj}:∀ {l:Z (Nat×Obj)},(l.map Prod.fst).Nodup->p∈l->(xY H l).get p.1=some p.2:=by
 intro l
 induction l with
 |nil=>intro _ h;cases h
 | cons q l ih =>
   intro eN h;rw[aR,iH]at eN;show ((xY H l).set q.1 q.2).get p.1=_;rw[PT.cK]
   grind
theorem vS{p:Nat×α}:∀ {l:Z (Nat×α)},(l.map Prod.fst).Nodup->p∈l->(dW l).get p.1=some p.2:=by
 intro l
 induction l with
 |nil=>intro _ h;cases h
 | cons q l ih =>
   intro eN h;rw[aR,iH]at eN;show ((dW l).set q.1 q.2).get p.1=_;rw[PT.cK]
   grind
def aH(k:Nat)(v0:V)(OL:Z (Nat×Obj))(v:V)(C:HS):Prop:=∃ v1,(v1=v0\/gX v1=v0)/\aw k (PT.leaf.set 0 v) C (dW [(0,v1)]) { H:=dW OL,n:=0,log:=[] }
section
variable {I:Nat->Value}{E:Env}{f:FuncId}{fn:Func}{sc:SC}{dq:Z V}{T:PT V}{v0:V}{cI:Z (Nat×Obj)}{k k':Nat}
def news(n k:Nat)(π:Nat->Nat)(j:Nat):Nat:=if j<k then π j else n+(j-k)
def Dn(C:HS)(k k':Nat)(π:Nat->Nat)(cI:Z (Nat×Obj)):HS :=
 { H:=xY C.H (cI.map λp=>(news C.n k π p.1,p.2.cq (news C.n k π))),n:=C.n+(k'-k),log:=(cI.map λp=>news C.n k π p.1)++C.log }
def BG(k:Nat)(v0:V)(OL:Z (Nat×Obj))(v:V)(C:HS):Prop:=∃ q,ng v C=some q/\aH k v0 OL q.1 q.2
def zFf{s:Start}{K:V->HS->Prop}{k:Nat}{v0:V}(hK:∀ v C,K v C->aH k v0 OL v C\/BG k v0 OL v C){w:World}(h:Hr I P s K e w):Hr I P s (aH k v0 OL) e w:=by
 cases e with
 |panicked c=>exact h
 |outgrown=>exact h
 | returned x =>
   obtain⟨v,a8,F',μ',q,hL,hR,hD,hx⟩:=h;rcases hK _ _ q with h|⟨p,hp,hg⟩
   . exact⟨v,a8,F',μ',h,hL,hR,hD,hx⟩
   . obtain⟨F2,R2,f2,_,P2⟩:=zC hR hx hp;exact⟨p.1,p.2,F2,μ',hg,hL.step f2,R2,λid g hg=>(oQ hp).hm id (hD id g hg),.pure P2⟩
theorem uV{k:Nat}(R7:OL.map Prod.fst=List.range k)(i:Nat):cr OL i=true↔i<k:=by
 rw[<- dB,<- R7];simp[cr,di,aI,beq_true]
def zj4(RO:(Nat->Nat)->Nat×Obj->Obj)(C:HS)(k k':Nat)(π:Nat->Nat)(cI:Z (Nat×Obj)):HS :=
 { H:=xY C.H (cI.map λp=>(news C.n k π p.1,RO (news C.n k π) p)),n:=C.n+(k'-k),log:=(cI.map λp=>news C.n k π p.1)++C.log }
def zcr  {w:World} {F:Nat->Prop}  {K:V->HS->Prop}  (Tn:∀ π p,(RO π p).gen=p.2.gen) (zNh:∀ π p,(RO π p).fz=p.2.fz) (hf:E.P.funcs[f]?=some fn) (hb:fn.body.bind aU=some sc) (he:jE fn.ntmps dq 0 .leaf=some T)
 (h:Ls ρ' E k fn.ntmps sc T { H:=dW OL,n:=k,log:=[] } (Leaves E.P fn K)) (hK:∀ (s:Start) (e:Ending) (w:World),Hr ρ' E.P s K e w->Hr ρ' E.P s (aH k v0 cI) e w)
 (R7:OL.map Prod.fst=List.range k) (Gw:cI.map Prod.fst=List.range k') (hk:k<=k') (gw:∀ p∈cI,p.2.fz=false)
   (hπ:∀ i j,i<k->j<k->π i=π j->i=j) (hH:∀ p∈OL,C.H.get (π p.1)=some (RO π p)) (hn:∀ i,i<k'-k->C.H.get (C.n+i)=none) (D3:∀ i,i<k->π i<C.n)
  {xs:Array Value} (hR:R I w F μ E.P C) (hD:Ol X μ C) (hO:pj X (zj4 RO C k k' π cI)) (hgl:Gl ρ' w F)
 (zJT:∀ μ0:Nat->Nat->Y MI,(∀ i,i<k->∀ g,μ0 i g=μ (π i) g)->(∀ i o,(i,o)∈OL->o9 ρ' w F μ0 E.P i o)/\Mq ρ' w F μ0 dq xs)
 (hbk:∀ {w':World} {F1:Nat->Prop} {μ2 μ':Nat->Nat->Y MI},(∀ b,F b->F1 b)->(∀ b,F b->w'.heap[b]?=w.heap[b]?)->(∀ id g m,μ id g=some m->μ' id g=some m)->(∀ j,j<k'->∀ g,μ' (news C.n k π j) g=μ2 j g)->(∀ i,i<k->(∀ g,μ (π i) g=none)->∀ g,μ2 i g=none) ->
   (∀ j o,(j,o)∈cI->o9 ρ' w' F1 μ2 E.P j o->o9 I w' F1 μ' E.P (news C.n k π j) (RO (news C.n k π) (j,o)))/\(∀ x,dV ρ' w' F1 μ2 v0 x->dV I w' F1 μ' (v0.cq (news C.n k π)) x)) :
 CallsIn Fence.wide 0 E.P f xs w (zyR I E.P w F μ C (v0.cq (news C.n k π)) (zj4 RO C k k' π cI)):=by
 have eN:(OL.map Prod.fst).Nodup:=by rw[R7];exact iq
 have sL:(cI.map Prod.fst).Nodup:=by rw[Gw];exact iq
 have de:∀ i o,(dW OL).get i=some o->(i,o)∈OL:=λi o h=>Ag h
 have zMc:∀ i o,(dW cI).get i=some o->(i,o)∈cI:=λi o h=>Ag h
 have hex:∀ i,i<k->∃ o,(i,o)∈OL:=by
  intro i hi;have:i∈OL.map Prod.fst:=by rw[R7];exact dB.2 hi
  obtain⟨p,hp,rfl⟩:=aI.1 this;exact⟨p.2,hp⟩
 have XS:∀ i,i<k'->∃ o,(i,o)∈cI:=by
  intro i hi;have:i∈cI.map Prod.fst:=by rw[Gw];exact dB.2 hi
  obtain⟨p,hp,rfl⟩:=aI.1 this;exact⟨p.2,hp⟩
 have cC:∀ p∈OL,p.1<k:=λp hp=>dB.1 (by rw[<- R7];exact aI.2 ⟨p,hp,rfl⟩)
 have sR:∀ p∈cI,p.1<k':=λp hp=>dB.1 (by rw[<- Gw];exact aI.2 ⟨p,hp,rfl⟩)
 have RW:∀ j,j<k->news C.n k π j=π j:=λj hj=>if_pos hj
 have zzP:∀ j,k<=j->news C.n k π j=C.n+(j-k):=λj hj=>if_neg (by omega)
 have zC8:∀ i j,i<k'->j<k'->news C.n k π i=news C.n k π j->i=j:=by
  intro i j hi hj e;by_cases M:i<k<;>by_cases O:j<k
  . rw[RW i M,RW j O]at e;exact hπ i j M O e
  . rw[RW i M,zzP j (by omega)]at e;have:=D3 i M;omega
  . rw[zzP i (by omega),RW j O]at e;have:=D3 j O;omega
  . rw[zzP i (by omega),zzP j (by omega)]at e;omega
 let μ0:Nat->Nat->Y MI:=λi g=>if i<k then μ (π i) g else none
 have ur:∀ i,i<k->∀ g,μ0 i g=μ (π i) g:=λi hi g=>if_pos hi
 have zxc:∀ i,¬ i<k->∀ g,μ0 i g=none:=λi hi g=>if_neg hi
 obtain⟨zJT,zKp⟩:=zJT μ0 ur
 have hR0:R ρ' w F μ0 E.P { H:=dW OL,n:=k,log:=[] }:=by
  refine⟨λi g m hm=>?_,hR.Bj,λi o ho=>?_,λi j o o' m m' ho h1 hm eR hb=>?_,λi o ho g hg=>?_,hgl⟩
  . by_cases hi:i<k
    . rw[ur i hi]at hm;exact hR.lt _ _ _ hm
    . rw[zxc i hi]at hm;cases hm
  . exact zJT i o (de i o ho)
  . have hp:=de i o ho;have s8:=de j o' h1;rw[ur i (cC _ hp)]at hm;rw[ur j (cC _ s8)]at eR;exact hπ i j (cC _ hp) (cC _ s8) (hR.inj _ _ _ _ m m' (hH _ hp) (hH _ s8) (by rw[Tn];exact hm) (by rw[Tn];exact eR) hb)
  . have hp:=de i o ho;rw[ur i (cC _ hp)];exact hR.y7 _ _ (hH _ hp) g (by rw[Tn];exact hg)
 have OF:∀ b,zu { H:=dW OL,n:=k,log:=[] } μ0 b->∃ i o m,(i,o)∈OL/\o.fz=false/\μ (π i) o.gen=some m/\m.b=b:=by
  rintro b ⟨i,o,m,ho,hz,hm,rfl⟩;have hp:=de i o ho;rw[ur i (cC _ hp)]at hm;exact⟨i,o,m,hp,hz,hm,rfl⟩
 have zhm:∀ b,zu { H:=dW OL,n:=k,log:=[] } μ0 b->zu C μ b:=by
  intro b hb;obtain⟨i,o,m,hp,hz,hm,rfl⟩:=OF b hb;exact⟨π i,RO π (i,o),m,hH _ hp,by rw[zNh];exact hz,by rw[Tn];exact hm,rfl⟩
 have hL0:Loc ⟨zu { H:=dW OL,n:=k,log:=[] } μ0,w,F,k,μ0⟩ w F μ0 { H:=dW OL,n:=k,log:=[] } :=
  ⟨⟨rfl,rfl,rfl⟩,af _,λ_ _ _=>rfl,λ_ h=>h,λ_ h=>.inl h,λ_ _ _ _ h=>h,λb hb=>.inl hb,λi hi=>by
    obtain⟨o,ho⟩:=hex i hi;show (dW OL).get i≠none
    rw[vS eN ho];simp,λ_ _ h=>h,λi g m hm=>.inr ⟨i,g,m,hm,rfl⟩⟩
 have s4:Z9 μ0 { H:=dW OL,n:=k,log:=[] }:=by
  intro i g hg;by_cases hi:i<k
  . obtain⟨o,ho⟩:=hex i hi;show (dW OL).get i≠none;rw[vS eN ho];simp
  . rw[zxc i hi]at hg;exact absurd rfl hg
 refine((zcQ hf hb he h rfl hL0 hR0 s4 zKp).mono λe w' he=>hK _ e w' he).mono λe w' he=>?_
 cases e with
 |panicked c=>exact he
 |outgrown=>exact he
 | returned x =>
   obtain⟨v,cm,F1,μ1,⟨v1,se,hless⟩,sx,g1,_,g2⟩:=he
   have j8:kH ρ' w' F1 μ1 (PT.leaf.set 0 v) #[x]:=by
    intro t u hu;rw[PT.cK]at hu;split at hu
    . rename_i e;subst e;cases hu;exact⟨x,rfl,g2⟩
    . cases hu
   obtain⟨μ2,sY,o4,Z2,AT⟩:=hless.state (s:=⟨zu { H:=dW OL,n:=k,log:=[] } μ0,w,F,k,μ0⟩) sx g1 j8;obtain⟨x',tj,Ax⟩:=AT 0 v1 (by show ((PT.leaf.set 0 v1).get 0)=_;rw[PT.cK,if_pos rfl]);cases tj;have hr3:dV ρ' w' F1 μ2 v0 x:=se.elim (λe=>e ▸ Ax) λe=>e ▸ Ax.norm
   let inv:Nat->Y Nat:=λid=>(List.range k').find? λj=>news C.n k π j == id
   have hinv:∀ j,j<k'->inv (news C.n k π j)=some j:=by
    intro j hj
    have M:((List.range k').find? λi=>news C.n k π i == news C.n k π j).isSome=true:=by
     rw[List.find?_isSome];exact⟨j,dB.2 hj,by simp⟩
    obtain⟨i,hi⟩:=bN.1 M;show (List.range k').find? _=_;rw[hi];have O:=List.find?_some hi;have h3:=dB.1 (List.mem_of_find?_eq_some hi);exact congrArg some (zC8 i j h3 hj (by simpa using O))
   have Uy:∀ id j,inv id=some j->j<k'/\news C.n k π j=id:=by
    intro id j h;exact⟨dB.1 (List.mem_of_find?_eq_some h),by simpa using List.find?_some h⟩
   let μ':Nat->Nat->Y MI:=λid g=>match inv id with
    |some j=>μ2 j g
    |none=>μ id g
   have Zh:∀ j,j<k'->∀ g,μ' (news C.n k π j) g=μ2 j g:=by
    intro j hj g;show (match inv (news C.n k π j)with|some j=>μ2 j g|none=>_)=_;rw[hinv j hj]
   have DS:∀ id,inv id=none->∀ g,μ' id g=μ id g:=by
    intro id hid g;show (match inv id with|some j=>μ2 j g|none=>_)=_;rw[hid]
   have tz:∀ id g m,μ id g=some m->μ' id g=some m:=by
    intro id g m hm
    cases hi:inv id with
    |none=>rw[DS id hi];exact hm
    | some j =>
      obtain⟨hj,rfl⟩:=Uy id j hi;rw[Zh j hj];by_cases v7:j<k
      . rw[RW j v7]at hm;exact sY.mm j g m v7 (by show μ0 j g=_;rw[ur j v7];exact hm)
      . rw[zzP j (by omega)]at hm;exfalso;rcases hD.1 (C.n+(j-k)) g (by rw[hm];simp)with M|M
        . exact M (hn _ (by omega))
        . exact hD.2 _ (by omega) M
   have hkeys:((cI.map λp=>(news C.n k π p.1,RO (news C.n k π) p)).map Prod.fst).Nodup:=by
    rw[iy];have:(cI.map (Prod.fst ∘ λp=>(news C.n k π p.1,RO (news C.n k π) p)))=(cI.map Prod.fst).map (news C.n k π):=by rw[iy];rfl
    rw[this,Gw];refine List.pairwise_map.2 (List.Pairwise.imp_of_mem (λ{a b} ha hb cb e=>cb (zC8 a b (dB.1 ha) (dB.1 hb) e)) iq)
   have W4:∀ j o,(j,o)∈cI->(zj4 RO C k k' π cI).H.get (news C.n k π j)=some (RO (news C.n k π) (j,o)):=by
    intro j o hp;exact zbv (p:=(news C.n k π j,RO (news C.n k π) (j,o))) hkeys (aI.2 ⟨(j,o),hp,rfl⟩)
   have oS:∀ id,inv id=none->(zj4 RO C k k' π cI).H.get id=C.H.get id:=by
    intro id hid;refine IJ λp hp e=>?_
    obtain⟨q,hq,rfl⟩:=aI.1 hp;have:=hinv q.1 (sR q hq);rw[show news C.n k π q.1=id from e,hid]at this;cases this
   have wb:∀ id o,(zj4 RO C k k' π cI).H.get id=some o->(inv id=none/\C.H.get id=some o)\/∃ j o0,j<k'/\news C.n k π j=id/\(j,o0)∈cI/\o=RO (news C.n k π) (j,o0):=by
    intro id o ho
    cases hi:inv id with
    |none=>rw[oS id hi]at ho;exact .inl ⟨rfl,ho⟩
    | some j =>
      obtain⟨hj,rfl⟩:=Uy id j hi;obtain⟨o0,h0⟩:=XS j hj;rw[W4 j o0 h0]at ho;cases ho;exact .inr ⟨j,o0,hj,rfl,h0,rfl⟩
   have Wa:∀ id o m,inv id=none->C.H.get id=some o->μ id o.gen=some m->¬ zu { H:=dW OL,n:=k,log:=[] } μ0 m.b:=by
    intro id o m hid ho hm pN;obtain⟨i,oi,mi,hp,hz,Mz,hb⟩:=OF _ pN;have e:=hR.inj _ _ _ _ mi m (hH _ hp) ho (by rw[Tn];exact Mz) hm hb;have hi:=cC _ hp;have:=hinv i (by omega);rw[RW i hi]at this;dsimp only at e;rw[e,hid]at this;cases this
   have zEt:∀ b,F b->w'.heap[b]?=w.heap[b]?:=λb hb=>sY.bw b (hR.Bj b hb) (λho=>hR.uR hb (zhm b ho))
   obtain⟨hbk,hbv⟩:=hbk sY.fm zEt tz Zh (λi hi kq g=>sY.dm i hi (λg=>by show μ0 i g=none;rw[ur i hi];exact kq g) g)
   have zOd:R I w' F1 μ' E.P (zj4 RO C k k' π cI):=by
    refine⟨λid g m hm=>?_,o4.Bj,λid o ho=>?_,λid jx o o' m m' ho h1 hm eR hb=>?_,λid o ho g hg=>?_,hR.gl.bw sY.fm zEt⟩
    . cases hi:inv id with
      |none=>rw[DS id hi]at hm;exact bY (hR.lt _ _ _ hm) sY.size
      | some j =>
        obtain⟨hj,rfl⟩:=Uy id j hi;rw[Zh j hj]at hm;exact o4.lt _ _ _ hm
    . rcases wb id o ho with⟨hi,M⟩|⟨j,o0,hj,rfl,h0,rfl⟩
      . refine(hR.obj id o M).mono sY.fm zEt tz (λm hm=>by rw[DS id hi]at hm;exact hm) (λm hm=>?_) (λm hm _ u5 m7=>?_)
        . exact sY.bw m.b (hR.lt _ _ _ hm) (Wa id o m hi M hm)
        . rcases sY.Ci m.b m7 with O|O|O
          . exact u5 O
          . exact absurd (hR.lt _ _ _ hm) (Nat.not_lt.2 O)
          . exact Wa id o m hi M hm O
      . exact hbk j o0 h0 (o4.obj j o0 (vS (p:=(j,o0)) sL h0))
    . have key:∀ (jx:Nat) (o':Obj) (m m':MI) (j:Nat) (o0:Obj),j<k'->(j,o0)∈cI->μ2 j o0.gen=some m->inv jx=none->C.H.get jx=some o'->μ jx o'.gen=some m'->m.b=m'.b->False:=by
       intro jx o' m m' j o0 hj h0 hm hi h1 eR hb;rcases sY.own m.b ⟨j,o0,m,vS (p:=(j,o0)) sL h0,gw _ h0,hm,rfl⟩with O|O
       . rw[hb]at O;exact Wa jx o' m' hi h1 eR O
       . rw[hb]at O;exact absurd (hR.lt _ _ _ eR) (Nat.not_lt.2 O)
      rcases wb id o ho with⟨hi,M⟩|⟨j,o0,hj,rfl,h0,rfl⟩<;>rcases wb jx o' h1 with⟨cj,vj⟩|⟨j',zI6,js,rfl,h0',rfl⟩
      . rw[DS id hi]at hm;rw[DS jx cj]at eR;exact hR.inj _ _ _ _ m m' M vj hm eR hb
      . rw[DS id hi]at hm;rw[Tn,Zh j' js]at eR;exact(key id o m' m j' zI6 js h0' eR hi M hm hb.symm).elim
      . rw[DS jx cj]at eR;rw[Tn,Zh j hj]at hm;exact(key jx o' m m' j o0 hj h0 hm cj vj eR hb).elim
      . rw[Tn,Zh j hj]at hm;rw[Tn,Zh j' js]at eR;rw[o4.inj j j' o0 zI6 m m' (vS (p:=(j,o0)) sL h0) (vS (p:=(j',zI6)) sL h0') hm eR hb]
    . rcases wb id o ho with⟨hi,M⟩|⟨j,o0,hj,rfl,h0,rfl⟩
      . rw[DS id hi];exact hR.y7 id o M g hg
      . rw[Zh j hj];exact o4.y7 j o0 (vS (p:=(j,o0)) sL h0) g (by rw[Tn]at hg;exact hg)
   refine⟨F1,μ',zOd,hbv x hr3,?_⟩;refine⟨sY.io,sY.size,λb hb kq=>sY.bw b hb (λho=>kq (zhm b ho)),sY.fm,λb hb=>?_,tz,?_,λid hid=>?_,λid hid g=>?_,λid hid hg g=>?_,λid g m hm=>?_⟩
   . rcases sY.Ci b hb with O|O|O
     . exact .inl O
     . exact .inr (.inl O)
     . exact .inr (.inr (zhm b O))
   . rintro b ⟨id,o,m,ho,hz,hm,rfl⟩;rcases wb id o ho with⟨hi,M⟩|⟨j,o0,hj,rfl,h0,rfl⟩
     . rw[DS id hi]at hm;exact .inl ⟨id,o,m,M,hz,hm,rfl⟩
     . rw[Tn,Zh j hj]at hm;rcases sY.own m.b ⟨j,o0,m,vS (p:=(j,o0)) sL h0,gw _ h0,hm,rfl⟩with O|O
       . exact .inl (zhm _ O)
       . exact .inr O
   . cases hi:inv id with
     |none=>rw[oS id hi];exact hid
     | some j =>
       obtain⟨hj,rfl⟩:=Uy id j hi;obtain⟨o0,h0⟩:=XS j hj;rw[W4 j o0 h0];simp
   . cases hi:inv id with
     |none=>exact DS id hi g
     | some j =>
       obtain⟨hj,rfl⟩:=Uy id j hi;obtain⟨o0,h0⟩:=XS j hj;rw[W4 j o0 h0]at hid;cases hid
   . cases hi:inv id with
     |none=>rw[DS id hi];exact hg g
     | some j =>
       obtain⟨hj,rfl⟩:=Uy id j hi;rw[Zh j hj];by_cases v7:j<k
       . refine sY.dm j v7 (λg=>?_) g;show μ0 j g=none;rw[ur j v7,<- RW j v7];exact hg g
       . rw[zzP j (by omega)]at hid;exact absurd (hn _ (by omega)) hid
   . cases hi:inv id with
     |none=>rw[DS id hi]at hm;exact .inr ⟨id,g,m,hm,rfl⟩
     | some j =>
       obtain⟨hj,rfl⟩:=Uy id j hi;rw[Zh j hj]at hm;rcases sY.mn j g m hm with O|⟨i,g',m0,O,h3⟩
       . exact .inl O
       . by_cases W5:i<k
         . exact .inr ⟨π i,g',m0,by rw[<- ur i W5];exact O,h3⟩
         . replace O:μ0 i g'=some m0:=O;rw[zxc i W5]at O;cases O
theorem zsS{K:V->HS->Prop}(hf:E.P.funcs[f]?=some fn)(hb:fn.body.bind aU=some sc)(he:jE fn.ntmps dq 0 .leaf=some T)
 (h:Ls I E k fn.ntmps sc T { H:=dW OL,n:=k,log:=[] } (Leaves E.P fn K)) (hK:∀ (s:Start) (e:Ending) (w:World),Hr I E.P s K e w->Hr I E.P s (aH k v0 cI) e w)
 (R7:OL.map Prod.fst=List.range k) (Gw:cI.map Prod.fst=List.range k') (hk:k<=k') (gS:∀ p∈OL,p.2.in (cr OL)=true) (gw:∀ p∈cI,p.2.in (cr cI)=true/\p.2.fz=false) (ov:v0.tJ (cr cI)=true) (HO:∀ v∈dq,v.tJ (cr OL)=true)
   (hπ:∀ i j,i<k->j<k->π i=π j->i=j) (hH:∀ p∈OL,C.H.get (π p.1)=some (p.2.cq π)) (hn:∀ i,i<k'-k->C.H.get (C.n+i)=none) (D3:∀ i,i<k->π i<C.n) :
 aT I E.P f (dq.map (V.cq π)) C (v0.cq (news C.n k π)) (Dn C k k' π cI):=by
 intro X w F μ xs hR hD hO hA;refine zcr (RO:=λπ p=>p.2.cq π) (λ_ _=>Obj.Gc _) (λ_ _=>Obj.YJ _) hf hb he h hK R7 Gw hk (λp hp=>(gw p hp).2) hπ hH hn D3 hR hD hO hR.gl (λμ0 ur=>⟨λi o hp=>?_,by simpa using hA.1,λi v hi=>?_⟩) λ{w' F1 μ2 μ'} _ _ _ Zh _=>⟨λj o h0 hr=>?_,λx hr=>?_⟩
 . have hi:=(uV R7 i).1 (di.2 ⟨_,hp,beq_true.2 rfl⟩);exact o9.AN (π:=π) (A:=cr OL) (hR.obj _ _ (hH _ hp)) (gS _ hp) (λg m hm=>by rw[ur i hi]at hm;exact hm) (λj hj g m hm=>by rw[ur j ((uV R7 j).1 hj)];exact hm)
 . obtain⟨x,hx,hr⟩:=hA.2 i (v.cq π) (by simp[hi]);exact⟨x,hx,hr.AN (A:=cr OL) (HO v (aC hi)) λj hj g m hm=>by rw[ur j ((uV R7 j).1 hj)];exact hm⟩
 . have hj:=(uV Gw j).1 (di.2 ⟨_,h0,beq_true.2 rfl⟩)
   grind [o9.back,cr,uV]
 . exact hr.back (A:=cr cI) ov λi hi g m hm=>by rw[Zh i ((uV Gw i).1 hi)];exact hm
def ZF{K:V->HS->Prop}(hf:E.P.funcs[f]?=some fn)(hb:fn.body.bind aU=some sc)(he:jE fn.ntmps dq 0 .leaf=some T)
 (h:Ls I E k fn.ntmps sc T { H:=dW OL,n:=k,log:=[] } (Leaves E.P fn K)) (hK:∀ v C,K v C->aH k v0 cI v C\/BG k v0 cI v C)
 (R7:OL.map Prod.fst=List.range k) (Gw:cI.map Prod.fst=List.range k') (hk:k<=k') (gS:∀ p∈OL,p.2.in (cr OL)=true) (gw:∀ p∈cI,p.2.in (cr cI)=true/\p.2.fz=false) (ov:v0.tJ (cr cI)=true) (HO:∀ v∈dq,v.tJ (cr OL)=true)
   (hπ:∀ i j,i<k->j<k->π i=π j->i=j) (hH:∀ p∈OL,C.H.get (π p.1)=some (p.2.cq π)) (hn:∀ i,i<k'-k->C.H.get (C.n+i)=none) (D3:∀ i,i<k->π i<C.n) :
 aT I E.P f (dq.map (V.cq π)) C (v0.cq (news C.n k π)) (Dn C k k' π cI):=zsS hf hb he h (λ_ _ _ he=>zFf hK he) R7 Gw hk gS gw ov HO hπ hH hn D3
def GA(hf:E.P.funcs[f]?=some fn)(hb:fn.body.bind aU=some sc)(he:jE fn.ntmps dq 0 .leaf=some T)
 (h:Ls I E k fn.ntmps sc T { H:=dW OL,n:=k,log:=[] } (Leaves E.P fn (aH k v0 cI)))
 (R7:OL.map Prod.fst=List.range k) (Gw:cI.map Prod.fst=List.range k') (hk:k<=k') (gS:∀ p∈OL,p.2.in (cr OL)=true) (gw:∀ p∈cI,p.2.in (cr cI)=true/\p.2.fz=false) (ov:v0.tJ (cr cI)=true) (HO:∀ v∈dq,v.tJ (cr OL)=true)
   (hπ:∀ i j,i<k->j<k->π i=π j->i=j) (hH:∀ p∈OL,C.H.get (π p.1)=some (p.2.cq π)) (hn:∀ i,i<k'-k->C.H.get (C.n+i)=none) (D3:∀ i,i<k->π i<C.n) :
 aT I E.P f (dq.map (V.cq π)) C (v0.cq (news C.n k π)) (Dn C k k' π cI) :=
 ZF hf hb he h (λ_ _ h=>.inl h) R7 Gw hk gS gw ov HO hπ hH hn D3
end
def V.OQ{v:V}(h:v.Mr (λ_=>false)=true):v.xW π=v:=by
 cases v<;>first|rfl|cases h
def map_id'{f:V->V}:∀ {l:Z V},(∀ v∈l,f v=v)->l.map f=l:=by
 intro l
 induction l with
 |nil=>intro _;rfl
 |cons a l ih=>intro h;rw[aR,h a (aD ..),ih λv hv=>h v (aF _ hv)]
def V.uN{v:V}(h:v.zM (λ_=>false)=true):v.jl π=v:=by
 cases v with
 |agg cs=>exact congrArg V.agg (map_id' λv hv=>V.OQ (aj.1 h v hv))
 |func f cs=>exact congrArg (V.func f) (map_id' λv hv=>V.OQ (aj.1 h v hv))
 |iface t v=>exact congrArg (V.iface t) (V.OQ h)
 |_=>first|rfl|cases h
def V.jw{v:V}(h:v.tJ (λ_=>false)=true):v.cq π=v:=by
 cases v with
 |tuple cs=>exact congrArg V.tuple (map_id' λv hv=>V.uN (aj.1 h v hv))
 |agg cs=>exact V.uN (v:=.agg cs) h
 |func f cs=>exact V.uN (v:=.func f cs) h
 |iface t v=>exact V.uN (v:=.iface t v) h
 |_=>first|rfl|cases h
def V.Uu(DM:∀ i,A i=true->B i=true){v:V}(h:v.Mr A=true):v.Mr B=true:=by
 cases v<;>first|exact h|exact DM _ h
def V.I6(DM:∀ i,A i=true->B i=true){v:V}(h:v.zM A=true):v.zM B=true:=by
 cases v with
 |agg cs=>exact aj.2 λv hv=>V.Uu DM (aj.1 h v hv)
 |func f cs=>exact aj.2 λv hv=>V.Uu DM (aj.1 h v hv)
 |iface t v=>exact V.Uu (v:=v) DM h
 |_=>first|exact h|exact DM _ h
def V.AO(DM:∀ i,A i=true->B i=true){v:V}(h:v.tJ A=true):v.tJ B=true:=by
 cases v with
 |tuple cs=>exact aj.2 λv hv=>V.I6 DM (aj.1 h v hv)
 |agg cs=>exact V.I6 (v:=.agg cs) DM h
 |func f cs=>exact V.I6 (v:=.func f cs) DM h
 |iface t v=>exact V.I6 (v:=.iface t v) DM h
 |_=>first|exact h|exact DM _ h
def V.zL{v:V}(h:v.bM=true):v.zM A=true:=by
 cases v with
 | func f cs=>cases cs with
   |nil=>rfl
   |cons _ _=>cases h
 | iface t v =>
   replace h:v.CX=true:=h;cases v<;>first|rfl|cases h
 |agg _=>cases h
 |_=>first|rfl|cases h
def V.dU{v:V}(h:v.pure=true):v.tJ A=true:=by
 cases v with
 | agg cs =>
   replace h:Jy cs=true:=h;rw[ZW]at h;refine aj.2 λv hv=>?_
   have:=h v hv;cases v<;>first|rfl|exact this|cases this
 |tuple cs=>cases h
 |func f cs=>exact V.zL (v:=.func f cs) h
 |iface t v=>exact V.zL (v:=.iface t v) h
 |_=>first|rfl|cases h
def zeb{v:V}(h:v.CX=true):(gX v).CX=true:=by
 cases v<;>first|(cases h;done)|(simp[gX,V.CX])
theorem TE{v:V}(h:v.bM=true):(gX v).bM=true:=by
 cases v with
 | iface t v =>
   simp only[gX];exact zeb (v:=v) h
 | func f cs=>cases cs with
   |nil=>simp[gX,V.bM]
   |cons _ _=>cases h
 |_=>first|(cases h;done)|(simp[gX,V.bM,V.CX])
theorem zi6{v:V}(h:v.pure=true):(gX v).pure=true:=by
 cases v with
 | agg cs =>
   replace h:Jy cs=true:=h;simp only[gX];show Jy (fI cs)=true
   grind [ZW,mK,TE]
 | iface t v =>
   have:=TE (v:=.iface t v) h;simp only[gX]at this ⊢;exact this
 | func f cs =>
   simp_all
 |_=>first|(cases h;done)|(simp only[gX];rfl)
def Cm{vs:Z V}(h:cu vs=true):cu (fI vs)=true:=by
 rw[zfJ]at h ⊢;intro v hv;rw[mK]at hv;obtain⟨y,hy,rfl⟩:=aI.1 hv;exact zi6 (h y hy)
theorem aH.bw{k:Nat}{v0 v:V}(hi:cd (OL.map λp=>p.1)=true:=by rfl)(hk:(List.range k).all (λi=>cr OL i)=true:=by rfl)(hn:gX v=v0:=by first|rfl|(simp;done))(hv:v.tJ (cr OL)=true:=by first|rfl|(simp;done))
 (hH:∀ p∈OL,p.2.in (cr OL)=true/\C.H.get p.1=some p.2:=by simp):aH k v0 OL v C :=
 ⟨v,.inr hn,aw.bw 0 (λp hp=>by
   simp only[ay]at hp;subst hp
   exact⟨hv,by rw[PT.cK,if_pos rfl]⟩) hH hi hk⟩
def aH.lit(π:Nat->Nat){k:Nat}{v0 v v1:V}(hi:cd (OL.map λp=>π p.1)=true)(hk:(List.range k).all (λi=>Nat.beq (π i) i&&cr OL i)=true)(hn:gX v1=v0)(hv:v1.tJ (cr OL)=true/\v=v1.cq π)
 (hH:∀ p∈OL,p.2.in (cr OL)=true/\C.H.get (π p.1)=some (p.2.cq π)):aH k v0 OL v C :=
 ⟨v1,.inr hn,aw.lit π 0 (λp hp=>by
   simp only[ay]at hp;subst hp
   exact⟨hv.1,by rw[PT.cK,if_pos rfl,hv.2]⟩) hH hi hk⟩
def aH.fu{k:Nat}{v:V}(hi:cd (OL.map λp=>p.1)=true)(hk:(List.range k).all (λi=>cr OL i)=true)(hv:v.tJ (cr OL)=true)
 (hH:∀ p∈OL,p.2.in (cr OL)=true/\C.H.get p.1=some p.2):aH k v OL v C :=
 ⟨v,.inl rfl,aw.bw 0 (λp hp=>by
   simp only[ay]at hp;subst hp
   exact⟨hv,by rw[PT.cK,if_pos rfl]⟩) hH hi hk⟩
def aH.Za(π:Nat->Nat){k:Nat}{v v1:V}(hi:cd (OL.map λp=>π p.1)=true)(hk:(List.range k).all (λi=>Nat.beq (π i) i&&cr OL i)=true)(hv:v1.tJ (cr OL)=true/\v=v1.cq π)
 (hH:∀ p∈OL,p.2.in (cr OL)=true/\C.H.get (π p.1)=some (p.2.cq π)):aH k v1 OL v C :=
 ⟨v1,.inl rfl,aw.lit π 0 (λp hp=>by
   simp only[ay]at hp;subst hp
   exact⟨hv.1,by rw[PT.cK,if_pos rfl,hv.2]⟩) hH hi hk⟩
def box(c:Z V):Obj:=.arr (dA c) 0 [c] true false false
def XV(o:Obj):Y (Z V) :=
 match o with
 |.arr _ 0 [c] true false false=>some c
 |_=>none
section
variable {I:Nat->Value}{E:Env}{f:FuncId}{fn:Func}{sc:SC}{vs:Z V}{T:PT V}{r:V}{c c':Z V}
theorem zwh(hρ:Good I)(aq:bH I E)(hP:E.P.follows .mixedOrders=true)(hN:vK E.P)(hf:E.P.funcs[f]?=some fn)(hb:fn.body.bind aU=some sc)(he:jE fn.ntmps (.ptr 0 0 0::vs) 0 .leaf=some T)(hp:cu vs=true)
 (hc:c.all V.bM=true) (vf:c'.all V.bM=true) (hr:r.tJ (λ_=>false)=true)
 (h:Wp I E 1 fn.ntmps sc T { H:=dW [(0,box c)],n:=1,log:=[] } (Leaves E.P fn (aH 1 r [(0,box c')])))  {id:Nat} (hid:id<C.n) (hg:C.H.get id=some (box c)):aT I E.P f (.ptr id 0 0::vs) C r (C.wr id (box c')):=by
 have zn3:∀ (π:Nat->Nat) (c:Z V),c.all V.bM=true->(box c).cq π=box c:=by
  intro π c hc;show Obj.arr _ _ [c.map (V.jl π)] _ _ _=_;rw[map_id' λv hv=>V.jP (aj.1 hc v hv)];rfl
 have Ph:∀ (A:Nat->Bool) (c:Z V),c.all V.bM=true->(box c).in A=true:=by
  intro A c hc;show ([c].all λe=>e.all λv=>v.zM A)=true;simp only[iW,rz,fM];exact aj.2 λv hv=>V.zL (aj.1 hc v hv)
 have rn:=jM hp
 have key:=GA (k:=1) (k':=1) (OL:=[(0,box c)]) (cI:=[(0,box c')]) (v0:=r) (dq:=.ptr 0 0 0::vs) hf hb he (DF hρ aq hP hN h) rfl rfl (af _)
  (λp hp=>by simp only[ay]at hp;subst hp;exact Ph _ _ hc)
  (λp hp=>by simp only[ay]at hp;subst hp;exact⟨Ph _ _ vf,rfl⟩)
  (V.AO (λ_ h=>by cases h) hr)
  (λv hv=>by
    rcases aB.1 hv with rfl|hv
    . rfl
    . exact V.dU (rn v hv))
  (C:=C) (π:=λ_=>id) (λi j hi hj _=>by omega) (λp hp=>by simp only[ay]at hp;subst hp;rw[zn3 _ _ hc];exact hg) (λi hi=>absurd hi (by omega)) (λ_ _=>hid)
 rw[V.jw hr]at key
 have e1:(V.ptr 0 0 0::vs).map (V.cq λ_=>id)=.ptr id 0 0::vs:=by
  rw[aR,map_id' λv hv=>V.jw (V.dU (rn v hv))];rfl
 rw[e1]at key
 have e2:Dn C 1 1 (λ_=>id) [(0,box c')]=C.wr id (box c'):=by
  show ({ H:=(C.H.set (news C.n 1 (λ_=>id) 0) ((box c').cq _)),n:=C.n+0,log:=[news C.n 1 (λ_=>id) 0]++C.log }:HS)=_;rw[zn3 _ _ vf];rfl
 grind
end
def H6 [iC σ](F:σ->Z V->Y (σ×V)):Spec:=λvs C =>
 match vs with
 |.ptr id 0 0::rest=>W (mf rest C) λq=>gd (Nat.blt id q.2.n) (W (q.2.H.get id) λo=>W (XV o) λc=>W (iC.dec c) λs=>gd (cu q.1) (W (F s (fI q.1)) λr=>some (r.2,q.2.wr id (box (iC.cells r.1)))))
 |_=>none
theorem zo4{o:Obj}{c:Z V}(h:XV o=some c):∃ n,o=.arr n 0 [c] true false false:=by
 unfold XV at h
 grind
section
variable {I:Nat->Value}{f:Nat} [iC σ]{F:σ->Z V->Y (σ×V)}
def aT.box{vs:Z V}{a8:HS}{v:V}{id n:Nat}{c:Z V}(hg:C.H.get id=some (.arr n 0 [c] true false false))(h:n=dA c->aT I P f vs C v a8)(hp:∃ rest,vs=.ptr id 0 0::rest):aT I P f vs C v a8:=by
 intro X w F μ xs hR hD hO hA;obtain⟨rest,rfl⟩:=hp;obtain⟨x,_,hx⟩:=hA.2 0 (.ptr id 0 0) rfl;obtain⟨m,hm,_⟩:=dV.yc I hx;have:=(hR.obj id _ hg m hm).hlen c (ay.2 rfl);exact h (by rw[dI];exact this.symm) X w F μ xs hR hD hO hA
def Valid.st (hf:wh P f) (h:∀ s vs r,cu vs=true->F s vs=some r->∀ (C:HS) (id:Nat),id<C.n->C.H.get id=some (J.box (iC.cells s))->aT I P f (.ptr id 0 0::vs) C r.2 (C.wr id (J.box (iC.cells r.1)))):Valid I P f (H6 F) where
 fn:=hf
 ok := by
  intro vs C v a8 hq;unfold H6 at hq;split at hq
  . rename_i id rest;simp only[bE,aA]at hq;obtain⟨⟨jt,cm⟩,hp,hid,o,ho,c,Oo,s,eM,Hd,r,hr,hq⟩:=hq;cases hq;rw[gz]at hid;obtain⟨n,rfl⟩:=zo4 Oo;rw[iC.bq _ _ eM]at ho;have D3:cu (fI jt)=true:=Cm Hd;intro X w F1 μ xs hR hD hO hA
    obtain⟨F',k1,k2,k3,k4,k5⟩:=CW (xs:=xs.toList.drop 1) hp hR (λi u hi=>by
     obtain⟨x,hx,hr⟩:=hA.2 (i+1) u (by simpa using hi)
     exact⟨x,by simpa [mZ]using hx,hr⟩)
    have vd:aT I P f (.ptr id 0 0::fI jt) cm r.2 (cm.wr id (J.box (iC.cells r.1))) :=
     aT.box ho (λe=>h s _ r D3 hr cm id hid (by rw[ho,e];rfl)) ⟨_,rfl⟩
    obtain⟨x0,w8,xa⟩:=hA.2 0 (.ptr id 0 0) rfl;refine(vd X w F' μ xs k1 (k2.cr k3.le hD) hO ⟨by rw[aX,mK,aL,k4];exact hA.1,λi u hi=>?_⟩).mono λe w' he=>?_
    . cases i with
      |zero=>cases hi;exact⟨x0,w8,k2.rep hR xa⟩
      | succ i =>
        rw[List.getElem?_cons_succ,mK,bC,bG]at hi;obtain⟨u0,h0,rfl⟩:=hi;obtain⟨x,hx,hr⟩:=k5 i u0 h0;exact⟨x,by simpa [mZ]using hx,.pure hr.norm⟩
    . cases e with
      | returned x =>
        obtain⟨F2,μ2,g1,g2,g3⟩:=he;exact⟨F2,μ2,g1,g2,k2.trans g3⟩
      |panicked c=>exact he
      |outgrown=>exact he
  . cases hq
 kept:=by
  intro vs C q hq;unfold H6 at hq;split at hq
  . simp only[bE,aA]at hq;obtain⟨⟨jt,cm⟩,hp,_,o,ho,c,Oo,s,eM,Hd,r,hr,hq⟩:=hq;cases hq;exact(xZ hp).trans (oM _ _ _)
  . cases hq
end
section
variable {γ δ:Type} [iC σ] [bo α] [bo β] [bo γ] [bo δ]
def zmA(F:σ->Y (σ×δ))(s:σ)(vs:Z V):Y (σ×V):=match vs with
 | []=>W (F s) λr=>some (r.1,enc r.2)
 |_=>none
def Iu(F:σ->α->Y (σ×δ))(s:σ)(vs:Z V):Y (σ×V):=match vs with
 | [x]=>W (bo.dec x) λa=>W (F s a) λr=>some (r.1,enc r.2)
 |_=>none
def Ir(F:σ->α->β->γ->Y (σ×δ))(s:σ)(vs:Z V):Y (σ×V):=match vs with
 | [x,y,z]=>W (bo.dec x) λa=>W (bo.dec y) λb=>W (bo.dec z) λc=>W (F s a b c) λr=>some (r.1,enc r.2)
 |_=>none
@[simp] def zIM {F:σ->Y (σ×δ)} {s:σ}:zmA F s []=W (F s) λr=>some (r.1,enc r.2):=(rfl)
@[simp] def zIL {F:σ->α->Y (σ×δ)} {s:σ} {x:V}:Iu F s [x]=W (bo.dec x) λa=>W (F s a) λr=>some (r.1,enc r.2):=(rfl)
@[simp] def zIK {F:σ->α->β->γ->Y (σ×δ)} {s:σ} {x y z:V}:Ir F s [x,y,z]=W (bo.dec x) λa=>W (bo.dec y) λb=>W (bo.dec z) λc=>W (F s a b c) λr=>some (r.1,enc r.2):=(rfl)
theorem zmz{F:σ->Y (σ×δ)}{s:σ}{vs:Z V}{r:σ×V}(h:zmA F s vs=some r):∃ q,vs=[]/\F s=some q/\r=(q.1,enc q.2):=by
 grind [zmA,aA]
def zmy{F:σ->α->Y (σ×δ)}{s:σ}{vs:Z V}{r:σ×V}(h:Iu F s vs=some r):∃ a q,vs=[enc a]/\F s a=some q/\r=(q.1,enc q.2):=by
 unfold Iu at h;split at h
 . simp only[aA]at h;obtain⟨a,ha,q,hq,h⟩:=h;cases h;exact⟨a,q,by rw[bo.bq _ _ ha],hq,rfl⟩
 . cases h
def zmx{F:σ->α->β->γ->Y (σ×δ)}{s:σ}{vs:Z V}{r:σ×V}(h:Ir F s vs=some r):∃ a b c q,vs=[enc a,enc b,enc c]/\F s a b c=some q/\r=(q.1,enc q.2):=by
 unfold Ir at h;split at h
 . simp only[aA]at h;obtain⟨a,ha,b,hb,c,hc,q,hq,h⟩:=h;cases h;exact⟨a,b,c,q,by rw[bo.bq _ _ ha,bo.bq _ _ hb,bo.bq _ _ hc],hq,rfl⟩
 . cases h
end
section
variable [iC σ]{F:σ->Z V->Y (σ×V)}{id:Nat}{rest:Z V}{K:V×HS->Prop}
@[simp] def zIJ:Cu (H6 F (.ptr id 0 0::rest) C) K=Cu (mf rest C) λq=>id<q.2.n/\Cu (q.2.H.get id) λo=>Cu (XV o) λc=>Cu (iC.dec c) λs=>cu q.1=true/\Cu (F s (fI q.1)) λr=>K (r.2,q.2.wr id (box (iC.cells r.1))):=by
  show ok (H6 F (.ptr id 0 0::rest) C) K=ok (mf rest C) λq=>id<q.2.n/\ok (q.2.H.get id) λo=>ok (XV o) λc=>ok (iC.dec c) λs=>cu q.1=true/\ok (F s (fI q.1)) λr=>K (r.2,q.2.wr id (box (iC.cells r.1)))
  simp only[H6,wz,iQ,dP,gz]
@[simp] def zHN {n:Nat} {c:Z V}:XV (.arr n 0 [c] true false false)=some c:=(rfl)
@[simp] def zMz {c:Z V}:box c=.arr (dA c) 0 [c] true false false:=(rfl)
end
def oV(r:Nat)(l:Z (Z V)):V :=
 match l with
 | []=>.aE
 |_::_=>.own r (l.length-1) 0 l.length none
def oO(sz:Nat)(l:Z (Z V)):Obj:=.arr sz (l.length-1) l false false true
def oH(r sz:Nat)(l:Z (Z V)):Z (Nat×Obj) :=
 match l with
 | []=>[]
 |_::_=>[(r,oO sz l)]
section
variable {sz:Nat}{x:Z V}{l:Z (Z V)}
@[simp] def zI5:oV r []=.aE:=(rfl)
@[simp] def zGs:oV r (x::l)=.own r l.length 0 (l.length+1) none:=(rfl)
@[simp] theorem LB:oH r sz []=[]:=(rfl)
@[simp] theorem wO:oH r sz (x::l)=[(r,.arr sz l.length (x::l) false false true)]:=(rfl)
def zgP:oO sz (x::l)=.arr sz l.length (x::l) false false true:=(rfl)
end
def NX(sz:Nat)(s:Z V->Y (Z (Z V))):Spec:=λvs C=>W (mf vs C) λq=>gd (et (cu q.1) (ig q.2 q.2.n)) (W (s (fI q.1)) λes =>
 gd (es.all λe=>e.all V.bM) (some (oV q.2.n es,bi (Nat.beq (dA es) 0) q.2 { H:=q.2.H.set q.2.n (oO sz es),n:=q.2.n+1,log:=q.2.n::q.2.log })))
section
variable {I:Nat->Value}{E:Env}{f:FuncId}{fn:Func}{sc:SC}{vs:Z V}{T:PT V}{es:Z (Z V)}{sz:Nat}
theorem Cc{f:V->V}{es:Z (Z V)}(h:∀ e∈es,∀ v∈e,f v=v):(es.map λe=>e.map f)=es:=by
 induction es with
 |nil=>rfl
 |cons a l ih=>rw[aR,map_id' (h a (aD ..)),ih λe he=>h e (aF _ he)]
theorem zrx (hρ:Good I) (aq:bH I E) (hP:E.P.follows .mixedOrders=true) (hN:vK E.P) (hf:E.P.funcs[f]?=some fn) (hb:fn.body.bind aU=some sc) (he:jE fn.ntmps vs 0 .leaf=some T) (hp:cu vs=true)
 (gA:(es.all λe=>e.all V.bM)=true)
 (h:Wp I E 0 fn.ntmps sc T { H:=dW [],n:=0,log:=[] } (Leaves E.P fn (aH 0 (oV 0 es) (oH 0 sz es))))  (hv:C.H.get C.n=none) :
 aT I E.P f vs C (oV C.n es) (bi (Nat.beq (dA es) 0) C { H:=C.H.set C.n (oO sz es),n:=C.n+1,log:=C.n::C.log }):=by
 have rn:=jM hp;have fv:∀ π:Nat->Nat,vs.map (V.cq π)=vs:=λπ=>map_id' λv hv=>V.jw (V.dU (rn v hv))
 cases es with
 | nil =>
   have key:=GA (k:=0) (k':=0) (OL:=[]) (cI:=[]) (v0:=oV 0 []) (dq:=vs) hf hb he (DF hρ aq hP hN h) rfl rfl (af _) (λp hp=>by cases hp) (λp hp=>by cases hp)
    (by rfl) (λv hv=>V.dU (rn v hv)) (C:=C) (π:=λi=>i) (λi j hi=>by omega) (λp hp=>by cases hp) (λi hi=>by omega) (λi hi=>by omega)
   rw[fv]at key;have e2:Dn C 0 0 (λi=>i) []=C:=rfl;rw[e2]at key;exact key
 | cons e es =>
   have e0:oV 0 (e::es)=.own 0 es.length 0 (es.length+1) none:=by simp
   have key:=GA (k:=0) (k':=1) (OL:=[]) (cI:=oH 0 sz (e::es)) (v0:=oV 0 (e::es)) (dq:=vs) hf hb he (DF hρ aq hP hN h) rfl rfl (aW _) (λp hp=>by cases hp)
    (λp hp=>by
      simp only[wO,ay]at hp;subst hp
      exact⟨gA,rfl⟩)
    (by rw[e0];rfl) (λv hv=>V.dU (rn v hv)) (C:=C) (π:=λi=>i) (λi j hi=>by omega) (λp hp=>by cases hp) (λi hi=>by
      have:i=0:=by omega
      subst this;exact hv) (λi hi=>by omega)
   rw[fv,e0]at key;have e1:(V.own 0 es.length 0 (es.length+1) none).cq (news C.n 0 λi=>i)=oV C.n (e::es):=by simp[news]
   rw[e1]at key
   have e2:Dn C 0 1 (λi=>i) (oH 0 sz (e::es))={ H:=C.H.set C.n (oO sz (e::es)),n:=C.n+1,log:=C.n::C.log }:=by
    have:((e::es).map λx=>x.map (V.jl (news C.n 0 λi=>i)))=e::es:=Cc λx hx v hv=>V.jP (aj.1 (aj.1 gA x hx) v hv)
    show ({ H:=C.H.set (news C.n 0 (λi=>i) 0) (.arr sz es.length ((e::es).map λx=>x.map (V.jl (news C.n 0 λi=>i))) false false true),n:=C.n+1,log:=[news C.n 0 (λi=>i) 0]++C.log }:HS)=_;rw[this];rfl
   simp_all
end
section
variable {I:Nat->Value}{f:Nat}{sz:Nat}{s:Z V->Y (Z (Z V))}
def Valid.row (hf:wh P f) (h:∀ vs es,cu vs=true->s vs=some es->∀ C:HS,C.H.get C.n=none->aT I P f vs C (oV C.n es) (bi (Nat.beq (dA es) 0) C { H:=C.H.set C.n (oO sz es),n:=C.n+1,log:=C.n::C.log })):Valid I P f (NX sz s) where
 fn:=hf
 ok := by
  intro vs C v a8 hq;simp only[NX,bE,aA,dx]at hq;obtain⟨⟨jt,cm⟩,hp,⟨Hd,rE⟩,es,gA,_,hq⟩:=hq;have hq':=hq;cases hq;rw[aJ]at rE;intro X w F μ xs hR hD hO hA;obtain⟨F',k1,k2,k3,k4,k5⟩:=CW (xs:=xs.toList) hp hR (λi u hi=>by simpa using hA.2 i u hi);have hc:=(h _ _ (Cm Hd) gA cm rE).norm Hd;refine(hc X w F' μ xs k1 (k2.cr k3.le hD) hO ⟨by rw[k4];exact hA.1,λi u hi=>?_⟩).mono λe w' he=>?_
  . obtain⟨x,hx,hr⟩:=k5 i u hi;exact⟨x,by simpa using hx,.pure hr⟩
  . cases e with
    | returned x =>
      obtain⟨F2,μ2,g1,g2,g3⟩:=he;exact⟨F2,μ2,g1,g2,k2.trans g3⟩
    |panicked c=>exact he
    |outgrown=>exact he
 kept:=by
  intro vs C q hq;simp only[NX,bE,aA,dx]at hq;obtain⟨⟨jt,cm⟩,hp,⟨_,rE⟩,es,_,_,hq⟩:=hq;cases hq;rw[aJ]at rE;refine(xZ hp).trans ?_;show Kept cm (bi (Nat.beq (dA es) 0) cm _);rw[iO];split
  . exact .refl _
  . refine⟨λk hk=>aF _ hk,λk o ho hn=>?_,mF _,λk hk=>?_⟩
    . show (cm.H.set cm.n _).get k=_;rw[PT.cK];split
      . rename_i e;subst e;rw[rE]at ho;cases ho
      . exact ho
    . show (cm.H.set cm.n _).get k≠none;rw[PT.cK];split
      . simp
      . exact hk
end
section
variable {sz:Nat}{s:Z V->Y (Z (Z V))}{vs:Z V}{K:V×HS->Prop}
@[simp] def zF1:Cu (NX sz s vs C) K=Cu (mf vs C) λq=>(cu q.1=true/\q.2.H.get q.2.n=none)/\Cu (s (fI q.1)) λes=>(es.all λe=>e.all V.bM)=true/\K (oV q.2.n es,bi (Nat.beq (dA es) 0) q.2 { H:=q.2.H.set q.2.n (oO sz es),n:=q.2.n+1,log:=q.2.n::q.2.log }):=by
  show ok (NX sz s vs C) K=ok (mf vs C) λq=>(cu q.1=true/\q.2.H.get q.2.n=none)/\ok (s (fI q.1)) λes=>(es.all λe=>e.all V.bM)=true/\K (oV q.2.n es,bi (Nat.beq (dA es) 0) q.2 { H:=q.2.H.set q.2.n (oO sz es),n:=q.2.n+1,log:=q.2.n::q.2.log })
  simp only[NX,wz,iQ,dP,dx,aJ]
end
def zgH(sz m id g n:Nat)(o:Obj):Y (Z (Z V)) :=
 match o with
 |.arr s g' es false false true=>gd (et (Nat.beq s sz) (et (Nat.beq g g') (et (Nat.beq n (dA es)) (et (Nat.beq (g+1) n) (et (Nat.blt id m) (es.all λe=>e.all V.bM)))))) (some es)
 |_=>none
def rowOf(sz:Nat)(C:HS)(v:V):Y (Z (Z V)) :=
 match v with
 |.aE=>some []
 |.own id g 0 n none=>W (C.H.get id) λo=>zgH sz C.n id g n o
 |_=>none
def rC(v:V):Nat :=
 match v with
 |.own id _ _ _ _=>id
 |_=>0
def zf(sz:Nat)(v:V)(es cU:Z (Z V))(C:HS):V×HS :=
 match es with
 | []=>(oV C.n cU,bi (Nat.beq (dA cU) 0) C { H:=C.H.set C.n (oO sz cU),n:=C.n+1,log:=C.n::C.log })
 |_::_=>(oV (rC v) cU,C.wr (rC v) (oO sz cU))
def CN(sz:Nat)(F:Z (Z V)->Z V->Y (Z (Z V)×Z V))(K:V->Z V->V):Spec:=λvs C =>
 match vs with
 | v :: rest=>W (mf rest C) fun q=>gd (et (cu q.1) (ig q.2 q.2.n)) (W (rowOf sz q.2 v) fun es=>W (F es (fI q.1)) fun r =>
     gd (et (r.1.all λe=>e.all V.bM) (et (r.2.all λv=>v.zM (λ_=>false)) (Nat.ble (dA es) (dA r.1)))) (some (K (zf sz v es r.1 q.2).1 r.2,(zf sz v es r.1 q.2).2)))
 |_=>none
theorem Ct {sz:Nat}  {v:V} {es:Z (Z V)} (h:rowOf sz C v=some es):(v=.aE/\es=[])\/∃ id,v=oV id es/\es≠[]/\C.H.get id=some (oO sz es)/\id<C.n/\(es.all λe=>e.all V.bM)=true:=by
 unfold rowOf at h;split at h
 . cases h;exact .inl ⟨rfl,rfl⟩
 . rename_i id g n;simp only[aA]at h;obtain⟨o,ho,h⟩:=h;unfold zgH at h;split at h
   . rename_i s g' cU;simp only[bE,dx,beq_true,gz]at h;obtain⟨⟨rfl,rfl,rfl,h4,h5,h6⟩,h⟩:=h;cases h;refine .inr ⟨id,?_,?_,?_,h5,h6⟩
     . cases es with
       |nil=>simp[dI]at h4
       | cons e es =>
         simp_all
     . rintro rfl;simp[dI]at h4
     . rw[ho];rw[dI]at h4;unfold oO;rw[<- h4];rfl
   . cases h
 . cases h
section
variable {I:Nat->Value}{E:Env}{f:FuncId}{fn:Func}{sc:SC}{vs:Z V}{T T':PT V}{es cU:Z (Z V)}{rs:Z V}{sz:Nat}
def Np(v:V)(_:Z V):V:=v
def zDB(v:V)(rs:Z V):V:=.tuple (v::rs)
def CY(h:(es.all λe=>e.all V.bM)=true):(oO sz es).cq π=oO sz es:=by
 show Obj.arr _ _ (es.map λe=>e.map (V.jl π)) _ _ _=_;rw[Cc λx hx v hv=>V.jP (aj.1 (aj.1 h x hx) v hv)];rfl
def uo(h:es≠[]):oV r es=.own r (es.length-1) 0 es.length none:=by
 cases es with
 |nil=>exact absurd rfl h
 |cons x l=>rfl
def jy(h:es≠[]):oH r sz es=[(r,oO sz es)]:=by
 cases es with
 |nil=>exact absurd rfl h
 |cons x l=>rfl
def zxa (hρ:Good I) (aq:bH I E) (hP:E.P.follows .mixedOrders=true) (hN:vK E.P) {K:V->Z V->V} (hK:K=Np\/K=zDB) (hf:E.P.funcs[f]?=some fn) (hb:fn.body.bind aU=some sc) (he:jE fn.ntmps (oV 0 es::vs) 0 .leaf=some T) (hp:cu vs=true)
 (h0:(es.all λe=>e.all V.bM)=true) (M:(cU.all λe=>e.all V.bM)=true) (At:(rs.all λv=>v.zM (λ_=>false))=true) (hle:es.length<=cU.length)
 (h:Wp I E (if es=[]then 0 else 1) fn.ntmps sc T { H:=dW (oH 0 sz es),n:=if es=[]then 0 else 1,log:=[] } (Leaves E.P fn (aH (if es=[]then 0 else 1) (K (oV 0 cU) rs) (oH 0 sz cU))))
  {v:V} (hv:rowOf sz C v=some es) (rE:C.H.get C.n=none):aT I E.P f (v::vs) C (K (zf sz v es cU C).1 rs) (zf sz v es cU C).2:=by
 have rn:=jM hp;have fv:∀ π:Nat->Nat,vs.map (V.cq π)=vs:=λπ=>map_id' λv hv=>V.jw (V.dU (rn v hv))
 have zJM:∀ π:Nat->Nat,rs.map (V.jl π)=rs:=λπ=>map_id' λv hv=>V.uN (aj.1 At v hv)
 have hKr:∀ (π:Nat->Nat) (r:Nat),(K (oV r cU) rs).cq π=K (oV (π r) cU) rs:=by
  intro π r;rcases hK with rfl|rfl
  . cases cU<;>rfl
  . show V.tuple ((oV r cU::rs).map (V.jl π))=_;rw[aR,zJM];cases cU<;>rfl
 have zKl:(K (oV 0 cU) rs).tJ (cr (oH 0 sz cU))=true:=by
  have Ax:∀ v∈rs,v.zM (cr (oH 0 sz cU))=true:=λv hv=>V.I6 (λ_ h=>by cases h) (aj.1 At v hv)
  rcases hK with rfl|rfl
  . cases cU<;>rfl
  . show ((oV 0 cU::rs).all (V.zM (cr (oH 0 sz cU))))=true;rw[iW,aQ];exact⟨by cases cU<;>rfl,aj.2 Ax⟩
 have gw:∀ p∈oH 0 sz cU,p.2.in (cr (oH 0 sz cU))=true/\p.2.fz=false:=by
  intro p hp
  cases cU with
  |nil=>cases hp
  | cons a l =>
    simp only[wO,ay]at hp;subst hp;exact⟨M,rfl⟩
 rcases Ct hv with⟨rfl,rfl⟩|⟨id,rfl,cb,hg,hid,_⟩
 . rw [if_pos rfl]at h
   cases cU with
   | nil =>
     have key:=GA (k:=0) (k':=0) (OL:=oH 0 sz []) (cI:=oH 0 sz []) (dq:=.aE::vs) hf hb he (DF hρ aq hP hN h) rfl rfl (af _) (λp hp=>by cases hp) gw zKl
      (λv hv=>by
        rcases aB.1 hv with rfl|hv
        . rfl
        . exact V.dU (rn v hv)) (C:=C) (π:=λi=>i) (λi j hi=>by omega) (λp hp=>by cases hp) (λi hi=>by omega) (λi hi=>by omega)
     rw[aR,fv,hKr]at key;exact key
   | cons a l =>
     have key:=GA (k:=0) (k':=1) (OL:=oH 0 sz []) (cI:=oH 0 sz (a::l)) (dq:=.aE::vs) hf hb he (DF hρ aq hP hN h) rfl rfl (aW _) (λp hp=>by cases hp) gw zKl
      (λv hv=>by
        rcases aB.1 hv with rfl|hv
        . rfl
        . exact V.dU (rn v hv)) (C:=C) (π:=λi=>i) (λi j hi=>by omega) (λp hp=>by cases hp) (λi hi=>by
          have:i=0:=by omega
          subst this;exact rE) (λi hi=>by omega)
     rw[aR,fv,hKr]at key
     have e2:Dn C 0 1 (λi=>i) (oH 0 sz (a::l))={ H:=C.H.set C.n (oO sz (a::l)),n:=C.n+1,log:=C.n::C.log }:=by
      show ({ H:=C.H.set (news C.n 0 (λi=>i) 0) ((oO sz (a::l)).cq _),n:=C.n+1,log:=[news C.n 0 (λi=>i) 0]++C.log }:HS)=_;rw[CY M];rfl
     rw[e2]at key;exact key
 . rw [if_neg cb]at h
   have hne':cU≠[]:=by
    intro e;rw[e]at hle;exact cb (dM (by simpa using hle))
   have key:=GA (k:=1) (k':=1) (OL:=oH 0 sz es) (cI:=oH 0 sz cU) (dq:=oV 0 es::vs) hf hb he (DF hρ aq hP hN h) (by rw[jy cb];rfl) (by rw[jy hne'];rfl) (af _)
    (λp hp=>by
      rw[jy cb]at hp;simp only[ay]at hp
      subst hp;exact h0) gw zKl
    (λv hv=>by
      rcases aB.1 hv with rfl|hv
      . rw[uo cb,jy cb];rfl
      . exact V.dU (rn v hv)) (C:=C) (π:=λ_=>id) (λi j hi hj _=>by omega) (λp hp=>by
        rw[jy cb]at hp;simp only[ay]at hp;subst hp
        rw[CY h0];exact hg) (λi hi=>by omega) (λ_ _=>hid)
   rw[aR,fv,hKr]at key;have e1:(oV 0 es).cq (λ_=>id)=oV id es:=by rw[uo cb,uo cb];rfl
   rw[e1]at key
   have e2:Dn C 1 1 (λ_=>id) (oH 0 sz cU)=C.wr id (oO sz cU):=by
    rw[jy hne'];show ({ H:=C.H.set (news C.n 1 (λ_=>id) 0) ((oO sz cU).cq _),n:=C.n+0,log:=[news C.n 1 (λ_=>id) 0]++C.log }:HS)=_;rw[CY M];rfl
   rw[e2]at key
   have e3:zf sz (oV id es) es cU C=(oV id cU,C.wr id (oO sz cU)):=by
    cases es with
    |nil=>exact absurd rfl cb
    |cons a l=>rfl
   rw[e3];exact key
end
section
variable {I:Nat->Value}{f:Nat}{sz:Nat}{F:Z (Z V)->Z V->Y (Z (Z V)×Z V)}{K:V->Z V->V}
def Valid.io (hf:wh P f) (h:∀ es vs r,cu vs=true->(es.all λe=>e.all V.bM)=true->F es vs=some r->(r.1.all λe=>e.all V.bM)=true->(r.2.all λv=>v.zM (λ_=>false))=true->es.length<=r.1.length ->
 ∀ (C:HS) (v:V),rowOf sz C v=some es->C.H.get C.n=none->aT I P f (v::vs) C (K (zf sz v es r.1 C).1 r.2) (zf sz v es r.1 C).2):Valid I P f (CN sz F K) where
 fn:=hf
 ok := by
  intro vs C v a8 hq;unfold CN at hq;split at hq
  . rename_i v0 rest;simp only[bE,aA,dx]at hq;obtain⟨⟨jt,cm⟩,hp,⟨Hd,rE⟩,es,gA,r,hr,⟨M,O,h3⟩,hq⟩:=hq;cases hq;rw[aJ]at rE;rw[gY,dI,dI]at h3
    have h0:(es.all λe=>e.all V.bM)=true:=by
     rcases Ct gA with⟨_,rfl⟩|⟨_,_,_,_,_,h⟩
     . rfl
     . exact h
    intro X w F1 μ xs hR hD hO hA
    obtain⟨F',k1,k2,k3,k4,k5⟩:=CW (xs:=xs.toList.drop 1) hp hR (λi u hi=>by
     obtain⟨x,hx,hr⟩:=hA.2 (i+1) u (by simpa using hi)
     exact⟨x,by simpa [mZ]using hx,hr⟩)
    have vd:=h es _ r (Cm Hd) h0 hr M O h3 cm v0 gA rE;obtain⟨x0,w8,xa⟩:=hA.2 0 v0 rfl;refine(vd X w F' μ xs k1 (k2.cr k3.le hD) hO ⟨by rw[aX,mK,aL,k4];exact hA.1,λi u hi=>?_⟩).mono λe w' he=>?_
    . cases i with
      |zero=>cases hi;exact⟨x0,w8,k2.rep hR xa⟩
      | succ i =>
        rw[List.getElem?_cons_succ,mK,bC,bG]at hi;obtain⟨u0,h0,rfl⟩:=hi;obtain⟨x,hx,hr⟩:=k5 i u0 h0;exact⟨x,by simpa [mZ]using hx,.pure hr.norm⟩
    . cases e with
      | returned x =>
        obtain⟨F2,μ2,g1,g2,g3⟩:=he;exact⟨F2,μ2,g1,g2,k2.trans g3⟩
      |panicked c=>exact he
      |outgrown=>exact he
  . cases hq
 kept := by
  intro vs C q hq;unfold CN at hq;split at hq
  . rename_i v0 rest;simp only[bE,aA,dx]at hq;obtain⟨⟨jt,cm⟩,hp,⟨_,rE⟩,es,gA,r,hr,_,hq⟩:=hq;cases hq;rw[aJ]at rE;refine(xZ hp).trans ?_;unfold zf
    cases es with
    | nil =>
      show Kept cm (bi (Nat.beq (dA r.1) 0) cm _);rw[iO];split
      . exact .refl _
      . refine⟨λk hk=>aF _ hk,λk o ho hn=>?_,mF _,λk hk=>?_⟩
        . show (cm.H.set cm.n _).get k=_;rw[PT.cK];split
          . rename_i e;subst e;rw[rE]at ho;cases ho
          . exact ho
        . show (cm.H.set cm.n _).get k≠none;rw[PT.cK];split
          . simp
          . exact hk
    |cons a l=>exact oM ..
  . cases hq
end
section
variable {sz:Nat}{F:Z (Z V)->Z V->Y (Z (Z V)×Z V)}{K:V->Z V->V}{v:V}{rest:Z V}{Q:V×HS->Prop}{x:Z V}{l:Z (Z V)}
@[simp] def zJs:Cu (CN sz F K (v::rest) C) Q=Cu (mf rest C) λq=>(cu q.1=true/\q.2.H.get q.2.n=none)/\Cu (rowOf sz q.2 v) λes=>Cu (F es (fI q.1)) λr =>
 ((r.1.all λe=>e.all V.bM)=true/\(r.2.all λv=>v.zM (λ_=>false))=true/\es.length<=r.1.length)/\Q (K (zf sz v es r.1 q.2).1 r.2,(zf sz v es r.1 q.2).2):=by
  show ok (CN sz F K (v::rest) C) Q=ok (mf rest C) λq=>(cu q.1=true/\q.2.H.get q.2.n=none)/\ok (rowOf sz q.2 v) λes=>ok (F es (fI q.1)) λr =>
   ((r.1.all λe=>e.all V.bM)=true/\(r.2.all λv=>v.zM (λ_=>false))=true/\es.length<=r.1.length)/\Q (K (zf sz v es r.1 q.2).1 r.2,(zf sz v es r.1 q.2).2)
  simp only[CN,wz,iQ,dP,dx,aJ,gY,dI]
@[simp] def zwo:rowOf sz C .aE=some []:=(rfl)
@[simp] def zzg:zf sz v [] l C=(oV C.n l,bi (Nat.beq (dA l) 0) C { H:=C.H.set C.n (oO sz l),n:=C.n+1,log:=C.n::C.log }):=(rfl)
@[simp] def zzf {n:Nat}  {e:Z V} {es:Z (Z V)}:zf sz (.own i g o n c) (e::es) l C=(oV i l,C.wr i (oO sz l)):=(rfl)
@[simp] def zzh {n:Nat}:rowOf sz C (.own i g 0 n none)=W (C.H.get i) λo=>zgH sz C.n i g n o:=(rfl)
@[simp] def zF2 {m n s g':Nat} {es:Z (Z V)}:zgH sz m i g n (.arr s g' es false false true)=gd (et (Nat.beq s sz) (et (Nat.beq g g') (et (Nat.beq n (dA es)) (et (Nat.beq (g+1) n) (et (Nat.blt i m) (es.all λe=>e.all V.bM)))))) (some es):=(rfl)
attribute [simp] zgP
end
end Go.J
