import Derived.Test.YtocdkgjpdnamlaaGreatJK
import Derived.Test.YtocdkgjpdnamlaaGreatJI
set_option linter.all false
noncomputable section
/- zJb,zFk,vX. -/
namespace Go.J
open Enc (enc)
structure Scheme where
 count:Int
 type:Ty
 deriving DecidableEq
def iL(a:Scheme):List V:=[.int .i64 a.count,.int .i64 a.type.kind,.str a.type.name,.int .i64 a.type.id,.int .i64 a.type.home,.sl (a.type.args.map ax) false]
def uU(c:List V):Option Scheme :=
 match c with
 | [.int .i64 x0,.int .i64 x1,.str x2,.int .i64 x3,.int .i64 x4,.sl x5 false]=>ob (bQ x5) fun y5=>some ⟨x0,(Ty.mk x1 x2 x3 x4 y5)⟩
 |_=>none
theorem Ee{x0:Int}{x1:Int}{x2:List Nat}{x3:Int}{x4:Int}{x5:List (List V)}:uU [.int .i64 x0,.int .i64 x1,.str x2,.int .i64 x3,.int .i64 x4,.sl x5 false]=ob (bQ x5) fun y5=>some ⟨x0,(Ty.mk x1 x2 x3 x4 y5)⟩:=(rfl)
instance:fB Scheme where
 cells:=iL
 dec:=uU
 bV a:=by simp only[iL,Ee,tQ,bP,Ty.eta]
 aU c a h:=by
  unfold uU at h;split at h
  . simp only[af]at h;obtain⟨y5,zq1,h⟩:=h;cases h;have zq1:=eZ zq1
    subst_vars
    rfl
  . cases h
 aI a:=rfl
 norm a:=by simp only[iL,dB,dL,tu]
instance:Enc Scheme:=qF
@[simp] theorem zpi:@fB.cells Scheme _=iL:=(rfl)
@[simp] theorem zmB:@fB.dec Scheme _=uU:=(rfl)
@[simp] theorem zvX (a:Scheme):enc a=.agg (iL a):=(rfl)
@[simp] theorem zv6 {c:List V}:Enc.dec (α:=Scheme) (.agg c)=uU c:=(rfl)
@[simp] theorem zr5 (l:List Scheme):bQ (l.map iL)=some l:=iA l
@[simp] theorem zqw (l:List Scheme):eY (l.map iL)=l.map iL:=fw l
@[simp] theorem Lp (l:List Scheme):((l.map iL).all fun e=>e.all V.aI)=true:=fJ l
@[simp] theorem zrV (l:List Scheme):enc l=.sl (l.map iL) false:=(rfl)
@[simp] theorem zr1 {es:List (List V)}:Enc.dec (α:=List Scheme) (.sl es false)=bQ es:=(rfl)
@[simp] theorem zxk (l:List Scheme):sizes 6 (l.map iL)=true:=by rw[fE];intro e he;obtain⟨a,_,rfl⟩:=List.mem_map.1 he;rfl
@[simp] theorem zzS (l:List Scheme):dw (l.map iL)=true:=dV Lp
@[simp] theorem zvS (a:Scheme):Scheme.mk a.count a.type=a:=(rfl)
attribute [simp] Ee iL
structure Entry where
 name:List Nat
 scheme:Scheme
 deriving DecidableEq
def jD(a:Entry):List V:=[.str a.name,.int .i64 a.scheme.count,.int .i64 a.scheme.type.kind,.str a.scheme.type.name,.int .i64 a.scheme.type.id,.int .i64 a.scheme.type.home,.sl (a.scheme.type.args.map ax) false]
def xP(c:List V):Option Entry :=
 match c with
 | [.str x0,.int .i64 x1,.int .i64 x2,.str x3,.int .i64 x4,.int .i64 x5,.sl x6 false]=>ob (bQ x6) fun y6=>some ⟨x0,⟨x1,(Ty.mk x2 x3 x4 x5 y6)⟩⟩
 |_=>none
theorem Iu{x0:List Nat}{x1:Int}{x2:Int}{x3:List Nat}{x4:Int}{x5:Int}{x6:List (List V)}:xP [.str x0,.int .i64 x1,.int .i64 x2,.str x3,.int .i64 x4,.int .i64 x5,.sl x6 false]=ob (bQ x6) fun y6=>some ⟨x0,⟨x1,(Ty.mk x2 x3 x4 x5 y6)⟩⟩:=(rfl)
instance:fB Entry where
 cells:=jD
 dec:=xP
 bV a:=by simp only[jD,Iu,tQ,bP,Ty.eta]
 aU c a h:=by
  unfold xP at h;split at h
  . simp only[af]at h;obtain⟨y6,zCI,h⟩:=h;cases h;have zCI:=eZ zCI
    subst_vars
    rfl
  . cases h
 aI a:=rfl
 norm a:=by simp only[jD,dB,dL,tu]
instance:Enc Entry:=qF
@[simp] theorem zsd:@fB.cells Entry _=jD:=(rfl)
@[simp] theorem zpm:@fB.dec Entry _=xP:=(rfl)
@[simp] theorem zy3 (a:Entry):enc a=.agg (jD a):=(rfl)
@[simp] theorem zzc {c:List V}:Enc.dec (α:=Entry) (.agg c)=xP c:=(rfl)
@[simp] theorem zwc (l:List Entry):bQ (l.map jD)=some l:=iA l
@[simp] theorem zuh (l:List Entry):eY (l.map jD)=l.map jD:=fw l
@[simp] theorem Ou (l:List Entry):((l.map jD).all fun e=>e.all V.aI)=true:=fJ l
@[simp] theorem zvZ (l:List Entry):enc l=.sl (l.map jD) false:=(rfl)
@[simp] theorem zv8 {es:List (List V)}:Enc.dec (α:=List Entry) (.sl es false)=bQ es:=(rfl)
@[simp] theorem zA8 (l:List Entry):sizes 7 (l.map jD)=true:=by rw[fE];intro e he;obtain⟨a,_,rfl⟩:=List.mem_map.1 he;rfl
@[simp] theorem zFG (l:List Entry):dw (l.map jD)=true:=dV Ou
@[simp] theorem zyV (a:Entry):Entry.mk a.name a.scheme=a:=(rfl)
attribute [simp] Iu jD
structure Ctor where
 pos:Int
 name:List Nat
 fields:List Ty
 deriving DecidableEq
def kE(a:Ctor):List V:=[.int .i64 a.pos,.str a.name,.sl (a.fields.map ax) false]
def BS(c:List V):Option Ctor :=
 match c with
 | [.int .i64 x0,.str x1,.sl x2 false]=>ob (bQ x2) fun y2=>some ⟨x0,x1,y2⟩
 |_=>none
theorem Kw{x0:Int}{x1:List Nat}{x2:List (List V)}:BS [.int .i64 x0,.str x1,.sl x2 false]=ob (bQ x2) fun y2=>some ⟨x0,x1,y2⟩:=(rfl)
instance:fB Ctor where
 cells:=kE
 dec:=BS
 bV a:=by simp only[kE,Kw,tQ,bP,Ty.eta]
 aU c a h:=by
  unfold BS at h;split at h
  . simp only[af]at h;obtain⟨y2,hy2,h⟩:=h;cases h;have hy2:=eZ hy2
    subst_vars
    rfl
  . cases h
 aI a:=rfl
 norm a:=by simp only[kE,dB,dL,tu]
instance:Enc Ctor:=qF
@[simp] theorem zwm:@fB.cells Ctor _=kE:=(rfl)
@[simp] theorem zsh:@fB.dec Ctor _=BS:=(rfl)
@[simp] theorem zE5 (a:Ctor):enc a=.agg (kE a):=(rfl)
@[simp] theorem zFe {c:List V}:Enc.dec (α:=Ctor) (.agg c)=BS c:=(rfl)
@[simp] theorem Z9 (l:List Ctor):bQ (l.map kE)=some l:=iA l
@[simp] theorem ZA (l:List Ctor):eY (l.map kE)=l.map kE:=fw l
@[simp] theorem Rh (l:List Ctor):((l.map kE).all fun e=>e.all V.aI)=true:=fJ l
@[simp] theorem zy1 (l:List Ctor):enc l=.sl (l.map kE) false:=(rfl)
@[simp] theorem zza {es:List (List V)}:Enc.dec (α:=List Ctor) (.sl es false)=bQ es:=(rfl)
@[simp] theorem zGp (l:List Ctor):sizes 3 (l.map kE)=true:=by rw[fE];intro e he;obtain⟨a,_,rfl⟩:=List.mem_map.1 he;rfl
@[simp] theorem zI2 (l:List Ctor):dw (l.map kE)=true:=dV Rh
@[simp] theorem zET (a:Ctor):Ctor.mk a.pos a.name a.fields=a:=(rfl)
attribute [simp] Kw kE
structure Decl where
 pos:Int
 name:List Nat
 params:List (List Nat)
 ctors:List Ctor
 deriving DecidableEq
def ed(a:Decl):List V:=[.int .i64 a.pos,.str a.name,.sl (a.params.map (encS)) false,.sl (a.ctors.map kE) false]
def BR(c:List V):Option Decl :=
 match c with
 | [.int .i64 x0,.str x1,.sl x2 false,.sl x3 false]=>ob (bQ x2) fun y2=>ob (bQ x3) fun y3=>some ⟨x0,x1,y2,y3⟩
 |_=>none
theorem Kv{x0:Int}{x1:List Nat}{x2:List (List V)}{x3:List (List V)}:BR [.int .i64 x0,.str x1,.sl x2 false,.sl x3 false]=ob (bQ x2) fun y2=>ob (bQ x3) fun y3=>some ⟨x0,x1,y2,y3⟩:=(rfl)
instance:fB Decl where
 cells:=ed
 dec:=BR
 bV a:=by simp only[ed,Kv,Z9,zkK,bP,Ty.eta]
 aU c a h:=by
  unfold BR at h;split at h
  . simp only[af]at h;obtain⟨y2,hy2,y3,hy3,h⟩:=h;cases h;have hy2:=eZ hy2;have hy3:=eZ hy3
    subst_vars
    rfl
  . cases h
 aI a:=rfl
 norm a:=by simp only[ed,dB,dL,ZA,zcI]
instance:Enc Decl:=qF
@[simp] theorem zwl:@fB.cells Decl _=ed:=(rfl)
@[simp] theorem zsg:@fB.dec Decl _=BR:=(rfl)
@[simp] theorem zE4 (a:Decl):enc a=.agg (ed a):=(rfl)
@[simp] theorem zFd {c:List V}:Enc.dec (α:=Decl) (.agg c)=BR c:=(rfl)
@[simp] theorem zze (l:List Decl):bQ (l.map ed)=some l:=iA l
@[simp] theorem zym (l:List Decl):eY (l.map ed)=l.map ed:=fw l
@[simp] theorem Rf (l:List Decl):((l.map ed).all fun e=>e.all V.aI)=true:=fJ l
@[simp] theorem zy0 (l:List Decl):enc l=.sl (l.map ed) false:=(rfl)
@[simp] theorem zy9 {es:List (List V)}:Enc.dec (α:=List Decl) (.sl es false)=bQ es:=(rfl)
@[simp] theorem zGo (l:List Decl):sizes 4 (l.map ed)=true:=by rw[fE];intro e he;obtain⟨a,_,rfl⟩:=List.mem_map.1 he;rfl
@[simp] theorem zI1 (l:List Decl):dw (l.map ed)=true:=dV Rf
@[simp] theorem zES (a:Decl):Decl.mk a.pos a.name a.params a.ctors=a:=(rfl)
attribute [simp] Kv ed
end Go.J
/- What small functions of types compute. -/
namespace Go.J
open Enc (enc)
def LM(n m:Int):Int:=if m<1 then 0 else n % m
theorem OG(n m:Int):0<=LM n m:=by
 unfold LM;split
 . omega
 . exact Int.emod_nonneg _ (by omega)
theorem zol{n m:Int}(h:1<=m):LM n m<m:=by
 unfold LM;rw[if_neg (by omega)];exact Int.emod_lt_of_pos _ (by omega)
def nR(n:List Nat)(l:List Ty):Ty:=.mk 4 n 0 0 l
def aM(i:Int):Ty:=.mk 1 [] i 0 []
def zti(i:Int):Ty:=.mk 2 [] i 0 []
def KZ(h i:Int):Ty:=.mk 3 [] i h []
def FW:Ty:=nR [73,110,116] []
def lG(a b:Ty):Ty:=nR [45,62] [a,b]
theorem Ny(n m:Int):n % m=n.tmod m % m:=by
 have h:=Int.mul_tdiv_add_tmod n m
 calc n % m=(m*n.tdiv m+n.tmod m) % m:=by rw[h]
  _=n.tmod m % m:=by rw[Int.add_comm,Int.add_mul_emod_self_left]
theorem tmod_neg{n m:Int}(hm:1<=m)(h:n.tmod m<0):n % m=n.tmod m+m:=by
 have h1:=Int.lt_tmod_of_pos n (show 0<m by omega);rw[Ny,<- Int.add_emod_right,Int.emod_eq_of_lt (by omega) (by omega)]
theorem zbE{n m:Int}(hm:1<=m)(h:0<=n.tmod m):n % m=n.tmod m:=by
 rw[Ny,Int.emod_eq_of_lt h (Int.tmod_lt_of_pos n (by omega))]
def Tp.next(t:Tp)(n:Int):Tp×Int :=
 if t.l.length<=t.i then (t,0)else ({ t with i:=t.i+1 },LM (t.l.getD t.i.toNat 0) n)
def dK(n:Nat):List Ty:=(List.range n).map fun i=>aM (i:Nat)
theorem QC(n:Nat):dK (n+1)=dK n++[aM (n:Nat)]:=by simp[dK,List.range_succ]
@[simp] theorem YN (n:Nat):(dK n).length=n:=by simp[dK]
end Go.J
/- The data vX that programs are made of;what a tape makes. -/
namespace Go.J
open Enc (enc)
def Fg:List Decl:=[⟨0,[66,111,111,108],[],[⟨12,[84,114,117,101],[]⟩,⟨19,[70,97,108,115,101],[]⟩]⟩,
 ⟨26,[79,112,116,105,111,110],[[97]],[⟨42,[78,111,110,101],[]⟩,⟨49,[83,111,109,101],[.mk 5 [97] 0 0 []]⟩]⟩,
 ⟨57,[76,105,115,116],[[97]],[⟨71,[78,105,108],[]⟩,⟨77,[67,111,110,115],[.mk 5 [97] 0 0 [],.mk 4 [76,105,115,116] 0 0 [.mk 5 [97] 0 0 []]]⟩]⟩,
 ⟨93,[80,97,105,114],[[97],[98]],[⟨109,[80,97,105,114],[.mk 5 [97] 0 0 [],.mk 5 [98] 0 0 []]⟩]⟩,
 ⟨119,[78,97,116],[],[⟨130,[90,101,114,111],[]⟩,⟨137,[83,117,99,99],[.mk 4 [78,97,116] 0 0 []]⟩]⟩,
 ⟨147,[70,117,110],[[97],[98]],[⟨162,[70,117,110],[.mk 4 [45,62] 0 0 [.mk 5 [97] 0 0 [],.mk 5 [98] 0 0 []]]⟩]⟩,
 ⟨176,[84,119,111],[[97]],[⟨189,[66,111,116,104],[.mk 5 [97] 0 0 [],.mk 5 [97] 0 0 []]⟩,⟨200,[79,110,101],[.mk 4 [79,112,116,105,111,110] 0 0 [.mk 5 [97] 0 0 []]]⟩]⟩]
def zNk:V:=.sl [[.int .i64 0,.str [66,111,111,108],.snil,.sl [[.int .i64 12,.str [84,114,117,101],.snil],[.int .i64 19,.str [70,97,108,115,101],.snil]] false],[.int .i64 26,.str [79,112,116,105,111,110],.sl [[.str [97]]] false,.sl [[.int .i64 42,.str [78,111,110,101],.snil],[.int .i64 49,.str [83,111,109,101],.sl [[.int .i64 5,.str [97],.int .i64 0,.int .i64 0,.snil]] false]] false],[.int .i64 57,.str [76,105,115,116],.sl [[.str [97]]] false,.sl [[.int .i64 71,.str [78,105,108],.snil],[.int .i64 77,.str [67,111,110,115],.sl [[.int .i64 5,.str [97],.int .i64 0,.int .i64 0,.snil],[.int .i64 4,.str [76,105,115,116],.int .i64 0,.int .i64 0,.sl [[.int .i64 5,.str [97],.int .i64 0,.int .i64 0,.snil]] false]] false]] false],[.int .i64 93,.str [80,97,105,114],.sl [[.str [97]],[.str [98]]] false,.sl [[.int .i64 109,.str [80,97,105,114],.sl [[.int .i64 5,.str [97],.int .i64 0,.int .i64 0,.snil],[.int .i64 5,.str [98],.int .i64 0,.int .i64 0,.snil]] false]] false],[.int .i64 119,.str [78,97,116],.snil,.sl [[.int .i64 130,.str [90,101,114,111],.snil],[.int .i64 137,.str [83,117,99,99],.sl [[.int .i64 4,.str [78,97,116],.int .i64 0,.int .i64 0,.snil]] false]] false],[.int .i64 147,.str [70,117,110],.sl [[.str [97]],[.str [98]]] false,.sl [[.int .i64 162,.str [70,117,110],.sl [[.int .i64 4,.str [45,62],.int .i64 0,.int .i64 0,.sl [[.int .i64 5,.str [97],.int .i64 0,.int .i64 0,.snil],[.int .i64 5,.str [98],.int .i64 0,.int .i64 0,.snil]] false]] false]] false],[.int .i64 176,.str [84,119,111],.sl [[.str [97]]] false,.sl [[.int .i64 189,.str [66,111,116,104],.sl [[.int .i64 5,.str [97],.int .i64 0,.int .i64 0,.snil],[.int .i64 5,.str [97],.int .i64 0,.int .i64 0,.snil]] false],[.int .i64 200,.str [79,110,101],.sl [[.int .i64 4,.str [79,112,116,105,111,110],.int .i64 0,.int .i64 0,.sl [[.int .i64 5,.str [97],.int .i64 0,.int .i64 0,.snil]] false]] false]] false]] false
def uE(bits:Int):List Decl->Nat->List Decl
 | [],_=>[]
 |d::l,i=>if i≠1/\MR .i64 (bits.fdiv (2 ^ i)) 1=1 then d::uE bits l (i+1)else uE bits l (i+1)
def TM(bits:Int)(l:List Decl):List Decl:=if MR .i64 bits 2≠0\/MR .i64 bits 64≠0 then (l[1]?).toList else []
def jd(bits:Int):List Decl:=TM bits Fg++uE bits Fg 0
theorem zb4(bits:Int):∀ (l m:List Decl) (i:Nat),uE bits (l++m) i=uE bits l i++uE bits m (i+l.length):=by
 intro l
 induction l with
 |nil=>intro m i;simp[uE]
 | cons d l ih =>
   grind [uE]
theorem zb3{bits:Int}{d:Decl}:∀ {l:List Decl} {i:Nat},d∈uE bits l i->d∈l:=by
 intro l
 induction l with
 |nil=>intro i h;cases h
 | cons x l ih =>
   intro i h;unfold uE at h
   grind
theorem NZ(bits:Int):∀ (l:List Decl) (i:Nat),(uE bits l i).length<=l.length:=by
 intro l
 induction l with
 |nil=>intro i;exact Nat.le_refl _
 | cons x l ih =>
   grind [uE,List.length_cons]
theorem xQ{bits:Int}{d:Decl}(h:d∈jd bits):d∈Fg:=by
 grind [jd,TM,List.mem_of_getElem?,zb3]
theorem PQ(bits:Int):(jd bits).length<=8:=by
 unfold jd
 grind [List.length_append,NZ,Fg,TM]
end Go.J
/- Types that a tape makes. -/
namespace Go.J
open Enc (enc)
theorem Af(t:Tp)(n:Int):(t.next n).1.l=t.l:=by unfold Tp.next;split<;>rfl
theorem zum{t:Tp}(h:0<=t.i)(n:Int):0<=(t.next n).1.i:=by
 unfold Tp.next;split
 . exact h
 . show 0<=t.i+1;omega
theorem LJ(t:Tp)(n:Int):0<=(t.next n).2:=by
 unfold Tp.next;split
 . exact Int.le_refl _
 . exact OG _ _
theorem Ui(t:Tp){n:Int}(h:1<=n):(t.next n).2<n:=by
 unfold Tp.next;split
 . omega
 . exact zol h
def Tp.ok(t:Tp):Prop:=0<=t.i/\t.l.length<=100000
theorem qR{t:Tp}(h:t.ok)(n:Int):(t.next n).1.ok:=⟨zum h.1 n,by rw[Af];exact h.2⟩
theorem uN{α:Type}(t:Tp){l:List α}(h:l≠[]):∃ (j:Nat) (hj:j<l.length),(t.next (l.length:Int)).2=(j:Int)/\l[(t.next (l.length:Int)).2.toNat]?=some l[j]:=by
 have h1:=LJ t (l.length:Int);have h0:0<l.length:=List.length_pos_iff.2 h;have h2:=Ui t (n:=(l.length:Int)) (by omega)
 grind
mutual
def dh : Nat->Tp->List Decl->List Ty->Tp×Ty
 | d, t, D,Lv =>
   let k:=(t.next 7).2
   let t1:=(t.next 7).1
   if k<3/\Lv≠[]then ((t1.next Lv.length).1,(Lv[(t1.next Lv.length).2.toNat]?).getD FW)
   else if k<4 then (t1,FW)
   else match d with
    | 0=>(t1,FW)
    | d + 1 =>
      if (k=4\/k=5)/\D≠[]then
       let dd:=(D[(t1.next D.length).2.toNat]?).getD ⟨0,[],[],[]⟩
       let r:=jN d (t1.next D.length).1 D Lv dd.params.length
       (r.1,nR dd.name r.2)
      else
       let a:=dh d t1 D Lv
       let b:=dh d a.1 D Lv
       (b.1,lG a.2 b.2)
 termination_by d=>(d,0)
def jN(d:Nat)(t:Tp)(D:List Decl)(Lv:List Ty):Nat->Tp×List Ty
 | 0=>(t,[])
 |n+1=>((dh d (jN d t D Lv n).1 D Lv).1,(jN d t D Lv n).2++[(dh d (jN d t D Lv n).1 D Lv).2])
 termination_by n=>(d,n+1)
end
theorem yU(d:Nat)(t:Tp)(D:List Decl)(Lv:List Ty)(n:Nat):(jN d t D Lv n).2.length=n:=by
 induction n with
 |zero=>rw[jN];rfl
 |succ n ih=>rw[jN];simp[ih]
theorem uC {P:Ty->Prop} {D:List Decl} {Lv:List Ty} (hl:∀ l∈Lv,P l) (hi:P FW) (hc:∀ dd∈D,∀ l:List Ty,l.length=dd.params.length->(∀ x∈l,P x)->P (nR dd.name l)) (ha:∀ a b,P a->P b->P (lG a b)) :
 ∀ (d:Nat) (t:Tp),P (dh d t D Lv).2:=by
 intro d
 induction d with
 | zero =>
   intro t;rw[dh]
   try dsimp only
   split
   . rename_i h;obtain⟨j,hj,_,h2⟩:=uN (t.next 7).1 h.2
     grind
   grind
 | succ d ih =>
   intro t;rw[dh]
   try dsimp only
   split
   . rename_i h;obtain⟨j,hj,_,h2⟩:=uN (t.next 7).1 h.2
     grind
   . split
     . exact hi
     . split
       . rename_i h;obtain⟨j,hj,_,h2⟩:=uN (t.next 7).1 h.2;rw[h2];refine hc _ (List.getElem_mem hj) _ (yU ..) ?_;generalize hn:(((some D[j]).getD _:Decl).params.length)=n;clear hn
         induction n with
         |zero=>intro x hx;rw[jN]at hx;cases hx
         | succ n zOz =>
           intro x hx;rw[jN]at hx
           grind [List.mem_singleton]
       grind
theorem uz {D:List Decl} {Lv:List Ty}:∀ (d:Nat) (t:Tp),t.ok->(dh d t D Lv).1.ok/\(dh d t D Lv).1.l=t.l:=by
 intro d
 induction d with
 | zero =>
   grind [dh,qR,Af]
 | succ d ih =>
   intro t h;rw[dh]
   try dsimp only
   split
   . grind [qR,Af]
   . split
     . grind [qR,Af]
     . split
       . have h1:=qR (qR h 7) (D.length:Int);have h2:((t.next 7).1.next (D.length:Int)).1.l=t.l:=by rw[Af,Af]
         generalize (t.next 7).1.next (D.length:Int)=q at h1 h2;generalize (((D[q.2.toNat]?).getD _:Decl).params.length)=n
         induction n with
         |zero=>rw[jN];exact⟨h1,h2⟩
         | succ n zOz =>
           grind [jN]
       grind [qR,Af]
theorem zlf{D:List Decl}{Lv:List Ty}(d:Nat){t:Tp}(h:t.ok)(n:Nat):(jN d t D Lv n).1.ok:=by
 induction n with
 |zero=>rw[jN];exact h
 |succ n ih=>rw[jN];exact(uz d _ ih).1
def zJj(D:List Decl):Prop:=D.length<=1000/\∀ d∈D,d.params.length<=100
theorem Sg(bits:Int):zJj (jd bits):=by
 refine⟨by have:=PQ bits;omega,fun d hd=>?_⟩;have:=xQ hd;have key:∀ d∈Fg,d.params.length<=100:=by decide
 grind
end Go.J
/- zmJ. -/
namespace Go.J
open Enc (enc)
def bW:List Assign->Int->Option Ty
 | [],_=>none
 |a::s,i=>if a.id=i then some a.type else bW s i
theorem jC(s u:List Assign)(i:Int):bW (s++u) i=(bW s i).or (bW u i):=by
 induction s with
 |nil=>rfl
 | cons a s ih =>
   grind [bW]
mutual
def Ty.dZ(s:List Assign):Ty->Ty
 |.mk k n i h l=>if k=1 then (bW s i).getD (.mk k n i h l)else .mk k n i h (Ty.DI s l)
def Ty.DI(s:List Assign):List Ty->List Ty
 | []=>[]
 |t::l=>Ty.dZ s t::Ty.DI s l
end
theorem Oe(s:List Assign)(l:List Ty):Ty.DI s l=l.map (Ty.dZ s):=by
 induction l with
 |nil=>simp[Ty.DI]
 |cons t l ih=>simp[Ty.DI,ih]
theorem yB(s:List Assign)(t:Ty):t.dZ s=if t.kind=1 then (bW s t.id).getD t else .mk t.kind t.name t.id t.home (t.args.map (Ty.dZ s)):=by
 cases t;simp only[Ty.dZ,Ty.dx,Ty.vN,Ty.gz,Ty.tH,Ty.cZ,Oe]
end Go.J
/- Stores of type variables: what the small functions compute. -/
namespace Go.J
open Enc (enc)
def Nv:Ty:=.mk 0 [] 0 0 []
def TF:Slot:=⟨false,Nv,0,false⟩
namespace Store
def slot? (s:Store)(id:Int):Option Slot:=if 0<=id then s.slots[id.toNat]? else none
def fresh(s:Store)(home:Int)(base:Bool):Store×Ty :=
 (⟨s.slots++[⟨false,Nv,home,base⟩],s.trail++[⟨s.slots.length,TF,true⟩]⟩,aM s.slots.length)
def set(s:Store)(id:Int)(x:Slot):Store×Bool :=
 match s.slot? id with
 |some old=>(⟨s.slots.set id.toNat x,s.trail++[⟨id,old,false⟩]⟩,true)
 |none=>(s,false)
def bound(s:Store)(t:Ty):Bool :=
 match decide (t.kind=1),s.slot? t.id with
 |true,some x=>x.bound
 |_,_=>false
def to(s:Store)(t:Ty):Ty :=
 match s.slot? t.id with
 |some x=>x.type
 |none=>Nv
def bX(s:Store):Nat->Ty->Ty
 | 0,t=>t
 |n+1,t=>if s.bound t then bX s n (s.to t)else t
def small(s:Store):Prop:=s.slots.length<=1000/\s.trail.length<=1000
instance (s:Store):Decidable s.small:=inferInstanceAs (Decidable (_/\_))
theorem slot?_nat (s:Store)(i:Nat):s.slot? (i:Int)=s.slots[i]?:=by simp[slot?]
theorem slot?_some {s:Store}{id:Int}{x:Slot}(h:s.slot? id=some x):∃ i:Nat,id=i/\i<s.slots.length/\s.slots[i]?=some x:=by
 unfold slot? at h
 grind
theorem slot?_at {s:Store}{id:Int}{x:Slot}(h:s.slot? id=some x):∃ i:Nat,∃ hl:i<s.slots.length,id=i/\s.slots[i]=x:=by
 obtain⟨i,h1,h2,h3⟩:=slot?_some h
 grind
theorem slot?_none {s:Store}{id:Int}(h:s.slot? id=none):id<0\/(s.slots.length:Int)<=id:=by
 unfold slot? at h
 grind
theorem kN{s:Store}{t:Ty}(h:s.bound t=true):t.kind=1/\∃ x,s.slot? t.id=some x/\x.bound=true:=by
 grind [bound]
theorem j6{s:Store}{t:Ty}{x:Slot}(h1:t.kind=1)(h2:s.slot? t.id=some x):s.bound t=x.bound:=by
 grind [bound]
end Store
def isArrow (t:Ty):T3 Ty Ty Bool :=
 if t.kind=4/\t.name=[45,62]then (match t.args with
  | [a,b]=>⟨a,b,true⟩
  |_=>⟨Nv,Nv,false⟩)else ⟨Nv,Nv,false⟩
end Go.J
/- Leaves of types. -/
namespace Go.J
open Enc (enc)
mutual
def dM(kind:Int):Ty->List Ty->List Ty
 |.mk k n i h l,out=>if k=kind/\l=[]then (if Ty.mk k n i h l∈out then out else out++[Ty.mk k n i h l])else aP kind l out
def aP(kind:Int):List Ty->List Ty->List Ty
 | [],out=>out
 |t::l,out=>aP kind l (dM kind t out)
end
theorem kL(kind:Int)(t:Ty)(out:List Ty):dM kind t out=if t.kind=kind/\t.args=[]then (if t∈out then out else out++[t])else aP kind t.args out:=by
 cases t;simp[dM]
theorem vR(kind:Int)(l:List Ty)(t:Ty)(out:List Ty):aP kind (l++[t]) out=dM kind t (aP kind l out):=by
 induction l generalizing out with
 |nil=>simp[aP]
 |cons a l ih=>simp[aP,ih]
theorem Bz{kind:Int}{l:List Ty}(h:∀ t∈l,∀ out,out.length<=(dM kind t out).length/\(dM kind t out).length<=out.length+t.size):∀ out,out.length<=(aP kind l out).length/\(aP kind l out).length<=out.length+Ty.sizes l:=by
 induction l with
 |nil=>intro out;simp[aP,Ty.sizes]
 | cons a l ih =>
   intro out;have h1:=h a (List.mem_cons_self ..) out;have h2:=ih (fun t ht=>h t (List.mem_cons_of_mem _ ht)) (dM kind a out);simp only[aP,Ty.sizes];omega
theorem mX(kind:Int)(t:Ty):∀ out,out.length<=(dM kind t out).length/\(dM kind t out).length<=out.length+t.size:=by
 induction t using Ty.ind with
 | h t ih =>
   intro out;rw[kL];have hp:=Ty.size_pos t;split
   . grind
   . have:=Bz (kind:=kind) ih out;have:=Ty.size_eq t;omega
theorem iK(kind:Int)(l:List Ty):∀ out,out.length<=(aP kind l out).length/\(aP kind l out).length<=out.length+Ty.sizes l:=Bz fun t _=>mX kind t
theorem DX{kind:Int}{l:List Ty}(h:∀ t∈l,∀ out,Ty.oks out=true->Ty.oks (dM kind t out)=true):∀ out,Ty.oks out=true->Ty.oks (aP kind l out)=true:=by
 induction l with
 |nil=>intro out ho;simpa [aP]using ho
 | cons a l ih =>
   intro out ho;simp only[aP]
   grind
theorem RF (kind:Int) (t:Ty):t.ok=true->∀ out,Ty.oks out=true->Ty.oks (dM kind t out)=true:=by
 induction t using Ty.ind with
 | h t ih =>
   intro ht out ho;rw[kL];split
   . split
     . exact ho
     . rw[Ty.gT]at ho ⊢
       grind
   . exact DX (fun u hu=>ih u hu (Ty.mH ht hu)) out ho
theorem Al{kind:Int}{l:List Ty}(hl:Ty.oks l=true):∀ out,Ty.oks out=true->Ty.oks (aP kind l out)=true :=
 DX fun t ht=>RF kind t (Ty.gT.1 hl t ht)
theorem rf(l m:List Ty):Ty.sizes (l++m)=Ty.sizes l+Ty.sizes m:=by
 induction l with
 |nil=>simp[Ty.sizes]
 |cons a l ih=>simp[Ty.sizes,ih,Nat.add_assoc]
theorem lQ(l:List Ty)(i:Nat):Ty.sizes (l.take i)<=Ty.sizes l:=by
 grind [rf,List.take_append_drop]
theorem GG{l:List Ty}(h:Ty.oks l=true)(i:Nat):Ty.oks (l.take i)=true:=Ty.gT.2 fun t ht=>Ty.gT.1 h t (List.mem_of_mem_take ht)
section
variable {σ α β:Type} [fB σ] [Enc α] [Enc β]
def zKR(F:List σ->α->Option (List σ))(es:List (List V))(vs:List V):Option (List (List V)×List V):=match vs with
 | [x]=>ob (bQ es) fun l=>ob (Enc.dec x) fun a=>ob (F l a) fun r=>some (r.map fB.cells,[])
 |_=>none
def CZ(F:List σ->α->β->Option (List σ))(es:List (List V))(vs:List V):Option (List (List V)×List V):=match vs with
 | [x,y]=>ob (bQ es) fun l=>ob (Enc.dec x) fun a=>ob (Enc.dec y) fun b=>ob (F l a b) fun r=>some (r.map fB.cells,[])
 |_=>none
@[simp] theorem zKQ {F:List σ->α->Option (List σ)} {es:List (List V)} {x:V}:zKR F es [x]=ob (bQ es) fun l=>ob (Enc.dec x) fun a=>ob (F l a) fun r=>some (r.map fB.cells,[]):=(rfl)
@[simp] theorem zKP {F:List σ->α->β->Option (List σ)} {es:List (List V)} {x y:V}:CZ F es [x,y]=ob (bQ es) fun l=>ob (Enc.dec x) fun a=>ob (Enc.dec y) fun b=>ob (F l a b) fun r=>some (r.map fB.cells,[]):=(rfl)
theorem OW{F:List σ->α->β->Option (List σ)}{es:List (List V)}{vs:List V}{r:List (List V)×List V}(h:CZ F es vs=some r):∃ l a b q,es=l.map fB.cells/\vs=[enc a,enc b]/\F l a b=some q/\r=(q.map fB.cells,[]):=by
 unfold CZ at h;split at h
 . simp only[af]at h;obtain⟨l,hl,a,ha,b,hb,q,hq,h⟩:=h;cases h;exact⟨l,a,b,q,eZ hl,by rw[Enc.aU _ _ ha,Enc.aU _ _ hb],hq,rfl⟩
 . cases h
end
def pX(out:List Int)(t:Ty):List Int:=if t.id∈out then out else out++[t.id]
def lC(l:List Ty):List Int:=l.foldl pX []
def ji(l:List Ty):List Int:=lC (aP 1 l [])
def iD(l:List Ty):List Ty:=aP 3 l []
theorem Hg(l:List Ty)(t:Ty):lC (l++[t])=pX (lC l) t:=by simp[lC]
theorem zav(out:List Int)(t:Ty):out.length<=(pX out t).length/\(pX out t).length<=out.length+1:=by
 grind [pX]
theorem yK(l:List Ty):(lC l).length<=l.length:=by
 have:∀ (l:List Ty) (o:List Int),(l.foldl pX o).length<=o.length+l.length:=by
  intro l
  induction l with
  |nil=>intro o;simp
  |cons a l ih=>intro o;have:=ih (pX o a);have:=zav o a;simp;omega
 grind [lC]
end Go.J
/- Bytes,words. -/
namespace Go.J
open Enc (enc)
structure Byte where
 n:Nat
instance:Enc Byte where
 enc b:=.int .u8 (Int.ofNat b.n)
 dec v:=match v with
  |.int .u8 (.ofNat n)=>some ⟨n⟩
  |_=>none
 bV _:=rfl
 aU v a h:=by
  split at h
  . cases h;rfl
  . cases h
 norm _:=rfl
@[simp] theorem zIG {b:Byte}:(enc b:V)=.int .u8 (b.n:Int):=(rfl)
@[simp] theorem zIO {n:Nat}:(Enc.dec (V.int .u8 (n:Int)):Option Byte)=some ⟨n⟩:=(rfl)
def lowerB(n:Nat):Bool:=decide (97<=n)&&decide (n<=122)
def upperB(n:Nat):Bool:=decide (65<=n)&&decide (n<=90)
def zv5(n:Nat):Bool:=decide (48<=n)&&decide (n<=57)
def zuH(n:Nat):Bool:=lowerB n||upperB n||zv5 n||decide (n=95)
def zpX(s:List Nat):Bool:=s.all zuH&&!s.isEmpty
def zcZ:List (List Nat):=[[100,97,116,97],[108,101,116],[114,101,99],[105,110],[99,97,115,101],[111,102],[101,110,100]]
def FQ(s:List Nat):Bool:=zpX s&&upperB (s.headD 0)&&decide (s.length<=12)
def zcU(s:List Nat):Bool:=zpX s&&lowerB (s.headD 0)&&decide (s.length<=12)&&decide (s ∉ zcZ)
@[simp] theorem zow:isStr TypeDesc.string=true:=(rfl)
mutual
def Ty.short:Ty->Bool
 |.mk _ n _ _ l=>decide (n.length<2^63)&&Ty.F5 l
def Ty.F5:List Ty->Bool
 | []=>true
 |t::l=>t.short&&Ty.F5 l
end
mutual
def Ty.valid:Ty->Bool
 | .mk k n i h l =>
   if k=1\/k=2 then decide (0<=i)&&decide (i<=1000000)&&decide (n=[])&&decide (h=0)&&decide (l.length=0)
   else if k=3 then decide (0<=i)&&decide (i<=1000000)&&decide (-1<=h)&&decide (h<=1000000)&&decide (n=[])&&decide (l.length=0)
   else if k=5 then decide (i=0)&&decide (h=0)&&decide (l.length=0)&&zcU n
   else if k=4 then decide (i=0)&&decide (h=0)&&Ty.Cr l&&(if n=[45,62]then decide (l.length=2)else if n=[73,110,116]then decide (l.length=0)else FQ n&&decide (l.length<=4))
   else false
def Ty.Cr:List Ty->Bool
 | []=>true
 |t::l=>t.valid&&Ty.Cr l
end
theorem Ty.FO{l:List Ty}:Ty.Cr l=true↔∀ t∈l,t.valid=true:=by
 induction l with
 |nil=>simp[Ty.Cr]
 |cons a l ih=>simp[Ty.Cr,ih]
theorem uR{α:Type}{p:α->Prop}{l:List α}{i:Nat}(hil:i<l.length)(he:∀ x∈l.take i,p x)(h:p l[i]):∀ x∈l.take (i+1),p x:=by
 intro x hx;rw[List.take_add_one,List.getElem?_eq_getElem hil]at hx
 grind
def Store.few(s:Store):Prop:=s.slots.length<=6/\s.trail.length<=6/\(∀ x∈s.slots,x.type.size<=20)/\∀ x∈s.trail,x.old.type.size<=20
instance:DecidablePred Store.few:=fun s=>by unfold Store.few;infer_instance
end Go.J
/- zNB. -/
namespace Go.J
open Enc (enc)
def zwd(rec:Int->List Int->List Int×Bool)(fr:Int):List Int->List Int->List Int×Bool
 | [],S=>(S,false)
 |v::l,S=>if v=fr then (S,true)else if S[v.toNat]?=some 0 then (if (rec v (S.set v.toNat 1)).2=true then ((rec v (S.set v.toNat 1)).1,true)else zwd rec fr l (rec v (S.set v.toNat 1)).1)else zwd rec fr l S
def zFh (s:Store) (fr:Int):Nat->Int->List Int->List Int×Bool
 | 0,_,S=>(S,false)
 | f+1,i,S=>match s.slots[i.toNat]? with
   |some x=>if x.bound=true then zwd (zFh s fr f) fr (ji [x.type]) S else (S,false)
   |none=>(S,false)
def Store.closed(s:Store):Prop:=s.slots.length<=1000/\∀ x∈s.slots,x.bound=true->x.type.ok=true/\x.type.size<=10000/\∀ v∈ji [x.type],0<=v/\v<s.slots.length
theorem Ty.kG {t:Ty} (h:t.valid=true):∀ u∈t.args,u.valid=true:=by
 obtain⟨k,n,i,hh,l⟩:=t;intro u hu;simp only[Ty.cZ]at hu;unfold Ty.valid at h;by_cases hl:l.length=0
 . rw[List.length_eq_zero_iff.1 hl]at hu;cases hu
 . split at h
   . simp[hl]at h
   . split at h
     . simp[hl]at h
     . split at h
       . simp[hl]at h
       . split at h
         . simp only[Bool.and_eq_true]at h;exact Ty.FO.1 h.1.2 u hu
         . cases h
def Store.K8(s:Store)(x:Slot):Prop:=if x.bound=true then x.type.valid=true/\∀ v∈ji [x.type],v<s.slots.length else x.type=Nv
instance (s:Store)(x:Slot):Decidable (s.K8 x):=by unfold Store.K8;infer_instance
def Store.zSf(s:Store)(i:Nat):Bool:=(zFh s i (s.slots.length+1) i (List.replicate s.slots.length 0)).2
def Store.valid(s:Store):Bool:=decide (∀ c∈s.trail,0<=c.id/\c.id<s.slots.length)&&decide (∀ x∈s.slots,s.K8 x)&&decide (∀ i∈List.range s.slots.length,s.zSf i=false)
def Store.fine(s:Store):Prop:=s.slots.length<=1000/\s.trail.length<=1000/\∀ x∈s.slots,x.type.ok=true/\x.type.short=true/\x.type.size<=10000
instance (s:Store):Decidable s.fine:=by unfold Store.fine;infer_instance
end Go.J
/- Ranges over the function that slices.IX makes. -/
namespace Go.J
open Enc (enc)
def SC.plain:SC->Bool
 |.loop _=>false
 |.range _ _ _ _=>false
 |.seq a b=>a.plain&&b.plain
 |.cond _ a b=>a.plain&&b.plain
 |.block _ a=>a.plain
 |_=>true
section
variable {ρ:Nat->Value}{E:Env}{k sz:Nat}{rd:Bool}
theorem zso:∀ {s:SC} {T:PT V} {hs:HS} {Q:Ex->PT V->HS->Prop},s.plain=true->Wp ρ E k sz s T hs Q->Js E rd sz s T hs Q:=by
 intro s
 induction s with
 |skip=>intro T hs Q _ h;exact MX h
 |ret=>intro T hs Q _ h;exact zwM h
 |exit i=>intro T hs Q _ h;exact YB h
 |reg l=>intro T hs Q _ h;exact Du h
 |draw l bs=>intro T hs Q _ h;exact YC h
 | seq a b iha ihb =>
   intro T hs Q hp h;rw[SC.plain,Bool.and_eq_true]at hp;refine xX (zpM (iha hp.1 h) fun e T hs q=>?_)
   cases e with
   |normal=>exact ihb hp.2 q
   |ret=>exact q
   |exit i=>exact q
 | cond q a b iha ihb =>
   intro T hs Q hp h;rw[SC.plain,Bool.and_eq_true]at hp;obtain⟨v,hv,t,ht,h⟩:=h;rw[V.bool?_eq]at ht;subst ht;refine FK hv (fun e=>?_) (fun e=>?_)
   . rw[if_pos e]at h;exact iha hp.1 h
   . rw[if_neg (by rw[e];simp)]at h;exact ihb hp.2 h
 |block i a iha=>intro T hs Q hp h;exact IW (iha hp h)
 |loop a _=>intro T hs Q hp;cases hp
 |range g ps a b _ _=>intro T hs Q hp;cases hp
end
section
variable {E:Env}{sz:Nat}{T:PT V}{ps:Array Tmp}{a b:Code}
theorem zch{L:Nat}{hs:HS}{vs:List V}{T1:PT V}{K:HS->Prop}(hL:hs.H.get L=some (.lp sz T ps.toList a b 0))(hz:zM sz ps.toList vs T=some T1)
 (h:Jc E true sz a T1 hs fun ex T2 hs1=>ex=.normal/\hs1.H.get L=some (.lp sz T ps.toList a b 0) /\
   Jc E true sz b T2 (hs1.wr L (.lp sz T ps.toList a b 1)) fun ex T3 hs2=>ex=.normal/\hs2.H.get L=some (.lp sz T ps.toList a b 1)/\K (hs2.wr L (.lp sz T ps.toList a b 0))) :
 ∃ n hs',oC (jY E n) L vs hs=some (.bool true,hs')/\K hs':=by
 obtain⟨n,ex,T2,hs1,h1,rfl,h2,m,fK,T3,hs2,h3,rfl,h4,h5⟩:=h;refine⟨max n m,_,?_,h5⟩;simp only[oC,af,aD];refine⟨_,hL,_,rfl,rfl,T1,hz,_,(xK E (Nat.le_max_left n m)).code h1,rfl,_,h2,_,rfl,rfl,_,(xK E (Nat.le_max_right n m)).code h3,_,h4,_,rfl,rfl⟩
end
def zlb (tS tE tI tB:Nat):SC :=
 .seq (.reg [⟨some 4,.load tS (.tmp 1),none⟩,⟨some 5,.call ⟨.builtin .len,#[.tmp 4],#[tS]⟩,none⟩,⟨some 6,.binOp .sub tI (.tmp 5) (.const (.int .i64 1)) tI,none⟩,⟨some 3,.assign (.tmp 6),none⟩])
  (.block 0 (.loop (.seq (.seq (.reg [⟨some 7,.move (.tmp 3),none⟩,⟨some 8,.binOp .geq tI (.tmp 7) (.const (.int .i64 0)) tI,none⟩]) (.cond (.tmp 8) .skip (.exit 0)))
    (.seq (.block 1 (.seq (.reg [⟨some 11,.move (.tmp 0),none⟩,⟨some 12,.move (.tmp 3),none⟩,⟨some 13,.load tS (.tmp 1),none⟩,⟨some 14,.move (.tmp 3),none⟩,⟨some 15,.indexAddr tS (.tmp 13) (.tmp 14),none⟩,
      ⟨some 16,.load tE (.tmp 15),none⟩,⟨some 17,.call ⟨.value (.tmp 11),#[.tmp 12,.tmp 16],#[tI,tE]⟩,none⟩,⟨some 18,.unOp .not tB (.tmp 17),none⟩]) (.cond (.tmp 18) .ret .skip)))
      (.reg [⟨some 9,.move (.tmp 3),none⟩,⟨some 10,.binOp .sub tI (.tmp 9) (.const (.int .i64 1)) tI,none⟩,⟨some 3,.assign (.tmp 10),none⟩])))))
theorem zlt{E:Env}{sz:Nat}{ops l:List Oper}{id:Nat}{T:PT V}{hs:HS}{R:PT V->HS->Prop}{o:Oper}{d:Nat}{x:Operand}{xs:Array Operand}{ts:Array TypeId}{L:Nat}{vs:List V}(hd:o.dst=some d)(hg:o.guard=none)(hop:o.op=.call ⟨.value x,xs,ts⟩)
 (hv:hs.H.get id=none) (hx:aG T x=some (.yld L)) (hvs:fe T xs.toList=some vs) (hdz:d<sz) (h:∃ n hs',oC (jY E n) L vs hs=some (.bool true,hs')/\Ro E sz ops l (id+1) (T.set d (.bool true)) hs' R):Ro E sz ops (o::l) id T hs R:=by
 obtain⟨n,hs',h1,h2⟩:=h;refine MV ⟨n,(T.set d (.bool true),hs'),?_,h2⟩;have hw:mP ops T o=some true:=by unfold mP;rw[hg];rfl
 have hc:bE o.op=2:=by rw[hop];rfl
 have hst:stepJ E (jY E n) false T hs id o=some (.bool true,hs'):=by
  unfold stepJ;rw[hop];show (ob (fe T xs.toList) fun vs=>ob (aG T x) fun v=>zQ E (jY E n) v vs hs)=_;rw[hvs,bP,hx,bP];exact h1
 show (ob (mP ops T o) fun w=>bi w _ _)=_;rw[hw,bP,dU,hc];show gd (cB hs id) _=_;rw[ae.2 hv,jT,hst,bP,hd];show (ob (gd (Nat.blt d sz) (some (T.set d (.bool true)))) fun T'=>some (T',hs'))=_
 simp_all
theorem Dy{ops l:List Oper}{s:rH}{r:List rH}(h:stripL ops l=some (s::r)):∃ o l',l=o::l'/\o.dst=s.d/\o.op=s.op/\zS ops o.guard=some s.g/\stripL ops l'=some r:=by
 cases l with
 |nil=>cases h
 | cons o l' =>
   grind [stripL]
theorem NF{ops:List Oper}{g:Option (Nat×Bool)}(h:zS ops g=some none):g=none:=by
 unfold zS at h
 grind
theorem FN{E:Env}{id:Nat}{T:PT V}{hs:HS}{op:Op}{K K':V->HS->Prop}(hk:∀ v hs,K v hs->K' v hs)(h:qL E id T hs op K):qL E id T hs op K':=by
 cases op with
 | call c =>
   obtain⟨zSg,as,ts⟩:=c
   cases zSg with
   |builtin b=>exact⟨h.1,ma h.2 fun vs h=>ma h fun r h=>hk _ _ h⟩
   |value x=>exact⟨h.1,ma h.2 fun v h=>ma h fun p h=>ma h fun vs h=>ma h fun r h=>hk _ _ h⟩
   |invoke a b=>exact h
 |_=>exact⟨h.1,ma h.2 fun r h=>hk _ _ h⟩
theorem zlr {E:Env} {sz:Nat} {ops:List Oper}:∀ (s1:List rH) {l:List Oper} {s2:List rH} {id:Nat} {T:PT V} {hs:HS} {R:PT V->HS->Prop},stripL ops l=some (s1++s2) ->
 (Rs E sz s1 id T hs fun T1 hs1=>∀ l2,stripL ops l2=some s2->Ro E sz ops l2 (id+s1.length) T1 hs1 R)->Ro E sz ops l id T hs R:=by
 intro s1
 induction s1 with
 |nil=>intro l s2 id T hs R h hr;exact hr l h
 | cons s s1 ih =>
   intro l s2 id T hs R h hr;obtain⟨o,l',rfl,hd,hop,hg,hl⟩:=Dy (r:=s1++s2) h
   have h1:stripL (ops) [o]=some [s]:=by
    grind [stripL]
   have key:Rs E sz [s] id T hs fun T1 hs1=>Ro E sz ops l' (id+1) T1 hs1 R:=by
    have hr':wpS E id T hs s fun v hs'=>put sz T s.d v fun T1=>Rs E sz s1 (id+1) T1 hs' fun T1 hs1=>∀ l2,stripL ops l2=some s2->Ro E sz ops l2 (id+(s::s1).length) T1 hs1 R:=hr
    show wpS E id T hs s fun v hs'=>put sz T s.d v fun T1=>Ro E sz ops l' (id+1) T1 hs' R
    have e:∀ T1 hs',(Rs E sz s1 (id+1) T1 hs' fun T1 hs1=>∀ l2,stripL ops l2=some s2->Ro E sz ops l2 (id+(s::s1).length) T1 hs1 R)->Ro E sz ops l' (id+1) T1 hs' R:=by
     intro T1 hs' hh;refine ih hl ?_;rw[show id+1+s1.length=id+(s::s1).length by simp;omega];exact hh
    have mono:∀ {K K':V->HS->Prop},(∀ v hs,K v hs->K' v hs)->qL E id T hs s.op K->qL E id T hs s.op K':=fun hk h=>FN hk h
    have pm:∀ {v:V} {K K':PT V->Prop},(∀ T,K T->K' T)->put sz T s.d v K->put sz T s.d v K':=by
     intro v K K' hk hp;unfold put at hp ⊢
     grind
    unfold wpS at hr' ⊢;split
    . grind
    . rename_i t w hs0;rw[hs0]at hr';refine ma hr' fun v h=>ma h fun q h=>?_
      grind
   have h2:=zls (E:=E) (sz:=sz) (ops:=ops) h1 key;obtain⟨n,T',hs',h3,h4⟩:=h2;have h3':(ob (lI E (jY E n) sz ops o id T hs) fun r=>some (r.1,r.2))=some (T',hs'):=h3
   grind [af,MV]
end Go.J
/- A range over what slices.IX makes: its rounds,one after another. -/
namespace Go.J
open Enc (enc)
theorem zly {E:Env} {rd:Bool} {sz:Nat} {T:PT V} {hs:HS} {Q:Ex->PT V->HS->Prop} (s1:List rH) {s2:List rH} (h:Rs E sz s1 hs.n T { H:=hs.H,n:=hs.n+(s1++s2).length,log:=hs.log } fun T1 hs1=>∀ ops l2,stripL ops l2=some s2->Ro E sz ops l2 (hs.n+s1.length) T1 hs1 fun T hs=>Q .normal T hs) :
 Js E rd sz (.reg (s1++s2)) T hs Q:=fun c hc=>by
 obtain⟨id,ops,rfl,hl⟩:=eB hc
 have hlen:∀ {m:List Oper} {s:List rH},stripL ops.toList m=some s->s.length=m.length:=by
  intro m
  induction m with
  |nil=>intro s h;cases h;rfl
  | cons o m ih =>
    intro s h;unfold stripL at h;split at h
    . rename_i g r hg hr;cases h;simp[ih hr]
    . cases h
 rw[hlen hl]at h
 have mono:∀ {s:List rH} {id:Nat} {T:PT V} {hs:HS} {R R':PT V->HS->Prop},(∀ T hs,R T hs->R' T hs)->Rs E sz s id T hs R->Rs E sz s id T hs R':=by
  intro s
  induction s with
  |nil=>intro id T hs R R' hk h;exact hk _ _ h
  | cons o s ih =>
    intro id T hs R R' hk h
    have pm:∀ {T:PT V} {v:V} {K K':PT V->Prop},(∀ T,K T->K' T)->put sz T o.d v K->put sz T o.d v K':=by
     intro T v K K' hk hp;unfold put at hp ⊢;split
     . rename_i hs0;rw[hs0]at hp;exact hk _ hp
     . rename_i d hs0;rw[hs0]at hp;exact⟨hp.1,hk _ hp.2⟩
    show wpS E id T hs o _;have h':wpS E id T hs o fun v hs'=>put sz T o.d v fun T1=>Rs E sz s (id+1) T1 hs' R:=h
    unfold wpS at h' ⊢;split
    . rename_i hs0;rw[hs0]at h';exact FN (fun v hs h=>pm (fun T h=>ih hk h) h) h'
    . rename_i t w hs0;rw[hs0]at h';refine ma h' fun v h=>ma h fun q h=>?_
      split
      . rename_i e1;rw[if_pos e1]at h;exact FN (fun v hs h=>pm (fun T h=>ih hk h) h) h
      . rename_i e1;rw[if_neg e1]at h;exact pm (fun T h=>ih hk h) h
 have:=KN (id:=id) (rd:=rd) (Q:=Q) (ops:=ops.toList) (zlr (E:=E) (sz:=sz) s1 hl (mono (fun T1 hs1 h l2 hl2=>h _ l2 hl2) h));simpa using this
section
variable {E:Env}{f:FuncId}{fn:Func}{tS tE tI tB:Nat}{IS IE:TI}
theorem zaq (zxg:ti E.P tS=some IS) (zr7:IS.desc=.slice tE) (zA4:ti E.P tE=some IE) {es:List (List V)} {tg:Bool} (hsz:sizes IE.size es=true) {val:List V->V} (hval:∀ e∈es,qG IE e 0=some (val e)) (hlen:es.length<2 ^ 62)
 {L bx:Nat} (I:Nat->HS->Prop) (zoP:∀ j hs,I j hs->hs.H.get bx=some (.arr 1 0 [[.sl es tg]] true false false)) (hIn:∀ j hs m log,I j hs->hs.n<=m->I j { H:=hs.H,n:=m,log:=log }) (zLz:∀ j hs,I j hs->∀ i,hs.n<=i->hs.H.get i=none)
 (hstep:∀ i e,es[i]?=some e->∀ hs,I (i+1) hs->∃ n hs',oC (jY E n) L [.int .i64 (i:Int),val e] hs=some (.bool true,hs')/\I i hs') {Q:Ex->PT V->HS->Prop} (hQ:∀ T hs,I 0 hs->Q (.exit 0) T hs) :
 ∀ (j:Nat) (T:PT V) (hs:HS),j<=es.length->I j hs->T.get 0=some (.yld L)->T.get 1=some (.ptr bx 0 0)->T.get 3=some (.int .i64 ((j:Int)-1)) ->
   Js E false 19 (.loop (.seq (.seq (.reg [⟨some 7,.move (.tmp 3),none⟩,⟨some 8,.binOp .geq tI (.tmp 7) (.const (.int .i64 0)) tI,none⟩]) (.cond (.tmp 8) .skip (.exit 0)))
   (.seq (.block 1 (.seq (.reg [⟨some 11,.move (.tmp 0),none⟩,⟨some 12,.move (.tmp 3),none⟩,⟨some 13,.load tS (.tmp 1),none⟩,⟨some 14,.move (.tmp 3),none⟩,⟨some 15,.indexAddr tS (.tmp 13) (.tmp 14),none⟩,
     ⟨some 16,.load tE (.tmp 15),none⟩,⟨some 17,.call ⟨.value (.tmp 11),#[.tmp 12,.tmp 16],#[tI,tE]⟩,none⟩,⟨some 18,.unOp .not tB (.tmp 17),none⟩]) (.cond (.tmp 18) .ret .skip)))
     (.reg [⟨some 9,.move (.tmp 3),none⟩,⟨some 10,.binOp .sub tI (.tmp 9) (.const (.int .i64 1)) tI,none⟩,⟨some 3,.assign (.tmp 10),none⟩])))) T hs Q:=by
 have zvc:gL IS.desc=false:=by rw[zr7];rfl
 intro j
 induction j with
 | zero =>
   intro T hs hj hI h0 h1 h3;refine YA (xX (xX (Du ?_)));simp[h3];refine FK (t:=false) (by simp) (fun h=>by cases h) fun _=>YB ?_
   simp_all
 | succ j ih =>
   intro T hs hj hI h0 h1 h3;have hj1:((j+1:Nat):Int)-1=(j:Int):=by omega
   rw[hj1]at h3;obtain⟨e,he⟩:∃ e,es[j]?=some e:=⟨es[j],List.getElem?_eq_getElem (by omega)⟩;have hem:=List.mem_of_getElem? he;have hge:¬ (j:Int)<0:=by omega
   refine YA (xX (xX (Du ?_)));simp[h3,hge];refine FK (t:=true) (by simp) (fun _=>MX ?_) fun h=>by cases h
   refine xX (IW (xX ?_));have hI2:I (j+1) { H:=hs.H,n:=hs.n+2,log:=hs.log }:=hIn _ _ _ _ hI (by omega);have hbx:=zoP _ _ hI;refine zly [⟨some 11,.move (.tmp 0),none⟩,⟨some 12,.move (.tmp 3),none⟩,⟨some 13,.load tS (.tmp 1),none⟩,⟨some 14,.move (.tmp 3),none⟩,⟨some 15,.indexAddr tS (.tmp 13) (.tmp 14),none⟩,⟨some 16,.load tE (.tmp 15),none⟩] (s2:=[⟨some 17,.call ⟨.value (.tmp 11),#[.tmp 12,.tmp 16],#[tI,tE]⟩,none⟩,⟨some 18,.unOp .not tB (.tmp 17),none⟩]) ?_;have hv:=hval e hem;simp at hv;simp[h0,h1,h3,hbx,zxg,zr7,zA4,zvc,hsz,he,hv];intro ops l2 hl2;obtain⟨o1,l3,rfl,hd1,zLc,hg1,hl3⟩:=Dy hl2;have hg1:=NF hg1;refine zlt (L:=L) (vs:=[.int .i64 (j:Int),val e]) hd1 hg1 zLc (zLz _ _ hI _ (by omega)) (by simp) (by simp) (by omega) ?_;obtain⟨n,hs',h4,h5⟩:=hstep j e he _ (hIn _ _ (hs.n+2+8) hs.log hI (by omega));refine⟨n,hs',h4,?_⟩;refine zls hl3 ?_;simp;refine FK (t:=false) (by simp) (fun h=>by cases h) fun _=>MX ?_
   refine Du ?_;have hw:IntKind.i64.wrap ((j:Int)-1)=(j:Int)-1:=wrap_i64 (by omega) (by omega);simp[h0,h1,h3,hw];refine ih _ _ (by omega) (hIn _ _ _ _ h5 (by omega)) (by simp[h0]) (by simp[h1]) (by simp)
theorem zar(hf:E.P.funcs[f]?=some fn)(hb:fn.body.bind aB=some (zlb tS tE tI tB))(hnt:fn.ntmps=19)(hres:fn.results.toList=[])
 (zxg:ti E.P tS=some IS) (zr7:IS.desc=.slice tE) (zA4:ti E.P tE=some IE) {es:List (List V)} {tg:Bool} (hsz:sizes IE.size es=true) {val:List V->V} (hval:∀ e∈es,qG IE e 0=some (val e)) (hlen:es.length<2 ^ 62)
 {L bx:Nat} (I:Nat->HS->Prop) (zoP:∀ j hs,I j hs->hs.H.get bx=some (.arr 1 0 [[.sl es tg]] true false false)) (hIn:∀ j hs m log,I j hs->hs.n<=m->I j { H:=hs.H,n:=m,log:=log }) (zLz:∀ j hs,I j hs->∀ i,hs.n<=i->hs.H.get i=none)
 (hstep:∀ i e,es[i]?=some e->∀ hs,I (i+1) hs->∃ n hs',oC (jY E n) L [.int .i64 (i:Int),val e] hs=some (.bool true,hs')/\I i hs') {hs:HS} (h0:I es.length hs) :
 ∃ n hs',(jY E n).call f [.yld L,.ptr bx 0 0] hs=some (.tuple [],hs')/\I 0 hs':=by
 have zvc:gL IS.desc=false:=by rw[zr7];rfl
 have hbx:=zoP _ _ h0;have hw:IntKind.i64.wrap ((es.length:Int)-1)=(es.length:Int)-1:=wrap_i64 (by omega) (by omega)
 obtain⟨n,v,hs',h1,rfl,h2⟩:=Y8 (E:=E) (f:=f) (vs:=[.yld L,.ptr bx 0 0]) (hs:=hs) (T:=(PT.leaf.set 0 (.yld L)).set 1 (.ptr bx 0 0)) (K:=fun v hs'=>v=.tuple []/\I 0 hs') hf hb (by rw[hnt];rfl) (by
  rw[hnt];refine xX (Du ?_);simp[hbx,zxg,zr7,zvc,hw];refine IW ?_;refine zaq zxg zr7 zA4 hsz hval hlen I zoP hIn zLz hstep (fun T hs hI=>?_) es.length _ _ (Nat.le_refl _) (hIn _ _ _ _ h0 (by omega)) (by simp) (by simp) (by simp);simp only[Ex.inBlock,if_true];refine⟨fun i h=>(by cases h),?_⟩;rw[hres]
  exact⟨[],rfl,rfl,hI⟩)
 grind
theorem zpN (hf:E.P.funcs[f]?=some fn) (hb:fn.body.bind aB=some (zlb tS tE tI tB)) (hnt:fn.ntmps=19) (hres:fn.results.toList=[])
 (zxg:ti E.P tS=some IS) (zr7:IS.desc=.slice tE) (zA4:ti E.P tE=some IE) {es:List (List V)} {tg:Bool} (hsz:sizes IE.size es=true) {val:List V->V} (hval:∀ e∈es,qG IE e 0=some (val e)) (hlen:es.length<2 ^ 62)
 {sz:Nat} {T:PT V} {H0:PT Obj} {L:Nat} {log:List Nat} {g:Operand} {ps:Array Tmp} {sa sb:SC} {bx:Nat} {Q:Ex->PT V->HS->Prop} (hg:aG T g=some (.func f [.ptr bx 0 0])) (hbx:H0.get bx=some (.arr 1 0 [[.sl es tg]] true false false)) (hbl:bx<L) (iQ:∀ i,L<=i->H0.get i=none) (hz:∀ v1 v2,∃ T1,zM sz ps.toList [v1,v2] T=some T1)
 (I:Nat->PT Obj->Prop) (M:Nat->List V->PT V->PT Obj->Nat->Prop) (zLA:∀ j H o,I j H->I j (H.set L o)) (zRF:∀ j e T H n o,M j e T H n->M j e T (H.set L o) n) (h0:I es.length H0)
 (hA:∀ i e,es[i]?=some e->∀ H n log T1,L<n->(∀ i,n<=i->H.get i=none)->I (i+1) H->zM sz ps.toList [.int .i64 (i:Int),val e] T=some T1 ->
   Js E true sz sa T1 { H:=H,n:=n,log:=log } fun ex T2 hs2=>ex=.normal/\n<=hs2.n/\hs2.H.get L=H.get L/\hs2.H.get bx=H.get bx/\(∀ i,hs2.n<=i->hs2.H.get i=none)/\M i e T2 hs2.H hs2.n)
 (hB:∀ i e,es[i]?=some e->∀ H n log T2,L<n->(∀ i,n<=i->H.get i=none)->M i e T2 H n ->
   Js E true sz sb T2 { H:=H,n:=n,log:=log } fun ex _ hs3=>ex=.normal/\n<=hs3.n/\hs3.H.get L=H.get L/\hs3.H.get bx=H.get bx/\(∀ i,hs3.n<=i->hs3.H.get i=none)/\I i hs3.H)
 (hQ:∀ H n log,L<n->(∀ i,n<=i->H.get i=none)->I 0 H->Q .normal T { H:=H,n:=n,log:=log }) :
 Js E false sz (.range g ps sa sb) T { H:=H0,n:=L,log:=log } Q:=fun c hc=>by
 obtain⟨a,b,rfl,ha,hb2⟩:=eB hc
 obtain ⟨n,hs',h1,h2,h3,h4,h5,h6⟩:=zar (f:=f) (L:=L) (bx:=bx) hf hb hnt hres zxg zr7 zA4 hsz hval hlen
  (fun j hs=>hs.H.get bx=some (.arr 1 0 [[.sl es tg]] true false false)/\hs.H.get L=some (.lp sz T ps.toList a b 0)/\L<hs.n/\(∀ i,hs.n<=i->hs.H.get i=none)/\I j hs.H)
  (fun j hs h=>h.1) (fun j hs m log h hm=>⟨h.1,h.2.1,Nat.lt_of_lt_of_le h.2.2.1 hm,fun i hi=>h.2.2.2.1 i (Nat.le_trans hm hi),h.2.2.2.2⟩) (fun j hs h=>h.2.2.2.1) (by
    intro i e he hs ⟨k1,k2,k3,k4,k5⟩;have hne:bx≠L:=by omega
    obtain⟨T1,hT1⟩:∃ T1,zM sz ps.toList [.int .i64 (i:Int),val e] T=some T1:=hz _ _;refine zch k2 hT1 (Cc (hA i e he hs.H hs.n hs.log T1 k3 k4 k5 hT1 a ha) ?_);rintro ex T2 hs2 ⟨rfl,m1,m2,m3,m4,m5⟩;refine⟨rfl,by rw[m2,k2],?_⟩;have hn2:L<hs2.n:=Nat.lt_of_lt_of_le k3 m1;refine Cc (hB i e he _ hs2.n _ T2 hn2 (fun i hi=>?_) (zRF _ _ _ _ _ (.lp sz T ps.toList a b 1) m5) b hb2) ?_
    . rw[PT.bD,if_neg (by omega)];exact m4 i hi
    . rintro ex T3 hs3 ⟨rfl,q1,q2,q3,q4,q5⟩;refine⟨rfl,?_,?_,?_,?_,?_,?_⟩
      . rw[q2,PT.bD,if_pos rfl]
      . show (hs3.H.set L _).get bx=_;rw[PT.bD,if_neg hne,q3,PT.bD,if_neg hne,m3,k1]
      . show (hs3.H.set L _).get L=_;rw[PT.bD,if_pos rfl]
      . exact Nat.lt_of_lt_of_le hn2 q1
      . intro i hi;show (hs3.H.set L _).get i=_;have:hs2.n<=i:=Nat.le_trans q1 hi;rw[PT.bD,if_neg (by omega)];exact q4 i hi
      . exact zLA _ _ _ q5)
  (hs := HS.put { H:=H0,n:=L+1,log:=log } L (.lp sz T ps.toList a b 0)) (by
    refine⟨?_,?_,Nat.lt_succ_self _,fun i hi=>?_,zLA _ _ _ h0⟩
    . show (H0.set L _).get bx=_;rw[PT.bD,if_neg (by omega),hbx]
    . show (H0.set L _).get L=_;rw[PT.bD,if_pos rfl]
    . show (H0.set L _).get i=_;have:L+1<=i:=hi
      rw[PT.bD,if_neg (by omega)];exact iQ i (by omega))
 refine⟨n+1,.normal,T,hs'.wr L (.lp sz T ps.toList a b 1),?_,?_⟩
 . show gd true (ob (aG T g) fun v=>z8 (jY E n) sz ps a b T { H:=H0,n:=L,log:=log } v)=_;rw[jT,hg,bP];simp only[z8,af,aD,ae];exact⟨_,rfl,iQ L (Nat.le_refl _),_,h1,_,h3,_,rfl,_,rfl,rfl⟩
 . refine hQ _ _ _ (show L<hs'.n from h4) (fun i hi=>?_) (zLA _ _ _ h6);have:hs'.n<=i:=hi;show (hs'.H.set L _).get i=_;rw[PT.bD,if_neg (by omega)];exact h5 i hi
end
end Go.J
/- The contract of slices.IX: it makes a closure on a box of its argument. -/
namespace Go.J
open Enc (enc)
def xS(g:Nat)(es:List (List V))(tg:Bool):fA where
 k:=0
 k':=1
 π:=fun i=>i
 OL:=[]
 OL':=[(0,dn (.sl es tg))]
 vs0:=[.sl es tg]
 v0:=.func g [.ptr 0 0 0]
def Es(g:Nat)(vs:List V)(hs:HS):Option fA:=match vs with
 | [.sl es tg]=>gd (cB hs hs.n) (some (xS g es tg))
 |_=>none
theorem SA{g:Nat}{es:List (List V)}{tg:Bool}:(xS g es tg).Good:=by
 refine⟨rfl,rfl,Nat.zero_le _,(fun p hp=>by cases hp),fun p hp=>?_,rfl,fun v hv=>?_⟩
 . simp only[xS,List.mem_singleton]at hp;subst hp;exact⟨rfl,rfl⟩
 . simp only[xS,List.mem_singleton]at hv;subst hv;rfl
theorem zas{g:Nat}{vs:List V}{hs:HS}{D:fA}(h:Es g vs hs=some D):∃ es tg,D=xS g es tg/\D.Good/\D.Fits vs hs:=by
 unfold Es at h;split at h
 . rename_i es tg;simp only[aD,ae]at h;obtain⟨h1,h⟩:=h;cases h;refine⟨es,tg,rfl,SA,rfl,fun i j hi=>?_,(fun p hp=>by cases hp),fun i hi=>?_,fun i hi=>?_⟩
   . simp only[xS]at hi;omega
   . simp only[xS]at hi;have:i=0:=by omega
     subst this;exact h1
   . simp only[xS]at hi;omega
 . cases h
section
variable {g:Nat}{es:List (List V)}{tg:Bool}{hs:HS}
@[simp] theorem zzC:(xS g es tg).val hs=.func g [.ptr hs.n 0 0]:=(rfl)
@[simp] theorem zwB:(xS g es tg).heap hs={ H:=hs.H.set hs.n (dn (.sl es tg)),n:=hs.n+1,log:=hs.n::hs.log }:=(rfl)
@[simp] theorem zIW:Es g [.sl es tg] hs=gd (cB hs hs.n) (some (xS g es tg)):=(rfl)
end
end Go.J
