import Derived.Test.YtpcmebclpindjaaGreatJK
import Derived.Test.YtpcmebclpindjaaGreatJI
set_option linter.all false
noncomputable section
/- Schemes,contexts,declarations. -/
namespace Go.J
open Enc (enc)
structure Scheme where
 count:Int
 type:Ty
 deriving DecidableEq
def zak(a:Scheme):List V:=[.int .i64 a.count,.int .i64 a.type.kind,.str a.type.name,.int .i64 a.type.id,.int .i64 a.type.home,.sl (a.type.args.map zg) false]
def zea(c:List V):Option Scheme :=
 match c with
 | [.int .i64 x0,.int .i64 x1,.str x2,.int .i64 x3,.int .i64 x4,.sl x5 false]=>ob (zN x5) fun y5=>some ⟨x0,(Ty.mk x1 x2 x3 x4 y5)⟩
 |_=>none
theorem zh8{x0:Int}{x1:Int}{x2:List Nat}{x3:Int}{x4:Int}{x5:List (List V)}:zea [.int .i64 x0,.int .i64 x1,.str x2,.int .i64 x3,.int .i64 x4,.sl x5 false]=ob (zN x5) fun y5=>some ⟨x0,(Ty.mk x1 x2 x3 x4 y5)⟩:=(rfl)
instance:Cel Scheme where
 cells:=zak
 dec:=zea
 dec_enc a:=by simp only[zak,zh8,zeb,zB,Ty.eta]
 enc_dec c a h:=by
  unfold zea at h;split at h
  . simp only[zb]at h;obtain⟨y5,hy5,h⟩:=h;cases h;have hy5:=zao hy5
    subst_vars
    rfl
  . cases h
 pure2 a:=rfl
 norm a:=by simp only[zak,zT,zac,zdP]
instance:Enc Scheme:=zcP
@[simp] theorem z3n:@Cel.cells Scheme _=zak:=(rfl)
@[simp] theorem zxF:@Cel.dec Scheme _=zea:=(rfl)
@[simp] theorem z8H (a:Scheme):enc a=.agg (zak a):=(rfl)
@[simp] theorem z8O {c:List V}:Enc.dec (α:=Scheme) (.agg c)=zea c:=(rfl)
@[simp] theorem z6k (l:List Scheme):zN (l.map zak)=some l:=zaw l
@[simp] theorem z4I (l:List Scheme):zG (l.map zak)=l.map zak:=zR l
@[simp] theorem zk4 (l:List Scheme):((l.map zak).all fun e=>e.all V.pure2)=true:=zS l
@[simp] theorem z5X (l:List Scheme):enc l=.sl (l.map zak) false:=(rfl)
@[simp] theorem z6e {es:List (List V)}:Enc.dec (α:=List Scheme) (.sl es false)=zN es:=(rfl)
@[simp] theorem z9V (l:List Scheme):sizes 6 (l.map zak)=true:=by rw[sizes_eq];intro e he;obtain⟨a,_,rfl⟩:=List.mem_map.1 he;rfl
@[simp] theorem zD3 (l:List Scheme):zI (l.map zak)=true:=zA zk4
@[simp] theorem z8E (a:Scheme):Scheme.mk a.count a.type=a:=(rfl)
attribute [simp] zh8 zak
structure Entry where
 name:List Nat
 scheme:Scheme
 deriving DecidableEq
def zL(a:Entry):List V:=[.str a.name,.int .i64 a.scheme.count,.int .i64 a.scheme.type.kind,.str a.scheme.type.name,.int .i64 a.scheme.type.id,.int .i64 a.scheme.type.home,.sl (a.scheme.type.args.map zg) false]
def zfw(c:List V):Option Entry :=
 match c with
 | [.str x0,.int .i64 x1,.int .i64 x2,.str x3,.int .i64 x4,.int .i64 x5,.sl x6 false]=>ob (zN x6) fun y6=>some ⟨x0,⟨x1,(Ty.mk x2 x3 x4 x5 y6)⟩⟩
 |_=>none
theorem ziY{x0:List Nat}{x1:Int}{x2:Int}{x3:List Nat}{x4:Int}{x5:Int}{x6:List (List V)}:zfw [.str x0,.int .i64 x1,.int .i64 x2,.str x3,.int .i64 x4,.int .i64 x5,.sl x6 false]=ob (zN x6) fun y6=>some ⟨x0,⟨x1,(Ty.mk x2 x3 x4 x5 y6)⟩⟩:=(rfl)
instance:Cel Entry where
 cells:=zL
 dec:=zfw
 dec_enc a:=by simp only[zL,ziY,zeb,zB,Ty.eta]
 enc_dec c a h:=by
  unfold zfw at h;split at h
  . simp only[zb]at h;obtain⟨y6,hy6,h⟩:=h;cases h;have hy6:=zao hy6
    subst_vars
    rfl
  . cases h
 pure2 a:=rfl
 norm a:=by simp only[zL,zT,zac,zdP]
instance:Enc Entry:=zcP
@[simp] theorem z6v:@Cel.cells Entry _=zL:=(rfl)
@[simp] theorem z3r:@Cel.dec Entry _=zfw:=(rfl)
@[simp] theorem zC6 (a:Entry):enc a=.agg (zL a):=(rfl)
@[simp] theorem zCG {c:List V}:Enc.dec (α:=Entry) (.agg c)=zfw c:=(rfl)
@[simp] theorem z8U (l:List Entry):zN (l.map zL)=some l:=zaw l
@[simp] theorem z7Z (l:List Entry):zG (l.map zL)=l.map zL:=zR l
@[simp] theorem zmh (l:List Entry):((l.map zL).all fun e=>e.all V.pure2)=true:=zS l
@[simp] theorem z8J (l:List Entry):enc l=.sl (l.map zL) false:=(rfl)
@[simp] theorem z8Q {es:List (List V)}:Enc.dec (α:=List Entry) (.sl es false)=zN es:=(rfl)
@[simp] theorem zEi (l:List Entry):sizes 7 (l.map zL)=true:=by rw[sizes_eq];intro e he;obtain⟨a,_,rfl⟩:=List.mem_map.1 he;rfl
@[simp] theorem zG5 (l:List Entry):zI (l.map zL)=true:=zA zmh
@[simp] theorem zCx (a:Entry):Entry.mk a.name a.scheme=a:=(rfl)
attribute [simp] ziY zL
structure Ctor where
 pos:Int
 name:List Nat
 fields:List Ty
 deriving DecidableEq
def zay(a:Ctor):List V:=[.int .i64 a.pos,.str a.name,.sl (a.fields.map zg) false]
def zhB(c:List V):Option Ctor :=
 match c with
 | [.int .i64 x0,.str x1,.sl x2 false]=>ob (zN x2) fun y2=>some ⟨x0,x1,y2⟩
 |_=>none
theorem zly{x0:Int}{x1:List Nat}{x2:List (List V)}:zhB [.int .i64 x0,.str x1,.sl x2 false]=ob (zN x2) fun y2=>some ⟨x0,x1,y2⟩:=(rfl)
instance:Cel Ctor where
 cells:=zay
 dec:=zhB
 dec_enc a:=by simp only[zay,zly,zeb,zB,Ty.eta]
 enc_dec c a h:=by
  unfold zhB at h;split at h
  . simp only[zb]at h;obtain⟨y2,hy2,h⟩:=h;cases h;have hy2:=zao hy2
    subst_vars
    rfl
  . cases h
 pure2 a:=rfl
 norm a:=by simp only[zay,zT,zac,zdP]
instance:Enc Ctor:=zcP
@[simp] theorem z9d:@Cel.cells Ctor _=zay:=(rfl)
@[simp] theorem z6z:@Cel.dec Ctor _=zhB:=(rfl)
@[simp] theorem zFW (a:Ctor):enc a=.agg (zay a):=(rfl)
@[simp] theorem zGe {c:List V}:Enc.dec (α:=Ctor) (.agg c)=zhB c:=(rfl)
@[simp] theorem zvb (l:List Ctor):zN (l.map zay)=some l:=zaw l
@[simp] theorem zqO (l:List Ctor):zG (l.map zay)=l.map zay:=zR l
@[simp] theorem zoO (l:List Ctor):((l.map zay).all fun e=>e.all V.pure2)=true:=zS l
@[simp] theorem zC4 (l:List Ctor):enc l=.sl (l.map zay) false:=(rfl)
@[simp] theorem zCE {es:List (List V)}:Enc.dec (α:=List Ctor) (.sl es false)=zN es:=(rfl)
@[simp] theorem zHn (l:List Ctor):sizes 3 (l.map zay)=true:=by rw[sizes_eq];intro e he;obtain⟨a,_,rfl⟩:=List.mem_map.1 he;rfl
@[simp] theorem zJI (l:List Ctor):zI (l.map zay)=true:=zA zoO
@[simp] theorem zFM (a:Ctor):Ctor.mk a.pos a.name a.fields=a:=(rfl)
attribute [simp] zly zay
structure Decl where
 pos:Int
 name:List Nat
 params:List (List Nat)
 ctors:List Ctor
 deriving DecidableEq
def zq(a:Decl):List V:=[.int .i64 a.pos,.str a.name,.sl (a.params.map (encS)) false,.sl (a.ctors.map zay) false]
def zhA(c:List V):Option Decl :=
 match c with
 | [.int .i64 x0,.str x1,.sl x2 false,.sl x3 false]=>ob (zN x2) fun y2=>ob (zN x3) fun y3=>some ⟨x0,x1,y2,y3⟩
 |_=>none
theorem zlx{x0:Int}{x1:List Nat}{x2:List (List V)}{x3:List (List V)}:zhA [.int .i64 x0,.str x1,.sl x2 false,.sl x3 false]=ob (zN x2) fun y2=>ob (zN x3) fun y3=>some ⟨x0,x1,y2,y3⟩:=(rfl)
instance:Cel Decl where
 cells:=zq
 dec:=zhA
 dec_enc a:=by simp only[zq,zlx,zvb,zor,zB,Ty.eta]
 enc_dec c a h:=by
  unfold zhA at h;split at h
  . simp only[zb]at h;obtain⟨y2,hy2,y3,hy3,h⟩:=h;cases h;have hy2:=zao hy2;have hy3:=zao hy3
    subst_vars
    rfl
  . cases h
 pure2 a:=rfl
 norm a:=by simp only[zq,zT,zac,zqO,zns]
instance:Enc Decl:=zcP
@[simp] theorem z9c:@Cel.cells Decl _=zq:=(rfl)
@[simp] theorem z6y:@Cel.dec Decl _=zhA:=(rfl)
@[simp] theorem zFV (a:Decl):enc a=.agg (zq a):=(rfl)
@[simp] theorem zGd {c:List V}:Enc.dec (α:=Decl) (.agg c)=zhA c:=(rfl)
@[simp] theorem zCI (l:List Decl):zN (l.map zq)=some l:=zaw l
@[simp] theorem zBa (l:List Decl):zG (l.map zq)=l.map zq:=zR l
@[simp] theorem zoN (l:List Decl):((l.map zq).all fun e=>e.all V.pure2)=true:=zS l
@[simp] theorem zC3 (l:List Decl):enc l=.sl (l.map zq) false:=(rfl)
@[simp] theorem zCD {es:List (List V)}:Enc.dec (α:=List Decl) (.sl es false)=zN es:=(rfl)
@[simp] theorem zHm (l:List Decl):sizes 4 (l.map zq)=true:=by rw[sizes_eq];intro e he;obtain⟨a,_,rfl⟩:=List.mem_map.1 he;rfl
@[simp] theorem zJH (l:List Decl):zI (l.map zq)=true:=zA zoN
@[simp] theorem zFL (a:Decl):Decl.mk a.pos a.name a.params a.ctors=a:=(rfl)
attribute [simp] zlx zq
end Go.J
/- What small functions of types compute. -/
namespace Go.J
open Enc (enc)
def zoW(n m:Int):Int:=if m<1 then 0 else n % m
theorem zgZ(n m:Int):0<=zoW n m:=by
 unfold zoW;split
 . omega
 . exact Int.emod_nonneg _ (by omega)
theorem zqU{n m:Int}(h:1<=m):zoW n m<m:=by
 unfold zoW;rw[if_neg (by omega)];exact Int.emod_lt_of_pos _ (by omega)
def zeU(n:List Nat)(l:List Ty):Ty:=.mk 4 n 0 0 l
def za0(i:Int):Ty:=.mk 1 [] i 0 []
def zaU(i:Int):Ty:=.mk 2 [] i 0 []
def zaq(h i:Int):Ty:=.mk 3 [] i h []
def zeZ(n:List Nat):Ty:=.mk 5 n 0 0 []
def tInt:Ty:=zeU [73,110,116] []
def zbI(a b:Ty):Ty:=zeU [45,62] [a,b]
theorem zna(n m:Int):n % m=n.tmod m % m:=by
 have h:=Int.mul_tdiv_add_tmod n m
 calc n % m=(m*n.tdiv m+n.tmod m) % m:=by rw[h]
  _=n.tmod m % m:=by rw[Int.add_comm,Int.add_mul_emod_self_left]
theorem zwk{n m:Int}(hm:1<=m)(h:n.tmod m<0):n % m=n.tmod m+m:=by
 have h1:=Int.lt_tmod_of_pos n (show 0<m by omega);rw[zna,<- Int.add_emod_right,Int.emod_eq_of_lt (by omega) (by omega)]
theorem zwj{n m:Int}(hm:1<=m)(h:0<=n.tmod m):n % m=n.tmod m:=by
 rw[zna,Int.emod_eq_of_lt h (Int.tmod_lt_of_pos n (by omega))]
def Tp.next(t:Tp)(n:Int):Tp×Int :=
 if t.l.length<=t.i then (t,0)else ({ t with i:=t.i+1 },zoW (t.l.getD t.i.toNat 0) n)
def zcc(n:Nat):List Ty:=(List.range n).map fun i=>za0 (i:Nat)
theorem zo3(n:Nat):zcc (n+1)=zcc n++[za0 (n:Nat)]:=by simp[zcc,List.range_succ]
@[simp] theorem z9H (n:Nat):(zcc n).length=n:=by simp[zcc]
end Go.J
/- The data declarations that programs are made of;what a tape makes. -/
namespace Go.J
open Enc (enc)
def allD:List Decl:=[⟨0,[66,111,111,108],[],[⟨12,[84,114,117,101],[]⟩,⟨19,[70,97,108,115,101],[]⟩]⟩,
 ⟨26,[79,112,116,105,111,110],[[97]],[⟨42,[78,111,110,101],[]⟩,⟨49,[83,111,109,101],[.mk 5 [97] 0 0 []]⟩]⟩,
 ⟨57,[76,105,115,116],[[97]],[⟨71,[78,105,108],[]⟩,⟨77,[67,111,110,115],[.mk 5 [97] 0 0 [],.mk 4 [76,105,115,116] 0 0 [.mk 5 [97] 0 0 []]]⟩]⟩,
 ⟨93,[80,97,105,114],[[97],[98]],[⟨109,[80,97,105,114],[.mk 5 [97] 0 0 [],.mk 5 [98] 0 0 []]⟩]⟩,
 ⟨119,[78,97,116],[],[⟨130,[90,101,114,111],[]⟩,⟨137,[83,117,99,99],[.mk 4 [78,97,116] 0 0 []]⟩]⟩,
 ⟨147,[70,117,110],[[97],[98]],[⟨162,[70,117,110],[.mk 4 [45,62] 0 0 [.mk 5 [97] 0 0 [],.mk 5 [98] 0 0 []]]⟩]⟩,
 ⟨176,[84,119,111],[[97]],[⟨189,[66,111,116,104],[.mk 5 [97] 0 0 [],.mk 5 [97] 0 0 []]⟩,⟨200,[79,110,101],[.mk 4 [79,112,116,105,111,110] 0 0 [.mk 5 [97] 0 0 []]]⟩]⟩]
def zO5:V:=.sl [[.int .i64 0,.str [66,111,111,108],.snil,.sl [[.int .i64 12,.str [84,114,117,101],.snil],[.int .i64 19,.str [70,97,108,115,101],.snil]] false],[.int .i64 26,.str [79,112,116,105,111,110],.sl [[.str [97]]] false,.sl [[.int .i64 42,.str [78,111,110,101],.snil],[.int .i64 49,.str [83,111,109,101],.sl [[.int .i64 5,.str [97],.int .i64 0,.int .i64 0,.snil]] false]] false],[.int .i64 57,.str [76,105,115,116],.sl [[.str [97]]] false,.sl [[.int .i64 71,.str [78,105,108],.snil],[.int .i64 77,.str [67,111,110,115],.sl [[.int .i64 5,.str [97],.int .i64 0,.int .i64 0,.snil],[.int .i64 4,.str [76,105,115,116],.int .i64 0,.int .i64 0,.sl [[.int .i64 5,.str [97],.int .i64 0,.int .i64 0,.snil]] false]] false]] false],[.int .i64 93,.str [80,97,105,114],.sl [[.str [97]],[.str [98]]] false,.sl [[.int .i64 109,.str [80,97,105,114],.sl [[.int .i64 5,.str [97],.int .i64 0,.int .i64 0,.snil],[.int .i64 5,.str [98],.int .i64 0,.int .i64 0,.snil]] false]] false],[.int .i64 119,.str [78,97,116],.snil,.sl [[.int .i64 130,.str [90,101,114,111],.snil],[.int .i64 137,.str [83,117,99,99],.sl [[.int .i64 4,.str [78,97,116],.int .i64 0,.int .i64 0,.snil]] false]] false],[.int .i64 147,.str [70,117,110],.sl [[.str [97]],[.str [98]]] false,.sl [[.int .i64 162,.str [70,117,110],.sl [[.int .i64 4,.str [45,62],.int .i64 0,.int .i64 0,.sl [[.int .i64 5,.str [97],.int .i64 0,.int .i64 0,.snil],[.int .i64 5,.str [98],.int .i64 0,.int .i64 0,.snil]] false]] false]] false],[.int .i64 176,.str [84,119,111],.sl [[.str [97]]] false,.sl [[.int .i64 189,.str [66,111,116,104],.sl [[.int .i64 5,.str [97],.int .i64 0,.int .i64 0,.snil],[.int .i64 5,.str [97],.int .i64 0,.int .i64 0,.snil]] false],[.int .i64 200,.str [79,110,101],.sl [[.int .i64 4,.str [79,112,116,105,111,110],.int .i64 0,.int .i64 0,.sl [[.int .i64 5,.str [97],.int .i64 0,.int .i64 0,.snil]] false]] false]] false]] false
def zi7(bits:Int):List Decl->Nat->List Decl
 | [],_=>[]
 |d::l,i=>if i≠1/\zxW .i64 (bits.fdiv (2 ^ i)) 1=1 then d::zi7 bits l (i+1)else zi7 bits l (i+1)
def zw1(bits:Int)(l:List Decl):List Decl:=if zxW .i64 bits 2≠0\/zxW .i64 bits 64≠0 then (l[1]?).toList else []
def zD(bits:Int):List Decl:=zw1 bits allD++zi7 bits allD 0
theorem zw0(bits:Int):∀ (l m:List Decl) (i:Nat),zi7 bits (l++m) i=zi7 bits l i++zi7 bits m (i+l.length):=by
 intro l
 induction l with
 |nil=>intro m i;simp[zi7]
 | cons d l ih =>
   grind [zi7]
theorem zwz{bits:Int}{d:Decl}:∀ {l:List Decl} {i:Nat},d∈zi7 bits l i->d∈l:=by
 intro l
 induction l with
 |nil=>intro i h;cases h
 | cons x l ih =>
   intro i h;unfold zi7 at h
   grind
theorem znj(bits:Int):∀ (l:List Decl) (i:Nat),(zi7 bits l i).length<=l.length:=by
 intro l
 induction l with
 |nil=>intro i;exact Nat.le_refl _
 | cons x l ih =>
   grind [zi7,List.length_cons]
theorem zd0{bits:Int}{d:Decl}(h:d∈zD bits):d∈allD:=by
 grind [zD,zw1,List.mem_of_getElem?,zwz]
theorem zm6(bits:Int):(zD bits).length<=8:=by
 unfold zD
 grind [List.length_append,znj,allD,zw1]
end Go.J
/- Types that a tape makes. -/
namespace Go.J
open Enc (enc)
theorem zgY(t:Tp)(n:Int):(t.next n).1.l=t.l:=by unfold Tp.next;split<;>rfl
theorem zBf{t:Tp}(h:0<=t.i)(n:Int):0<=(t.next n).1.i:=by
 unfold Tp.next;split
 . exact h
 . show 0<=t.i+1;omega
theorem zfK(t:Tp)(n:Int):0<=(t.next n).2:=by
 unfold Tp.next;split
 . exact Int.le_refl _
 . exact zgZ _ _
theorem zgX(t:Tp){n:Int}(h:1<=n):(t.next n).2<n:=by
 unfold Tp.next;split
 . omega
 . exact zqU h
def Tp.ok(t:Tp):Prop:=0<=t.i/\t.l.length<=100000
theorem zO{t:Tp}(h:t.ok)(n:Int):(t.next n).1.ok:=⟨zBf h.1 n,by rw[zgY];exact h.2⟩
theorem zev{α:Type}(t:Tp){l:List α}(h:l≠[]):∃ (j:Nat) (hj:j<l.length),(t.next (l.length:Int)).2=(j:Int)/\l[(t.next (l.length:Int)).2.toNat]?=some l[j]:=by
 have h1:=zfK t (l.length:Int);have h0:0<l.length:=List.length_pos_iff.2 h;have h2:=zgX t (n:=(l.length:Int)) (by omega)
 grind
mutual
def typeM : Nat->Tp->List Decl->List Ty->Tp×Ty
 | d, t, D,Lv =>
   let k:=(t.next 7).2
   let t1:=(t.next 7).1
   if k<3/\Lv≠[]then ((t1.next Lv.length).1,(Lv[(t1.next Lv.length).2.toNat]?).getD tInt)
   else if k<4 then (t1,tInt)
   else match d with
    | 0=>(t1,tInt)
    | d + 1 =>
      if (k=4\/k=5)/\D≠[]then
       let dd:=(D[(t1.next D.length).2.toNat]?).getD ⟨0,[],[],[]⟩
       let r:=zch d (t1.next D.length).1 D Lv dd.params.length
       (r.1,zeU dd.name r.2)
      else
       let a:=typeM d t1 D Lv
       let b:=typeM d a.1 D Lv
       (b.1,zbI a.2 b.2)
 termination_by d=>(d,0)
def zch(d:Nat)(t:Tp)(D:List Decl)(Lv:List Ty):Nat->Tp×List Ty
 | 0=>(t,[])
 |n+1=>((typeM d (zch d t D Lv n).1 D Lv).1,(zch d t D Lv n).2++[(typeM d (zch d t D Lv n).1 D Lv).2])
 termination_by n=>(d,n+1)
end
theorem zf1(d:Nat)(t:Tp)(D:List Decl)(Lv:List Ty)(n:Nat):(zch d t D Lv n).2.length=n:=by
 induction n with
 |zero=>rw[zch];rfl
 |succ n ih=>rw[zch];simp[ih]
theorem zdI {P:Ty->Prop} {D:List Decl} {Lv:List Ty} (hl:∀ l∈Lv,P l) (hi:P tInt) (hc:∀ dd∈D,∀ l:List Ty,l.length=dd.params.length->(∀ x∈l,P x)->P (zeU dd.name l)) (ha:∀ a b,P a->P b->P (zbI a b)) :
 ∀ (d:Nat) (t:Tp),P (typeM d t D Lv).2:=by
 intro d
 induction d with
 | zero =>
   intro t;rw[typeM]
   try dsimp only
   split
   . rename_i h;obtain⟨j,hj,_,h2⟩:=zev (t.next 7).1 h.2
     grind
   grind
 | succ d ih =>
   intro t;rw[typeM]
   try dsimp only
   split
   . rename_i h;obtain⟨j,hj,_,h2⟩:=zev (t.next 7).1 h.2
     grind
   . split
     . exact hi
     . split
       . rename_i h;obtain⟨j,hj,_,h2⟩:=zev (t.next 7).1 h.2;rw[h2];refine hc _ (List.getElem_mem hj) _ (zf1 ..) ?_;generalize hn:(((some D[j]).getD _:Decl).params.length)=n;clear hn
         induction n with
         |zero=>intro x hx;rw[zch]at hx;cases hx
         | succ n ihn =>
           intro x hx;rw[zch]at hx
           grind [List.mem_singleton]
       grind
theorem zgv {D:List Decl} {Lv:List Ty}:∀ (d:Nat) (t:Tp),t.ok->(typeM d t D Lv).1.ok/\(typeM d t D Lv).1.l=t.l:=by
 intro d
 induction d with
 | zero =>
   grind [typeM,zO,zgY]
 | succ d ih =>
   intro t h;rw[typeM]
   try dsimp only
   split
   . grind [zO,zgY]
   . split
     . grind [zO,zgY]
     . split
       . have h1:=zO (zO h 7) (D.length:Int);have h2:((t.next 7).1.next (D.length:Int)).1.l=t.l:=by rw[zgY,zgY]
         generalize (t.next 7).1.next (D.length:Int)=q at h1 h2;generalize (((D[q.2.toNat]?).getD _:Decl).params.length)=n
         induction n with
         |zero=>rw[zch];exact⟨h1,h2⟩
         | succ n ihn =>
           grind [zch]
       grind [zO,zgY]
theorem zxV{D:List Decl}{Lv:List Ty}(d:Nat){t:Tp}(h:t.ok)(n:Nat):(zch d t D Lv n).1.ok:=by
 induction n with
 |zero=>rw[zch];exact h
 |succ n ih=>rw[zch];exact(zgv d _ ih).1
def DOk(D:List Decl):Prop:=D.length<=1000/\∀ d∈D,d.params.length<=100
theorem zpq(bits:Int):DOk (zD bits):=by
 refine⟨by have:=zm6 bits;omega,fun d hd=>?_⟩;have:=zd0 hd;have key:∀ d∈allD,d.params.length<=100:=by decide
 grind
end Go.J
/- Substitutions. -/
namespace Go.J
open Enc (enc)
def zP:List Assign->Int->Option Ty
 | [],_=>none
 |a::s,i=>if a.id=i then some a.type else zP s i
theorem zbu(s u:List Assign)(i:Int):zP (s++u) i=(zP s i).or (zP u i):=by
 induction s with
 |nil=>rfl
 | cons a s ih =>
   grind [zP]
mutual
def Ty.repl(s:List Assign):Ty->Ty
 |.mk k n i h l=>if k=1 then (zP s i).getD (.mk k n i h l)else .mk k n i h (Ty.repls s l)
def Ty.repls(s:List Assign):List Ty->List Ty
 | []=>[]
 |t::l=>Ty.repl s t::Ty.repls s l
end
theorem znn(s:List Assign)(l:List Ty):Ty.repls s l=l.map (Ty.repl s):=by
 induction l with
 |nil=>simp[Ty.repls]
 |cons t l ih=>simp[Ty.repls,ih]
theorem zeI(s:List Assign)(t:Ty):t.repl s=if t.kind=1 then (zP s t.id).getD t else .mk t.kind t.name t.id t.home (t.args.map (Ty.repl s)):=by
 cases t;simp only[Ty.repl,Ty.kind_mk,Ty.name_mk,Ty.id_mk,Ty.home_mk,Ty.args_mk,znn]
end Go.J
/- Stores of type variables: what the small functions compute. -/
namespace Go.J
open Enc (enc)
def ty0:Ty:=.mk 0 [] 0 0 []
def z4f:Slot:=⟨false,ty0,0,false⟩
namespace Store
def slot? (s:Store)(id:Int):Option Slot:=if 0<=id then s.slots[id.toNat]? else none
def fresh(s:Store)(home:Int)(base:Bool):Store×Ty :=
 (⟨s.slots++[⟨false,ty0,home,base⟩],s.trail++[⟨s.slots.length,z4f,true⟩]⟩,za0 s.slots.length)
def set(s:Store)(id:Int)(x:Slot):Store×Bool :=
 match s.slot? id with
 |some old=>(⟨s.slots.set id.toNat x,s.trail++[⟨id,old,false⟩]⟩,true)
 |none=>(s,false)
def bound(s:Store)(t:Ty):Bool :=
 match decide (t.kind=1),s.slot? t.id with
 |true,some x=>x.bound
 |_,_=>false
def to(s:Store)(t:Ty):Ty :=
 match s.slot? t.id with
 |some x=>x.type
 |none=>ty0
def walkN(s:Store):Nat->Ty->Ty
 | 0,t=>t
 |n+1,t=>if s.bound t then walkN s n (s.to t)else t
def small(s:Store):Prop:=s.slots.length<=1000/\s.trail.length<=1000
instance (s:Store):Decidable s.small:=inferInstanceAs (Decidable (_/\_))
theorem zko (s:Store)(i:Nat):s.slot? (i:Int)=s.slots[i]?:=by simp[slot?]
theorem slot?_some {s:Store}{id:Int}{x:Slot}(h:s.slot? id=some x):∃ i:Nat,id=i/\i<s.slots.length/\s.slots[i]?=some x:=by
 unfold slot? at h
 grind
theorem zfV{s:Store}{t:Ty}(h:s.bound t=true):t.kind=1/\∃ x,s.slot? t.id=some x/\x.bound=true:=by
 grind [bound]
theorem zow{s:Store}{t:Ty}{x:Slot}(h1:t.kind=1)(h2:s.slot? t.id=some x):s.bound t=x.bound:=by
 grind [bound]
end Store
def z5t (t:Ty):T3 Ty Ty Bool :=
 if t.kind=4/\t.name=[45,62]then (match t.args with
  | [a,b]=>⟨a,b,true⟩
  |_=>⟨ty0,ty0,false⟩)else ⟨ty0,ty0,false⟩
end Go.J
/- Leaves of types. -/
namespace Go.J
open Enc (enc)
mutual
def zaj(kind:Int):Ty->List Ty->List Ty
 |.mk k n i h l,out=>if k=kind/\l=[]then (if Ty.mk k n i h l∈out then out else out++[Ty.mk k n i h l])else zx kind l out
def zx(kind:Int):List Ty->List Ty->List Ty
 | [],out=>out
 |t::l,out=>zx kind l (zaj kind t out)
end
theorem zc0(kind:Int)(t:Ty)(out:List Ty):zaj kind t out=if t.kind=kind/\t.args=[]then (if t∈out then out else out++[t])else zx kind t.args out:=by
 cases t;simp[zaj]
theorem zgd(kind:Int)(l:List Ty)(t:Ty)(out:List Ty):zx kind (l++[t]) out=zaj kind t (zx kind l out):=by
 induction l generalizing out with
 |nil=>simp[zx]
 |cons a l ih=>simp[zx,ih]
theorem zge{kind:Int}{l:List Ty}(h:∀ t∈l,∀ out,out.length<=(zaj kind t out).length/\(zaj kind t out).length<=out.length+t.size):∀ out,out.length<=(zx kind l out).length/\(zx kind l out).length<=out.length+Ty.sizes l:=by
 induction l with
 |nil=>intro out;simp[zx,Ty.sizes]
 | cons a l ih =>
   intro out;have h1:=h a (List.mem_cons_self ..) out;have h2:=ih (fun t ht=>h t (List.mem_cons_of_mem _ ht)) (zaj kind a out);simp only[zx,Ty.sizes];omega
theorem zdy(kind:Int)(t:Ty):∀ out,out.length<=(zaj kind t out).length/\(zaj kind t out).length<=out.length+t.size:=by
 induction t using Ty.ind with
 | h t ih =>
   intro out;rw[zc0];have hp:=Ty.size_pos t;split
   . grind
   . have:=zge (kind:=kind) ih out;have:=Ty.size_eq t;omega
theorem zbc(kind:Int)(l:List Ty):∀ out,out.length<=(zx kind l out).length/\(zx kind l out).length<=out.length+Ty.sizes l:=zge fun t _=>zdy kind t
theorem zhh{kind:Int}{l:List Ty}(h:∀ t∈l,∀ out,Ty.oks out=true->Ty.oks (zaj kind t out)=true):∀ out,Ty.oks out=true->Ty.oks (zx kind l out)=true:=by
 induction l with
 |nil=>intro out ho;simpa [zx]using ho
 | cons a l ih =>
   intro out ho;simp only[zx]
   grind
theorem zpc (kind:Int) (t:Ty):t.ok=true->∀ out,Ty.oks out=true->Ty.oks (zaj kind t out)=true:=by
 induction t using Ty.ind with
 | h t ih =>
   intro ht out ho;rw[zc0];split
   . split
     . exact ho
     . rw[Ty.oks_iff]at ho ⊢
       grind
   . exact zhh (fun u hu=>ih u hu (Ty.ok_arg ht hu)) out ho
theorem ziJ{kind:Int}{l:List Ty}(hl:Ty.oks l=true):∀ out,Ty.oks out=true->Ty.oks (zx kind l out)=true :=
 zhh fun t ht=>zpc kind t (Ty.oks_iff.1 hl t ht)
theorem zfd(l m:List Ty):Ty.sizes (l++m)=Ty.sizes l+Ty.sizes m:=by
 induction l with
 |nil=>simp[Ty.sizes]
 |cons a l ih=>simp[Ty.sizes,ih,Nat.add_assoc]
theorem zds(l:List Ty)(i:Nat):Ty.sizes (l.take i)<=Ty.sizes l:=by
 grind [zfd,List.take_append_drop]
theorem znr{l:List Ty}(h:Ty.oks l=true)(i:Nat):Ty.oks (l.take i)=true:=Ty.oks_iff.2 fun t ht=>Ty.oks_iff.1 h t (List.mem_of_mem_take ht)
section
variable {σ α β:Type} [Cel σ] [Enc α] [Enc β]
def zxm(F:List σ->α->Option (List σ))(es:List (List V))(vs:List V):Option (List (List V)×List V):=match vs with
 | [x]=>ob (zN es) fun l=>ob (Enc.dec x) fun a=>ob (F l a) fun r=>some (r.map Cel.cells,[])
 |_=>none
def zvI(F:List σ->α->β->Option (List σ))(es:List (List V))(vs:List V):Option (List (List V)×List V):=match vs with
 | [x,y]=>ob (zN es) fun l=>ob (Enc.dec x) fun a=>ob (Enc.dec y) fun b=>ob (F l a b) fun r=>some (r.map Cel.cells,[])
 |_=>none
@[simp] theorem zKO {F:List σ->α->Option (List σ)} {es:List (List V)} {x:V}:zxm F es [x]=ob (zN es) fun l=>ob (Enc.dec x) fun a=>ob (F l a) fun r=>some (r.map Cel.cells,[]):=(rfl)
@[simp] theorem zKN {F:List σ->α->β->Option (List σ)} {es:List (List V)} {x y:V}:zvI F es [x,y]=ob (zN es) fun l=>ob (Enc.dec x) fun a=>ob (Enc.dec y) fun b=>ob (F l a b) fun r=>some (r.map Cel.cells,[]):=(rfl)
theorem znz{F:List σ->α->Option (List σ)}{es:List (List V)}{vs:List V}{r:List (List V)×List V}(h:zxm F es vs=some r):∃ l a q,es=l.map Cel.cells/\vs=[enc a]/\F l a=some q/\r=(q.map Cel.cells,[]):=by
 unfold zxm at h;split at h
 . simp only[zb]at h;obtain⟨l,hl,a,ha,q,hq,h⟩:=h;cases h;exact⟨l,a,q,zao hl,by rw[Enc.enc_dec _ _ ha],hq,rfl⟩
 . cases h
theorem zny{F:List σ->α->β->Option (List σ)}{es:List (List V)}{vs:List V}{r:List (List V)×List V}(h:zvI F es vs=some r):∃ l a b q,es=l.map Cel.cells/\vs=[enc a,enc b]/\F l a b=some q/\r=(q.map Cel.cells,[]):=by
 unfold zvI at h;split at h
 . simp only[zb]at h;obtain⟨l,hl,a,ha,b,hb,q,hq,h⟩:=h;cases h;exact⟨l,a,b,q,zao hl,by rw[Enc.enc_dec _ _ ha,Enc.enc_dec _ _ hb],hq,rfl⟩
 . cases h
end
def zen(out:List Int)(t:Ty):List Int:=if t.id∈out then out else out++[t.id]
def zcG(l:List Ty):List Int:=l.foldl zen []
def zcb(l:List Ty):List Int:=zcG (zx 1 l [])
def z4l(l:List Ty):List Ty:=zx 3 l []
theorem ziK(l:List Ty)(t:Ty):zcG (l++[t])=zen (zcG l) t:=by simp[zcG]
theorem zvz(out:List Int)(t:Ty):out.length<=(zen out t).length/\(zen out t).length<=out.length+1:=by
 grind [zen]
theorem zkM(l:List Ty):(zcG l).length<=l.length:=by
 have:∀ (l:List Ty) (o:List Int),(l.foldl zen o).length<=o.length+l.length:=by
  intro l
  induction l with
  |nil=>intro o;simp
  |cons a l ih=>intro o;have:=ih (zen o a);have:=zvz o a;simp;omega
 grind [zcG]
end Go.J
/- Bytes,words. -/
namespace Go.J
open Enc (enc)
structure Byte where
 n:Nat
instance:Enc Byte where
 enc b:=.int .u8 (Int.ofNat b.n)
 dec v:=match v with
  |.int .u8 (.ofNat n)=>some ⟨n⟩
  |_=>none
 dec_enc _:=rfl
 enc_dec v a h:=by
  split at h
  . cases h;rfl
  . cases h
 norm _:=rfl
@[simp] theorem zJr {b:Byte}:(enc b:V)=.int .u8 (b.n:Int):=(rfl)
@[simp] theorem zJ3 {n:Nat}:(Enc.dec (V.int .u8 (n:Int)):Option Byte)=some ⟨n⟩:=(rfl)
def lowerB(n:Nat):Bool:=decide (97<=n)&&decide (n<=122)
def upperB(n:Nat):Bool:=decide (65<=n)&&decide (n<=90)
def zeB(n:Nat):Bool:=decide (48<=n)&&decide (n<=57)
def zbd(n:Nat):Bool:=lowerB n||upperB n||zeB n||decide (n=95)
def zeE(s:List Nat):Bool:=s.all zbd&&!s.isEmpty
def keywords:List (List Nat):=[[100,97,116,97],[108,101,116],[114,101,99],[105,110],[99,97,115,101],[111,102],[101,110,100]]
def zcd(s:List Nat):Bool:=zeE s&&upperB (s.headD 0)&&decide (s.length<=12)
def zdh(s:List Nat):Bool:=zeE s&&lowerB (s.headD 0)&&decide (s.length<=12)&&decide (s ∉ keywords)
@[simp] theorem zyP:isStr TypeDesc.string=true:=(rfl)
mutual
def Ty.short:Ty->Bool
 |.mk _ n _ _ l=>decide (n.length<2^63)&&Ty.shorts l
def Ty.shorts:List Ty->Bool
 | []=>true
 |t::l=>t.short&&Ty.shorts l
end
theorem Ty.short_iff{t:Ty}:t.short=true↔t.name.length<2^63/\Ty.shorts t.args=true:=by cases t;simp[Ty.short]
theorem Ty.shorts_iff{l:List Ty}:Ty.shorts l=true↔∀ t∈l,t.short=true:=by
 induction l with
 |nil=>simp[Ty.shorts]
 |cons a l ih=>simp[Ty.shorts,ih]
mutual
def Ty.valid:Ty->Bool
 | .mk k n i h l =>
   if k=1\/k=2 then decide (0<=i)&&decide (i<=1000000)&&decide (n=[])&&decide (h=0)&&decide (l.length=0)
   else if k=3 then decide (0<=i)&&decide (i<=1000000)&&decide (-1<=h)&&decide (h<=1000000)&&decide (n=[])&&decide (l.length=0)
   else if k=5 then decide (i=0)&&decide (h=0)&&decide (l.length=0)&&zdh n
   else if k=4 then decide (i=0)&&decide (h=0)&&Ty.valids l&&(if n=[45,62]then decide (l.length=2)else if n=[73,110,116]then decide (l.length=0)else zcd n&&decide (l.length<=4))
   else false
def Ty.valids:List Ty->Bool
 | []=>true
 |t::l=>t.valid&&Ty.valids l
end
theorem Ty.valids_iff{l:List Ty}:Ty.valids l=true↔∀ t∈l,t.valid=true:=by
 induction l with
 |nil=>simp[Ty.valids]
 |cons a l ih=>simp[Ty.valids,ih]
def Store.few(s:Store):Prop:=s.slots.length<=6/\s.trail.length<=6/\(∀ x∈s.slots,x.type.size<=20)/\∀ x∈s.trail,x.old.type.size<=20
instance:DecidablePred Store.few:=fun s=>by unfold Store.few;infer_instance
end Go.J
/- Cycles. -/
namespace Go.J
open Enc (enc)
def zJ4(rec:Int->List Int->List Int×Bool)(fr:Int):List Int->List Int->List Int×Bool
 | [],S=>(S,false)
 |v::l,S=>if v=fr then (S,true)else if S[v.toNat]?=some 0 then (if (rec v (S.set v.toNat 1)).2=true then ((rec v (S.set v.toNat 1)).1,true)else zJ4 rec fr l (rec v (S.set v.toNat 1)).1)else zJ4 rec fr l S
def zNn (s:Store) (fr:Int):Nat->Int->List Int->List Int×Bool
 | 0,_,S=>(S,false)
 | f+1,i,S=>match s.slots[i.toNat]? with
   |some x=>if x.bound=true then zJ4 (zNn s fr f) fr (zcb [x.type]) S else (S,false)
   |none=>(S,false)
def Store.closed(s:Store):Prop:=s.slots.length<=1000/\∀ x∈s.slots,x.bound=true->x.type.ok=true/\x.type.size<=10000/\∀ v∈zcb [x.type],0<=v/\v<s.slots.length
theorem Ty.valid_args {t:Ty} (h:t.valid=true):∀ u∈t.args,u.valid=true:=by
 obtain⟨k,n,i,hh,l⟩:=t;intro u hu;simp only[Ty.args_mk]at hu;unfold Ty.valid at h;by_cases hl:l.length=0
 . rw[List.length_eq_zero_iff.1 hl]at hu;cases hu
 . split at h
   . simp[hl]at h
   . split at h
     . simp[hl]at h
     . split at h
       . simp[hl]at h
       . split at h
         . simp only[Bool.and_eq_true]at h;exact Ty.valids_iff.1 h.1.2 u hu
         . cases h
def Store.slotOk(s:Store)(x:Slot):Prop:=if x.bound=true then x.type.valid=true/\∀ v∈zcb [x.type],v<s.slots.length else x.type=ty0
instance (s:Store)(x:Slot):Decidable (s.slotOk x):=by unfold Store.slotOk;infer_instance
def Store.cyc(s:Store)(i:Nat):Bool:=(zNn s i (s.slots.length+1) i (List.replicate s.slots.length 0)).2
def Store.valid(s:Store):Bool:=decide (∀ c∈s.trail,0<=c.id/\c.id<s.slots.length)&&decide (∀ x∈s.slots,s.slotOk x)&&decide (∀ i∈List.range s.slots.length,s.cyc i=false)
def Store.fine(s:Store):Prop:=s.slots.length<=1000/\s.trail.length<=1000/\∀ x∈s.slots,x.type.ok=true/\x.type.short=true/\x.type.size<=10000
instance (s:Store):Decidable s.fine:=by unfold Store.fine;infer_instance
end Go.J
