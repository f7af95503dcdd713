import Derived.Test.YtpcmebclpindjaaGreatJK
import Derived.Test.YtpcmebclpindjaaGreatJI
set_option linter.all false
noncomputable section
/- Schemes,contexts,declarations. -/
namespace Go.J
open Enc (enc)
structure Scheme where
 count:Int
 type:Ty
 deriving DecidableEq
def zao(a:Scheme):List V:=[.int .i64 a.count,.int .i64 a.type.kind,.str a.type.name,.int .i64 a.type.id,.int .i64 a.type.home,.sl (a.type.args.map zh) false]
def zdq(c:List V):Option Scheme :=
 match c with
 | [.int .i64 x0,.int .i64 x1,.str x2,.int .i64 x3,.int .i64 x4,.sl x5 false]=>ob (zI x5) fun y5=>some ⟨x0,(Ty.mk x1 x2 x3 x4 y5)⟩
 |_=>none
theorem zgd{x0:Int}{x1:Int}{x2:List Nat}{x3:Int}{x4:Int}{x5:List (List V)}:zdq [.int .i64 x0,.int .i64 x1,.str x2,.int .i64 x3,.int .i64 x4,.sl x5 false]=ob (zI x5) fun y5=>some ⟨x0,(Ty.mk x1 x2 x3 x4 y5)⟩:=(rfl)
instance:Cel Scheme where
 cells:=zao
 dec:=zdq
 dec_enc a:=by simp only[zao,zgd,zdr,zy,Ty.eta]
 enc_dec c a h:=by
  unfold zdq at h;split at h
  . simp only[za]at h;obtain⟨y5,hy5,h⟩:=h;cases h;have hy5:=zai hy5
    subst_vars
    rfl
  . cases h
 pure2 a:=rfl
 norm a:=by simp only[zao,zO,zU,zdf]
instance:Enc Scheme:=zcv
@[simp] theorem zvy:@Cel.cells Scheme _=zao:=(rfl)
@[simp] theorem zqF:@Cel.dec Scheme _=zdq:=(rfl)
@[simp] theorem zzt (a:Scheme):enc a=.agg (zao a):=(rfl)
@[simp] theorem zz0 {c:List V}:Enc.dec (α:=Scheme) (.agg c)=zdq c:=(rfl)
@[simp] theorem zx2 (l:List Scheme):zI (l.map zao)=some l:=zah l
@[simp] theorem zwy (l:List Scheme):zL (l.map zao)=l.map zao:=zK l
@[simp] theorem zi1 (l:List Scheme):((l.map zao).all fun e=>e.all V.pure2)=true:=zN l
@[simp] theorem zxp (l:List Scheme):enc l=.sl (l.map zao) false:=(rfl)
@[simp] theorem zxw {es:List (List V)}:Enc.dec (α:=List Scheme) (.sl es false)=zI es:=(rfl)
@[simp] theorem z00 (l:List Scheme):sizes 6 (l.map zao)=true:=by rw[sizes_eq];intro e he;obtain⟨a,_,rfl⟩:=List.mem_map.1 he;rfl
@[simp] theorem z3A (l:List Scheme):zD (l.map zao)=true:=z8 zi1
@[simp] theorem zzq (a:Scheme):Scheme.mk a.count a.type=a:=(rfl)
attribute [simp] zgd zao
structure Entry where
 name:List Nat
 scheme:Scheme
 deriving DecidableEq
def zb(a:Entry):List V:=[.str a.name,.int .i64 a.scheme.count,.int .i64 a.scheme.type.kind,.str a.scheme.type.name,.int .i64 a.scheme.type.id,.int .i64 a.scheme.type.home,.sl (a.scheme.type.args.map zh) false]
def zer(c:List V):Option Entry :=
 match c with
 | [.str x0,.int .i64 x1,.int .i64 x2,.str x3,.int .i64 x4,.int .i64 x5,.sl x6 false]=>ob (zI x6) fun y6=>some ⟨x0,⟨x1,(Ty.mk x2 x3 x4 x5 y6)⟩⟩
 |_=>none
theorem zho{x0:List Nat}{x1:Int}{x2:Int}{x3:List Nat}{x4:Int}{x5:Int}{x6:List (List V)}:zer [.str x0,.int .i64 x1,.int .i64 x2,.str x3,.int .i64 x4,.int .i64 x5,.sl x6 false]=ob (zI x6) fun y6=>some ⟨x0,⟨x1,(Ty.mk x2 x3 x4 x5 y6)⟩⟩:=(rfl)
instance:Cel Entry where
 cells:=zb
 dec:=zer
 dec_enc a:=by simp only[zb,zho,zdr,zy,Ty.eta]
 enc_dec c a h:=by
  unfold zer at h;split at h
  . simp only[za]at h;obtain⟨y6,hy6,h⟩:=h;cases h;have hy6:=zai hy6
    subst_vars
    rfl
  . cases h
 pure2 a:=rfl
 norm a:=by simp only[zb,zO,zU,zdf]
instance:Enc Entry:=zcv
@[simp] theorem zxA:@Cel.cells Entry _=zb:=(rfl)
@[simp] theorem zv2:@Cel.dec Entry _=zer:=(rfl)
@[simp] theorem z2w (a:Entry):enc a=.agg (zb a):=(rfl)
@[simp] theorem z2G {c:List V}:Enc.dec (α:=Entry) (.agg c)=zer c:=(rfl)
@[simp] theorem zz6 (l:List Entry):zI (l.map zb)=some l:=zah l
@[simp] theorem zyJ (l:List Entry):zL (l.map zb)=l.map zb:=zK l
@[simp] theorem zjN (l:List Entry):((l.map zb).all fun e=>e.all V.pure2)=true:=zN l
@[simp] theorem zzv (l:List Entry):enc l=.sl (l.map zb) false:=(rfl)
@[simp] theorem zz2 {es:List (List V)}:Enc.dec (α:=List Entry) (.sl es false)=zI es:=(rfl)
@[simp] theorem z4o (l:List Entry):sizes 7 (l.map zb)=true:=by rw[sizes_eq];intro e he;obtain⟨a,_,rfl⟩:=List.mem_map.1 he;rfl
@[simp] theorem z6Z (l:List Entry):zD (l.map zb)=true:=z8 zjN
@[simp] theorem z2n (a:Entry):Entry.mk a.name a.scheme=a:=(rfl)
attribute [simp] zho zb
structure Ctor where
 pos:Int
 name:List Nat
 fields:List Ty
 deriving DecidableEq
def zbv(a:Ctor):List V:=[.int .i64 a.pos,.str a.name,.sl (a.fields.map zh) false]
def zgg(c:List V):Option Ctor :=
 match c with
 | [.int .i64 x0,.str x1,.sl x2 false]=>ob (zI x2) fun y2=>some ⟨x0,x1,y2⟩
 |_=>none
theorem zju{x0:Int}{x1:List Nat}{x2:List (List V)}:zgg [.int .i64 x0,.str x1,.sl x2 false]=ob (zI x2) fun y2=>some ⟨x0,x1,y2⟩:=(rfl)
instance:Cel Ctor where
 cells:=zbv
 dec:=zgg
 dec_enc a:=by simp only[zbv,zju,zdr,zy,Ty.eta]
 enc_dec c a h:=by
  unfold zgg at h;split at h
  . simp only[za]at h;obtain⟨y2,hy2,h⟩:=h;cases h;have hy2:=zai hy2
    subst_vars
    rfl
  . cases h
 pure2 a:=rfl
 norm a:=by simp only[zbv,zO,zU,zdf]
instance:Enc Ctor:=zcv
@[simp] theorem zzD:@Cel.cells Ctor _=zbv:=(rfl)
@[simp] theorem zxE:@Cel.dec Ctor _=zgg:=(rfl)
@[simp] theorem z6r (a:Ctor):enc a=.agg (zbv a):=(rfl)
@[simp] theorem z6z {c:List V}:Enc.dec (α:=Ctor) (.agg c)=zgg c:=(rfl)
@[simp] theorem zo1 (l:List Ctor):zI (l.map zbv)=some l:=zah l
@[simp] theorem zmL (l:List Ctor):zL (l.map zbv)=l.map zbv:=zK l
@[simp] theorem zl1 (l:List Ctor):((l.map zbv).all fun e=>e.all V.pure2)=true:=zN l
@[simp] theorem z2u (l:List Ctor):enc l=.sl (l.map zbv) false:=(rfl)
@[simp] theorem z2E {es:List (List V)}:Enc.dec (α:=List Ctor) (.sl es false)=zI es:=(rfl)
@[simp] theorem z7I (l:List Ctor):sizes 3 (l.map zbv)=true:=by rw[sizes_eq];intro e he;obtain⟨a,_,rfl⟩:=List.mem_map.1 he;rfl
@[simp] theorem zAj (l:List Ctor):zD (l.map zbv)=true:=z8 zl1
@[simp] theorem z6h (a:Ctor):Ctor.mk a.pos a.name a.fields=a:=(rfl)
attribute [simp] zju zbv
structure Decl where
 pos:Int
 name:List Nat
 params:List (List Nat)
 ctors:List Ctor
 deriving DecidableEq
def zn(a:Decl):List V:=[.int .i64 a.pos,.str a.name,.sl (a.params.map (encS)) false,.sl (a.ctors.map zbv) false]
def zgf(c:List V):Option Decl :=
 match c with
 | [.int .i64 x0,.str x1,.sl x2 false,.sl x3 false]=>ob (zI x2) fun y2=>ob (zI x3) fun y3=>some ⟨x0,x1,y2,y3⟩
 |_=>none
theorem zjt{x0:Int}{x1:List Nat}{x2:List (List V)}{x3:List (List V)}:zgf [.int .i64 x0,.str x1,.sl x2 false,.sl x3 false]=ob (zI x2) fun y2=>ob (zI x3) fun y3=>some ⟨x0,x1,y2,y3⟩:=(rfl)
instance:Cel Decl where
 cells:=zn
 dec:=zgf
 dec_enc a:=by simp only[zn,zjt,zo1,zq6,zy,Ty.eta]
 enc_dec c a h:=by
  unfold zgf at h;split at h
  . simp only[za]at h;obtain⟨y2,hy2,y3,hy3,h⟩:=h;cases h;have hy2:=zai hy2;have hy3:=zai hy3
    subst_vars
    rfl
  . cases h
 pure2 a:=rfl
 norm a:=by simp only[zn,zO,zU,zmL,zqb]
instance:Enc Decl:=zcv
@[simp] theorem zzC:@Cel.cells Decl _=zn:=(rfl)
@[simp] theorem zxD:@Cel.dec Decl _=zgf:=(rfl)
@[simp] theorem z6q (a:Decl):enc a=.agg (zn a):=(rfl)
@[simp] theorem z6y {c:List V}:Enc.dec (α:=Decl) (.agg c)=zgf c:=(rfl)
@[simp] theorem z2I (l:List Decl):zI (l.map zn)=some l:=zah l
@[simp] theorem z1t (l:List Decl):zL (l.map zn)=l.map zn:=zK l
@[simp] theorem zl0 (l:List Decl):((l.map zn).all fun e=>e.all V.pure2)=true:=zN l
@[simp] theorem z2t (l:List Decl):enc l=.sl (l.map zn) false:=(rfl)
@[simp] theorem z2D {es:List (List V)}:Enc.dec (α:=List Decl) (.sl es false)=zI es:=(rfl)
@[simp] theorem z7H (l:List Decl):sizes 4 (l.map zn)=true:=by rw[sizes_eq];intro e he;obtain⟨a,_,rfl⟩:=List.mem_map.1 he;rfl
@[simp] theorem zAi (l:List Decl):zD (l.map zn)=true:=z8 zl0
@[simp] theorem z6g (a:Decl):Decl.mk a.pos a.name a.params a.ctors=a:=(rfl)
attribute [simp] zjt zn
end Go.J
/- What small functions of types compute. -/
namespace Go.J
open Enc (enc)
def zqi(n m:Int):Int:=if m<1 then 0 else n % m
theorem zjT(n m:Int):0<=zqi n m:=by
 unfold zqi;split
 . exact Int.le_refl _
 . exact Int.emod_nonneg _ (by omega)
theorem zw5{n m:Int}(h:1<=m):zqi n m<m:=by
 unfold zqi;rw[if_neg (by omega)];exact Int.emod_lt_of_pos _ (by omega)
def zh0(n:List Nat)(l:List Ty):Ty:=.mk 4 n 0 0 l
def zfs(i:Int):Ty:=.mk 1 [] i 0 []
def zeK(i:Int):Ty:=.mk 2 [] i 0 []
def zbL(h i:Int):Ty:=.mk 3 [] i h []
def tInt:Ty:=zh0 [73,110,116] []
def zd9(a b:Ty):Ty:=zh0 [45,62] [a,b]
theorem zk2(n m:Int):n % m=n.tmod m % m:=by
 have h:=Int.mul_tdiv_add_tmod n m
 calc n % m=(m*n.tdiv m+n.tmod m) % m:=by rw[h]
  _=n.tmod m % m:=by rw[Int.add_comm,Int.add_mul_emod_self_left]
theorem zpv{n m:Int}(hm:1<=m)(h:n.tmod m<0):n % m=n.tmod m+m:=by
 have h1:=Int.lt_tmod_of_pos n (show 0<m by omega);rw[zk2,<- Int.add_emod_right,Int.emod_eq_of_lt (by omega) (by omega)]
theorem zpu{n m:Int}(hm:1<=m)(h:0<=n.tmod m):n % m=n.tmod m:=by
 rw[zk2,Int.emod_eq_of_lt h (Int.tmod_lt_of_pos n (by omega))]
def Tp.next(t:Tp)(n:Int):Tp×Int :=
 if t.l.length<=t.i then (t,0)else ({ t with i:=t.i+1 },zqi (t.l.getD t.i.toNat 0) n)
def zcn(n:Nat):List Ty:=(List.range n).map fun i=>zfs (i:Nat)
theorem zlk(n:Nat):zcn (n+1)=zcn n++[zfs (n:Nat)]:=by simp[zcn,List.range_succ]
@[simp] theorem z0k (n:Nat):(zcn n).length=n:=by simp[zcn]
end Go.J
/- The data declarations that programs are made of;what a tape makes. -/
namespace Go.J
open Enc (enc)
def allD:List Decl:=[⟨0,[66,111,111,108],[],[⟨12,[84,114,117,101],[]⟩,⟨19,[70,97,108,115,101],[]⟩]⟩,
 ⟨26,[79,112,116,105,111,110],[[97]],[⟨42,[78,111,110,101],[]⟩,⟨49,[83,111,109,101],[.mk 5 [97] 0 0 []]⟩]⟩,
 ⟨57,[76,105,115,116],[[97]],[⟨71,[78,105,108],[]⟩,⟨77,[67,111,110,115],[.mk 5 [97] 0 0 [],.mk 4 [76,105,115,116] 0 0 [.mk 5 [97] 0 0 []]]⟩]⟩,
 ⟨93,[80,97,105,114],[[97],[98]],[⟨109,[80,97,105,114],[.mk 5 [97] 0 0 [],.mk 5 [98] 0 0 []]⟩]⟩,
 ⟨119,[78,97,116],[],[⟨130,[90,101,114,111],[]⟩,⟨137,[83,117,99,99],[.mk 4 [78,97,116] 0 0 []]⟩]⟩,
 ⟨147,[70,117,110],[[97],[98]],[⟨162,[70,117,110],[.mk 4 [45,62] 0 0 [.mk 5 [97] 0 0 [],.mk 5 [98] 0 0 []]]⟩]⟩,
 ⟨176,[84,119,111],[[97]],[⟨189,[66,111,116,104],[.mk 5 [97] 0 0 [],.mk 5 [97] 0 0 []]⟩,⟨200,[79,110,101],[.mk 4 [79,112,116,105,111,110] 0 0 [.mk 5 [97] 0 0 []]]⟩]⟩]
def zEl:V:=.sl [[.int .i64 0,.str [66,111,111,108],.snil,.sl [[.int .i64 12,.str [84,114,117,101],.snil],[.int .i64 19,.str [70,97,108,115,101],.snil]] false],[.int .i64 26,.str [79,112,116,105,111,110],.sl [[.str [97]]] false,.sl [[.int .i64 42,.str [78,111,110,101],.snil],[.int .i64 49,.str [83,111,109,101],.sl [[.int .i64 5,.str [97],.int .i64 0,.int .i64 0,.snil]] false]] false],[.int .i64 57,.str [76,105,115,116],.sl [[.str [97]]] false,.sl [[.int .i64 71,.str [78,105,108],.snil],[.int .i64 77,.str [67,111,110,115],.sl [[.int .i64 5,.str [97],.int .i64 0,.int .i64 0,.snil],[.int .i64 4,.str [76,105,115,116],.int .i64 0,.int .i64 0,.sl [[.int .i64 5,.str [97],.int .i64 0,.int .i64 0,.snil]] false]] false]] false],[.int .i64 93,.str [80,97,105,114],.sl [[.str [97]],[.str [98]]] false,.sl [[.int .i64 109,.str [80,97,105,114],.sl [[.int .i64 5,.str [97],.int .i64 0,.int .i64 0,.snil],[.int .i64 5,.str [98],.int .i64 0,.int .i64 0,.snil]] false]] false],[.int .i64 119,.str [78,97,116],.snil,.sl [[.int .i64 130,.str [90,101,114,111],.snil],[.int .i64 137,.str [83,117,99,99],.sl [[.int .i64 4,.str [78,97,116],.int .i64 0,.int .i64 0,.snil]] false]] false],[.int .i64 147,.str [70,117,110],.sl [[.str [97]],[.str [98]]] false,.sl [[.int .i64 162,.str [70,117,110],.sl [[.int .i64 4,.str [45,62],.int .i64 0,.int .i64 0,.sl [[.int .i64 5,.str [97],.int .i64 0,.int .i64 0,.snil],[.int .i64 5,.str [98],.int .i64 0,.int .i64 0,.snil]] false]] false]] false],[.int .i64 176,.str [84,119,111],.sl [[.str [97]]] false,.sl [[.int .i64 189,.str [66,111,116,104],.sl [[.int .i64 5,.str [97],.int .i64 0,.int .i64 0,.snil],[.int .i64 5,.str [97],.int .i64 0,.int .i64 0,.snil]] false],[.int .i64 200,.str [79,110,101],.sl [[.int .i64 4,.str [79,112,116,105,111,110],.int .i64 0,.int .i64 0,.sl [[.int .i64 5,.str [97],.int .i64 0,.int .i64 0,.snil]] false]] false]] false]] false
def zgH(bits:Int):List Decl->Nat->List Decl
 | [],_=>[]
 |d::l,i=>if i≠1/\zqX .i64 (bits.fdiv (2 ^ i)) 1=1 then d::zgH bits l (i+1)else zgH bits l (i+1)
def zmz(bits:Int)(l:List Decl):List Decl:=if zqX .i64 bits 2≠0\/zqX .i64 bits 64≠0 then (l[1]?).toList else []
def zaE(bits:Int):List Decl:=zmz bits allD++zgH bits allD 0
theorem zpB(bits:Int):∀ (l m:List Decl) (i:Nat),zgH bits (l++m) i=zgH bits l i++zgH bits m (i+l.length):=by
 intro l
 induction l with
 |nil=>intro m i;simp[zgH]
 | cons d l ih =>
   intro m i;have e:i+1+l.length=i+(d::l).length:=by simp;omega
   simp only[List.cons_append,zgH,ih,e];split<;>rfl
theorem zpA{bits:Int}{d:Decl}:∀ {l:List Decl} {i:Nat},d∈zgH bits l i->d∈l:=by
 intro l
 induction l with
 |nil=>intro i h;cases h
 | cons x l ih =>
   intro i h;unfold zgH at h;split at h
   . rcases List.mem_cons.1 h with rfl|h
     . exact List.mem_cons_self ..
     . exact List.mem_cons_of_mem _ (ih h)
   . exact List.mem_cons_of_mem _ (ih h)
theorem zkA(bits:Int):∀ (l:List Decl) (i:Nat),(zgH bits l i).length<=l.length:=by
 intro l
 induction l with
 |nil=>intro i;exact Nat.le_refl _
 | cons x l ih =>
   intro i;have:=ih (i+1);unfold zgH;split<;>simp only[List.length_cons]<;>omega
theorem zgj{bits:Int}{d:Decl}(h:d∈zaE bits):d∈allD:=by
 unfold zaE at h;rcases List.mem_append.1 h with h|h
 . unfold zmz at h;split at h
   . rw[Option.mem_toList]at h;exact List.mem_of_getElem? h
   . cases h
 . exact zpA h
theorem zkf(bits:Int):(zaE bits).length<=8:=by
 unfold zaE;rw[List.length_append];have h1:=zkA bits allD 0;have h2:(zmz bits allD).length<=1:=by unfold zmz;split<;>simp[allD]
 have h3:allD.length=7:=rfl;omega
end Go.J
/- Types that a tape makes. -/
namespace Go.J
open Enc (enc)
theorem zdC(t:Tp)(n:Int):(t.next n).1.l=t.l:=by unfold Tp.next;split<;>rfl
theorem z1y{t:Tp}(h:0<=t.i)(n:Int):0<=(t.next n).1.i:=by
 unfold Tp.next;split
 . exact h
 . show 0<=t.i+1;omega
theorem zfE(t:Tp)(n:Int):0<=(t.next n).2:=by
 unfold Tp.next;split
 . exact Int.le_refl _
 . exact zjT _ _
theorem zhG(t:Tp){n:Int}(h:1<=n):(t.next n).2<n:=by
 unfold Tp.next;split
 . show (0:Int)<n;omega
 . exact zw5 h
def Tp.ok(t:Tp):Prop:=0<=t.i/\t.l.length<=100000
theorem zbc{t:Tp}(h:t.ok)(n:Int):(t.next n).1.ok:=⟨z1y h.1 n,by rw[zdC];exact h.2⟩
theorem zcr{α:Type}(t:Tp){l:List α}(h:l≠[]):∃ (j:Nat) (hj:j<l.length),(t.next (l.length:Int)).2=(j:Int)/\l[(t.next (l.length:Int)).2.toNat]?=some l[j]:=by
 have h1:=zfE t (l.length:Int);have h0:0<l.length:=List.length_pos_iff.2 h;have h2:=zhG t (n:=(l.length:Int)) (by omega);obtain⟨j,hj⟩:=Int.eq_ofNat_of_zero_le h1;refine⟨j,by omega,hj,?_⟩;rw[hj];simp only[Int.toNat_natCast];exact List.getElem?_eq_getElem (by omega)
mutual
def typeM : Nat->Tp->List Decl->List Ty->Tp×Ty
 | d, t, D,Lv =>
   let k:=(t.next 7).2
   let t1:=(t.next 7).1
   if k<3/\Lv≠[]then ((t1.next Lv.length).1,(Lv[(t1.next Lv.length).2.toNat]?).getD tInt)
   else if k<4 then (t1,tInt)
   else match d with
    | 0=>(t1,tInt)
    | d + 1 =>
      if (k=4\/k=5)/\D≠[]then
       let dd:=(D[(t1.next D.length).2.toNat]?).getD ⟨0,[],[],[]⟩
       let r:=zbH d (t1.next D.length).1 D Lv dd.params.length
       (r.1,zh0 dd.name r.2)
      else
       let a:=typeM d t1 D Lv
       let b:=typeM d a.1 D Lv
       (b.1,zd9 a.2 b.2)
 termination_by d=>(d,0)
def zbH(d:Nat)(t:Tp)(D:List Decl)(Lv:List Ty):Nat->Tp×List Ty
 | 0=>(t,[])
 |n+1=>((typeM d (zbH d t D Lv n).1 D Lv).1,(zbH d t D Lv n).2++[(typeM d (zbH d t D Lv n).1 D Lv).2])
 termination_by n=>(d,n+1)
end
theorem zez(d:Nat)(t:Tp)(D:List Decl)(Lv:List Ty)(n:Nat):(zbH d t D Lv n).2.length=n:=by
 induction n with
 |zero=>rw[zbH];rfl
 |succ n ih=>rw[zbH];simp[ih]
theorem zmr {P:Ty->Prop} {D:List Decl} {Lv:List Ty} (hl:∀ l∈Lv,P l) (hi:P tInt) (hc:∀ dd∈D,∀ l:List Ty,l.length=dd.params.length->(∀ x∈l,P x)->P (zh0 dd.name l)) (ha:∀ a b,P a->P b->P (zd9 a b)) :
 ∀ (d:Nat) (t:Tp),P (typeM d t D Lv).2:=by
 intro d
 induction d with
 | zero =>
   intro t;rw[typeM]
   try dsimp only
   split
   . rename_i h;obtain⟨j,hj,_,h2⟩:=zcr (t.next 7).1 h.2;rw[h2];exact hl _ (List.getElem_mem hj)
   . split<;>exact hi
 | succ d ih =>
   intro t;rw[typeM]
   try dsimp only
   split
   . rename_i h;obtain⟨j,hj,_,h2⟩:=zcr (t.next 7).1 h.2;rw[h2];exact hl _ (List.getElem_mem hj)
   . split
     . exact hi
     . split
       . rename_i h;obtain⟨j,hj,_,h2⟩:=zcr (t.next 7).1 h.2;rw[h2];refine hc _ (List.getElem_mem hj) _ (zez ..) ?_;generalize hn:(((some D[j]).getD _:Decl).params.length)=n;clear hn
         induction n with
         |zero=>intro x hx;rw[zbH]at hx;cases hx
         | succ n ihn =>
           intro x hx;rw[zbH]at hx;rcases List.mem_append.1 hx with hx|hx
           . exact ihn x hx
           . rw[List.mem_singleton.1 hx];exact ih _
       . exact ha _ _ (ih _) (ih _)
theorem zfh {D:List Decl} {Lv:List Ty}:∀ (d:Nat) (t:Tp),t.ok->(typeM d t D Lv).1.ok/\(typeM d t D Lv).1.l=t.l:=by
 intro d
 induction d with
 | zero =>
   intro t h;rw[typeM]
   try dsimp only
   split
   . exact⟨zbc (zbc h 7) _,by rw[zdC,zdC]⟩
   . split<;>exact⟨zbc h 7,zdC t 7⟩
 | succ d ih =>
   intro t h;rw[typeM]
   try dsimp only
   split
   . exact⟨zbc (zbc h 7) _,by rw[zdC,zdC]⟩
   . split
     . exact⟨zbc h 7,zdC t 7⟩
     . split
       . have h1:=zbc (zbc h 7) (D.length:Int);have h2:((t.next 7).1.next (D.length:Int)).1.l=t.l:=by rw[zdC,zdC]
         generalize (t.next 7).1.next (D.length:Int)=q at h1 h2;generalize (((D[q.2.toNat]?).getD _:Decl).params.length)=n
         induction n with
         |zero=>rw[zbH];exact⟨h1,h2⟩
         | succ n ihn =>
           rw[zbH];have:=ih _ ihn.1;exact⟨this.1,this.2.trans ihn.2⟩
       . have h1:=ih _ (zbc h 7);have h2:=ih _ h1.1;exact⟨h2.1,h2.2.trans (h1.2.trans (zdC t 7))⟩
theorem zqW{D:List Decl}{Lv:List Ty}(d:Nat){t:Tp}(h:t.ok)(n:Nat):(zbH d t D Lv n).1.ok:=by
 induction n with
 |zero=>rw[zbH];exact h
 |succ n ih=>rw[zbH];exact(zfh d _ ih).1
def DOk(D:List Decl):Prop:=D.length<=1000/\∀ d∈D,d.params.length<=100
theorem zeI(bits:Int):DOk (zaE bits):=by
 refine⟨by have:=zkf bits;omega,fun d hd=>?_⟩;have:=zgj hd;have key:∀ d∈allD,d.params.length<=100:=by decide
 exact key d this
end Go.J
/- Substitutions. -/
namespace Go.J
open Enc (enc)
def zd6:List Assign->Int->Option Ty
 | [],_=>none
 |a::s,i=>if a.id=i then some a.type else zd6 s i
theorem ziE(s u:List Assign)(i:Int):zd6 (s++u) i=(zd6 s i).or (zd6 u i):=by
 induction s with
 |nil=>rfl
 | cons a s ih =>
   simp only[List.cons_append,zd6,ih];split<;>rfl
mutual
def Ty.repl(s:List Assign):Ty->Ty
 |.mk k n i h l=>if k=1 then (zd6 s i).getD (.mk k n i h l)else .mk k n i h (Ty.repls s l)
def Ty.repls(s:List Assign):List Ty->List Ty
 | []=>[]
 |t::l=>Ty.repl s t::Ty.repls s l
end
theorem zkD(s:List Assign)(l:List Ty):Ty.repls s l=l.map (Ty.repl s):=by
 induction l with
 |nil=>simp[Ty.repls]
 |cons t l ih=>simp[Ty.repls,ih]
theorem zjE(s:List Assign)(t:Ty):t.repl s=if t.kind=1 then (zd6 s t.id).getD t else .mk t.kind t.name t.id t.home (t.args.map (Ty.repl s)):=by
 cases t;simp only[Ty.repl,Ty.kind_mk,Ty.name_mk,Ty.id_mk,Ty.home_mk,Ty.args_mk,zkD]
end Go.J
/- Stores of type variables: what the small functions compute. -/
namespace Go.J
open Enc (enc)
def ty0:Ty:=.mk 0 [] 0 0 []
def z7Q:Slot:=⟨false,ty0,0,false⟩
namespace Store
def slot? (s:Store)(id:Int):Option Slot:=if 0<=id then s.slots[id.toNat]? else none
def fresh(s:Store)(home:Int)(base:Bool):Store×Ty :=
 (⟨s.slots++[⟨false,ty0,home,base⟩],s.trail++[⟨s.slots.length,z7Q,true⟩]⟩,zfs s.slots.length)
def set(s:Store)(id:Int)(x:Slot):Store×Bool :=
 match s.slot? id with
 |some old=>(⟨s.slots.set id.toNat x,s.trail++[⟨id,old,false⟩]⟩,true)
 |none=>(s,false)
def bound(s:Store)(t:Ty):Bool :=
 match decide (t.kind=1),s.slot? t.id with
 |true,some x=>x.bound
 |_,_=>false
def to(s:Store)(t:Ty):Ty :=
 match s.slot? t.id with
 |some x=>x.type
 |none=>ty0
def small(s:Store):Prop:=s.slots.length<=1000/\s.trail.length<=1000
instance (s:Store):Decidable s.small:=inferInstanceAs (Decidable (_/\_))
end Store
end Go.J
/- Leaves of types. -/
namespace Go.J
open Enc (enc)
mutual
def zZ(kind:Int):Ty->List Ty->List Ty
 |.mk k n i h l,out=>if k=kind/\l=[]then (if Ty.mk k n i h l∈out then out else out++[Ty.mk k n i h l])else zw kind l out
def zw(kind:Int):List Ty->List Ty->List Ty
 | [],out=>out
 |t::l,out=>zw kind l (zZ kind t out)
end
theorem zbZ(kind:Int)(t:Ty)(out:List Ty):zZ kind t out=if t.kind=kind/\t.args=[]then (if t∈out then out else out++[t])else zw kind t.args out:=by
 cases t;simp[zZ]
theorem zeR(kind:Int)(l:List Ty)(t:Ty)(out:List Ty):zw kind (l++[t]) out=zZ kind t (zw kind l out):=by
 induction l generalizing out with
 |nil=>simp[zw]
 |cons a l ih=>simp[zw,ih]
theorem zeS{kind:Int}{l:List Ty}(h:∀ t∈l,∀ out,out.length<=(zZ kind t out).length/\(zZ kind t out).length<=out.length+t.size):∀ out,out.length<=(zw kind l out).length/\(zw kind l out).length<=out.length+Ty.sizes l:=by
 induction l with
 |nil=>intro out;simp[zw,Ty.sizes]
 | cons a l ih =>
   intro out;have h1:=h a (List.mem_cons_self ..) out;have h2:=ih (fun t ht=>h t (List.mem_cons_of_mem _ ht)) (zZ kind a out);simp only[zw,Ty.sizes];omega
theorem zcI(kind:Int)(t:Ty):∀ out,out.length<=(zZ kind t out).length/\(zZ kind t out).length<=out.length+t.size:=by
 induction t using Ty.ind with
 | h t ih =>
   intro out;rw[zbZ];have hp:=Ty.size_pos t;split
   . split<;>simp<;>omega
   . have:=zeS (kind:=kind) ih out;have:=Ty.size_eq t;omega
theorem zaP(kind:Int)(l:List Ty):∀ out,out.length<=(zw kind l out).length/\(zw kind l out).length<=out.length+Ty.sizes l:=zeS fun t _=>zcI kind t
theorem zfH{kind:Int}{l:List Ty}(h:∀ t∈l,∀ out,Ty.oks out=true->Ty.oks (zZ kind t out)=true):∀ out,Ty.oks out=true->Ty.oks (zw kind l out)=true:=by
 induction l with
 |nil=>intro out ho;simpa [zw]using ho
 | cons a l ih =>
   intro out ho;simp only[zw];exact ih (fun t ht=>h t (List.mem_cons_of_mem _ ht)) _ (h a (List.mem_cons_self ..) out ho)
theorem zlD (kind:Int) (t:Ty):t.ok=true->∀ out,Ty.oks out=true->Ty.oks (zZ kind t out)=true:=by
 induction t using Ty.ind with
 | h t ih =>
   intro ht out ho;rw[zbZ];split
   . split
     . exact ho
     . rw[Ty.oks_iff]at ho ⊢;intro u hu;rcases List.mem_append.1 hu with hu|hu
       . exact ho u hu
       . rw[List.mem_singleton.1 hu];exact ht
   . exact zfH (fun u hu=>ih u hu (Ty.ok_arg ht hu)) out ho
theorem zgX{kind:Int}{l:List Ty}(hl:Ty.oks l=true):∀ out,Ty.oks out=true->Ty.oks (zw kind l out)=true :=
 zfH fun t ht=>zlD kind t (Ty.oks_iff.1 hl t ht)
theorem zf1(l m:List Ty):Ty.sizes (l++m)=Ty.sizes l+Ty.sizes m:=by
 induction l with
 |nil=>simp[Ty.sizes]
 |cons a l ih=>simp[Ty.sizes,ih,Nat.add_assoc]
theorem zdX(l:List Ty)(i:Nat):Ty.sizes (l.take i)<=Ty.sizes l:=by
 have:=zf1 (l.take i) (l.drop i);rw[List.take_append_drop]at this;omega
theorem zkG{l:List Ty}(h:Ty.oks l=true)(i:Nat):Ty.oks (l.take i)=true:=Ty.oks_iff.2 fun t ht=>Ty.oks_iff.1 h t (List.mem_of_mem_take ht)
section
variable {σ α β:Type} [Cel σ] [Enc α] [Enc β]
def zEb(F:List σ->α->Option (List σ))(es:List (List V))(vs:List V):Option (List (List V)×List V):=match vs with
 | [x]=>ob (zI es) fun l=>ob (Enc.dec x) fun a=>ob (F l a) fun r=>some (r.map Cel.cells,[])
 |_=>none
def zpe(F:List σ->α->β->Option (List σ))(es:List (List V))(vs:List V):Option (List (List V)×List V):=match vs with
 | [x,y]=>ob (zI es) fun l=>ob (Enc.dec x) fun a=>ob (Enc.dec y) fun b=>ob (F l a b) fun r=>some (r.map Cel.cells,[])
 |_=>none
@[simp] theorem zBp {F:List σ->α->Option (List σ)} {es:List (List V)} {x:V}:zEb F es [x]=ob (zI es) fun l=>ob (Enc.dec x) fun a=>ob (F l a) fun r=>some (r.map Cel.cells,[]):=(rfl)
@[simp] theorem zBo {F:List σ->α->β->Option (List σ)} {es:List (List V)} {x y:V}:zpe F es [x,y]=ob (zI es) fun l=>ob (Enc.dec x) fun a=>ob (Enc.dec y) fun b=>ob (F l a b) fun r=>some (r.map Cel.cells,[]):=(rfl)
theorem zkN{F:List σ->α->β->Option (List σ)}{es:List (List V)}{vs:List V}{r:List (List V)×List V}(h:zpe F es vs=some r):∃ l a b q,es=l.map Cel.cells/\vs=[enc a,enc b]/\F l a b=some q/\r=(q.map Cel.cells,[]):=by
 unfold zpe at h;split at h
 . simp only[za]at h;obtain⟨l,hl,a,ha,b,hb,q,hq,h⟩:=h;cases h;exact⟨l,a,b,q,zai hl,by rw[Enc.enc_dec _ _ ha,Enc.enc_dec _ _ hb],hq,rfl⟩
 . cases h
end
def zcX(out:List Int)(t:Ty):List Int:=if t.id∈out then out else out++[t.id]
def zch(l:List Ty):List Int:=l.foldl zcX []
def zib(l:List Ty):List Int:=zch (zw 1 l [])
theorem zha(l:List Ty)(t:Ty):zch (l++[t])=zcX (zch l) t:=by simp[zch]
theorem zoN(out:List Int)(t:Ty):out.length<=(zcX out t).length/\(zcX out t).length<=out.length+1:=by
 unfold zcX;split<;>simp
theorem ziJ(l:List Ty):(zch l).length<=l.length:=by
 have:∀ (l:List Ty) (o:List Int),(l.foldl zcX o).length<=o.length+l.length:=by
  intro l
  induction l with
  |nil=>intro o;simp
  |cons a l ih=>intro o;have:=ih (zcX o a);have:=zoN o a;simp;omega
 simpa [zch]using this l []
end Go.J
