import Derived.Test.YtpcmebclpindjaaGreatJK
import Derived.Test.YtpcmebclpindjaaGreatJI
set_option linter.all false
noncomputable section
/- Schemes,contexts,declarations. -/
namespace Go.J
open Enc (enc)
structure Scheme where
 count:Int
 type:Ty
 deriving DecidableEq
def zaD(a:Scheme):List V:=[.int .i64 a.count,.int .i64 a.type.kind,.str a.type.name,.int .i64 a.type.id,.int .i64 a.type.home,.sl (a.type.args.map zl) false]
def zd5(c:List V):Option Scheme :=
 match c with
 | [.int .i64 x0,.int .i64 x1,.str x2,.int .i64 x3,.int .i64 x4,.sl x5 false]=>ob (zP x5) fun y5=>some ⟨x0,(Ty.mk x1 x2 x3 x4 y5)⟩
 |_=>none
theorem zgA{x0:Int}{x1:Int}{x2:List Nat}{x3:Int}{x4:Int}{x5:List (List V)}:zd5 [.int .i64 x0,.int .i64 x1,.str x2,.int .i64 x3,.int .i64 x4,.sl x5 false]=ob (zP x5) fun y5=>some ⟨x0,(Ty.mk x1 x2 x3 x4 y5)⟩:=(rfl)
instance:Cel Scheme where
 cells:=zaD
 dec:=zd5
 dec_enc a:=by simp only[zaD,zgA,zd6,zA,Ty.eta]
 enc_dec c a h:=by
  unfold zd5 at h;split at h
  . simp only[za]at h;obtain⟨y5,hy5,h⟩:=h;cases h;have hy5:=zan hy5
    subst_vars
    rfl
  . cases h
 pure2 a:=rfl
 norm a:=by simp only[zaD,zV,zaa,zdu]
instance:Enc Scheme:=zc6
@[simp] theorem zyr:@Cel.cells Scheme _=zaD:=(rfl)
@[simp] theorem zto:@Cel.dec Scheme _=zd5:=(rfl)
@[simp] theorem z2z (a:Scheme):enc a=.agg (zaD a):=(rfl)
@[simp] theorem z2G {c:List V}:Enc.dec (α:=Scheme) (.agg c)=zd5 c:=(rfl)
@[simp] theorem z0y (l:List Scheme):zP (l.map zaD)=some l:=zam l
@[simp] theorem zzs (l:List Scheme):zH (l.map zaD)=l.map zaD:=zT l
@[simp] theorem zjg (l:List Scheme):((l.map zaD).all fun e=>e.all V.pure2)=true:=zK l
@[simp] theorem z0l (l:List Scheme):enc l=.sl (l.map zaD) false:=(rfl)
@[simp] theorem z0s {es:List (List V)}:Enc.dec (α:=List Scheme) (.sl es false)=zP es:=(rfl)
@[simp] theorem z3T (l:List Scheme):sizes 6 (l.map zaD)=true:=by rw[sizes_eq];intro e he;obtain⟨a,_,rfl⟩:=List.mem_map.1 he;rfl
@[simp] theorem z7r (l:List Scheme):zL (l.map zaD)=true:=zB zjg
@[simp] theorem z2v (a:Scheme):Scheme.mk a.count a.type=a:=(rfl)
attribute [simp] zgA zaD
structure Entry where
 name:List Nat
 scheme:Scheme
 deriving DecidableEq
def za5(a:Entry):List V:=[.str a.name,.int .i64 a.scheme.count,.int .i64 a.scheme.type.kind,.str a.scheme.type.name,.int .i64 a.scheme.type.id,.int .i64 a.scheme.type.home,.sl (a.scheme.type.args.map zl) false]
def zeG(c:List V):Option Entry :=
 match c with
 | [.str x0,.int .i64 x1,.int .i64 x2,.str x3,.int .i64 x4,.int .i64 x5,.sl x6 false]=>ob (zP x6) fun y6=>some ⟨x0,⟨x1,(Ty.mk x2 x3 x4 x5 y6)⟩⟩
 |_=>none
theorem zhP{x0:List Nat}{x1:Int}{x2:Int}{x3:List Nat}{x4:Int}{x5:Int}{x6:List (List V)}:zeG [.str x0,.int .i64 x1,.int .i64 x2,.str x3,.int .i64 x4,.int .i64 x5,.sl x6 false]=ob (zP x6) fun y6=>some ⟨x0,⟨x1,(Ty.mk x2 x3 x4 x5 y6)⟩⟩:=(rfl)
instance:Cel Entry where
 cells:=za5
 dec:=zeG
 dec_enc a:=by simp only[za5,zhP,zd6,zA,Ty.eta]
 enc_dec c a h:=by
  unfold zeG at h;split at h
  . simp only[za]at h;obtain⟨y6,hy6,h⟩:=h;cases h;have hy6:=zan hy6
    subst_vars
    rfl
  . cases h
 pure2 a:=rfl
 norm a:=by simp only[za5,zV,zaa,zdu]
instance:Enc Entry:=zc6
@[simp] theorem z09:@Cel.cells Entry _=za5:=(rfl)
@[simp] theorem zyv:@Cel.dec Entry _=zeG:=(rfl)
@[simp] theorem z6m (a:Entry):enc a=.agg (za5 a):=(rfl)
@[simp] theorem z6w {c:List V}:Enc.dec (α:=Entry) (.agg c)=zeG c:=(rfl)
@[simp] theorem z2M (l:List Entry):zP (l.map za5)=some l:=zam l
@[simp] theorem z1M (l:List Entry):zH (l.map za5)=l.map za5:=zT l
@[simp] theorem zkE (l:List Entry):((l.map za5).all fun e=>e.all V.pure2)=true:=zK l
@[simp] theorem z2B (l:List Entry):enc l=.sl (l.map za5) false:=(rfl)
@[simp] theorem z2I {es:List (List V)}:Enc.dec (α:=List Entry) (.sl es false)=zP es:=(rfl)
@[simp] theorem z8e (l:List Entry):sizes 7 (l.map za5)=true:=by rw[sizes_eq];intro e he;obtain⟨a,_,rfl⟩:=List.mem_map.1 he;rfl
@[simp] theorem zAB (l:List Entry):zL (l.map za5)=true:=zB zkE
@[simp] theorem z6d (a:Entry):Entry.mk a.name a.scheme=a:=(rfl)
attribute [simp] zhP za5
structure Ctor where
 pos:Int
 name:List Nat
 fields:List Ty
 deriving DecidableEq
def zab(a:Ctor):List V:=[.int .i64 a.pos,.str a.name,.sl (a.fields.map zl) false]
def zgD(c:List V):Option Ctor :=
 match c with
 | [.int .i64 x0,.str x1,.sl x2 false]=>ob (zP x2) fun y2=>some ⟨x0,x1,y2⟩
 |_=>none
theorem zkc{x0:Int}{x1:List Nat}{x2:List (List V)}:zgD [.int .i64 x0,.str x1,.sl x2 false]=ob (zP x2) fun y2=>some ⟨x0,x1,y2⟩:=(rfl)
instance:Cel Ctor where
 cells:=zab
 dec:=zgD
 dec_enc a:=by simp only[zab,zkc,zd6,zA,Ty.eta]
 enc_dec c a h:=by
  unfold zgD at h;split at h
  . simp only[za]at h;obtain⟨y2,hy2,h⟩:=h;cases h;have hy2:=zan hy2
    subst_vars
    rfl
  . cases h
 pure2 a:=rfl
 norm a:=by simp only[zab,zV,zaa,zdu]
instance:Enc Ctor:=zc6
@[simp] theorem z2V:@Cel.cells Ctor _=zab:=(rfl)
@[simp] theorem z0D:@Cel.dec Ctor _=zgD:=(rfl)
@[simp] theorem zAb (a:Ctor):enc a=.agg (zab a):=(rfl)
@[simp] theorem zAj {c:List V}:Enc.dec (α:=Ctor) (.agg c)=zgD c:=(rfl)
@[simp] theorem zqW (l:List Ctor):zP (l.map zab)=some l:=zam l
@[simp] theorem zoa (l:List Ctor):zH (l.map zab)=l.map zab:=zT l
@[simp] theorem zm2 (l:List Ctor):((l.map zab).all fun e=>e.all V.pure2)=true:=zK l
@[simp] theorem z6k (l:List Ctor):enc l=.sl (l.map zab) false:=(rfl)
@[simp] theorem z6u {es:List (List V)}:Enc.dec (α:=List Ctor) (.sl es false)=zP es:=(rfl)
@[simp] theorem zBk (l:List Ctor):sizes 3 (l.map zab)=true:=by rw[sizes_eq];intro e he;obtain⟨a,_,rfl⟩:=List.mem_map.1 he;rfl
@[simp] theorem zD9 (l:List Ctor):zL (l.map zab)=true:=zB zm2
@[simp] theorem z9R (a:Ctor):Ctor.mk a.pos a.name a.fields=a:=(rfl)
attribute [simp] zkc zab
structure Decl where
 pos:Int
 name:List Nat
 params:List (List Nat)
 ctors:List Ctor
 deriving DecidableEq
def zg(a:Decl):List V:=[.int .i64 a.pos,.str a.name,.sl (a.params.map (encS)) false,.sl (a.ctors.map zab) false]
def zgC(c:List V):Option Decl :=
 match c with
 | [.int .i64 x0,.str x1,.sl x2 false,.sl x3 false]=>ob (zP x2) fun y2=>ob (zP x3) fun y3=>some ⟨x0,x1,y2,y3⟩
 |_=>none
theorem zkb{x0:Int}{x1:List Nat}{x2:List (List V)}{x3:List (List V)}:zgC [.int .i64 x0,.str x1,.sl x2 false,.sl x3 false]=ob (zP x2) fun y2=>ob (zP x3) fun y3=>some ⟨x0,x1,y2,y3⟩:=(rfl)
instance:Cel Decl where
 cells:=zg
 dec:=zgC
 dec_enc a:=by simp only[zg,zkb,zqW,zlY,zA,Ty.eta]
 enc_dec c a h:=by
  unfold zgC at h;split at h
  . simp only[za]at h;obtain⟨y2,hy2,y3,hy3,h⟩:=h;cases h;have hy2:=zan hy2;have hy3:=zan hy3
    subst_vars
    rfl
  . cases h
 pure2 a:=rfl
 norm a:=by simp only[zg,zV,zaa,zoa,zlA]
instance:Enc Decl:=zc6
@[simp] theorem z2U:@Cel.cells Decl _=zg:=(rfl)
@[simp] theorem z0C:@Cel.dec Decl _=zgC:=(rfl)
@[simp] theorem zAa (a:Decl):enc a=.agg (zg a):=(rfl)
@[simp] theorem zAi {c:List V}:Enc.dec (α:=Decl) (.agg c)=zgC c:=(rfl)
@[simp] theorem z6y (l:List Decl):zP (l.map zg)=some l:=zam l
@[simp] theorem z5f (l:List Decl):zH (l.map zg)=l.map zg:=zT l
@[simp] theorem zm1 (l:List Decl):((l.map zg).all fun e=>e.all V.pure2)=true:=zK l
@[simp] theorem z6j (l:List Decl):enc l=.sl (l.map zg) false:=(rfl)
@[simp] theorem z6t {es:List (List V)}:Enc.dec (α:=List Decl) (.sl es false)=zP es:=(rfl)
@[simp] theorem zBj (l:List Decl):sizes 4 (l.map zg)=true:=by rw[sizes_eq];intro e he;obtain⟨a,_,rfl⟩:=List.mem_map.1 he;rfl
@[simp] theorem zD8 (l:List Decl):zL (l.map zg)=true:=zB zm1
@[simp] theorem z9Q (a:Decl):Decl.mk a.pos a.name a.params a.ctors=a:=(rfl)
attribute [simp] zkb zg
end Go.J
/- What small functions of types compute. -/
namespace Go.J
open Enc (enc)
def zsK(n m:Int):Int:=if m<1 then 0 else n % m
theorem zkL(n m:Int):0<=zsK n m:=by
 unfold zsK;split
 . exact Int.le_refl _
 . exact Int.emod_nonneg _ (by omega)
theorem zzz{n m:Int}(h:1<=m):zsK n m<m:=by
 unfold zsK;rw[if_neg (by omega)];exact Int.emod_lt_of_pos _ (by omega)
def zhZ(n:List Nat)(l:List Ty):Ty:=.mk 4 n 0 0 l
def zkv(i:Int):Ty:=.mk 1 [] i 0 []
def zfk(i:Int):Ty:=.mk 2 [] i 0 []
def zbi(h i:Int):Ty:=.mk 3 [] i h []
def tInt:Ty:=zhZ [73,110,116] []
def zdU(a b:Ty):Ty:=zhZ [45,62] [a,b]
theorem zlu(n m:Int):n % m=n.tmod m % m:=by
 have h:=Int.mul_tdiv_add_tmod n m
 calc n % m=(m*n.tdiv m+n.tmod m) % m:=by rw[h]
  _=n.tmod m % m:=by rw[Int.add_comm,Int.add_mul_emod_self_left]
theorem zrV{n m:Int}(hm:1<=m)(h:n.tmod m<0):n % m=n.tmod m+m:=by
 have h1:=Int.lt_tmod_of_pos n (show 0<m by omega);rw[zlu,<- Int.add_emod_right,Int.emod_eq_of_lt (by omega) (by omega)]
theorem zrU{n m:Int}(hm:1<=m)(h:0<=n.tmod m):n % m=n.tmod m:=by
 rw[zlu,Int.emod_eq_of_lt h (Int.tmod_lt_of_pos n (by omega))]
def Tp.next(t:Tp)(n:Int):Tp×Int :=
 if t.l.length<=t.i then (t,0)else ({ t with i:=t.i+1 },zsK (t.l.getD t.i.toNat 0) n)
def zcR(n:Nat):List Ty:=(List.range n).map fun i=>zkv (i:Nat)
theorem zmi(n:Nat):zcR (n+1)=zcR n++[zkv (n:Nat)]:=by simp[zcR,List.range_succ]
@[simp] theorem z3E (n:Nat):(zcR n).length=n:=by simp[zcR]
end Go.J
/- The data declarations that programs are made of;what a tape makes. -/
namespace Go.J
open Enc (enc)
def allD:List Decl:=[⟨0,[66,111,111,108],[],[⟨12,[84,114,117,101],[]⟩,⟨19,[70,97,108,115,101],[]⟩]⟩,
 ⟨26,[79,112,116,105,111,110],[[97]],[⟨42,[78,111,110,101],[]⟩,⟨49,[83,111,109,101],[.mk 5 [97] 0 0 []]⟩]⟩,
 ⟨57,[76,105,115,116],[[97]],[⟨71,[78,105,108],[]⟩,⟨77,[67,111,110,115],[.mk 5 [97] 0 0 [],.mk 4 [76,105,115,116] 0 0 [.mk 5 [97] 0 0 []]]⟩]⟩,
 ⟨93,[80,97,105,114],[[97],[98]],[⟨109,[80,97,105,114],[.mk 5 [97] 0 0 [],.mk 5 [98] 0 0 []]⟩]⟩,
 ⟨119,[78,97,116],[],[⟨130,[90,101,114,111],[]⟩,⟨137,[83,117,99,99],[.mk 4 [78,97,116] 0 0 []]⟩]⟩,
 ⟨147,[70,117,110],[[97],[98]],[⟨162,[70,117,110],[.mk 4 [45,62] 0 0 [.mk 5 [97] 0 0 [],.mk 5 [98] 0 0 []]]⟩]⟩,
 ⟨176,[84,119,111],[[97]],[⟨189,[66,111,116,104],[.mk 5 [97] 0 0 [],.mk 5 [97] 0 0 []]⟩,⟨200,[79,110,101],[.mk 4 [79,112,116,105,111,110] 0 0 [.mk 5 [97] 0 0 []]]⟩]⟩]
def zIt:V:=.sl [[.int .i64 0,.str [66,111,111,108],.snil,.sl [[.int .i64 12,.str [84,114,117,101],.snil],[.int .i64 19,.str [70,97,108,115,101],.snil]] false],[.int .i64 26,.str [79,112,116,105,111,110],.sl [[.str [97]]] false,.sl [[.int .i64 42,.str [78,111,110,101],.snil],[.int .i64 49,.str [83,111,109,101],.sl [[.int .i64 5,.str [97],.int .i64 0,.int .i64 0,.snil]] false]] false],[.int .i64 57,.str [76,105,115,116],.sl [[.str [97]]] false,.sl [[.int .i64 71,.str [78,105,108],.snil],[.int .i64 77,.str [67,111,110,115],.sl [[.int .i64 5,.str [97],.int .i64 0,.int .i64 0,.snil],[.int .i64 4,.str [76,105,115,116],.int .i64 0,.int .i64 0,.sl [[.int .i64 5,.str [97],.int .i64 0,.int .i64 0,.snil]] false]] false]] false],[.int .i64 93,.str [80,97,105,114],.sl [[.str [97]],[.str [98]]] false,.sl [[.int .i64 109,.str [80,97,105,114],.sl [[.int .i64 5,.str [97],.int .i64 0,.int .i64 0,.snil],[.int .i64 5,.str [98],.int .i64 0,.int .i64 0,.snil]] false]] false],[.int .i64 119,.str [78,97,116],.snil,.sl [[.int .i64 130,.str [90,101,114,111],.snil],[.int .i64 137,.str [83,117,99,99],.sl [[.int .i64 4,.str [78,97,116],.int .i64 0,.int .i64 0,.snil]] false]] false],[.int .i64 147,.str [70,117,110],.sl [[.str [97]],[.str [98]]] false,.sl [[.int .i64 162,.str [70,117,110],.sl [[.int .i64 4,.str [45,62],.int .i64 0,.int .i64 0,.sl [[.int .i64 5,.str [97],.int .i64 0,.int .i64 0,.snil],[.int .i64 5,.str [98],.int .i64 0,.int .i64 0,.snil]] false]] false]] false],[.int .i64 176,.str [84,119,111],.sl [[.str [97]]] false,.sl [[.int .i64 189,.str [66,111,116,104],.sl [[.int .i64 5,.str [97],.int .i64 0,.int .i64 0,.snil],[.int .i64 5,.str [97],.int .i64 0,.int .i64 0,.snil]] false],[.int .i64 200,.str [79,110,101],.sl [[.int .i64 4,.str [79,112,116,105,111,110],.int .i64 0,.int .i64 0,.sl [[.int .i64 5,.str [97],.int .i64 0,.int .i64 0,.snil]] false]] false]] false]] false
def zhu(bits:Int):List Decl->Nat->List Decl
 | [],_=>[]
 |d::l,i=>if i≠1/\zt3 .i64 (bits.fdiv (2 ^ i)) 1=1 then d::zhu bits l (i+1)else zhu bits l (i+1)
def zn7(bits:Int)(l:List Decl):List Decl:=if zt3 .i64 bits 2≠0\/zt3 .i64 bits 64≠0 then (l[1]?).toList else []
def zO(bits:Int):List Decl:=zn7 bits allD++zhu bits allD 0
theorem zsk(bits:Int):∀ (l m:List Decl) (i:Nat),zhu bits (l++m) i=zhu bits l i++zhu bits m (i+l.length):=by
 intro l
 induction l with
 |nil=>intro m i;simp[zhu]
 | cons d l ih =>
   intro m i;have e:i+1+l.length=i+(d::l).length:=by simp;omega
   simp only[List.cons_append,zhu,ih,e];split<;>rfl
theorem zsj{bits:Int}{d:Decl}:∀ {l:List Decl} {i:Nat},d∈zhu bits l i->d∈l:=by
 intro l
 induction l with
 |nil=>intro i h;cases h
 | cons x l ih =>
   intro i h;unfold zhu at h;split at h
   . rcases List.mem_cons.1 h with rfl|h
     . exact List.mem_cons_self ..
     . exact List.mem_cons_of_mem _ (ih h)
   . exact List.mem_cons_of_mem _ (ih h)
theorem zl3(bits:Int):∀ (l:List Decl) (i:Nat),(zhu bits l i).length<=l.length:=by
 intro l
 induction l with
 |nil=>intro i;exact Nat.le_refl _
 | cons x l ih =>
   intro i;have:=ih (i+1);unfold zhu;split<;>simp only[List.length_cons]<;>omega
theorem zel{bits:Int}{d:Decl}(h:d∈zO bits):d∈allD:=by
 unfold zO at h;rcases List.mem_append.1 h with h|h
 . unfold zn7 at h;split at h
   . rw[Option.mem_toList]at h;exact List.mem_of_getElem? h
   . cases h
 . exact zsj h
theorem zkW(bits:Int):(zO bits).length<=8:=by
 unfold zO;rw[List.length_append];have h1:=zl3 bits allD 0;have h2:(zn7 bits allD).length<=1:=by unfold zn7;split<;>simp[allD]
 have h3:allD.length=7:=rfl;omega
end Go.J
/- Types that a tape makes. -/
namespace Go.J
open Enc (enc)
theorem zdZ(t:Tp)(n:Int):(t.next n).1.l=t.l:=by unfold Tp.next;split<;>rfl
theorem z5k{t:Tp}(h:0<=t.i)(n:Int):0<=(t.next n).1.i:=by
 unfold Tp.next;split
 . exact h
 . show 0<=t.i+1;omega
theorem zcs(t:Tp)(n:Int):0<=(t.next n).2:=by
 unfold Tp.next;split
 . exact Int.le_refl _
 . exact zkL _ _
theorem zc8(t:Tp){n:Int}(h:1<=n):(t.next n).2<n:=by
 unfold Tp.next;split
 . show (0:Int)<n;omega
 . exact zzz h
def Tp.ok(t:Tp):Prop:=0<=t.i/\t.l.length<=100000
theorem zn{t:Tp}(h:t.ok)(n:Int):(t.next n).1.ok:=⟨z5k h.1 n,by rw[zdZ];exact h.2⟩
theorem zc2{α:Type}(t:Tp){l:List α}(h:l≠[]):∃ (j:Nat) (hj:j<l.length),(t.next (l.length:Int)).2=(j:Int)/\l[(t.next (l.length:Int)).2.toNat]?=some l[j]:=by
 have h1:=zcs t (l.length:Int);have h0:0<l.length:=List.length_pos_iff.2 h;have h2:=zc8 t (n:=(l.length:Int)) (by omega);obtain⟨j,hj⟩:=Int.eq_ofNat_of_zero_le h1;refine⟨j,by omega,hj,?_⟩;rw[hj];simp only[Int.toNat_natCast];exact List.getElem?_eq_getElem (by omega)
mutual
def typeM : Nat->Tp->List Decl->List Ty->Tp×Ty
 | d, t, D,Lv =>
   let k:=(t.next 7).2
   let t1:=(t.next 7).1
   if k<3/\Lv≠[]then ((t1.next Lv.length).1,(Lv[(t1.next Lv.length).2.toNat]?).getD tInt)
   else if k<4 then (t1,tInt)
   else match d with
    | 0=>(t1,tInt)
    | d + 1 =>
      if (k=4\/k=5)/\D≠[]then
       let dd:=(D[(t1.next D.length).2.toNat]?).getD ⟨0,[],[],[]⟩
       let r:=zbR d (t1.next D.length).1 D Lv dd.params.length
       (r.1,zhZ dd.name r.2)
      else
       let a:=typeM d t1 D Lv
       let b:=typeM d a.1 D Lv
       (b.1,zdU a.2 b.2)
 termination_by d=>(d,0)
def zbR(d:Nat)(t:Tp)(D:List Decl)(Lv:List Ty):Nat->Tp×List Ty
 | 0=>(t,[])
 |n+1=>((typeM d (zbR d t D Lv n).1 D Lv).1,(zbR d t D Lv n).2++[(typeM d (zbR d t D Lv n).1 D Lv).2])
 termination_by n=>(d,n+1)
end
theorem zeN(d:Nat)(t:Tp)(D:List Decl)(Lv:List Ty)(n:Nat):(zbR d t D Lv n).2.length=n:=by
 induction n with
 |zero=>rw[zbR];rfl
 |succ n ih=>rw[zbR];simp[ih]
theorem znr {P:Ty->Prop} {D:List Decl} {Lv:List Ty} (hl:∀ l∈Lv,P l) (hi:P tInt) (hc:∀ dd∈D,∀ l:List Ty,l.length=dd.params.length->(∀ x∈l,P x)->P (zhZ dd.name l)) (ha:∀ a b,P a->P b->P (zdU a b)) :
 ∀ (d:Nat) (t:Tp),P (typeM d t D Lv).2:=by
 intro d
 induction d with
 | zero =>
   intro t;rw[typeM]
   try dsimp only
   split
   . rename_i h;obtain⟨j,hj,_,h2⟩:=zc2 (t.next 7).1 h.2;rw[h2];exact hl _ (List.getElem_mem hj)
   . split<;>exact hi
 | succ d ih =>
   intro t;rw[typeM]
   try dsimp only
   split
   . rename_i h;obtain⟨j,hj,_,h2⟩:=zc2 (t.next 7).1 h.2;rw[h2];exact hl _ (List.getElem_mem hj)
   . split
     . exact hi
     . split
       . rename_i h;obtain⟨j,hj,_,h2⟩:=zc2 (t.next 7).1 h.2;rw[h2];refine hc _ (List.getElem_mem hj) _ (zeN ..) ?_;generalize hn:(((some D[j]).getD _:Decl).params.length)=n;clear hn
         induction n with
         |zero=>intro x hx;rw[zbR]at hx;cases hx
         | succ n ihn =>
           intro x hx;rw[zbR]at hx;rcases List.mem_append.1 hx with hx|hx
           . exact ihn x hx
           . rw[List.mem_singleton.1 hx];exact ih _
       . exact ha _ _ (ih _) (ih _)
theorem zdJ {D:List Decl} {Lv:List Ty}:∀ (d:Nat) (t:Tp),t.ok->(typeM d t D Lv).1.ok/\(typeM d t D Lv).1.l=t.l:=by
 intro d
 induction d with
 | zero =>
   intro t h;rw[typeM]
   try dsimp only
   split
   . exact⟨zn (zn h 7) _,by rw[zdZ,zdZ]⟩
   . split<;>exact⟨zn h 7,zdZ t 7⟩
 | succ d ih =>
   intro t h;rw[typeM]
   try dsimp only
   split
   . exact⟨zn (zn h 7) _,by rw[zdZ,zdZ]⟩
   . split
     . exact⟨zn h 7,zdZ t 7⟩
     . split
       . have h1:=zn (zn h 7) (D.length:Int);have h2:((t.next 7).1.next (D.length:Int)).1.l=t.l:=by rw[zdZ,zdZ]
         generalize (t.next 7).1.next (D.length:Int)=q at h1 h2;generalize (((D[q.2.toNat]?).getD _:Decl).params.length)=n
         induction n with
         |zero=>rw[zbR];exact⟨h1,h2⟩
         | succ n ihn =>
           rw[zbR];have:=ih _ ihn.1;exact⟨this.1,this.2.trans ihn.2⟩
       . have h1:=ih _ (zn h 7);have h2:=ih _ h1.1;exact⟨h2.1,h2.2.trans (h1.2.trans (zdZ t 7))⟩
theorem zt2{D:List Decl}{Lv:List Ty}(d:Nat){t:Tp}(h:t.ok)(n:Nat):(zbR d t D Lv n).1.ok:=by
 induction n with
 |zero=>rw[zbR];exact h
 |succ n ih=>rw[zbR];exact(zdJ d _ ih).1
def DOk(D:List Decl):Prop:=D.length<=1000/\∀ d∈D,d.params.length<=100
theorem zmO(bits:Int):DOk (zO bits):=by
 refine⟨by have:=zkW bits;omega,fun d hd=>?_⟩;have:=zel hd;have key:∀ d∈allD,d.params.length<=100:=by decide
 exact key d this
end Go.J
/- Substitutions. -/
namespace Go.J
open Enc (enc)
def zdQ:List Assign->Int->Option Ty
 | [],_=>none
 |a::s,i=>if a.id=i then some a.type else zdQ s i
theorem zju(s u:List Assign)(i:Int):zdQ (s++u) i=(zdQ s i).or (zdQ u i):=by
 induction s with
 |nil=>rfl
 | cons a s ih =>
   simp only[List.cons_append,zdQ,ih];split<;>rfl
mutual
def Ty.repl(s:List Assign):Ty->Ty
 |.mk k n i h l=>if k=1 then (zdQ s i).getD (.mk k n i h l)else .mk k n i h (Ty.repls s l)
def Ty.repls(s:List Assign):List Ty->List Ty
 | []=>[]
 |t::l=>Ty.repl s t::Ty.repls s l
end
theorem zl6(s:List Assign)(l:List Ty):Ty.repls s l=l.map (Ty.repl s):=by
 induction l with
 |nil=>simp[Ty.repls]
 |cons t l ih=>simp[Ty.repls,ih]
theorem zk7(s:List Assign)(t:Ty):t.repl s=if t.kind=1 then (zdQ s t.id).getD t else .mk t.kind t.name t.id t.home (t.args.map (Ty.repl s)):=by
 cases t;simp only[Ty.repl,Ty.kind_mk,Ty.name_mk,Ty.id_mk,Ty.home_mk,Ty.args_mk,zl6]
end Go.J
/- Stores of type variables: what the small functions compute. -/
namespace Go.J
open Enc (enc)
def ty0:Ty:=.mk 0 [] 0 0 []
def zBr:Slot:=⟨false,ty0,0,false⟩
namespace Store
def slot? (s:Store)(id:Int):Option Slot:=if 0<=id then s.slots[id.toNat]? else none
def fresh(s:Store)(home:Int)(base:Bool):Store×Ty :=
 (⟨s.slots++[⟨false,ty0,home,base⟩],s.trail++[⟨s.slots.length,zBr,true⟩]⟩,zkv s.slots.length)
def set(s:Store)(id:Int)(x:Slot):Store×Bool :=
 match s.slot? id with
 |some old=>(⟨s.slots.set id.toNat x,s.trail++[⟨id,old,false⟩]⟩,true)
 |none=>(s,false)
def bound(s:Store)(t:Ty):Bool :=
 match decide (t.kind=1),s.slot? t.id with
 |true,some x=>x.bound
 |_,_=>false
def to(s:Store)(t:Ty):Ty :=
 match s.slot? t.id with
 |some x=>x.type
 |none=>ty0
def small(s:Store):Prop:=s.slots.length<=1000/\s.trail.length<=1000
instance (s:Store):Decidable s.small:=inferInstanceAs (Decidable (_/\_))
end Store
end Go.J
/- Leaves of types. -/
namespace Go.J
open Enc (enc)
mutual
def zai(kind:Int):Ty->List Ty->List Ty
 |.mk k n i h l,out=>if k=kind/\l=[]then (if Ty.mk k n i h l∈out then out else out++[Ty.mk k n i h l])else zx kind l out
def zx(kind:Int):List Ty->List Ty->List Ty
 | [],out=>out
 |t::l,out=>zx kind l (zai kind t out)
end
theorem zck(kind:Int)(t:Ty)(out:List Ty):zai kind t out=if t.kind=kind/\t.args=[]then (if t∈out then out else out++[t])else zx kind t.args out:=by
 cases t;simp[zai]
theorem zft(kind:Int)(l:List Ty)(t:Ty)(out:List Ty):zx kind (l++[t]) out=zai kind t (zx kind l out):=by
 induction l generalizing out with
 |nil=>simp[zx]
 |cons a l ih=>simp[zx,ih]
theorem zfu{kind:Int}{l:List Ty}(h:∀ t∈l,∀ out,out.length<=(zai kind t out).length/\(zai kind t out).length<=out.length+t.size):∀ out,out.length<=(zx kind l out).length/\(zx kind l out).length<=out.length+Ty.sizes l:=by
 induction l with
 |nil=>intro out;simp[zx,Ty.sizes]
 | cons a l ih =>
   intro out;have h1:=h a (List.mem_cons_self ..) out;have h2:=ih (fun t ht=>h t (List.mem_cons_of_mem _ ht)) (zai kind a out);simp only[zx,Ty.sizes];omega
theorem zcW(kind:Int)(t:Ty):∀ out,out.length<=(zai kind t out).length/\(zai kind t out).length<=out.length+t.size:=by
 induction t using Ty.ind with
 | h t ih =>
   intro out;rw[zck];have hp:=Ty.size_pos t;split
   . split<;>simp<;>omega
   . have:=zfu (kind:=kind) ih out;have:=Ty.size_eq t;omega
theorem zaW(kind:Int)(l:List Ty):∀ out,out.length<=(zx kind l out).length/\(zx kind l out).length<=out.length+Ty.sizes l:=zfu fun t _=>zcW kind t
theorem zgn{kind:Int}{l:List Ty}(h:∀ t∈l,∀ out,Ty.oks out=true->Ty.oks (zai kind t out)=true):∀ out,Ty.oks out=true->Ty.oks (zx kind l out)=true:=by
 induction l with
 |nil=>intro out ho;simpa [zx]using ho
 | cons a l ih =>
   intro out ho;simp only[zx];exact ih (fun t ht=>h t (List.mem_cons_of_mem _ ht)) _ (h a (List.mem_cons_self ..) out ho)
theorem zmC (kind:Int) (t:Ty):t.ok=true->∀ out,Ty.oks out=true->Ty.oks (zai kind t out)=true:=by
 induction t using Ty.ind with
 | h t ih =>
   intro ht out ho;rw[zck];split
   . split
     . exact ho
     . rw[Ty.oks_iff]at ho ⊢;intro u hu;rcases List.mem_append.1 hu with hu|hu
       . exact ho u hu
       . rw[List.mem_singleton.1 hu];exact ht
   . exact zgn (fun u hu=>ih u hu (Ty.ok_arg ht hu)) out ho
theorem zh7{kind:Int}{l:List Ty}(hl:Ty.oks l=true):∀ out,Ty.oks out=true->Ty.oks (zx kind l out)=true :=
 zgn fun t ht=>zmC kind t (Ty.oks_iff.1 hl t ht)
theorem zfT(l m:List Ty):Ty.sizes (l++m)=Ty.sizes l+Ty.sizes m:=by
 induction l with
 |nil=>simp[Ty.sizes]
 |cons a l ih=>simp[Ty.sizes,ih,Nat.add_assoc]
theorem zev(l:List Ty)(i:Nat):Ty.sizes (l.take i)<=Ty.sizes l:=by
 have:=zfT (l.take i) (l.drop i);rw[List.take_append_drop]at this;omega
theorem zl9{l:List Ty}(h:Ty.oks l=true)(i:Nat):Ty.oks (l.take i)=true:=Ty.oks_iff.2 fun t ht=>Ty.oks_iff.1 h t (List.mem_of_mem_take ht)
section
variable {σ α β:Type} [Cel σ] [Enc α] [Enc β]
def zIh(F:List σ->α->Option (List σ))(es:List (List V))(vs:List V):Option (List (List V)×List V):=match vs with
 | [x]=>ob (zP es) fun l=>ob (Enc.dec x) fun a=>ob (F l a) fun r=>some (r.map Cel.cells,[])
 |_=>none
def zrB(F:List σ->α->β->Option (List σ))(es:List (List V))(vs:List V):Option (List (List V)×List V):=match vs with
 | [x,y]=>ob (zP es) fun l=>ob (Enc.dec x) fun a=>ob (Enc.dec y) fun b=>ob (F l a b) fun r=>some (r.map Cel.cells,[])
 |_=>none
@[simp] theorem zEG {F:List σ->α->Option (List σ)} {es:List (List V)} {x:V}:zIh F es [x]=ob (zP es) fun l=>ob (Enc.dec x) fun a=>ob (F l a) fun r=>some (r.map Cel.cells,[]):=(rfl)
@[simp] theorem zEF {F:List σ->α->β->Option (List σ)} {es:List (List V)} {x y:V}:zrB F es [x,y]=ob (zP es) fun l=>ob (Enc.dec x) fun a=>ob (Enc.dec y) fun b=>ob (F l a b) fun r=>some (r.map Cel.cells,[]):=(rfl)
theorem zlI{F:List σ->α->β->Option (List σ)}{es:List (List V)}{vs:List V}{r:List (List V)×List V}(h:zrB F es vs=some r):∃ l a b q,es=l.map Cel.cells/\vs=[enc a,enc b]/\F l a b=some q/\r=(q.map Cel.cells,[]):=by
 unfold zrB at h;split at h
 . simp only[za]at h;obtain⟨l,hl,a,ha,b,hb,q,hq,h⟩:=h;cases h;exact⟨l,a,b,q,zan hl,by rw[Enc.enc_dec _ _ ha,Enc.enc_dec _ _ hb],hq,rfl⟩
 . cases h
end
def zdm(out:List Int)(t:Ty):List Int:=if t.id∈out then out else out++[t.id]
def zcu(l:List Ty):List Int:=l.foldl zdm []
def ziG(l:List Ty):List Int:=zcu (zx 1 l [])
theorem zh9(l:List Ty)(t:Ty):zcu (l++[t])=zdm (zcu l) t:=by simp[zcu]
theorem zrs(out:List Int)(t:Ty):out.length<=(zdm out t).length/\(zdm out t).length<=out.length+1:=by
 unfold zdm;split<;>simp
theorem zjz(l:List Ty):(zcu l).length<=l.length:=by
 have:∀ (l:List Ty) (o:List Int),(l.foldl zdm o).length<=o.length+l.length:=by
  intro l
  induction l with
  |nil=>intro o;simp
  |cons a l ih=>intro o;have:=ih (zdm o a);have:=zrs o a;simp;omega
 simpa [zcu]using this l []
end Go.J
