import Derived.Test.YtfgmnebfhemnpaaGreatJK
import Derived.Test.YtfgmnebfhemnpaaGreatJI
set_option linter.all false
noncomputable section
/- Schemes,contexts,declarations. -/
namespace Go.J
open Enc (enc)
structure Scheme where
 count:Int
 type:Ty
 deriving DecidableEq
def zbg(a:Scheme):List V:=[.int .i64 a.count,.int .i64 a.type.kind,.str a.type.name,.int .i64 a.type.id,.int .i64 a.type.home,.sl (a.type.args.map zw) false]
def zef(c:List V):Option Scheme :=
 match c with
 | [.int .i64 x0,.int .i64 x1,.str x2,.int .i64 x3,.int .i64 x4,.sl x5 false]=>ob (zah x5) fun y5=>some ⟨x0,(Ty.mk x1 x2 x3 x4 y5)⟩
 |_=>none
theorem zhR{x0:Int}{x1:Int}{x2:List Nat}{x3:Int}{x4:Int}{x5:List (List V)}:zef [.int .i64 x0,.int .i64 x1,.str x2,.int .i64 x3,.int .i64 x4,.sl x5 false]=ob (zah x5) fun y5=>some ⟨x0,(Ty.mk x1 x2 x3 x4 y5)⟩:=(rfl)
instance:Cel Scheme where
 cells:=zbg
 dec:=zef
 dec_enc a:=by simp only[zbg,zhR,zeg,zN,Ty.eta]
 enc_dec c a h:=by
  unfold zef at h;split at h
  . simp only[zt]at h;obtain⟨y5,hy5,h⟩:=h;cases h;have hy5:=zaq hy5
    subst_vars
    rfl
  . cases h
 pure2 a:=rfl
 norm a:=by simp only[zbg,zal,zat,zdV]
instance:Enc Scheme:=zdM
@[simp] theorem z6D:@Cel.cells Scheme _=zbg:=(rfl)
@[simp] theorem zym:@Cel.dec Scheme _=zef:=(rfl)
@[simp] theorem zBI (a:Scheme):enc a=.agg (zbg a):=(rfl)
@[simp] theorem zBP {c:List V}:Enc.dec (α:=Scheme) (.agg c)=zef c:=(rfl)
@[simp] theorem z9G (l:List Scheme):zah (l.map zbg)=some l:=zaY l
@[simp] theorem z8n (l:List Scheme):zay (l.map zbg)=l.map zbg:=zas l
@[simp] theorem zlg (l:List Scheme):((l.map zbg).all fun e=>e.all V.pure2)=true:=zav l
@[simp] theorem z94 (l:List Scheme):enc l=.sl (l.map zbg) false:=(rfl)
@[simp] theorem z9B {es:List (List V)}:Enc.dec (α:=List Scheme) (.sl es false)=zah es:=(rfl)
@[simp] theorem zDr (l:List Scheme):sizes 6 (l.map zbg)=true:=by rw[sizes_eq];intro e he;obtain⟨a,_,rfl⟩:=List.mem_map.1 he;rfl
@[simp] theorem zGW (l:List Scheme):zY (l.map zbg)=true:=zab zlg
@[simp] theorem zBF (a:Scheme):Scheme.mk a.count a.type=a:=(rfl)
attribute [simp] zhR zbg
structure Entry where
 name:List Nat
 scheme:Scheme
 deriving DecidableEq
def zb5(a:Entry):List V:=[.str a.name,.int .i64 a.scheme.count,.int .i64 a.scheme.type.kind,.str a.scheme.type.name,.int .i64 a.scheme.type.id,.int .i64 a.scheme.type.home,.sl (a.scheme.type.args.map zw) false]
def zfC(c:List V):Option Entry :=
 match c with
 | [.str x0,.int .i64 x1,.int .i64 x2,.str x3,.int .i64 x4,.int .i64 x5,.sl x6 false]=>ob (zah x6) fun y6=>some ⟨x0,⟨x1,(Ty.mk x2 x3 x4 x5 y6)⟩⟩
 |_=>none
theorem zjt{x0:List Nat}{x1:Int}{x2:Int}{x3:List Nat}{x4:Int}{x5:Int}{x6:List (List V)}:zfC [.str x0,.int .i64 x1,.int .i64 x2,.str x3,.int .i64 x4,.int .i64 x5,.sl x6 false]=ob (zah x6) fun y6=>some ⟨x0,⟨x1,(Ty.mk x2 x3 x4 x5 y6)⟩⟩:=(rfl)
instance:Cel Entry where
 cells:=zb5
 dec:=zfC
 dec_enc a:=by simp only[zb5,zjt,zeg,zN,Ty.eta]
 enc_dec c a h:=by
  unfold zfC at h;split at h
  . simp only[zt]at h;obtain⟨y6,hy6,h⟩:=h;cases h;have hy6:=zaq hy6
    subst_vars
    rfl
  . cases h
 pure2 a:=rfl
 norm a:=by simp only[zb5,zal,zat,zdV]
instance:Enc Entry:=zdM
@[simp] theorem z9N:@Cel.cells Entry _=zb5:=(rfl)
@[simp] theorem z6H:@Cel.dec Entry _=zfC:=(rfl)
@[simp] theorem zFY (a:Entry):enc a=.agg (zb5 a):=(rfl)
@[simp] theorem zGi {c:List V}:Enc.dec (α:=Entry) (.agg c)=zfC c:=(rfl)
@[simp] theorem zBV (l:List Entry):zah (l.map zb5)=some l:=zaY l
@[simp] theorem zBk (l:List Entry):zay (l.map zb5)=l.map zb5:=zas l
@[simp] theorem zmU (l:List Entry):((l.map zb5).all fun e=>e.all V.pure2)=true:=zav l
@[simp] theorem zBK (l:List Entry):enc l=.sl (l.map zb5) false:=(rfl)
@[simp] theorem zBR {es:List (List V)}:Enc.dec (α:=List Entry) (.sl es false)=zah es:=(rfl)
@[simp] theorem zHM (l:List Entry):sizes 7 (l.map zb5)=true:=by rw[sizes_eq];intro e he;obtain⟨a,_,rfl⟩:=List.mem_map.1 he;rfl
@[simp] theorem zKk (l:List Entry):zY (l.map zb5)=true:=zab zmU
@[simp] theorem zFO (a:Entry):Entry.mk a.name a.scheme=a:=(rfl)
attribute [simp] zjt zb5
structure Ctor where
 pos:Int
 name:List Nat
 fields:List Ty
 deriving DecidableEq
def zbT(a:Ctor):List V:=[.int .i64 a.pos,.str a.name,.sl (a.fields.map zw) false]
def zhV(c:List V):Option Ctor :=
 match c with
 | [.int .i64 x0,.str x1,.sl x2 false]=>ob (zah x2) fun y2=>some ⟨x0,x1,y2⟩
 |_=>none
theorem zmg{x0:Int}{x1:List Nat}{x2:List (List V)}:zhV [.int .i64 x0,.str x1,.sl x2 false]=ob (zah x2) fun y2=>some ⟨x0,x1,y2⟩:=(rfl)
instance:Cel Ctor where
 cells:=zbT
 dec:=zhV
 dec_enc a:=by simp only[zbT,zmg,zeg,zN,Ty.eta]
 enc_dec c a h:=by
  unfold zhV at h;split at h
  . simp only[zt]at h;obtain⟨y2,hy2,h⟩:=h;cases h;have hy2:=zaq hy2
    subst_vars
    rfl
  . cases h
 pure2 a:=rfl
 norm a:=by simp only[zbT,zal,zat,zdV]
instance:Enc Ctor:=zdM
@[simp] theorem zCe:@Cel.cells Ctor _=zbT:=(rfl)
@[simp] theorem z9R:@Cel.dec Ctor _=zhV:=(rfl)
@[simp] theorem zJB (a:Ctor):enc a=.agg (zbT a):=(rfl)
@[simp] theorem zJJ {c:List V}:Enc.dec (α:=Ctor) (.agg c)=zhV c:=(rfl)
@[simp] theorem zvk (l:List Ctor):zah (l.map zbT)=some l:=zaY l
@[simp] theorem zr2 (l:List Ctor):zay (l.map zbT)=l.map zbT:=zas l
@[simp] theorem zpt (l:List Ctor):((l.map zbT).all fun e=>e.all V.pure2)=true:=zav l
@[simp] theorem zFW (l:List Ctor):enc l=.sl (l.map zbT) false:=(rfl)
@[simp] theorem zGg {es:List (List V)}:Enc.dec (α:=List Ctor) (.sl es false)=zah es:=(rfl)
@[simp] theorem zKO (l:List Ctor):sizes 3 (l.map zbT)=true:=by rw[sizes_eq];intro e he;obtain⟨a,_,rfl⟩:=List.mem_map.1 he;rfl
@[simp] theorem zN1 (l:List Ctor):zY (l.map zbT)=true:=zab zpt
@[simp] theorem zJ1 (a:Ctor):Ctor.mk a.pos a.name a.fields=a:=(rfl)
attribute [simp] zmg zbT
structure Decl where
 pos:Int
 name:List Nat
 params:List (List Nat)
 ctors:List Ctor
 deriving DecidableEq
def zao(a:Decl):List V:=[.int .i64 a.pos,.str a.name,.sl (a.params.map (encS)) false,.sl (a.ctors.map zbT) false]
def zhU(c:List V):Option Decl :=
 match c with
 | [.int .i64 x0,.str x1,.sl x2 false,.sl x3 false]=>ob (zah x2) fun y2=>ob (zah x3) fun y3=>some ⟨x0,x1,y2,y3⟩
 |_=>none
theorem zmf{x0:Int}{x1:List Nat}{x2:List (List V)}{x3:List (List V)}:zhU [.int .i64 x0,.str x1,.sl x2 false,.sl x3 false]=ob (zah x2) fun y2=>ob (zah x3) fun y3=>some ⟨x0,x1,y2,y3⟩:=(rfl)
instance:Cel Decl where
 cells:=zao
 dec:=zhU
 dec_enc a:=by simp only[zao,zmf,zvk,zyd,zN,Ty.eta]
 enc_dec c a h:=by
  unfold zhU at h;split at h
  . simp only[zt]at h;obtain⟨y2,hy2,y3,hy3,h⟩:=h;cases h;have hy2:=zaq hy2;have hy3:=zaq hy3
    subst_vars
    rfl
  . cases h
 pure2 a:=rfl
 norm a:=by simp only[zao,zal,zat,zr2,zxu]
instance:Enc Decl:=zdM
@[simp] theorem zCd:@Cel.cells Decl _=zao:=(rfl)
@[simp] theorem z9Q:@Cel.dec Decl _=zhU:=(rfl)
@[simp] theorem zJA (a:Decl):enc a=.agg (zao a):=(rfl)
@[simp] theorem zJI {c:List V}:Enc.dec (α:=Decl) (.agg c)=zhU c:=(rfl)
@[simp] theorem zGk (l:List Decl):zah (l.map zao)=some l:=zaY l
@[simp] theorem zE0 (l:List Decl):zay (l.map zao)=l.map zao:=zas l
@[simp] theorem zps (l:List Decl):((l.map zao).all fun e=>e.all V.pure2)=true:=zav l
@[simp] theorem zFV (l:List Decl):enc l=.sl (l.map zao) false:=(rfl)
@[simp] theorem zGf {es:List (List V)}:Enc.dec (α:=List Decl) (.sl es false)=zah es:=(rfl)
@[simp] theorem zKN (l:List Decl):sizes 4 (l.map zao)=true:=by rw[sizes_eq];intro e he;obtain⟨a,_,rfl⟩:=List.mem_map.1 he;rfl
@[simp] theorem zN0 (l:List Decl):zY (l.map zao)=true:=zab zps
@[simp] theorem zJ0 (a:Decl):Decl.mk a.pos a.name a.params a.ctors=a:=(rfl)
attribute [simp] zmf zao
end Go.J
/- What small functions of types compute. -/
namespace Go.J
open Enc (enc)
def zx2(n m:Int):Int:=if m<1 then 0 else n % m
theorem zna(n m:Int):0<=zx2 n m:=by
 unfold zx2;split
 . exact Int.le_refl _
 . exact Int.emod_nonneg _ (by omega)
theorem z8v{n m:Int}(h:1<=m):zx2 n m<m:=by
 unfold zx2;rw[if_neg (by omega)];exact Int.emod_lt_of_pos _ (by omega)
def zfN(n:List Nat)(l:List Ty):Ty:=.mk 4 n 0 0 l
def zad(i:Int):Ty:=.mk 1 [] i 0 []
def zcn(i:Int):Ty:=.mk 2 [] i 0 []
def zax(h i:Int):Ty:=.mk 3 [] i h []
def tInt:Ty:=zfN [73,110,116] []
def zcx(a b:Ty):Ty:=zfN [45,62] [a,b]
theorem znJ(n m:Int):n % m=n.tmod m % m:=by
 have h:=Int.mul_tdiv_add_tmod n m
 calc n % m=(m*n.tdiv m+n.tmod m) % m:=by rw[h]
  _=n.tmod m % m:=by rw[Int.add_comm,Int.add_mul_emod_self_left]
theorem zw2{n m:Int}(hm:1<=m)(h:n.tmod m<0):n % m=n.tmod m+m:=by
 have h1:=Int.lt_tmod_of_pos n (show 0<m by omega);rw[znJ,<- Int.add_emod_right,Int.emod_eq_of_lt (by omega) (by omega)]
theorem zw1{n m:Int}(hm:1<=m)(h:0<=n.tmod m):n % m=n.tmod m:=by
 rw[znJ,Int.emod_eq_of_lt h (Int.tmod_lt_of_pos n (by omega))]
def Tp.next(t:Tp)(n:Int):Tp×Int :=
 if t.l.length<=t.i then (t,0)else ({ t with i:=t.i+1 },zx2 (t.l.getD t.i.toNat 0) n)
def zaO(n:Nat):List Ty:=(List.range n).map fun i=>zad (i:Nat)
theorem zoR(n:Nat):zaO (n+1)=zaO n++[zad (n:Nat)]:=by simp[zaO,List.range_succ]
@[simp] theorem zk7 (n:Nat):(zaO n).length=n:=by simp[zaO]
end Go.J
/- The data declarations that programs are made of;what a tape makes. -/
namespace Go.J
open Enc (enc)
def allD:List Decl:=[⟨0,[66,111,111,108],[],[⟨12,[84,114,117,101],[]⟩,⟨19,[70,97,108,115,101],[]⟩]⟩,
 ⟨26,[79,112,116,105,111,110],[[97]],[⟨42,[78,111,110,101],[]⟩,⟨49,[83,111,109,101],[.mk 5 [97] 0 0 []]⟩]⟩,
 ⟨57,[76,105,115,116],[[97]],[⟨71,[78,105,108],[]⟩,⟨77,[67,111,110,115],[.mk 5 [97] 0 0 [],.mk 4 [76,105,115,116] 0 0 [.mk 5 [97] 0 0 []]]⟩]⟩,
 ⟨93,[80,97,105,114],[[97],[98]],[⟨109,[80,97,105,114],[.mk 5 [97] 0 0 [],.mk 5 [98] 0 0 []]⟩]⟩,
 ⟨119,[78,97,116],[],[⟨130,[90,101,114,111],[]⟩,⟨137,[83,117,99,99],[.mk 4 [78,97,116] 0 0 []]⟩]⟩,
 ⟨147,[70,117,110],[[97],[98]],[⟨162,[70,117,110],[.mk 4 [45,62] 0 0 [.mk 5 [97] 0 0 [],.mk 5 [98] 0 0 []]]⟩]⟩,
 ⟨176,[84,119,111],[[97]],[⟨189,[66,111,116,104],[.mk 5 [97] 0 0 [],.mk 5 [97] 0 0 []]⟩,⟨200,[79,110,101],[.mk 4 [79,112,116,105,111,110] 0 0 [.mk 5 [97] 0 0 []]]⟩]⟩]
def zTh:V:=.sl [[.int .i64 0,.str [66,111,111,108],.snil,.sl [[.int .i64 12,.str [84,114,117,101],.snil],[.int .i64 19,.str [70,97,108,115,101],.snil]] false],[.int .i64 26,.str [79,112,116,105,111,110],.sl [[.str [97]]] false,.sl [[.int .i64 42,.str [78,111,110,101],.snil],[.int .i64 49,.str [83,111,109,101],.sl [[.int .i64 5,.str [97],.int .i64 0,.int .i64 0,.snil]] false]] false],[.int .i64 57,.str [76,105,115,116],.sl [[.str [97]]] false,.sl [[.int .i64 71,.str [78,105,108],.snil],[.int .i64 77,.str [67,111,110,115],.sl [[.int .i64 5,.str [97],.int .i64 0,.int .i64 0,.snil],[.int .i64 4,.str [76,105,115,116],.int .i64 0,.int .i64 0,.sl [[.int .i64 5,.str [97],.int .i64 0,.int .i64 0,.snil]] false]] false]] false],[.int .i64 93,.str [80,97,105,114],.sl [[.str [97]],[.str [98]]] false,.sl [[.int .i64 109,.str [80,97,105,114],.sl [[.int .i64 5,.str [97],.int .i64 0,.int .i64 0,.snil],[.int .i64 5,.str [98],.int .i64 0,.int .i64 0,.snil]] false]] false],[.int .i64 119,.str [78,97,116],.snil,.sl [[.int .i64 130,.str [90,101,114,111],.snil],[.int .i64 137,.str [83,117,99,99],.sl [[.int .i64 4,.str [78,97,116],.int .i64 0,.int .i64 0,.snil]] false]] false],[.int .i64 147,.str [70,117,110],.sl [[.str [97]],[.str [98]]] false,.sl [[.int .i64 162,.str [70,117,110],.sl [[.int .i64 4,.str [45,62],.int .i64 0,.int .i64 0,.sl [[.int .i64 5,.str [97],.int .i64 0,.int .i64 0,.snil],[.int .i64 5,.str [98],.int .i64 0,.int .i64 0,.snil]] false]] false]] false],[.int .i64 176,.str [84,119,111],.sl [[.str [97]]] false,.sl [[.int .i64 189,.str [66,111,116,104],.sl [[.int .i64 5,.str [97],.int .i64 0,.int .i64 0,.snil],[.int .i64 5,.str [97],.int .i64 0,.int .i64 0,.snil]] false],[.int .i64 200,.str [79,110,101],.sl [[.int .i64 4,.str [79,112,116,105,111,110],.int .i64 0,.int .i64 0,.sl [[.int .i64 5,.str [97],.int .i64 0,.int .i64 0,.snil]] false]] false]] false]] false
def ziP(bits:Int):List Decl->Nat->List Decl
 | [],_=>[]
 |d::l,i=>if i≠1/\zy4 .i64 (bits.fdiv (2 ^ i)) 1=1 then d::ziP bits l (i+1)else ziP bits l (i+1)
def zqV(bits:Int)(l:List Decl):List Decl:=if zy4 .i64 bits 2≠0\/zy4 .i64 bits 64≠0 then (l[1]?).toList else []
def zaI(bits:Int):List Decl:=zqV bits allD++ziP bits allD 0
theorem zwO(bits:Int):∀ (l m:List Decl) (i:Nat),ziP bits (l++m) i=ziP bits l i++ziP bits m (i+l.length):=by
 intro l
 induction l with
 |nil=>intro m i;simp[ziP]
 | cons d l ih =>
   intro m i;have e:i+1+l.length=i+(d::l).length:=by simp;omega
   simp only[List.cons_append,ziP,ih,e];split<;>rfl
theorem zwN{bits:Int}{d:Decl}:∀ {l:List Decl} {i:Nat},d∈ziP bits l i->d∈l:=by
 intro l
 induction l with
 |nil=>intro i h;cases h
 | cons x l ih =>
   intro i h;unfold ziP at h;split at h
   . rcases List.mem_cons.1 h with rfl|h
     . exact List.mem_cons_self ..
     . exact List.mem_cons_of_mem _ (ih h)
   . exact List.mem_cons_of_mem _ (ih h)
theorem znV(bits:Int):∀ (l:List Decl) (i:Nat),(ziP bits l i).length<=l.length:=by
 intro l
 induction l with
 |nil=>intro i;exact Nat.le_refl _
 | cons x l ih =>
   intro i;have:=ih (i+1);unfold ziP;split<;>simp only[List.length_cons]<;>omega
theorem zeY{bits:Int}{d:Decl}(h:d∈zaI bits):d∈allD:=by
 unfold zaI at h;rcases List.mem_append.1 h with h|h
 . unfold zqV at h;split at h
   . rw[Option.mem_toList]at h;exact List.mem_of_getElem? h
   . cases h
 . exact zwN h
theorem znr(bits:Int):(zaI bits).length<=8:=by
 unfold zaI;rw[List.length_append];have h1:=znV bits allD 0;have h2:(zqV bits allD).length<=1:=by unfold zqV;split<;>simp[allD]
 have h3:allD.length=7:=rfl;omega
end Go.J
/- Types that a tape makes. -/
namespace Go.J
open Enc (enc)
theorem zcX(t:Tp)(n:Int):(t.next n).1.l=t.l:=by unfold Tp.next;split<;>rfl
theorem zE4{t:Tp}(h:0<=t.i)(n:Int):0<=(t.next n).1.i:=by
 unfold Tp.next;split
 . exact h
 . show 0<=t.i+1;omega
theorem zh7(t:Tp)(n:Int):0<=(t.next n).2:=by
 unfold Tp.next;split
 . exact Int.le_refl _
 . exact zna _ _
theorem zkb(t:Tp){n:Int}(h:1<=n):(t.next n).2<n:=by
 unfold Tp.next;split
 . show (0:Int)<n;omega
 . exact z8v h
def Tp.ok(t:Tp):Prop:=0<=t.i/\t.l.length<=100000
theorem zbb{t:Tp}(h:t.ok)(n:Int):(t.next n).1.ok:=⟨zE4 h.1 n,by rw[zcX];exact h.2⟩
theorem zcY{α:Type}(t:Tp){l:List α}(h:l≠[]):∃ (j:Nat) (hj:j<l.length),(t.next (l.length:Int)).2=(j:Int)/\l[(t.next (l.length:Int)).2.toNat]?=some l[j]:=by
 have h1:=zh7 t (l.length:Int);have h0:0<l.length:=List.length_pos_iff.2 h;have h2:=zkb t (n:=(l.length:Int)) (by omega);obtain⟨j,hj⟩:=Int.eq_ofNat_of_zero_le h1;refine⟨j,by omega,hj,?_⟩;rw[hj];simp only[Int.toNat_natCast];exact List.getElem?_eq_getElem (by omega)
mutual
def typeM : Nat->Tp->List Decl->List Ty->Tp×Ty
 | d, t, D,Lv =>
   let k:=(t.next 7).2
   let t1:=(t.next 7).1
   if k<3/\Lv≠[]then ((t1.next Lv.length).1,(Lv[(t1.next Lv.length).2.toNat]?).getD tInt)
   else if k<4 then (t1,tInt)
   else match d with
    | 0=>(t1,tInt)
    | d + 1 =>
      if (k=4\/k=5)/\D≠[]then
       let dd:=(D[(t1.next D.length).2.toNat]?).getD ⟨0,[],[],[]⟩
       let r:=zcs d (t1.next D.length).1 D Lv dd.params.length
       (r.1,zfN dd.name r.2)
      else
       let a:=typeM d t1 D Lv
       let b:=typeM d a.1 D Lv
       (b.1,zcx a.2 b.2)
 termination_by d=>(d,0)
def zcs(d:Nat)(t:Tp)(D:List Decl)(Lv:List Ty):Nat->Tp×List Ty
 | 0=>(t,[])
 |n+1=>((typeM d (zcs d t D Lv n).1 D Lv).1,(zcs d t D Lv n).2++[(typeM d (zcs d t D Lv n).1 D Lv).2])
 termination_by n=>(d,n+1)
end
theorem zfI(d:Nat)(t:Tp)(D:List Decl)(Lv:List Ty)(n:Nat):(zcs d t D Lv n).2.length=n:=by
 induction n with
 |zero=>rw[zcs];rfl
 |succ n ih=>rw[zcs];simp[ih]
theorem zff {P:Ty->Prop} {D:List Decl} {Lv:List Ty} (hl:∀ l∈Lv,P l) (hi:P tInt) (hc:∀ dd∈D,∀ l:List Ty,l.length=dd.params.length->(∀ x∈l,P x)->P (zfN dd.name l)) (ha:∀ a b,P a->P b->P (zcx a b)) :
 ∀ (d:Nat) (t:Tp),P (typeM d t D Lv).2:=by
 intro d
 induction d with
 | zero =>
   intro t;rw[typeM]
   try dsimp only
   split
   . rename_i h;obtain⟨j,hj,_,h2⟩:=zcY (t.next 7).1 h.2;rw[h2];exact hl _ (List.getElem_mem hj)
   . split<;>exact hi
 | succ d ih =>
   intro t;rw[typeM]
   try dsimp only
   split
   . rename_i h;obtain⟨j,hj,_,h2⟩:=zcY (t.next 7).1 h.2;rw[h2];exact hl _ (List.getElem_mem hj)
   . split
     . exact hi
     . split
       . rename_i h;obtain⟨j,hj,_,h2⟩:=zcY (t.next 7).1 h.2;rw[h2];refine hc _ (List.getElem_mem hj) _ (zfI ..) ?_;generalize hn:(((some D[j]).getD _:Decl).params.length)=n;clear hn
         induction n with
         |zero=>intro x hx;rw[zcs]at hx;cases hx
         | succ n ihn =>
           intro x hx;rw[zcs]at hx;rcases List.mem_append.1 hx with hx|hx
           . exact ihn x hx
           . rw[List.mem_singleton.1 hx];exact ih _
       . exact ha _ _ (ih _) (ih _)
theorem zeu {D:List Decl} {Lv:List Ty}:∀ (d:Nat) (t:Tp),t.ok->(typeM d t D Lv).1.ok/\(typeM d t D Lv).1.l=t.l:=by
 intro d
 induction d with
 | zero =>
   intro t h;rw[typeM]
   try dsimp only
   split
   . exact⟨zbb (zbb h 7) _,by rw[zcX,zcX]⟩
   . split<;>exact⟨zbb h 7,zcX t 7⟩
 | succ d ih =>
   intro t h;rw[typeM]
   try dsimp only
   split
   . exact⟨zbb (zbb h 7) _,by rw[zcX,zcX]⟩
   . split
     . exact⟨zbb h 7,zcX t 7⟩
     . split
       . have h1:=zbb (zbb h 7) (D.length:Int);have h2:((t.next 7).1.next (D.length:Int)).1.l=t.l:=by rw[zcX,zcX]
         generalize (t.next 7).1.next (D.length:Int)=q at h1 h2;generalize (((D[q.2.toNat]?).getD _:Decl).params.length)=n
         induction n with
         |zero=>rw[zcs];exact⟨h1,h2⟩
         | succ n ihn =>
           rw[zcs];have:=ih _ ihn.1;exact⟨this.1,this.2.trans ihn.2⟩
       . have h1:=ih _ (zbb h 7);have h2:=ih _ h1.1;exact⟨h2.1,h2.2.trans (h1.2.trans (zcX t 7))⟩
theorem zy1{D:List Decl}{Lv:List Ty}(d:Nat){t:Tp}(h:t.ok)(n:Nat):(zcs d t D Lv n).1.ok:=by
 induction n with
 |zero=>rw[zcs];exact h
 |succ n ih=>rw[zcs];exact(zeu d _ ih).1
def DOk(D:List Decl):Prop:=D.length<=1000/\∀ d∈D,d.params.length<=100
theorem zpK(bits:Int):DOk (zaI bits):=by
 refine⟨by have:=znr bits;omega,fun d hd=>?_⟩;have:=zeY hd;have key:∀ d∈allD,d.params.length<=100:=by decide
 exact key d this
end Go.J
/- Substitutions. -/
namespace Go.J
open Enc (enc)
def zaW:List Assign->Int->Option Ty
 | [],_=>none
 |a::s,i=>if a.id=i then some a.type else zaW s i
theorem zdX(s u:List Assign)(i:Int):zaW (s++u) i=(zaW s i).or (zaW u i):=by
 induction s with
 |nil=>rfl
 | cons a s ih =>
   simp only[List.cons_append,zaW,ih];split<;>rfl
mutual
def Ty.repl(s:List Assign):Ty->Ty
 |.mk k n i h l=>if k=1 then (zaW s i).getD (.mk k n i h l)else .mk k n i h (Ty.repls s l)
def Ty.repls(s:List Assign):List Ty->List Ty
 | []=>[]
 |t::l=>Ty.repl s t::Ty.repls s l
end
theorem znZ(s:List Assign)(l:List Ty):Ty.repls s l=l.map (Ty.repl s):=by
 induction l with
 |nil=>simp[Ty.repls]
 |cons t l ih=>simp[Ty.repls,ih]
theorem zhl(s:List Assign)(t:Ty):t.repl s=if t.kind=1 then (zaW s t.id).getD t else .mk t.kind t.name t.id t.home (t.args.map (Ty.repl s)):=by
 cases t;simp only[Ty.repl,Ty.kind_mk,Ty.name_mk,Ty.id_mk,Ty.home_mk,Ty.args_mk,znZ]
end Go.J
/- Stores of type variables: what the small functions compute. -/
namespace Go.J
open Enc (enc)
def ty0:Ty:=.mk 0 [] 0 0 []
def zwF:Slot:=⟨false,ty0,0,false⟩
namespace Store
def slot? (s:Store)(id:Int):Option Slot:=if 0<=id then s.slots[id.toNat]? else none
def fresh(s:Store)(home:Int)(base:Bool):Store×Ty :=
 (⟨s.slots++[⟨false,ty0,home,base⟩],s.trail++[⟨s.slots.length,zwF,true⟩]⟩,zad s.slots.length)
def set(s:Store)(id:Int)(x:Slot):Store×Bool :=
 match s.slot? id with
 |some old=>(⟨s.slots.set id.toNat x,s.trail++[⟨id,old,false⟩]⟩,true)
 |none=>(s,false)
def bound(s:Store)(t:Ty):Bool :=
 match decide (t.kind=1),s.slot? t.id with
 |true,some x=>x.bound
 |_,_=>false
def to(s:Store)(t:Ty):Ty :=
 match s.slot? t.id with
 |some x=>x.type
 |none=>ty0
def walkN(s:Store):Nat->Ty->Ty
 | 0,t=>t
 |n+1,t=>if s.bound t then walkN s n (s.to t)else t
def small(s:Store):Prop:=s.slots.length<=1000/\s.trail.length<=1000
instance (s:Store):Decidable s.small:=inferInstanceAs (Decidable (_/\_))
theorem slot?_nat (s:Store)(i:Nat):s.slot? (i:Int)=s.slots[i]?:=by simp[slot?]
theorem slot?_some {s:Store}{id:Int}{x:Slot}(h:s.slot? id=some x):∃ i:Nat,id=i/\i<s.slots.length/\s.slots[i]?=some x:=by
 unfold slot? at h;split at h
 . rename_i h0;obtain⟨i,rfl⟩:=Int.eq_ofNat_of_zero_le h0;simp only[Int.toNat_natCast]at h;exact⟨i,rfl,(List.getElem?_eq_some_iff.1 h).1,h⟩
 . cases h
theorem slot?_at {s:Store}{id:Int}{x:Slot}(h:s.slot? id=some x):∃ i:Nat,∃ hl:i<s.slots.length,id=i/\s.slots[i]=x:=by
 obtain⟨i,h1,h2,h3⟩:=slot?_some h;exact⟨i,h2,h1,by rw[List.getElem?_eq_getElem h2]at h3;exact Option.some.inj h3⟩
theorem slot?_none {s:Store}{id:Int}(h:s.slot? id=none):id<0\/(s.slots.length:Int)<=id:=by
 unfold slot? at h;split at h
 . rename_i h0;obtain⟨i,rfl⟩:=Int.eq_ofNat_of_zero_le h0;simp at h;omega
 . omega
theorem bound_true{s:Store}{t:Ty}(h:s.bound t=true):t.kind=1/\∃ x,s.slot? t.id=some x/\x.bound=true:=by
 unfold bound at h;split at h
 . rename_i x h1 h2;exact⟨of_decide_eq_true h1,x,h2,h⟩
 . cases h
theorem bound_eq{s:Store}{t:Ty}{x:Slot}(h1:t.kind=1)(h2:s.slot? t.id=some x):s.bound t=x.bound:=by
 unfold bound;rw[h2,decide_eq_true h1]
end Store
def zaH (t:Ty):T3 Ty Ty Bool :=
 if t.kind=4/\t.name=[45,62]then (match t.args with
  | [a,b]=>⟨a,b,true⟩
  |_=>⟨ty0,ty0,false⟩)else ⟨ty0,ty0,false⟩
end Go.J
/- Leaves of types. -/
namespace Go.J
open Enc (enc)
mutual
def zaw(kind:Int):Ty->List Ty->List Ty
 |.mk k n i h l,out=>if k=kind/\l=[]then (if Ty.mk k n i h l∈out then out else out++[Ty.mk k n i h l])else zQ kind l out
def zQ(kind:Int):List Ty->List Ty->List Ty
 | [],out=>out
 |t::l,out=>zQ kind l (zaw kind t out)
end
theorem zcd(kind:Int)(t:Ty)(out:List Ty):zaw kind t out=if t.kind=kind/\t.args=[]then (if t∈out then out else out++[t])else zQ kind t.args out:=by
 cases t;simp[zaw]
theorem zgr(kind:Int)(l:List Ty)(t:Ty)(out:List Ty):zQ kind (l++[t]) out=zaw kind t (zQ kind l out):=by
 induction l generalizing out with
 |nil=>simp[zQ]
 |cons a l ih=>simp[zQ,ih]
theorem zgs{kind:Int}{l:List Ty}(h:∀ t∈l,∀ out,out.length<=(zaw kind t out).length/\(zaw kind t out).length<=out.length+t.size):∀ out,out.length<=(zQ kind l out).length/\(zQ kind l out).length<=out.length+Ty.sizes l:=by
 induction l with
 |nil=>intro out;simp[zQ,Ty.sizes]
 | cons a l ih =>
   intro out;have h1:=h a (List.mem_cons_self ..) out;have h2:=ih (fun t ht=>h t (List.mem_cons_of_mem _ ht)) (zaw kind a out);simp only[zQ,Ty.sizes];omega
theorem zcM(kind:Int)(t:Ty):∀ out,out.length<=(zaw kind t out).length/\(zaw kind t out).length<=out.length+t.size:=by
 induction t using Ty.ind with
 | h t ih =>
   intro out;rw[zcd];have hp:=Ty.size_pos t;split
   . split<;>simp<;>omega
   . have:=zgs (kind:=kind) ih out;have:=Ty.size_eq t;omega
theorem zce(kind:Int)(l:List Ty):∀ out,out.length<=(zQ kind l out).length/\(zQ kind l out).length<=out.length+Ty.sizes l:=zgs fun t _=>zcM kind t
theorem zhC{kind:Int}{l:List Ty}(h:∀ t∈l,∀ out,Ty.oks out=true->Ty.oks (zaw kind t out)=true):∀ out,Ty.oks out=true->Ty.oks (zQ kind l out)=true:=by
 induction l with
 |nil=>intro out ho;simpa [zQ]using ho
 | cons a l ih =>
   intro out ho;simp only[zQ];exact ih (fun t ht=>h t (List.mem_cons_of_mem _ ht)) _ (h a (List.mem_cons_self ..) out ho)
theorem zp3 (kind:Int) (t:Ty):t.ok=true->∀ out,Ty.oks out=true->Ty.oks (zaw kind t out)=true:=by
 induction t using Ty.ind with
 | h t ih =>
   intro ht out ho;rw[zcd];split
   . split
     . exact ho
     . rw[Ty.oks_iff]at ho ⊢;intro u hu;rcases List.mem_append.1 hu with hu|hu
       . exact ho u hu
       . rw[List.mem_singleton.1 hu];exact ht
   . exact zhC (fun u hu=>ih u hu (Ty.ok_arg ht hu)) out ho
theorem zjg{kind:Int}{l:List Ty}(hl:Ty.oks l=true):∀ out,Ty.oks out=true->Ty.oks (zQ kind l out)=true :=
 zhC fun t ht=>zp3 kind t (Ty.oks_iff.1 hl t ht)
theorem zdT(l m:List Ty):Ty.sizes (l++m)=Ty.sizes l+Ty.sizes m:=by
 induction l with
 |nil=>simp[Ty.sizes]
 |cons a l ih=>simp[Ty.sizes,ih,Nat.add_assoc]
theorem zc3(l:List Ty)(i:Nat):Ty.sizes (l.take i)<=Ty.sizes l:=by
 have:=zdT (l.take i) (l.drop i);rw[List.take_append_drop]at this;omega
theorem zod{l:List Ty}(h:Ty.oks l=true)(i:Nat):Ty.oks (l.take i)=true:=Ty.oks_iff.2 fun t ht=>Ty.oks_iff.1 h t (List.mem_of_mem_take ht)
section
variable {σ α β:Type} [Cel σ] [Enc α] [Enc β]
def zSO(F:List σ->α->Option (List σ))(es:List (List V))(vs:List V):Option (List (List V)×List V):=match vs with
 | [x]=>ob (zah es) fun l=>ob (Enc.dec x) fun a=>ob (F l a) fun r=>some (r.map Cel.cells,[])
 |_=>none
def zvW(F:List σ->α->β->Option (List σ))(es:List (List V))(vs:List V):Option (List (List V)×List V):=match vs with
 | [x,y]=>ob (zah es) fun l=>ob (Enc.dec x) fun a=>ob (Enc.dec y) fun b=>ob (F l a b) fun r=>some (r.map Cel.cells,[])
 |_=>none
@[simp] theorem zOF {F:List σ->α->Option (List σ)} {es:List (List V)} {x:V}:zSO F es [x]=ob (zah es) fun l=>ob (Enc.dec x) fun a=>ob (F l a) fun r=>some (r.map Cel.cells,[]):=(rfl)
@[simp] theorem zOE {F:List σ->α->β->Option (List σ)} {es:List (List V)} {x y:V}:zvW F es [x,y]=ob (zah es) fun l=>ob (Enc.dec x) fun a=>ob (Enc.dec y) fun b=>ob (F l a b) fun r=>some (r.map Cel.cells,[]):=(rfl)
theorem zom{F:List σ->α->β->Option (List σ)}{es:List (List V)}{vs:List V}{r:List (List V)×List V}(h:zvW F es vs=some r):∃ l a b q,es=l.map Cel.cells/\vs=[enc a,enc b]/\F l a b=some q/\r=(q.map Cel.cells,[]):=by
 unfold zvW at h;split at h
 . simp only[zt]at h;obtain⟨l,hl,a,ha,b,hb,q,hq,h⟩:=h;cases h;exact⟨l,a,b,q,zaq hl,by rw[Enc.enc_dec _ _ ha,Enc.enc_dec _ _ hb],hq,rfl⟩
 . cases h
end
def ziG(out:List Int)(t:Ty):List Int:=if t.id∈out then out else out++[t.id]
def zf5(l:List Ty):List Int:=l.foldl ziG []
def zwl(l:List Ty):List Int:=zf5 (zQ 1 l [])
def zbl(l:List Ty):List Ty:=zQ 3 l []
theorem zp8(l:List Ty)(t:Ty):zf5 (l++[t])=ziG (zf5 l) t:=by simp[zf5]
end Go.J
/- Bytes,words. -/
namespace Go.J
open Enc (enc)
structure Byte where
 n:Nat
instance:Enc Byte where
 enc b:=.int .u8 (Int.ofNat b.n)
 dec v:=match v with
  |.int .u8 (.ofNat n)=>some ⟨n⟩
  |_=>none
 dec_enc _:=rfl
 enc_dec v a h:=by
  split at h
  . cases h;rfl
  . cases h
 norm _:=rfl
@[simp] theorem zNc {b:Byte}:(enc b:V)=.int .u8 (b.n:Int):=(rfl)
@[simp] theorem zNk {n:Nat}:(Enc.dec (V.int .u8 (n:Int)):Option Byte)=some ⟨n⟩:=(rfl)
def lowerB(n:Nat):Bool:=decide (97<=n)&&decide (n<=122)
def upperB(n:Nat):Bool:=decide (65<=n)&&decide (n<=90)
def zGb(n:Nat):Bool:=decide (48<=n)&&decide (n<=57)
def zEP(n:Nat):Bool:=lowerB n||upperB n||zGb n||decide (n=95)
def zC7(s:List Nat):Bool:=s.all zEP&&!s.isEmpty
def zxB:List (List Nat):=[[100,97,116,97],[108,101,116],[114,101,99],[105,110],[99,97,115,101],[111,102],[101,110,100]]
def zk9(s:List Nat):Bool:=zC7 s&&upperB (s.headD 0)&&decide (s.length<=12)
def zzz(s:List Nat):Bool:=zC7 s&&lowerB (s.headD 0)&&decide (s.length<=12)&&decide (s ∉ zxB)
@[simp] theorem zz1:isStr TypeDesc.string=true:=(rfl)
mutual
def Ty.short:Ty->Bool
 |.mk _ n _ _ l=>decide (n.length<2^63)&&Ty.shorts l
def Ty.shorts:List Ty->Bool
 | []=>true
 |t::l=>t.short&&Ty.shorts l
end
mutual
def Ty.valid:Ty->Bool
 | .mk k n i h l =>
   if k=1\/k=2 then decide (0<=i)&&decide (i<=1000000)&&decide (n=[])&&decide (h=0)&&decide (l.length=0)
   else if k=3 then decide (0<=i)&&decide (i<=1000000)&&decide (-1<=h)&&decide (h<=1000000)&&decide (n=[])&&decide (l.length=0)
   else if k=5 then decide (i=0)&&decide (h=0)&&decide (l.length=0)&&zzz n
   else if k=4 then decide (i=0)&&decide (h=0)&&Ty.valids l&&(if n=[45,62]then decide (l.length=2)else if n=[73,110,116]then decide (l.length=0)else zk9 n&&decide (l.length<=4))
   else false
def Ty.valids:List Ty->Bool
 | []=>true
 |t::l=>t.valid&&Ty.valids l
end
theorem Ty.valids_iff{l:List Ty}:Ty.valids l=true↔∀ t∈l,t.valid=true:=by
 induction l with
 |nil=>simp[Ty.valids]
 |cons a l ih=>simp[Ty.valids,ih]
theorem zdF{α:Type}{p:α->Prop}{l:List α}{i:Nat}(hil:i<l.length)(he:∀ x∈l.take i,p x)(h:p l[i]):∀ x∈l.take (i+1),p x:=by
 intro x hx;rw[List.take_add_one,List.getElem?_eq_getElem hil]at hx;rcases List.mem_append.1 hx with hx|hx
 . exact he x hx
 . rw[List.mem_singleton.1 hx];exact h
def Store.few(s:Store):Prop:=s.slots.length<=6/\s.trail.length<=6/\(∀ x∈s.slots,x.type.size<=20)/\∀ x∈s.trail,x.old.type.size<=20
instance:DecidablePred Store.few:=fun s=>by unfold Store.few;infer_instance
end Go.J
/- Cycles. -/
namespace Go.J
open Enc (enc)
def zNl(rec:Int->List Int->List Int×Bool)(fr:Int):List Int->List Int->List Int×Bool
 | [],S=>(S,false)
 |v::l,S=>if v=fr then (S,true)else if S[v.toNat]?=some 0 then (if (rec v (S.set v.toNat 1)).2=true then ((rec v (S.set v.toNat 1)).1,true)else zNl rec fr l (rec v (S.set v.toNat 1)).1)else zNl rec fr l S
def zR7 (s:Store) (fr:Int):Nat->Int->List Int->List Int×Bool
 | 0,_,S=>(S,false)
 | f+1,i,S=>match s.slots[i.toNat]? with
   |some x=>if x.bound=true then zNl (zR7 s fr f) fr (zwl [x.type]) S else (S,false)
   |none=>(S,false)
def Store.closed(s:Store):Prop:=s.slots.length<=1000/\∀ x∈s.slots,x.bound=true->x.type.ok=true/\x.type.size<=10000/\∀ v∈zwl [x.type],0<=v/\v<s.slots.length
theorem Ty.valid_args {t:Ty} (h:t.valid=true):∀ u∈t.args,u.valid=true:=by
 obtain⟨k,n,i,hh,l⟩:=t;intro u hu;simp only[Ty.args_mk]at hu;unfold Ty.valid at h;by_cases hl:l.length=0
 . rw[List.length_eq_zero_iff.1 hl]at hu;cases hu
 . split at h
   . simp[hl]at h
   . split at h
     . simp[hl]at h
     . split at h
       . simp[hl]at h
       . split at h
         . simp only[Bool.and_eq_true]at h;exact Ty.valids_iff.1 h.1.2 u hu
         . cases h
def Store.slotOk(s:Store)(x:Slot):Prop:=if x.bound=true then x.type.valid=true/\∀ v∈zwl [x.type],v<s.slots.length else x.type=ty0
instance (s:Store)(x:Slot):Decidable (s.slotOk x):=by unfold Store.slotOk;infer_instance
def Store.cyc(s:Store)(i:Nat):Bool:=(zR7 s i (s.slots.length+1) i (List.replicate s.slots.length 0)).2
def Store.valid(s:Store):Bool:=decide (∀ c∈s.trail,0<=c.id/\c.id<s.slots.length)&&decide (∀ x∈s.slots,s.slotOk x)&&decide (∀ i∈List.range s.slots.length,s.cyc i=false)
def Store.fine(s:Store):Prop:=s.slots.length<=1000/\s.trail.length<=1000/\∀ x∈s.slots,x.type.ok=true/\x.type.short=true/\x.type.size<=10000
instance (s:Store):Decidable s.fine:=by unfold Store.fine;infer_instance
end Go.J
/- Ranges over the function that slices.Backward makes. -/
namespace Go.J
open Enc (enc)
def SC.plain:SC->Bool
 |.loop _=>false
 |.range _ _ _ _=>false
 |.seq a b=>a.plain&&b.plain
 |.cond _ a b=>a.plain&&b.plain
 |.block _ a=>a.plain
 |_=>true
section
variable {ρ:Nat->Value}{E:Env}{k sz:Nat}{rd:Bool}
theorem zGZ:∀ {s:SC} {T:PT V} {hs:HS} {Q:Ex->PT V->HS->Prop},s.plain=true->Wp ρ E k sz s T hs Q->Js E rd sz s T hs Q:=by
 intro s
 induction s with
 |skip=>intro T hs Q _ h;exact znD h
 |ret=>intro T hs Q _ h;exact zHf h
 |exit i=>intro T hs Q _ h;exact zvG h
 |reg l=>intro T hs Q _ h;exact zjy h
 |draw l bs=>intro T hs Q _ h;exact zvH h
 | seq a b iha ihb =>
   intro T hs Q hp h;rw[SC.plain,Bool.and_eq_true]at hp;refine zgx (zAl (iha hp.1 h) fun e T hs q=>?_)
   cases e with
   |normal=>exact ihb hp.2 q
   |ret=>exact q
   |exit i=>exact q
 | cond q a b iha ihb =>
   intro T hs Q hp h;rw[SC.plain,Bool.and_eq_true]at hp;obtain⟨v,hv,t,ht,h⟩:=h;rw[V.bool?_eq]at ht;subst ht;refine zku hv (fun e=>?_) (fun e=>?_)
   . rw[if_pos e]at h;exact iha hp.1 h
   . rw[if_neg (by rw[e];simp)]at h;exact ihb hp.2 h
 |block i a iha=>intro T hs Q hp h;exact zkv (iha hp h)
 |loop a _=>intro T hs Q hp;cases hp
 |range g ps a b _ _=>intro T hs Q hp;cases hp
end
section
variable {E:Env}{sz:Nat}{T:PT V}{ps:Array Tmp}{a b:Code}
theorem zwX{L:Nat}{hs:HS}{vs:List V}{T1:PT V}{K:HS->Prop}(hL:hs.H.get L=some (.lp sz T ps.toList a b 0))(hz:zgO sz ps.toList vs T=some T1)
 (h:Jc E true sz a T1 hs fun ex T2 hs1=>ex=.normal/\hs1.H.get L=some (.lp sz T ps.toList a b 0) /\
   Jc E true sz b T2 (hs1.wr L (.lp sz T ps.toList a b 1)) fun ex T3 hs2=>ex=.normal/\hs2.H.get L=some (.lp sz T ps.toList a b 1)/\K (hs2.wr L (.lp sz T ps.toList a b 0))) :
 ∃ n hs',zdn (evJ E n) L vs hs=some (.bool true,hs')/\K hs':=by
 obtain⟨n,ex,T2,hs1,h1,rfl,h2,m,ex2,T3,hs2,h3,rfl,h4,h5⟩:=h;refine⟨max n m,_,?_,h5⟩;simp only[zdn,zt,z8];refine⟨_,hL,_,rfl,rfl,T1,hz,_,(zgw E (Nat.le_max_left n m)).code h1,rfl,_,h2,_,rfl,rfl,_,(zgw E (Nat.le_max_right n m)).code h3,_,h4,_,rfl,rfl⟩
end
def z6K (tS tE tI tB:Nat):SC :=
 .seq (.reg [⟨some 4,.load tS (.tmp 1),none⟩,⟨some 5,.call ⟨.builtin .len,#[.tmp 4],#[tS]⟩,none⟩,⟨some 6,.binOp .sub tI (.tmp 5) (.const (.int .i64 1)) tI,none⟩,⟨some 3,.assign (.tmp 6),none⟩])
  (.block 0 (.loop (.seq (.seq (.reg [⟨some 7,.move (.tmp 3),none⟩,⟨some 8,.binOp .geq tI (.tmp 7) (.const (.int .i64 0)) tI,none⟩]) (.cond (.tmp 8) .skip (.exit 0)))
    (.seq (.block 1 (.seq (.reg [⟨some 11,.move (.tmp 0),none⟩,⟨some 12,.move (.tmp 3),none⟩,⟨some 13,.load tS (.tmp 1),none⟩,⟨some 14,.move (.tmp 3),none⟩,⟨some 15,.indexAddr tS (.tmp 13) (.tmp 14),none⟩,
      ⟨some 16,.load tE (.tmp 15),none⟩,⟨some 17,.call ⟨.value (.tmp 11),#[.tmp 12,.tmp 16],#[tI,tE]⟩,none⟩,⟨some 18,.unOp .not tB (.tmp 17),none⟩]) (.cond (.tmp 18) .ret .skip)))
      (.reg [⟨some 9,.move (.tmp 3),none⟩,⟨some 10,.binOp .sub tI (.tmp 9) (.const (.int .i64 1)) tI,none⟩,⟨some 3,.assign (.tmp 10),none⟩])))))
theorem zyB{E:Env}{sz:Nat}{ops l:List Oper}{id:Nat}{T:PT V}{hs:HS}{R:PT V->HS->Prop}{o:Oper}{d:Nat}{x:Operand}{xs:Array Operand}{ts:Array TypeId}{L:Nat}{vs:List V}(hd:o.dst=some d)(hg:o.guard=none)(hop:o.op=.call ⟨.value x,xs,ts⟩)
 (hv:hs.H.get id=none) (hx:zC T x=some (.yld L)) (hvs:zaL T xs.toList=some vs) (hdz:d<sz) (h:∃ n hs',zdn (evJ E n) L vs hs=some (.bool true,hs')/\Ro E sz ops l (id+1) (T.set d (.bool true)) hs' R):Ro E sz ops (o::l) id T hs R:=by
 obtain⟨n,hs',h1,h2⟩:=h;refine znC ⟨n,(T.set d (.bool true),hs'),?_,h2⟩;have hw:zdg ops T o=some true:=by unfold zdg;rw[hg];rfl
 have hc:zM o.op=2:=by rw[hop];rfl
 have hst:stepJ E (evJ E n) false T hs id o=some (.bool true,hs'):=by
  unfold stepJ;rw[hop];show (ob (zaL T xs.toList) fun vs=>ob (zC T x) fun v=>zgS E (evJ E n) v vs hs)=_;rw[hvs,zN,hx,zN];exact h1
 show (ob (zdg ops T o) fun w=>bi w _ _)=_;rw[hw,zN,zaf,hc];show gd (zZ hs id) _=_;rw[vacant_eq.2 hv,zbA,hst,zN,hd];show (ob (gd (Nat.blt d sz) (some (T.set d (.bool true)))) fun T'=>some (T',hs'))=_;rw[blt_true.2 hdz];rfl
theorem zgY{ops l:List Oper}{s:SOp}{r:List SOp}(h:stripL ops l=some (s::r)):∃ o l',l=o::l'/\o.dst=s.d/\o.op=s.op/\zgZ ops o.guard=some s.g/\stripL ops l'=some r:=by
 cases l with
 |nil=>cases h
 | cons o l' =>
   unfold stripL at h;split at h
   . rename_i g r' hg hr;cases h;exact⟨o,l',rfl,rfl,rfl,hg,hr⟩
   . cases h
theorem zmB{ops:List Oper}{g:Option (Nat×Bool)}(h:zgZ ops g=some none):g=none:=by
 unfold zgZ at h;split at h
 . rfl
 . split at h
   . split at h<;>cases h
   . cases h
theorem zj1{E:Env}{id:Nat}{T:PT V}{hs:HS}{op:Op}{K K':V->HS->Prop}(hk:∀ v hs,K v hs->K' v hs)(h:wpO E id T hs op K):wpO E id T hs op K':=by
 cases op with
 | call c =>
   obtain⟨cal,as,ts⟩:=c
   cases cal with
   |builtin b=>exact⟨h.1,zcv h.2 fun vs h=>zcv h fun r h=>hk _ _ h⟩
   |value x=>exact⟨h.1,zcv h.2 fun v h=>zcv h fun p h=>zcv h fun vs h=>zcv h fun r h=>hk _ _ h⟩
   |invoke a b=>exact h
 |_=>exact⟨h.1,zcv h.2 fun r h=>hk _ _ h⟩
theorem zyA {E:Env} {sz:Nat} {ops:List Oper}:∀ (s1:List SOp) {l:List Oper} {s2:List SOp} {id:Nat} {T:PT V} {hs:HS} {R:PT V->HS->Prop},stripL ops l=some (s1++s2) ->
 (Rs E sz s1 id T hs fun T1 hs1=>∀ l2,stripL ops l2=some s2->Ro E sz ops l2 (id+s1.length) T1 hs1 R)->Ro E sz ops l id T hs R:=by
 intro s1
 induction s1 with
 |nil=>intro l s2 id T hs R h hr;exact hr l h
 | cons s s1 ih =>
   intro l s2 id T hs R h hr;obtain⟨o,l',rfl,hd,hop,hg,hl⟩:=zgY (r:=s1++s2) h
   have h1:stripL (ops) [o]=some [s]:=by
    unfold stripL;rw[hg];unfold stripL;obtain⟨d,op,g⟩:=s;simp only at hd hop ⊢;rw[hd,hop]
   have key:Rs E sz [s] id T hs fun T1 hs1=>Ro E sz ops l' (id+1) T1 hs1 R:=by
    have hr':wpS E id T hs s fun v hs'=>put sz T s.d v fun T1=>Rs E sz s1 (id+1) T1 hs' fun T1 hs1=>∀ l2,stripL ops l2=some s2->Ro E sz ops l2 (id+(s::s1).length) T1 hs1 R:=hr
    show wpS E id T hs s fun v hs'=>put sz T s.d v fun T1=>Ro E sz ops l' (id+1) T1 hs' R
    have e:∀ T1 hs',(Rs E sz s1 (id+1) T1 hs' fun T1 hs1=>∀ l2,stripL ops l2=some s2->Ro E sz ops l2 (id+(s::s1).length) T1 hs1 R)->Ro E sz ops l' (id+1) T1 hs' R:=by
     intro T1 hs' hh;refine ih hl ?_;rw[show id+1+s1.length=id+(s::s1).length by simp;omega];exact hh
    have mono:∀ {K K':V->HS->Prop},(∀ v hs,K v hs->K' v hs)->wpO E id T hs s.op K->wpO E id T hs s.op K':=fun hk h=>zj1 hk h
    have pm:∀ {v:V} {K K':PT V->Prop},(∀ T,K T->K' T)->put sz T s.d v K->put sz T s.d v K':=by
     intro v K K' hk hp;unfold put at hp ⊢;split
     . rename_i hs0;rw[hs0]at hp;exact hk _ hp
     . rename_i d hs0;rw[hs0]at hp;exact⟨hp.1,hk _ hp.2⟩
    unfold wpS at hr' ⊢;split
    . rename_i hs0;rw[hs0]at hr';exact mono (fun v hs h=>pm (fun T h=>e _ _ h) h) hr'
    . rename_i t w hs0;rw[hs0]at hr';refine zcv hr' fun v h=>zcv h fun q h=>?_
      split
      . rename_i e1;rw[if_pos e1]at h;exact mono (fun v hs h=>pm (fun T h=>e _ _ h) h) h
      . rename_i e1;rw[if_neg e1]at h;exact pm (fun T h=>e _ _ h) h
   have h2:=zAd (E:=E) (sz:=sz) (ops:=ops) h1 key;obtain⟨n,T',hs',h3,h4⟩:=h2;have h3':(ob (zcy E (evJ E n) sz ops o id T hs) fun r=>some (r.1,r.2))=some (T',hs'):=h3;simp only[zt]at h3';obtain⟨r,hr1,hr2⟩:=h3';cases hr2;exact znC ⟨n,r,hr1,h4⟩
end Go.J
/- A range over what slices.Backward makes: its rounds,one after another. -/
namespace Go.J
open Enc (enc)
theorem zyD {E:Env} {rd:Bool} {sz:Nat} {T:PT V} {hs:HS} {Q:Ex->PT V->HS->Prop} (s1:List SOp) {s2:List SOp} (h:Rs E sz s1 hs.n T { H:=hs.H,n:=hs.n+(s1++s2).length,log:=hs.log } fun T1 hs1=>∀ ops l2,stripL ops l2=some s2->Ro E sz ops l2 (hs.n+s1.length) T1 hs1 fun T hs=>Q .normal T hs) :
 Js E rd sz (.reg (s1++s2)) T hs Q:=fun c hc=>by
 obtain⟨id,ops,rfl,hl⟩:=zae hc
 have hlen:∀ {m:List Oper} {s:List SOp},stripL ops.toList m=some s->s.length=m.length:=by
  intro m
  induction m with
  |nil=>intro s h;cases h;rfl
  | cons o m ih =>
    intro s h;unfold stripL at h;split at h
    . rename_i g r hg hr;cases h;simp[ih hr]
    . cases h
 rw[hlen hl]at h
 have mono:∀ {s:List SOp} {id:Nat} {T:PT V} {hs:HS} {R R':PT V->HS->Prop},(∀ T hs,R T hs->R' T hs)->Rs E sz s id T hs R->Rs E sz s id T hs R':=by
  intro s
  induction s with
  |nil=>intro id T hs R R' hk h;exact hk _ _ h
  | cons o s ih =>
    intro id T hs R R' hk h
    have pm:∀ {T:PT V} {v:V} {K K':PT V->Prop},(∀ T,K T->K' T)->put sz T o.d v K->put sz T o.d v K':=by
     intro T v K K' hk hp;unfold put at hp ⊢;split
     . rename_i hs0;rw[hs0]at hp;exact hk _ hp
     . rename_i d hs0;rw[hs0]at hp;exact⟨hp.1,hk _ hp.2⟩
    show wpS E id T hs o _;have h':wpS E id T hs o fun v hs'=>put sz T o.d v fun T1=>Rs E sz s (id+1) T1 hs' R:=h
    unfold wpS at h' ⊢;split
    . rename_i hs0;rw[hs0]at h';exact zj1 (fun v hs h=>pm (fun T h=>ih hk h) h) h'
    . rename_i t w hs0;rw[hs0]at h';refine zcv h' fun v h=>zcv h fun q h=>?_
      split
      . rename_i e1;rw[if_pos e1]at h;exact zj1 (fun v hs h=>pm (fun T h=>ih hk h) h) h
      . rename_i e1;rw[if_neg e1]at h;exact pm (fun T h=>ih hk h) h
 have:=zmr (id:=id) (rd:=rd) (Q:=Q) (ops:=ops.toList) (zyA (E:=E) (sz:=sz) s1 hl (mono (fun T1 hs1 h l2 hl2=>h _ l2 hl2) h));simpa using this
section
variable {E:Env}{f:FuncId}{fn:Func}{tS tE tI tB:Nat}{IS IE:TI}
theorem zv2 (tiS:ti E.P tS=some IS) (deS:IS.desc=.slice tE) (tiE:ti E.P tE=some IE) {es:List (List V)} {tg:Bool} (hsz:sizes IE.size es=true) {val:List V->V} (hval:∀ e∈es,ze6 IE e 0=some (val e)) (hlen:es.length<2 ^ 62)
 {L bx:Nat} (I:Nat->HS->Prop) (hIbx:∀ j hs,I j hs->hs.H.get bx=some (.arr 1 0 [[.sl es tg]] true false false)) (hIn:∀ j hs m log,I j hs->hs.n<=m->I j { H:=hs.H,n:=m,log:=log }) (hIv:∀ j hs,I j hs->∀ i,hs.n<=i->hs.H.get i=none)
 (hstep:∀ i e,es[i]?=some e->∀ hs,I (i+1) hs->∃ n hs',zdn (evJ E n) L [.int .i64 (i:Int),val e] hs=some (.bool true,hs')/\I i hs') {Q:Ex->PT V->HS->Prop} (hQ:∀ T hs,I 0 hs->Q (.exit 0) T hs) :
 ∀ (j:Nat) (T:PT V) (hs:HS),j<=es.length->I j hs->T.get 0=some (.yld L)->T.get 1=some (.ptr bx 0 0)->T.get 3=some (.int .i64 ((j:Int)-1)) ->
   Js E false 19 (.loop (.seq (.seq (.reg [⟨some 7,.move (.tmp 3),none⟩,⟨some 8,.binOp .geq tI (.tmp 7) (.const (.int .i64 0)) tI,none⟩]) (.cond (.tmp 8) .skip (.exit 0)))
   (.seq (.block 1 (.seq (.reg [⟨some 11,.move (.tmp 0),none⟩,⟨some 12,.move (.tmp 3),none⟩,⟨some 13,.load tS (.tmp 1),none⟩,⟨some 14,.move (.tmp 3),none⟩,⟨some 15,.indexAddr tS (.tmp 13) (.tmp 14),none⟩,
     ⟨some 16,.load tE (.tmp 15),none⟩,⟨some 17,.call ⟨.value (.tmp 11),#[.tmp 12,.tmp 16],#[tI,tE]⟩,none⟩,⟨some 18,.unOp .not tB (.tmp 17),none⟩]) (.cond (.tmp 18) .ret .skip)))
     (.reg [⟨some 9,.move (.tmp 3),none⟩,⟨some 10,.binOp .sub tI (.tmp 9) (.const (.int .i64 1)) tI,none⟩,⟨some 3,.assign (.tmp 10),none⟩])))) T hs Q:=by
 have hagS:zbc IS.desc=false:=by rw[deS];rfl
 intro j
 induction j with
 | zero =>
   intro T hs hj hI h0 h1 h3;refine zvF (zgx (zgx (zjy ?_)));simp[h3];refine zku (t:=false) (by simp) (fun h=>by cases h) fun _=>zvG ?_
   exact hQ _ _ (hIn _ _ _ _ hI (by omega))
 | succ j ih =>
   intro T hs hj hI h0 h1 h3;have hj1:((j+1:Nat):Int)-1=(j:Int):=by omega
   rw[hj1]at h3;obtain⟨e,he⟩:∃ e,es[j]?=some e:=⟨es[j],List.getElem?_eq_getElem (by omega)⟩;have hem:=List.mem_of_getElem? he;have hge:¬ (j:Int)<0:=by omega
   refine zvF (zgx (zgx (zjy ?_)));simp[h3,hge];refine zku (t:=true) (by simp) (fun _=>znD ?_) fun h=>by cases h
   refine zgx (zkv (zgx ?_));have hI2:I (j+1) { H:=hs.H,n:=hs.n+2,log:=hs.log }:=hIn _ _ _ _ hI (by omega);have hbx:=hIbx _ _ hI;refine zyD [⟨some 11,.move (.tmp 0),none⟩,⟨some 12,.move (.tmp 3),none⟩,⟨some 13,.load tS (.tmp 1),none⟩,⟨some 14,.move (.tmp 3),none⟩,⟨some 15,.indexAddr tS (.tmp 13) (.tmp 14),none⟩,⟨some 16,.load tE (.tmp 15),none⟩] (s2:=[⟨some 17,.call ⟨.value (.tmp 11),#[.tmp 12,.tmp 16],#[tI,tE]⟩,none⟩,⟨some 18,.unOp .not tB (.tmp 17),none⟩]) ?_;have hv:=hval e hem;simp at hv;simp[h0,h1,h3,hbx,tiS,deS,tiE,hagS,hsz,he,hv];intro ops l2 hl2;obtain⟨o1,l3,rfl,hd1,hop1,hg1,hl3⟩:=zgY hl2;have hg1:=zmB hg1;refine zyB (L:=L) (vs:=[.int .i64 (j:Int),val e]) hd1 hg1 hop1 (hIv _ _ hI _ (by omega)) (by simp) (by simp) (by omega) ?_;obtain⟨n,hs',h4,h5⟩:=hstep j e he _ (hIn _ _ (hs.n+2+8) hs.log hI (by omega));refine⟨n,hs',h4,?_⟩;refine zAd hl3 ?_;simp;refine zku (t:=false) (by simp) (fun h=>by cases h) fun _=>znD ?_
   refine zjy ?_;have hw:IntKind.i64.wrap ((j:Int)-1)=(j:Int)-1:=wrap_i64 (by omega) (by omega);simp[h0,h1,h3,hw];refine ih _ _ (by omega) (hIn _ _ _ _ h5 (by omega)) (by simp[h0]) (by simp[h1]) (by simp)
theorem zv3(hf:E.P.funcs[f]?=some fn)(hb:fn.body.bind zz=some (z6K tS tE tI tB))(hnt:fn.ntmps=19)(hres:fn.results.toList=[])
 (tiS:ti E.P tS=some IS) (deS:IS.desc=.slice tE) (tiE:ti E.P tE=some IE) {es:List (List V)} {tg:Bool} (hsz:sizes IE.size es=true) {val:List V->V} (hval:∀ e∈es,ze6 IE e 0=some (val e)) (hlen:es.length<2 ^ 62)
 {L bx:Nat} (I:Nat->HS->Prop) (hIbx:∀ j hs,I j hs->hs.H.get bx=some (.arr 1 0 [[.sl es tg]] true false false)) (hIn:∀ j hs m log,I j hs->hs.n<=m->I j { H:=hs.H,n:=m,log:=log }) (hIv:∀ j hs,I j hs->∀ i,hs.n<=i->hs.H.get i=none)
 (hstep:∀ i e,es[i]?=some e->∀ hs,I (i+1) hs->∃ n hs',zdn (evJ E n) L [.int .i64 (i:Int),val e] hs=some (.bool true,hs')/\I i hs') {hs:HS} (h0:I es.length hs) :
 ∃ n hs',(evJ E n).call f [.yld L,.ptr bx 0 0] hs=some (.tuple [],hs')/\I 0 hs':=by
 have hagS:zbc IS.desc=false:=by rw[deS];rfl
 have hbx:=hIbx _ _ h0;have hw:IntKind.i64.wrap ((es.length:Int)-1)=(es.length:Int)-1:=wrap_i64 (by omega) (by omega)
 obtain⟨n,v,hs',h1,rfl,h2⟩:=zqX (E:=E) (f:=f) (vs:=[.yld L,.ptr bx 0 0]) (hs:=hs) (T:=(PT.leaf.set 0 (.yld L)).set 1 (.ptr bx 0 0)) (K:=fun v hs'=>v=.tuple []/\I 0 hs') hf hb (by rw[hnt];rfl) (by
  rw[hnt];refine zgx (zjy ?_);simp[hbx,tiS,deS,hagS,hw];refine zkv ?_;refine zv2 tiS deS tiE hsz hval hlen I hIbx hIn hIv hstep (fun T hs hI=>?_) es.length _ _ (Nat.le_refl _) (hIn _ _ _ _ h0 (by omega)) (by simp) (by simp) (by simp);simp only[Ex.inBlock,if_true];refine⟨fun i h=>(by cases h),?_⟩;rw[hres]
  exact⟨[],rfl,rfl,hI⟩)
 exact⟨n,hs',h1,h2⟩
theorem zAm (hf:E.P.funcs[f]?=some fn) (hb:fn.body.bind zz=some (z6K tS tE tI tB)) (hnt:fn.ntmps=19) (hres:fn.results.toList=[])
 (tiS:ti E.P tS=some IS) (deS:IS.desc=.slice tE) (tiE:ti E.P tE=some IE) {es:List (List V)} {tg:Bool} (hsz:sizes IE.size es=true) {val:List V->V} (hval:∀ e∈es,ze6 IE e 0=some (val e)) (hlen:es.length<2 ^ 62)
 {sz:Nat} {T:PT V} {H0:PT Obj} {L:Nat} {log:List Nat} {g:Operand} {ps:Array Tmp} {sa sb:SC} {bx:Nat} {Q:Ex->PT V->HS->Prop} (hg:zC T g=some (.func f [.ptr bx 0 0])) (hbx:H0.get bx=some (.arr 1 0 [[.sl es tg]] true false false)) (hbl:bx<L) (hvac:∀ i,L<=i->H0.get i=none) (hz:∀ v1 v2,∃ T1,zgO sz ps.toList [v1,v2] T=some T1)
 (I:Nat->PT Obj->Prop) (M:Nat->List V->PT V->PT Obj->Nat->Prop) (hIL:∀ j H o,I j H->I j (H.set L o)) (hML:∀ j e T H n o,M j e T H n->M j e T (H.set L o) n) (h0:I es.length H0)
 (hA:∀ i e,es[i]?=some e->∀ H n log T1,L<n->(∀ i,n<=i->H.get i=none)->I (i+1) H->zgO sz ps.toList [.int .i64 (i:Int),val e] T=some T1 ->
   Js E true sz sa T1 { H:=H,n:=n,log:=log } fun ex T2 hs2=>ex=.normal/\n<=hs2.n/\hs2.H.get L=H.get L/\hs2.H.get bx=H.get bx/\(∀ i,hs2.n<=i->hs2.H.get i=none)/\M i e T2 hs2.H hs2.n)
 (hB:∀ i e,es[i]?=some e->∀ H n log T2,L<n->(∀ i,n<=i->H.get i=none)->M i e T2 H n ->
   Js E true sz sb T2 { H:=H,n:=n,log:=log } fun ex _ hs3=>ex=.normal/\n<=hs3.n/\hs3.H.get L=H.get L/\hs3.H.get bx=H.get bx/\(∀ i,hs3.n<=i->hs3.H.get i=none)/\I i hs3.H)
 (hQ:∀ H n log,L<n->(∀ i,n<=i->H.get i=none)->I 0 H->Q .normal T { H:=H,n:=n,log:=log }) :
 Js E false sz (.range g ps sa sb) T { H:=H0,n:=L,log:=log } Q:=fun c hc=>by
 obtain⟨a,b,rfl,ha,hb2⟩:=zae hc
 obtain ⟨n,hs',h1,h2,h3,h4,h5,h6⟩:=zv3 (f:=f) (L:=L) (bx:=bx) hf hb hnt hres tiS deS tiE hsz hval hlen
  (fun j hs=>hs.H.get bx=some (.arr 1 0 [[.sl es tg]] true false false)/\hs.H.get L=some (.lp sz T ps.toList a b 0)/\L<hs.n/\(∀ i,hs.n<=i->hs.H.get i=none)/\I j hs.H)
  (fun j hs h=>h.1) (fun j hs m log h hm=>⟨h.1,h.2.1,Nat.lt_of_lt_of_le h.2.2.1 hm,fun i hi=>h.2.2.2.1 i (Nat.le_trans hm hi),h.2.2.2.2⟩) (fun j hs h=>h.2.2.2.1) (by
    intro i e he hs ⟨k1,k2,k3,k4,k5⟩;have hne:bx≠L:=by omega
    obtain⟨T1,hT1⟩:∃ T1,zgO sz ps.toList [.int .i64 (i:Int),val e] T=some T1:=hz _ _;refine zwX k2 hT1 (zir (hA i e he hs.H hs.n hs.log T1 k3 k4 k5 hT1 a ha) ?_);rintro ex T2 hs2 ⟨rfl,m1,m2,m3,m4,m5⟩;refine⟨rfl,by rw[m2,k2],?_⟩;have hn2:L<hs2.n:=Nat.lt_of_lt_of_le k3 m1;refine zir (hB i e he _ hs2.n _ T2 hn2 (fun i hi=>?_) (hML _ _ _ _ _ (.lp sz T ps.toList a b 1) m5) b hb2) ?_
    . rw[PT.set_get,if_neg (by omega)];exact m4 i hi
    . rintro ex T3 hs3 ⟨rfl,q1,q2,q3,q4,q5⟩;refine⟨rfl,?_,?_,?_,?_,?_,?_⟩
      . rw[q2,PT.set_get,if_pos rfl]
      . show (hs3.H.set L _).get bx=_;rw[PT.set_get,if_neg hne,q3,PT.set_get,if_neg hne,m3,k1]
      . show (hs3.H.set L _).get L=_;rw[PT.set_get,if_pos rfl]
      . exact Nat.lt_of_lt_of_le hn2 q1
      . intro i hi;show (hs3.H.set L _).get i=_;have:hs2.n<=i:=Nat.le_trans q1 hi;rw[PT.set_get,if_neg (by omega)];exact q4 i hi
      . exact hIL _ _ _ q5)
  (hs := HS.put { H:=H0,n:=L+1,log:=log } L (.lp sz T ps.toList a b 0)) (by
    refine⟨?_,?_,Nat.lt_succ_self _,fun i hi=>?_,hIL _ _ _ h0⟩
    . show (H0.set L _).get bx=_;rw[PT.set_get,if_neg (by omega),hbx]
    . show (H0.set L _).get L=_;rw[PT.set_get,if_pos rfl]
    . show (H0.set L _).get i=_;have:L+1<=i:=hi
      rw[PT.set_get,if_neg (by omega)];exact hvac i (by omega))
 refine⟨n+1,.normal,T,hs'.wr L (.lp sz T ps.toList a b 1),?_,?_⟩
 . show gd true (ob (zC T g) fun v=>zhy (evJ E n) sz ps a b T { H:=H0,n:=L,log:=log } v)=_;rw[zbA,hg,zN];simp only[zhy,zt,z8,vacant_eq];exact⟨_,rfl,hvac L (Nat.le_refl _),_,h1,_,h3,_,rfl,_,rfl,rfl⟩
 . refine hQ _ _ _ (show L<hs'.n from h4) (fun i hi=>?_) (hIL _ _ _ h6);have:hs'.n<=i:=hi;show (hs'.H.set L _).get i=_;rw[PT.set_get,if_neg (by omega)];exact h5 i hi
end
end Go.J
/- The contract of slices.Backward: it makes a closure on a box of its argument. -/
namespace Go.J
open Enc (enc)
def zim(g:Nat)(es:List (List V))(tg:Bool):EmbD where
 k:=0
 k':=1
 π:=fun i=>i
 OL:=[]
 OL':=[(0,zaM (.sl es tg))]
 vs0:=[.sl es tg]
 v0:=.func g [.ptr 0 0 0]
def zmo(g:Nat)(vs:List V)(hs:HS):Option EmbD:=match vs with
 | [.sl es tg]=>gd (zZ hs hs.n) (some (zim g es tg))
 |_=>none
theorem zpZ{g:Nat}{es:List (List V)}{tg:Bool}:(zim g es tg).Good:=by
 refine⟨rfl,rfl,Nat.zero_le _,(fun p hp=>by cases hp),fun p hp=>?_,rfl,fun v hv=>?_⟩
 . simp only[zim,List.mem_singleton]at hp;subst hp;exact⟨rfl,rfl⟩
 . simp only[zim,List.mem_singleton]at hv;subst hv;rfl
theorem zv4{g:Nat}{vs:List V}{hs:HS}{D:EmbD}(h:zmo g vs hs=some D):∃ es tg,D=zim g es tg/\D.Good/\D.Fits vs hs:=by
 unfold zmo at h;split at h
 . rename_i es tg;simp only[z8,vacant_eq]at h;obtain⟨h1,h⟩:=h;cases h;refine⟨es,tg,rfl,zpZ,rfl,fun i j hi=>?_,(fun p hp=>by cases hp),fun i hi=>?_,fun i hi=>?_⟩
   . simp only[zim]at hi;omega
   . simp only[zim]at hi;have:i=0:=by omega
     subst this;exact h1
   . simp only[zim]at hi;omega
 . cases h
section
variable {g:Nat}{es:List (List V)}{tg:Bool}{hs:HS}
@[simp] theorem zGE:(zim g es tg).val hs=.func g [.ptr hs.n 0 0]:=(rfl)
@[simp] theorem zCr:(zim g es tg).heap hs={ H:=hs.H.set hs.n (zaM (.sl es tg)),n:=hs.n+1,log:=hs.n::hs.log }:=(rfl)
@[simp] theorem zNt:zmo g [.sl es tg] hs=gd (zZ hs hs.n) (some (zim g es tg)):=(rfl)
end
end Go.J
