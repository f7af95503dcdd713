import GoSem.Step
import GoSem.Dispatch
import Derived.Control
set_option linter.all false
noncomputable section
abbrev Go.J.Z:=@List
abbrev Go.J.Y:=@Option
namespace Go.J
variable {c:Bool}{f:FuncId}{k:IntKind}{a b g n:Nat}{F F':Nat->Prop}{I:Nat->Value}{α β:Type}{t:TypeId}{x:Value}{w':World}
def bR:=@Array.getD_eq_getD_getElem?
def mH:=@Array.getElem?_append_left
def fe:=@Array.getElem?_eq_getElem
def dX:=@Array.getElem?_eq_some_iff
def nG:=@Array.getElem?_push
def gy:=@Array.getElem?_toList
def jB:=@Array.length_toList
def aQ:=@Bool.and_eq_true
def fM:=@Bool.and_true
def dF:=@Bool.eq_iff_iff
def sD:=@Bool.false_and
def lH:=@Bool.false_eq_true
def ko:=@Bool.or_eq_false_iff
def iJ:=@Bool.or_eq_true
def gH:=@Bool.true_and
def aV:=@Classical.byContradiction
def bK:=@Int.eq_ofNat_of_zero_le
def fA:=@Int.le_refl
def bP:=@Int.toNat_natCast
def iW:=@List.all_cons
def aj:=@List.all_eq_true
def rz:=@List.all_nil
def qo:=@List.any_cons
def oL:=@List.any_eq_false
def di:=@List.any_eq_true
def gu:=@List.append_assoc
def nP:=@List.append_cancel_left
def j5:=@List.append_nil
def fT:=@List.cons.injEq
def eU:=@List.cons_append
def aK:=@List.drop_eq_getElem_cons
def bz:=@List.drop_length
def sw:=@List.drop_zero
def dM:=@List.eq_nil_of_length_eq_zero
def dh:=@List.exists_cons_of_ne_nil
def oK:=@List.ext_getElem?
def fQ:=@List.foldl_cons
def jW:=@List.getElem?_append_left
def eQ:=@List.getElem?_append_right
def nZ:=@List.getElem?_drop
def ax:=@List.getElem?_eq_getElem
def jR:=@List.getElem?_eq_none
def aM:=@List.getElem?_eq_some_iff
def bC:=@List.getElem?_map
def qj:=@List.getElem?_of_mem
def mG:=@List.getElem?_set
def rT:=@List.getElem?_take
def ja:=@List.getElem_map
def az:=@List.getElem_mem
def bB:=@List.length_append
def aX:=@List.length_cons
def oC:=@List.length_eq_one_iff
def aL:=@List.length_map
def nO:=@List.length_nil
def bT:=@List.length_pos_iff
def eB:=@List.length_take
def dz:=@List.map_append
def gm:=@List.map_congr_left
def aR:=@List.map_cons
def qQ:=@List.map_eq_nil_iff
def iy:=@List.map_map
def iP:=@List.map_nil
def wK:=@List.map_set
def uH:=@List.map_take
def bA:=@List.mem_append
def jo:=@List.mem_append_left
def l9:=@List.mem_append_right
def aB:=@List.mem_cons
def aF:=@List.mem_cons_of_mem
def aD:=@List.mem_cons_self
def lZ:=@List.mem_iff_getElem?
def aI:=@List.mem_map
def aC:=@List.mem_of_getElem?
def mU:=@List.mem_of_mem_drop
def fK:=@List.mem_of_mem_take
def gW:=@List.mem_or_eq_of_mem_set
def dB:=@List.mem_range
def ay:=@List.mem_singleton
def iI:=@List.nil_append
def iH:=@List.nodup_cons
def kL:=@List.nodup_nil
def iq:=@List.nodup_range
def aS:=@List.not_mem_nil
def pq:=@List.set_append_right
def dK:=@List.take_add_one
def gN:=@List.take_length
def aZ:=@List.take_of_length_le
def gq:=@List.take_succ_eq_append_getElem
def eD:=@Nat.add_assoc
def mZ:=@Nat.add_comm
def gK:=@Nat.add_mul
def lS:=@Nat.div_add_mod
def vN:=@Nat.div_eq_of_lt
def iV:=@Nat.eq_of_beq_eq_true
def fE:=@Nat.le_add_right
def iG:=@Nat.le_max_left
def jL:=@Nat.le_max_right
def dN:=@Nat.le_of_lt
def af:=@Nat.le_refl
def mF:=@Nat.le_succ
def aO:=@Nat.le_trans
def bY:=@Nat.lt_of_lt_of_le
def jK:=@Nat.lt_of_not_le
def nY:=@Nat.lt_or_gt_of_ne
def iZ:=@Nat.lt_succ_self
def vM:=@Nat.mod_eq_of_lt
def jV:=@Nat.mul_comm
def kK:=@Nat.mul_le_mul_left
def aN:=@Nat.mul_le_mul_right
def wJ:=@Nat.mul_succ
def lQ:=@Nat.not_lt_zero
def aY:=@Nat.not_succ_le_self
def lh:=@Nat.sub_self
def gI:=@Nat.zero_add
def aW:=@Nat.zero_le
def eu:=@Option.getD_some
def bN:=@Option.isSome_iff_exists
def bG:=@Option.map_eq_some_iff
def lN:=@Option.map_none
def jv:=@Option.map_some
def bS:=@Option.some.inj
def mE:=@Option.some.injEq
def fP:=@Option.toList_some
def tL:=@Prod.ext
def cB:=@Prod.mk.inj
def gG:=@Prod.mk.injEq
def bi(c:Bool)(x y:α):α:=@Bool.rec (λ_=>α) y x c
def W(x:Y α)(f:α->Y β):Y β:=@Option.rec α (λ_=>Y β) none f x
def vP(z:β)(f:α->β)(x:Y α):β:=@Option.rec α (λ_=>β) z f x
def gd(c:Bool)(x:Y β):Y β:=@Bool.rec (λ_=>Y β) none x c
def lr(z:β)(c:α->Z α->β->β)(l:Z α):β:=@List.rec α (λ_=>β) z c l
def nc(z:β)(s:Nat->β)(n:Nat):β:=@Nat.rec (λ_=>β) z (λm _=>s m) n
def nr(z:β)(s:Nat->β->β)(n:Nat):β:=@Nat.rec (λ_=>β) z s n
def et(a b:Bool):Bool:=@Bool.rec (λ_=>Bool) false b a
def nt(a:Bool):Bool:=@Bool.rec (λ_=>Bool) true false a
inductive V where
 |bool (b:Bool)
 |int (k:IntKind) (n:Int)
 |str (s:List Nat)
 |c9
 |ptr (id gen off:Nat)
 |ref (cs:List V)
 |aE
 |sl (es:List (List V)) (tight:Bool)
 |own (id gen off len:Nat) (cap:Option Nat)
 |dj
 |map (id:Nat)
 |nilFunc
 |func (f:FuncId) (captured:List V)
 |ly (id:Nat)
 |nilIface
 |iface (t:TypeId) (v:V)
 |agg (cs:List V)
 |tuple (vs:List V)
 |sym (k:Nat)
 deriving Inhabited
inductive PT (α:Type) where
 |leaf
 |node (l:PT α) (v:Option α) (r:PT α)
namespace PT
def get(t:PT α):Nat->Y α :=
 @PT.rec α (λ_=>Nat->Y α) (λ_=>none) (λ_ v _ gl gr n=>nc v (λm=>bi (Nat.beq (m % 2) 0) (gl (m / 2)) (gr (m / 2))) n) t
def parts(t:PT α)(f:PT α->Y α->PT α->β):β:=@PT.rec α (λ_=>β) (f leaf none leaf) (λl v r _ _=>f l v r) t
def Th (d:Nat):PT α->Nat->α->PT α :=
 @Nat.rec (λ_=>PT α->Nat->α->PT α) (λt _ _=>t)
  (λ_ ih t n x=>t.parts λl v r=>nc (node l (some x) r) (λm=>bi (Nat.beq (m % 2) 0) (node (ih l (m / 2) x) v r) (node l v (ih r (m / 2) x))) n) d
def set(t:PT α)(n:Nat)(x:α):PT α:=Th (n+1) t n x
end PT
inductive Obj where
 |arr (size gen:Nat) (es:List (List V)) (exact frozen row:Bool)
 |mp (es:List (V×V))
 |lp (fn:FuncId) (T:PT V) (ps:List Nat) (assign body:Code) (st:Nat)
structure HS where
 H:PT Obj
 n:Nat
 log:List Nat
def HS.put(C:HS)(id:Nat)(o:Obj):HS:={ H:=C.H.set id o,n:=C.n,log:=C.log }
def HS.wr(C:HS)(id:Nat)(o:Obj):HS:={ H:=C.H.set id o,n:=C.n,log:=id::C.log }
structure TI where
 desc:TypeDesc
 size:Nat
 bytes:Nat
 zero:List V
 qK:Bool
def bytesOf(s:ByteArray):Z Nat:=s.data.toList.map UInt8.toNat
def IQ:Value->Y V
 |.bool b=>some (.bool b)
 |.int k n=>some (.int k n)
 |.string s=>some (.str (bytesOf s))
 |.pointer none=>some .c9
 |.slice none 0 0=>some .aE
 |.map none=>some .dj
 |.nilFunc=>some .nilFunc
 |.nilIface=>some .nilIface
 |_=>none
def zH(l:Z Value):Y (Z V) :=
 lr (some []) (λx _ ih=>W (IQ x) λv=>W ih λr=>some (v::r)) l
def ofConst:Value->Y V
 |.agg cs=>W (zH cs.toList) λl=>some (.agg l)
 |v=>IQ v
def V.cells:V->Z V
 |.agg cs=>cs
 |v=>[v]
def V.mM:V->Bool
 |.agg _=>false
 |.tuple _=>false
 |_=>true
def Jz(l:Z V):Bool:=lr true (λv _ ih=>et v.mM ih) l
def V.CX:V->Bool
 |.bool _|.int _ _|.str _|.c9|.ref _|.aE|.sl _ _|.dj|.nilFunc|.nilIface|.sym _=>true
 |_=>false
def V.bM:V->Bool
 |.iface _ v=>v.CX
 |.func _ []=>true
 |v=>v.CX
def Jy(l:Z V):Bool:=lr true (λv _ ih=>et v.bM ih) l
def V.pure:V->Bool
 |.agg cs=>Jy cs
 |v=>v.bM
def cu(l:Z V):Bool:=lr true (λv _ ih=>et v.pure ih) l
def vQ(l:Z α):Nat->Y α:=lr (λ_=>none) (λx _ ih n=>nc (some x) ih n) l
def VY(l:Z α):Nat->α->Z α:=lr (λ_ _=>[]) (λx t ih n y=>nc (y::t) (λm=>x::ih m y) n) l
def KV(n:Nat)(l:Z α):Z α:=lr (β:=Nat->Z α) (λ_=>[]) (λx t ih n=>nc (x::t) ih n) l n
def Ij(n:Nat)(l:Z α):Z α:=lr (β:=Nat->Z α) (λ_=>[]) (λx _ ih n=>nc [] (λm=>x::ih m) n) l n
def dA(l:Z α):Nat:=lr 0 (λ_ _ ih=>ih+1) l
def kI(l:Z α)(n:Nat)(new:Z α):Z α :=
 lr (β:=Nat->Z α->Z α) (λ_ _=>[]) (λx t ih n new=>nc (lr (x::t) (λy ys _=>y::ih 0 ys) new) (λm=>x::ih m new) n) l n new
def jY(l m:Z α):Z α:=lr m (λx _ ih=>x::ih) l
def ziX(x:α)(n:Nat):Z α:=nr [] (λ_ ih=>x::ih) n
def Kl(n:Nat)(l:Z Nat):Bool:=lr false (λx _ ih=>bi (Nat.beq n x) true ih) l
def ND(l:Z Nat):Z Nat->Bool :=
 lr (λm=>lr true (λ_ _ _=>false) m) (λa _ ih m=>lr false (λb y _=>et (Nat.beq a b) (ih y)) m) l
def Km(l:Z Nat):Z Nat->Bool :=
 lr (λm=>lr false (λ_ _ _=>true) m) (λa _ ih m=>lr false (λb y _=>bi (Nat.blt a b) true (et (Nat.beq a b) (ih y))) m) l
def Ia(k:IntKind)(n:Int):Int :=
 match k,n with
 |.i64,.ofNat m=>bi (Nat.blt m 9223372036854775808) n (k.wrap n)
 |.i64,.negSucc m=>bi (Nat.blt m 9223372036854775808) n (k.wrap n)
 |_,_=>k.wrap n
def AW:Int->Int->Bool
 |.ofNat a,.ofNat b=>Nat.blt a b
 |.ofNat _,.negSucc _=>false
 |.negSucc _,.ofNat _=>true
 |.negSucc a,.negSucc b=>Nat.blt b a
def ub:Int->Int->Bool
 |.ofNat a,.ofNat b=>Nat.beq a b
 |.negSucc a,.negSucc b=>Nat.beq a b
 |_,_=>false
def leI(a b:Int):Bool:=nt (AW b a)
def SP:Int->Y Nat
 |.ofNat a=>some a
 |_=>none
def Us:IntKind->Nat
 |.i8=>0
 |.i16=>1
 |.i32=>2
 |.i64=>3
 |.u8=>4
 |.u16=>5
 |.u32=>6
 |.u64=>7
def Df(a b:IntKind):Bool:=Nat.beq (Us a) (Us b)
def V.bool?:V->Y Bool
 |.bool b=>some b
 |_=>none
def V.int?:V->Y (IntKind×Int)
 |.int k n=>some (k,n)
 |_=>none
def V.nat? (v:V):Y Nat:=W v.int? λp=>SP p.2
def V.sB:V->Y (Z Nat)
 |.str s=>some s
 |_=>none
def V.GW:V->Y (Z V)
 |.agg s=>some s
 |_=>none
def V.oy:V->Y (Z V)
 |.tuple s=>some s
 |_=>none
def Obj.wi:Obj->Y (Nat×Nat×Z (Z V)×Bool×Bool×Bool)
 |.arr a b c d e f=>some (a,b,c,d,e,f)
 |_=>none
def Obj.mp?:Obj->Y (Z (V×V))
 |.mp es=>some es
 |_=>none
def sH:TypeDesc->Y TypeId
 |.slice e=>some e
 |_=>none
def elemOf:TypeDesc->Y (TypeId×Y Nat)
 |.slice e=>some (e,none)
 |.array n e=>some (e,some n)
 |_=>none
def mapOf:TypeDesc->Y (TypeId×TypeId)
 |.map k e=>some (k,e)
 |_=>none
def kG:TypeDesc->Bool
 |.struct _|.array _ _=>true
 |_=>false
def mP(C:HS)(id g:Nat):Y (Nat×Z (Z V)×Bool×Bool×Bool) :=
 W (C.H.get id) λo=>W o.wi λa=>gd (et (Nat.beq g a.2.1) (nt (Nat.beq a.1 0))) (some (a.1,a.2.2))
def Bp(size off len:Nat)(es:Z (Z V)):Y (Z (Z V)) :=
 gd (et (Nat.beq (off % size) 0) (Nat.ble (off / size+len) (dA es))) (some (Ij len (KV (off / size) es)))
def Ip(C:HS)(id g off len:Nat):Y V :=
 W (mP C id g) λa=>gd a.2.2.2.2 (W (Bp a.1 off len a.2.1) λl=>some (.sl l false))
def tY(C:HS)(v:V):Y V :=
 match v with
 |.own id g off len _=>Ip C id g off len
 |v=>gd v.bM (some v)
def Bf(C:HS)(l:Z V):Y (Z V) :=
 lr (some []) (λv _ ih=>W (tY C v) λv'=>W ih λl'=>some (v'::l')) l
def kP(C:HS)(v:V):Y V :=
 match v with
 |.agg cs=>W (Bf C cs) λl=>some (.agg l)
 |v=>tY C v
def lT(C:HS)(l:Z V):Y (Z V) :=
 lr (some []) (λv _ ih=>W (kP C v) λv'=>W ih λl'=>some (v'::l')) l
def still(C:HS)(v:V):Y V :=
 match v with
 |.tuple cs=>W (lT C cs) λl=>some (.tuple l)
 |v=>kP C v
def iF(C:HS)(id:Nat):HS :=
 vP C (λo=>vP C (λa=>C.wr id (.arr a.1 a.2.1 a.2.2.1 a.2.2.2.1 true a.2.2.2.2.2)) o.wi) (C.H.get id)
def nI(C:HS)(v:V):HS :=
 match v with
 |.own id _ _ _ _=>iF C id
 |_=>C
def mr(C:HS)(l:Z V):HS:=lr C (λv _ ih=>nI ih v) l
def ng(v:V)(C:HS):Y (V×HS) :=
 W (kP C v) λv'=>some (v',mr C v.cells)
def mf(l:Z V):HS->Y (Z V×HS) :=
 lr (λC=>some ([],C)) (λv _ ih C=>W (ng v C) λr=>W (ih r.2) λq=>some (r.1::q.1,q.2)) l
def SW(r:V×HS):Y (V×HS) :=
 match r.1 with
 |.tuple vs=>W (mf vs r.2) λq=>some (.tuple q.1,q.2)
 |v=>ng v r.2
def V.Iy:V->Bool
 |.bool _|.int _ _|.str _|.c9|.aE|.dj|.nilFunc|.nilIface=>true
 |_=>false
def ztC(l:Z V):Bool:=lr true (λv _ ih=>et v.Iy ih) l
def V.N0(v:V):Bool :=
 match v with
 |.agg cs=>ztC cs
 |.tuple cs=>ztC cs
 |v=>v.Iy
def bV(T:PT V)(o:Operand):Y V :=
 match o with
 |.tmp t=>T.get t
 |.const v=>ofConst v
 |.func f=>some (.func f [])
 |.global _=>none
def ku(T:PT V)(l:Z Operand):Y (Z V) :=
 lr (some []) (λo _ ih=>W (bV T o) λv=>W ih λr=>some (v::r)) l
def znT(x:Value):Bool :=
 match x with
 |.agg _=>true
 |_=>false
section
variable (P:Program)
def ti (t:TypeId):Y TI :=
 W (P.info? t) λi=>W (P.underlying t) λd=>W i.zero λz=>W (zH z.cells.toList) λcs =>
  some { desc:=d,size:=i.size,bytes:=i.bytes,zero:=cs,qK:=znT z }
def zpr(size:Nat)(r:Z V):Y V:=gd (Nat.beq (dA r) size) (some (.agg r))
def AA(i:TI)(cs:Z V)(off:Nat):Y V :=
 bi (kG i.desc) (zpr i.size (Ij i.size (KV off cs))) (vQ cs off)
def bD(i:TI)(f:Nat):Y Field :=
 match i.desc with
 |.struct fs=>fs[f]?
 |_=>none
def zrU(v:V):Y Bool :=
 match v with
 |.c9=>some true
 |.ptr _ _ _=>some false
 |.ref _=>some false
 |_=>none
def zrT(v:V):Y Bool :=
 match v with
 |.aE=>some true
 |.own _ _ _ _ _=>some false
 |.sl (_::_) _=>some false
 |_=>none
def zrV(v:V):Y Bool :=
 match v with
 |.dj=>some true
 |.map _=>some false
 |_=>none
def zrX(v:V):Y Bool :=
 match v with
 |.nilFunc=>some true
 |.func _ _=>some false
 |_=>none
def Xq(a b:Y Bool):Y Bool:=W a λa=>W b λb=>bi a (some b) (bi b (some false) none)
def zZ(a b:Bool):Bool:=bi a b (nt b)
def zEF(d:TypeDesc)(x y:V):Y Bool :=
 match d with
 |.bool=>W x.bool? λa=>W y.bool? λb=>some (zZ a b)
 |.pointer _=>Xq (zrU x) (zrU y)
 |.slice _=>Xq (zrT x) (zrT y)
 |.map _ _=>Xq (zrV x) (zrV y)
 |.func _ _ _=>Xq (zrX x) (zrX y)
 |_=>none
def zeE:TypeDesc->Bool
 |.int _=>true
 |_=>false
def NC:Z Field->Z V->Z V->Y Bool
 | [],_,_=>some true
 | f :: fs, xs, ys => gd (nt (f.name == "_")) (W (ti P f.type) fun i => gd (zeE i.desc) (W (vQ xs f.offset) fun a => W (vQ ys f.offset) fun b =>
     W a.int? λp=>W b.int? λq=>gd (Df p.1 q.1) (bi (ub p.2 q.2) (NC fs xs ys) (some false))))
def zKy(t:TypeId)(fs:Array Field)(x y:V):Y Bool :=
 match x,y with
 |.agg xs,.agg ys=>gd (et (nt (P.stoodInHeld t)) (nt (P.eqGuardType P.depth t))) (NC P fs.toList xs ys)
 |_,_=>none
def zEC(t:TypeId)(d:TypeDesc)(x y:V):Y Bool :=
 match d with
 |.struct fs=>zKy P t fs x y
 |d=>zEF d x y
def Iv(t:TypeId)(x y:V):Y Bool:=W (ti P t) λi=>zEC P t i.desc x y
def ZU(k:IntKind)(a b:Int):Int:=k.wrap ((BitVec.ofInt k.bits a &&& BitVec.ofInt k.bits b).toNat)
def arith(op:BinOp)(k:IntKind)(a b:Int):Y V :=
 match op with
 |.add=>some (.int k (Ia k (a+b)))
 |.sub=>some (.int k (Ia k (a-b)))
 |.mul=>some (.int k (Ia k (a*b)))
 |.quo=>gd (nt (ub b 0)) (some (.int k (Ia k (a.tdiv b))))
 |.rem=>gd (nt (ub b 0)) (some (.int k (a.tmod b)))
 |.eql=>some (.bool (ub a b))
 |.neq=>some (.bool (nt (ub a b)))
 |.lss=>some (.bool (AW a b))
 |.leq=>some (.bool (leI a b))
 |.gtr=>some (.bool (AW b a))
 |.geq=>some (.bool (leI b a))
 |.and=>some (.int k (ZU k a b))
 |_=>none
def Tk(op:BinOp)(k:IntKind)(a b:Int):Y V :=
 match op with
 |.shr=>W (SP b) λm=>some (.int k (a.fdiv (2 ^ min m k.bits)))
 |_=>none
def Qg(op:BinOp)(a b:Z Nat):Y V :=
 match op with
 |.add=>gd (Nat.ble (dA a+dA b) 1048576) (some (.str (jY a b)))
 |.eql=>some (.bool (ND a b))
 |.neq=>some (.bool (nt (ND a b)))
 |.lss=>some (.bool (Km a b))
 |.gtr=>some (.bool (bi (Km a b) false (nt (ND a b))))
 |.geq=>some (.bool (nt (Km a b)))
 |.leq=>some (.bool (bi (Km a b) true (ND a b)))
 |_=>none
def R4(op:BinOp)(t:TypeId)(x y:V):Y V :=
 match op with
 |.eql=>W (Iv P t x y) λb=>some (.bool b)
 |.neq=>W (Iv P t x y) λb=>some (.bool (nt b))
 |_=>none
def qV:BinOp->Bool
 |.shl|.shr=>true
 |_=>false
def RN(op:BinOp)(t:TypeId)(x y:V):Y V :=
 match x with
 |.int k a=>W y.int? λb=>bi (qV op) (Tk op k a b.2) (gd (Df k b.1) (arith op k a b.2))
 |.str a=>W y.sB λb=>Qg op a b
 |x=>R4 P op t x y
def R6(i:TI)(a:Nat×Z (Z V)×Bool×Bool×Bool)(off:Nat):Y V :=
 W (vQ a.2.1 (off / a.1)) λe=>AA i e (off % a.1)
def Ha(i:TI)(C:HS)(v:V):Y V :=
 match v with
 |.ptr id g off=>W (mP C id g) λa=>R6 i a off
 |.ref cs=>AA i cs 0
 |_=>none
def qy (i:TI) (id g off:Nat) (v:V) (C:HS):Y HS :=
 W (mP C id g) λa=>gd (nt a.2.2.2.1) (gd (et (Jz v.cells) (et (Nat.beq (dA v.cells) i.size) (Nat.ble (off % a.1+i.size) a.1)))
  (W (vQ a.2.1 (off / a.1)) λe=>some (C.wr id (.arr a.1 g (VY a.2.1 (off / a.1) (kI e (off % a.1) v.cells)) a.2.2.1 false a.2.2.2.2))))
def pr(C:HS)(id:Nat):Bool:=vP false (λo=>vP false (λa=>a.2.2.2.2.2) o.wi) (C.H.get id)
def EA(i:TI)(C:HS)(a v:V):Y HS :=
 match a with
 |.ptr id g off=>bi (pr C id) (W (ng v C) λr=>qy i id g off r.1 r.2) (qy i id g off v C)
 |_=>none
def Bu (T:PT V) (i:TI) (l:Z (Nat×Operand)):Z V->Y (Z V) :=
 lr (λcells=>some cells) (λp _ k cells=>W (bD i p.1) λfd=>W (ti P fd.type) λfi=>W (bV T p.2) λv =>
  gd (et (Nat.beq (dA v.cells) fi.size) (Nat.ble (fd.offset+fi.size) (dA cells))) (k (kI cells fd.offset v.cells))) l
def Dv(dr:Bool)(v:V)(C:HS):Y (V×HS):=bi dr (gd v.pure (some (v,C))) (ng v C)
def zF (dr:Bool) (T:PT V) (e:TI) (len:Nat) (l:Z (Nat×Operand)):HS->Z (Z V)->Y (Z (Z V)×HS) :=
 lr (λC es=>some (es,C)) (λp _ k C es=>W (bV T p.2) λv=>W (Dv dr v C) λr =>
  gd (et (Nat.beq (dA r.1.cells) e.size) (Nat.blt p.1 len)) (k r.2 (VY es p.1 r.1.cells))) l
def zW(C:HS)(size:Nat)(v:V):Y (Z (Z V)) :=
 match v with
 |.aE=>some []
 |.sl es _=>some es
 |.own id g off len _=>W (mP C id g) λa=>gd (et a.2.2.2.2 (Nat.beq a.1 size)) (Bp a.1 off len a.2.1)
 |_=>none
def N2 (C:HS) (d:TypeDesc) (v:V):Y Nat :=
 match d with
 |.string=>W v.sB λs=>some (dA s)
 | .slice _=>match v with
   |.aE=>some 0
   |.sl es _=>some (dA es)
   |.own _ _ _ len _=>some len
   |_=>none
 | .map _ _=>match v with
   |.dj=>some 0
   |.map id=>W (C.H.get id) λo=>W o.mp? λes=>some (dA es)
   |_=>none
 |_=>none
def bj(size:Nat)(l:Z (Z V)):Bool:=lr true (λe _ ih=>et (Nat.beq (dA e) size) ih) l
def xU(n bytes:Nat):Bool:=Nat.ble (n*bytes) 1048576
def kS(l:Z (Z V)):Bool:=lr true (λe _ ih=>et (Jz e) ih) l
def Da(e:TI)(C:HS)(id n:Nat)(es:Z (Z V)):Y (V×HS) :=
 some (.own id 0 0 n none,C.put id (.arr e.size 0 es false false true))
def Jw (e:TI) (C:HS) (id:Nat) (es:Z (Z V)) (tight:Bool) (new:Z (Z V)):Y (V×HS) :=
 bi (Nat.beq (dA new) 0) (some (.sl es tight,C))
  (gd (et tight (et (xU (dA es+dA new) e.bytes) (bj e.size es))) (Da e C id (dA es+dA new) (jY es new)))
def FR(e:TI)(C:HS)(id:Nat)(new:Z (Z V)):Y (V×HS) :=
 bi (Nat.beq (dA new) 0) (some (.aE,C)) (gd (xU (dA new) e.bytes) (Da e C id (dA new) new))
def yH (C:HS) (id g off len:Nat) (cap:Y Nat) (a:Nat×Z (Z V)×Bool×Bool×Bool) (new:Z (Z V)):Y (V×HS) :=
 gd (et (nt a.2.2.2.1) (Nat.ble (off / a.1+len+dA new) (dA a.2.1)))
  (some (.own id g off (len+dA new) cap,C.wr id (.arr a.1 g (kI a.2.1 (off / a.1+len) new) a.2.2.1 false a.2.2.2.2)))
def CB (e:TI) (C:HS) (jx id g off len:Nat) (cap:Y Nat) (new:Z (Z V)):Y (V×HS) :=
 W (mP C id g) λa=>gd (et a.2.2.2.2 (et (Nat.beq a.1 e.size) (et (Nat.beq (off % a.1) 0) (xU (len+dA new) e.bytes))))
  (vP
    (bi (Nat.ble (off / a.1+len+dA new) (dA a.2.1)) (yH C id g off len none a new)
      (gd (et (nt a.2.2.2.1) (et (Nat.beq off 0) (Nat.ble len (dA a.2.1)))) (some (.own id (g+1) 0 (len+dA new) none,C.wr id (.arr a.1 (g+1) (jY (Ij len a.2.1) new) false false true)))))
    (λc=>bi (Nat.ble (len+dA new) c) (yH C id g off len cap a new) (W (Bp a.1 off len a.2.1) λgg=>Da e C jx (len+dA new) (jY gg new)))
    cap)
def Ck (e:TI) (C:HS) (jx:Nat) (s x:V):Y (V×HS) :=
 W (zW C e.size x) λnew=>gd (et (bj e.size new) (et (kS new) (et (nt (Nat.beq e.size 0)) (et (nt (Nat.beq e.bytes 0)) (Nat.beq (dA e.zero) e.size)))))
  (match s with
  |.aE=>FR e C jx new
  |.sl es tight=>Jw e C jx es tight new
  |.own id g off len cap=>CB e C jx id g off len cap new
  |_=>none)
def znD(a b:Nat):Nat:=bi (Nat.ble a b) a b
def ZM (e:TI) (C:HS) (id g off len:Nat) (src:Z (Z V)):Y (V×HS) :=
 W (mP C id g) λa=>gd (et (nt a.2.2.2.1) (et a.2.2.2.2 (et (Nat.beq a.1 e.size) (et (Nat.beq (off % a.1) 0) (et (bj e.size src) (et (kS src) (Nat.ble (off / a.1+znD (dA src) len) (dA a.2.1))))))))
  (some (.int .i64 (Int.ofNat (znD (dA src) len)),C.wr id (.arr a.1 g (kI a.2.1 (off / a.1) (Ij (znD (dA src) len) src)) a.2.2.1 false true)))
def zcx (e:TI) (C:HS) (d x:V):Y (V×HS) :=
 W (zW C e.size x) λsrc =>
  match d with
  |.own id g off len _=>ZM e C id g off len src
  |.aE=>some (.int .i64 0,C)
  |_=>none
def wY (i:TI) (C:HS) (id:Nat) (l c:V):Y (V×HS) :=
 W (sH i.desc) λel=>W (ti P el) λe=>W l.nat? λl=>W c.nat? λc =>
  gd (et (Nat.ble l c) (et (xU c e.bytes) (et (Nat.ble (c*e.size) 1048576) (et (nt (Nat.beq e.size 0)) (et (Nat.beq (dA e.zero) e.size) (Jy e.zero))))))
   (some (.own id 0 0 l (some c),C.put id (.arr e.size 0 (ziX e.zero c) true false true)))
def fV:Y α->Bool
 |some _=>true
 |none=>false
def V5(T:PT V)(o:Y Operand)(y d:Nat):Y Nat :=
 vP (some d) (λo=>W (bV T o) λv=>W v.nat? λn=>gd (Nat.ble n y) (some n)) o
def bounds(T:PT V)(len cap:Nat)(lo hi mx:Y Operand):Y (Nat×Nat×Nat) :=
 gd (bi (fV mx) (fV hi) true) (W (V5 T mx cap cap) λm=>W (V5 T hi m len) λh=>W (V5 T lo h 0) λl=>some (l,h,m))
def za8(T:PT V)(s:Z Nat)(lo hi mx:Y Operand):Y V :=
 gd (nt (fV mx)) (W (bounds T (dA s) (dA s) lo hi mx) λb=>some (.str (Ij (b.2.1-b.1) (KV b.1 s))))
def JP (T:PT V) (e:TI) (es:Z (Z V)) (tight:Bool) (lo hi mx:Y Operand):Y V :=
 gd (bj e.size es) (W (bounds T (dA es) (dA es) lo hi mx) λb =>
  some (.sl (Ij (b.2.1-b.1) (KV b.1 es)) (bi (fV mx) (Nat.beq b.2.1 b.2.2) (et tight (Nat.beq b.2.1 (dA es))))))
def zdM(c:Y Nat)(l:Nat):Y Nat:=vP none (λc=>some (c-l)) c
def MQ (T:PT V) (C:HS) (e:TI) (id g off len:Nat) (cap:Y Nat) (lo hi mx:Y Operand):Y V :=
 W (mP C id g) λa=>gd (Nat.beq a.1 e.size) (W (bounds T len (vP len (λc=>c) cap) lo hi mx) λb =>
  gd (bi (Nat.beq b.1 0) true (Nat.blt b.1 b.2.2)) (some (.own id g (off+b.1*e.size) (b.2.1-b.1) (bi (fV mx) (some (b.2.2-b.1)) (zdM cap b.1)))))
def za9(T:PT V)(lo hi mx:Y Operand):Y V:=W (bounds T 0 0 lo hi mx) λ_=>some .aE
def EE (T:PT V) (C:HS) (i:TI) (x:V) (lo hi mx:Y Operand):Y V :=
 match i.desc with
 |.string=>W x.sB λs=>za8 T s lo hi mx
 | .slice el=>W (ti P el) λe =>
   match x with
   |.aE=>za9 T lo hi mx
   |.sl es tight=>JP T e es tight lo hi mx
   |.own id g off len cap=>MQ T C e id g off len cap lo hi mx
   |_=>none
 |_=>none
def KM(k a:V):Y Bool :=
 match k with
 |.int k n=>W a.int? λp=>gd (Df k p.1) (some (ub n p.2))
 |.str s=>W a.sB λt=>some (ND s t)
 |.bool b=>W a.bool? λc=>some (zZ b c)
 |_=>none
def UL(k:V)(l:Z (V×V)):Y (Y V) :=
 lr (some none) (λp _ ih=>W (KM k p.1) λq=>bi q (some (some p.2)) ih) l
def Gg(k v:V)(l:Z (V×V)):Y (Z (V×V)) :=
 lr (some [(k,v)]) (λp t ih=>W (KM k p.1) λq=>bi q (some ((p.1,v)::t)) (W ih λr=>some (p::r))) l
def uw (d:TypeDesc) (k:V):Bool :=
 match d with
 | .int j=>match k with
   |.int k _=>Df j k
   |_=>false
 | .string=>match k with
   |.str _=>true
   |_=>false
 | .bool=>match k with
   |.bool _=>true
   |_=>false
 |_=>false
def oD:V:=.tuple []
def zao(e:TI):Y V:=bi e.qK (some (.agg e.zero)) (vQ e.zero 0)
def M8(T:PT V)(C:HS)(c a b:Operand):Y (V×HS) :=
 W (bV T c) λq=>W q.bool? λq=>W (bi q (bV T a) (bV T b)) λv=>some (v,C)
def Bv(C:HS)(id:Nat)(t:TypeId):Y (V×HS) :=
 W (ti P t) λi=>gd (Nat.beq (dA i.zero) i.size) (some (.ptr id 0 0,C.put id (.arr i.size 0 [i.zero] true false false)))
def Wn(T:PT V)(C:HS)(id:Nat)(x:Operand):Y (V×HS) :=
 W (bV T x) λv=>some (.ptr id 0 0,C.put id (.arr (dA v.cells) 0 [v.cells] true false false))
def jH(l:Z Field):Bool:=lr true (λf _ ih=>et (fV (ti P f.type)) ih) l
def iX(d:TypeDesc):Bool :=
 match d with
 |.struct _=>true
 |_=>false
def fieldsOf(d:TypeDesc):Z Field :=
 match d with
 |.struct fs=>fs.toList
 |_=>[]
def zcX:TypeDesc->Y TypeId
 |.array _ e=>some e
 |_=>none
def Cj(T:PT V)(n:Nat)(l:Z (Nat×Operand)):Z V->Y (Z V) :=
 lr (λcells=>some cells) (λp _ k cells=>W (bV T p.2) λv=>gd (et (Nat.beq (dA v.cells) n) (Nat.ble (p.1*n+n) (dA cells))) (k (kI cells (p.1*n) v.cells))) l
def yD(T:PT V)(C:HS)(t:TypeId)(parts:Array (Nat×Operand)):Y (V×HS) :=
 W (ti P t) λi=>W (bi (iX i.desc) (gd (jH P (fieldsOf i.desc)) (Bu P T i parts.toList i.zero)) (W (zcX i.desc) λel=>W (ti P el) λe=>Cj T e.size parts.toList i.zero)) λcs=>some (.agg cs,C)
def jT (dr:Bool) (T:PT V) (C:HS) (id:Nat) (t:TypeId) (len:Nat) (parts:Array (Nat×Operand)):Y (V×HS) :=
 W (ti P t) λi=>W (sH i.desc) λel=>W (ti P el) λe =>
  gd (et (Nat.ble (len*e.size) 1048576) (et (nt (Nat.beq e.size 0)) (et (Nat.beq (dA e.zero) e.size) (Jy e.zero))))
   (W (zF dr T e len parts.toList C (ziX e.zero len)) λr=>some (bi (Nat.beq e.bytes 128) (.own id 0 0 len (some len)) (.sl r.1 true),r.2.put id (bi (Nat.beq e.bytes 128) (.arr e.size 0 r.1 true false true) (.mp []))))
def Cf(T:PT V)(C:HS)(t:TypeId)(a:Operand):Y (V×HS) :=
 W (ti P t) λi=>W (bV T a) λp=>W (Ha i C p) λv=>some (v,C)
def nz(T:PT V)(C:HS)(t:TypeId)(a x:Operand):Y (V×HS) :=
 W (ti P t) λi=>W (bV T a) λp=>W (bV T x) λv=>W (EA i C p v) λa8=>some (oD,a8)
def notNil(v:V):Bool :=
 match v with
 |.ptr _ _ _=>true
 |.ref _=>true
 |.func _ _=>true
 |.ly _=>true
 |_=>false
def uS(T:PT V)(C:HS)(x:Operand):Y (V×HS):=W (bV T x) λv=>gd (notNil v) (some (v,C))
def I5:Operand->Bool
 |.const .nilIface=>true
 |_=>false
def zwQ(v:V):Y Bool :=
 match v with
 |.nilIface=>some true
 |.iface _ _=>some false
 |_=>none
def isIface:TypeDesc->Bool
 |.interface _=>true
 |_=>false
def znt(op:BinOp)(t:TypeId)(a:V):Y V:=W (ti P t) λi=>gd (isIface i.desc) (W (zwQ a) λb =>
 match op with
 |.eql=>some (.bool b)
 |.neq=>some (.bool (nt b))
 |_=>none)
def GN(T:PT V)(C:HS)(op:BinOp)(t:TypeId)(x y:Operand):Y (V×HS) :=
 W (bV T x) λa=>W (bV T y) λb=>W (bi (I5 y) (znt P op t a) (RN P op t a b)) λv=>some (v,C)
def Qe(T:PT V)(C:HS)(op:UnOp)(x:Operand):Y (V×HS) :=
 match op with
 |.not=>W (bV T x) λv=>W v.bool? λb=>some (.bool (nt b),C)
 |.neg=>W (bV T x) λv=>W v.int? λp=>some (.int p.1 (Ia p.1 (0-p.2)),C)
 |_=>none
def zcy(d:TypeDesc)(v:V):Y V :=
 match d with
 |.int k=>W v.int? λp=>some (.int k (Ia k p.2))
 |.string=>W v.sB λs=>some (.str s)
 |_=>none
def U9(T:PT V)(C:HS)(s d:TypeId)(x:Operand):Y (V×HS) :=
 W (ti P s) λ_=>W (ti P d) λj=>W (bV T x) λv=>W (zcy j.desc v) λr=>some (r,C)
def pK(n:Nat)(v:V):Y V :=
 match v with
 |.ptr id g off=>some (.ptr id g (off+n))
 |.ref cs=>some (.ref (KV n cs))
 |_=>none
def qZ(T:PT V)(C:HS)(t:TypeId)(x:Operand)(f:Nat):Y (V×HS) :=
 W (ti P t) λi=>W (bD i f) λfd=>W (ti P fd.type) λfi=>gd (nt (Nat.beq fi.size 0)) (W (bV T x) λv=>W (pK fd.offset v) λr=>some (r,C))
def LZ(T:PT V)(C:HS)(t:TypeId)(x:Operand)(f:Nat):Y (V×HS) :=
 W (ti P t) λi=>W (bD i f) λfd=>W (ti P fd.type) λfi=>W (bV T x) λv=>W v.GW λcs=>W (AA fi cs fd.offset) λv=>some (v,C)
def zK(e:TI)(n:Nat)(v:V):Y V :=
 match v with
 |.sl es _=>gd (bj e.size es) (W (vQ es n) λc=>some (.ref c))
 |.own id g off len _=>gd (Nat.blt n len) (some (.ptr id g (off+n*e.size)))
 |_=>none
def znY(m:Y Nat)(e:TI)(n:Nat)(v:V):Y V :=
 match m with
 |none=>zK e n v
 |some k=>gd (Nat.blt n k) (pK (n*e.size) v)
def qW(T:PT V)(C:HS)(t:TypeId)(x ix:Operand):Y (V×HS) :=
 W (ti P t) λi=>W (elemOf i.desc) λel=>W (ti P el.1) λe=>W (bV T x) λv=>W (bV T ix) λn=>W n.nat? λn=>W (znY el.2 e n v) λr=>some (r,C)
def isStr:TypeDesc->Bool
 |.string=>true
 |_=>false
def LU(T:PT V)(C:HS)(t:TypeId)(x ix:Operand):Y (V×HS) :=
 W (ti P t) λi=>gd (isStr i.desc) (W (bV T x) λv=>W v.sB λs=>W (bV T ix) λn=>W n.nat? λn=>W (vQ s n) λb=>some (.int .u8 (Int.ofNat b),C))
def CQ(T:PT V)(C:HS)(t:TypeId)(x:Operand)(lo hi mx:Y Operand):Y (V×HS) :=
 W (ti P t) λi=>W (bV T x) λv=>W (EE P T C i v lo hi mx) λr=>some (r,C)
def yw(T:PT V)(C:HS)(x:Operand)(k:Nat):Y (V×HS) :=
 W (bV T x) λv=>W v.oy λvs=>W (vQ vs k) λv=>some (v,C)
def Cw(T:PT V)(C:HS)(fn:Fn)(first Bt:Array Operand):Y (V×HS) :=
 match fn with
 |.func f=>gd (first.toList.isEmpty) (W (ku T Bt.toList) λl=>some (.func f l,C))
 |_=>none
def AL(C:HS)(id:Nat)(r:Y Operand):Y (V×HS):=gd (nt (fV r)) (some (.map id,C.put id (.mp [])))
def mo(T:PT V)(C:HS)(id:Nat)(t:TypeId)(l c:Operand):Y (V×HS) :=
 W (ti P t) λi=>W (bV T l) λa=>W (bV T c) λb=>wY P i C id a b
def nC(C:HS)(m:V):Y (Z (V×V)) :=
 match m with
 |.dj=>some []
 |.map id=>W (C.H.get id) λo=>o.mp?
 |_=>none
def mq (T:PT V) (C:HS) (t:TypeId) (m k:Operand) (ok:Bool):Y (V×HS) :=
 W (ti P t) λi=>W (mapOf i.desc) λd=>W (ti P d.1) λki=>W (ti P d.2) λe=>W (bV T m) λmv=>W (bV T k) λkv =>
  gd (uw ki.desc kv) (W (nC C mv) λes=>W (UL kv es) λr =>
   W (vP (zao e) (λv=>some v) r) λv=>some (bi ok (.tuple [v,.bool (fV r)]) v,C))
def ik (T:PT V) (C:HS) (t:TypeId) (m k x:Operand):Y (V×HS) :=
 W (ti P t) λi=>W (mapOf i.desc) λd=>W (ti P d.1) λki=>W (bV T m) λmv=>W (bV T k) λkv=>W (bV T x) λv =>
  gd (uw ki.desc kv) (match mv with
   |.map id=>W (ng v C) λr=>W (r.2.H.get id) λo=>W o.mp? λes=>W (Gg kv r.1 es) λcU=>some (oD,r.2.wr id (.mp cU))
   |_=>none)
def Db(T:PT V)(C:HS)(t:TypeId)(x:Operand):Y (V×HS) :=
 W (ti P t) λi=>gd (nt (isIface i.desc)) (W (bV T x) λv=>some (.iface t v,C))
def Ud(T:PT V)(C:HS)(x:Operand):Y (V×HS):=W (bV T x) λv=>some (v,C)
structure G1 where
 no:Nat
 t:TypeId
 x:Operand
 y:Operand
 z:Operand
 n:Nat
 u:TypeId
 ps:Array (Nat×Operand)
 l:Option Operand
 h:Option Operand
 m:Option Operand
 b:BinOp
 un:UnOp
 ok:Bool
 fn:Fn
 fs:Array Operand
 cs:Array Operand
def zG:G1:={ no:=100,t:=0,x:=.func 0,y:=.func 0,z:=.func 0,n:=0,u:=0,ps:=#[],l:=none,h:=none,m:=none,b:=.add,un:=.plus,ok:=false,fn:=.func 0,fs:=#[],cs:=#[] }
def VI(op:Op):G1 :=
 match op with
 |.move x=>{ zG with no:=0,x:=x }
 |.assign x=>{ zG with no:=0,x:=x }
 |.load t a=>{ zG with no:=1,t:=t,x:=a }
 |.binOp op t x y _=>{ zG with no:=2,t:=t,x:=x,y:=y,b:=op }
 |.fieldAddr t x f=>{ zG with no:=3,t:=t,x:=x,n:=f }
 |.store t a x=>{ zG with no:=4,t:=t,x:=a,y:=x }
 |.alloc t=>{ zG with no:=5,t:=t }
 |.box _ x=>{ zG with no:=6,x:=x }
 |.indexAddr t x ix=>{ zG with no:=7,t:=t,x:=x,y:=ix }
 |.pick c a b=>{ zG with no:=8,x:=c,y:=a,z:=b }
 |.extract x k=>{ zG with no:=9,x:=x,n:=k }
 |.nilCheck x=>{ zG with no:=10,x:=x }
 |.unOp op _ x=>{ zG with no:=11,un:=op,x:=x }
 |.build t parts=>{ zG with no:=12,t:=t,ps:=parts }
 |.buildSlice t len parts=>{ zG with no:=13,t:=t,n:=len,ps:=parts }
 |.slice t x lo hi mx=>{ zG with no:=14,t:=t,x:=x,l:=lo,h:=hi,m:=mx }
 |.index t x ix=>{ zG with no:=15,t:=t,x:=x,y:=ix }
 |.lookup t m k ok=>{ zG with no:=16,t:=t,x:=m,y:=k,ok:=ok }
 |.mapUpdate t m k x=>{ zG with no:=17,t:=t,x:=m,y:=k,z:=x }
 |.insert t m k x=>{ zG with no:=17,t:=t,x:=m,y:=k,z:=x }
 |.convert s d x=>{ zG with no:=18,t:=s,u:=d,x:=x }
 |.field t x f=>{ zG with no:=19,t:=t,x:=x,n:=f }
 |.makeSlice t l c=>{ zG with no:=20,t:=t,x:=l,y:=c }
 |.makeMap _ r=>{ zG with no:=21,l:=r }
 |.makeFunc fn first Bt=>{ zG with no:=22,fn:=fn,fs:=first,cs:=Bt }
 |.makeInterface t x=>{ zG with no:=23,t:=t,x:=x }
 |_=>zG
def zNu(T:PT V)(C:HS)(id:Nat)(r:G1):Y (V×HS) :=
 nc (Ud T C r.x) (λm=>nc (Cf P T C r.t r.x) (λm=>nc (GN P T C r.b r.t r.x r.y) (λ_=>qZ P T C r.t r.x r.n) m) m) r.no
def zNt(T:PT V)(C:HS)(id:Nat)(r:G1):Y (V×HS) :=
 nc (nz P T C r.t r.x r.y) (λm=>nc (Bv P C id r.t) (λm=>nc (Wn T C id r.x) (λ_=>qW P T C r.t r.x r.y) m) m) (r.no-4)
def opC(T:PT V)(C:HS)(r:G1):Y (V×HS) :=
 nc (M8 T C r.x r.y r.z) (λm=>nc (yw T C r.x r.n) (λm=>nc (uS T C r.x) (λ_=>Qe T C r.un r.x) m) m) (r.no-8)
def zNs(dr:Bool)(T:PT V)(C:HS)(id:Nat)(r:G1):Y (V×HS) :=
 nc (yD P T C r.t r.ps) (λm=>nc (jT P dr T C id r.t r.n r.ps) (λm=>nc (CQ P T C r.t r.x r.l r.h r.m) (λ_=>LU P T C r.t r.x r.y) m) m) (r.no-12)
def zNr(T:PT V)(C:HS)(r:G1):Y (V×HS) :=
 nc (mq P T C r.t r.x r.y r.ok) (λm=>nc (ik P T C r.t r.x r.y r.z) (λm=>nc (U9 P T C r.t r.u r.x) (λ_=>LZ P T C r.t r.x r.n) m) m) (r.no-16)
def zNq(T:PT V)(C:HS)(id:Nat)(r:G1):Y (V×HS) :=
 nc (mo P T C id r.t r.x r.y) (λm=>nc (AL C id r.l) (λm=>nc (Cw T C r.fn r.fs r.cs) (λm=>nc (Db P T C r.t r.x) (λ_=>none) m) m) m) (r.no-20)
def zNp(dr:Bool)(T:PT V)(C:HS)(id:Nat)(r:G1):Y (V×HS) :=
 bi (Nat.blt r.no 16) (bi (Nat.blt r.no 12) (opC T C r) (zNs P dr T C id r)) (bi (Nat.blt r.no 20) (zNr P T C r) (zNq P T C id r))
def TP(dr:Bool)(T:PT V)(C:HS)(id:Nat)(r:G1):Y (V×HS) :=
 bi (Nat.blt r.no 4) (zNu P T C id r) (bi (Nat.blt r.no 8) (zNt P T C id r) (zNp P dr T C id r))
def YW(l:Z V):Y V:=lr none (λx t _=>lr (some x) (λ_ _ _=>none) t) l
def Yo(l:Z V):Y (V×V):=lr none (λx t _=>W (YW t) λy=>some (x,y)) l
def zeS(ts:Z TypeId):Y TI:=lr none (λt _ _=>ti P t) ts
def IZ(C:HS)(ts:Z TypeId)(vs:Z V):Y (V×HS):=W (zeS P ts) λi=>W (YW vs) λx=>W (N2 C i.desc x) λn=>some (.int .i64 (Int.ofNat n),C)
def ZG(ts:Z TypeId):Y TI:=lr none (λt _ _=>W (ti P t) λi=>W (sH i.desc) λel=>ti P el) ts
def yt(ts:Z TypeId):Y TypeId :=
 match ts with
 | [_,u]=>some u
 |_=>none
def z8(C:HS)(id:Nat)(ts:Z TypeId)(vs:Z V):Y (V×HS) :=
 W (Yo vs) λp=>W (ZG P ts) λe=>W (yt ts) λu=>W (ti P u) λj=>W (sH j.desc) λ_=>Ck e C id p.1 p.2
def ZN(C:HS)(ts:Z TypeId)(vs:Z V):Y (V×HS) :=
 W (Yo vs) λp=>W (ZG P ts) λe=>W (yt ts) λ_=>zcx e C p.1 p.2
def uT(C:HS)(less:Bool)(vs:Z V):Y (V×HS) :=
 W (Yo vs) λp=>W p.1.int? λa=>W p.2.int? λb=>some (.int a.1 (bi (bi less (AW b.2 a.2) (AW a.2 b.2)) b.2 a.2),C)
def qF(C:HS)(id:Nat)(b:Builtin)(ts:Z TypeId)(vs:Z V):Y (V×HS) :=
 match b with
 |.len=>IZ P C ts vs
 |.append=>z8 P C id ts vs
 |.copy=>ZN P C ts vs
 |.min=>uT C true vs
 |.max=>uT C false vs
 |_=>none
end
inductive Ex where
 |normal|ret|exit (id:Nat)
structure Ev where
 code:Bool->Nat->Code->PT V->HS->Option (Ex×PT V×HS)
 call:FuncId->List V->HS->Option (V×HS)
structure Env where
 P:Program
 wx:FuncId->Nat
 dE:FuncId->List V->HS->Option (V×HS)
def ji:HS:={ H:=.leaf,n:=0,log:=[] }
def rG(ev:Ev)(f:FuncId)(args:Z V)(C:HS):Y (V×HS) :=
 W (ev.call f args ji) λr=>W (still r.2 r.1) λr'=>some (r',C)
def nT(ev:Ev)(f:FuncId)(args:Z V)(C:HS):Y (V×HS) :=
 W (ev.call f args ji) λr=>gd r.1.N0 (some (r.1,C))
def Al(ev:Ev)(f:FuncId)(args:Z V)(C:HS):Y (V×HS) :=
 W (ev.call f args C) λr=>vP (some r) (λq=>some q) (SW r)
def ET (E:Env) (ev:Ev) (f:FuncId) (args:Z V) (C:HS):Y (V×HS) :=
 nc (bi (cu args) (rG ev f args C) (ev.call f args C))
  (λm=>nc (ev.call f args C) (λk=>nc (vP (ev.call f args C) (λey=>nT ev f ey C) (lT C args)) (λ_=>Al ev f args C) k) m) (E.wx f)
def FL(E:Env)(ev:Ev)(f:FuncId)(args:Z V)(C:HS):Y (V×HS) :=
 vP (ET E ev f args C) (λr=>some r) (E.dE f args C)
def Obj.gen:Obj->Nat
 |.arr _ g _ _ _ _=>g
 |_=>0
def Obj.fz:Obj->Bool
 |.arr _ _ _ _ f _=>f
 |_=>false
def Obj.T8:Obj->Y (FuncId×PT V×Z Nat×Code×Code×Nat)
 |.lp a b c d e f=>some (a,b,c,d,e,f)
 |_=>none
def H8(sz:Nat)(ps:Z Nat):Z V->PT V->Y (PT V) :=
 lr (λvs T=>lr (some T) (λ_ _ _=>none) vs) (λp _ k vs T=>lr none (λv t _=>gd (Nat.blt p sz) (k t (T.set p v))) vs) ps
def Nr:Ex->Bool
 |.normal=>true
 |_=>false
def zKw:Ex->Nat
 |.normal=>0
 |.ret=>2
 |.exit i=>i+3
def zC7(n:Nat):Y Ex:=nc (some .normal) (λm=>nc none (λk=>some (nc .ret (λi=>.exit i) k)) m) n
def zA (ev:Ev) (id:Nat) (vs:Z V) (C:HS):Y (V×HS) :=
 W (C.H.get id) λo=>W o.T8 λl=>gd (Nat.beq l.2.2.2.2.2 0) (W (H8 l.1 l.2.2.1 vs l.2.1) λT =>
  W (ev.code true l.1 l.2.2.2.1 T C) λr=>gd (Nr r.1)
   (W (r.2.2.H.get id) λo1=>W o1.T8 λl1=>gd (Nat.beq l1.2.2.2.2.2 0)
   (W (ev.code true l.1 l.2.2.2.2.1 r.2.1 (r.2.2.wr id (.lp l1.1 l1.2.1 l1.2.2.1 l1.2.2.2.1 l1.2.2.2.2.1 1))) λq =>
     W (q.2.2.H.get id) λo2=>W o2.T8 λl2=>some (.bool (Nr q.1),q.2.2.wr id (.lp l2.1 l2.2.1 l2.2.2.1 l2.2.2.2.1 l2.2.2.2.2.1 (zKw q.1))))))
def Lf(E:Env)(ev:Ev)(v:V)(vs:Z V)(C:HS):Y (V×HS) :=
 match v with
 |.func f Bt=>FL E ev f (jY vs Bt) C
 |.ly id=>zA ev id vs C
 |_=>none
def wo (E:Env) (ev:Ev) (T:PT V) (C:HS) (id:Nat) (c:Call):Y (V×HS) :=
 W (ku T c.args.toList) λvs =>
  match c.callee with
  |.builtin b=>qF E.P C id b c.argTypes.toList vs
  |.value x=>W (bV T x) λv=>Lf E ev v vs C
  |.invoke _ _=>none
def qE(op:Op):Y Call :=
 match op with
 |.call c=>some c
 |_=>none
def cp(E:Env)(ev:Ev)(dr:Bool)(T:PT V)(C:HS)(id:Nat)(o:Oper):Y (V×HS) :=
 vP (TP E.P dr T C id (VI o.op)) (λc=>wo E ev T C id c) (qE o.op)
def Kj(sz:Nat)(T:PT V)(d:Y Tmp)(v:V):Y (PT V) :=
 vP (some T) (λd=>gd (Nat.blt d sz) (some (T.set d v))) d
def xy (ops:Z Oper) (T:PT V) (o:Oper):Y Bool :=
 vP (some true) (λg=>W (vQ ops g.1) λp=>W p.dst λd=>W (T.get d) λv =>
  match v with
  |.bool b=>some (zZ b g.2)
  |.tuple []=>some false
  |_=>none) o.guard
def dR:Op->Nat
 |.alloc _|.box _ _|.buildSlice _ _ _|.makeMap _ _|.makeSlice _ _ _=>1
 | .call c=>match c.callee with
   |.builtin .len|.builtin .min|.builtin .max=>0
   |_=>2
 |.store _ _ _|.mapUpdate _ _ _ _|.insert _ _ _ _=>2
 |_=>0
def ig(C:HS)(id:Nat):Bool:=nt (fV (C.H.get id))
def vT (E:Env) (ev:Ev) (sz:Nat) (ops:Z Oper) (o:Oper) (id:Nat) (T:PT V) (C:HS):Y (PT V×HS) :=
 W (xy ops T o) λw=>bi w
  (gd (bi (Nat.beq (dR o.op) 0) true (ig C id)) (W (cp E ev false T C id o) λr=>W (Kj sz T o.dst r.1) λT'=>some (T',r.2)))
  (W (Kj sz T o.dst oD) λT'=>some (T',C))
def uO(E:Env)(ev:Ev)(sz:Nat)(ops:Z Oper)(l:Z Oper):Nat->PT V->HS->Y (PT V×HS) :=
 lr (λ_ T C=>some (T,C)) (λo _ k id T C=>W (vT E ev sz ops o id T C) λr=>k (id+1) r.1 r.2) l
def oW(v:V):Z Nat :=
 match v with
 |.ptr id _ _=>[id]
 |.map id=>[id]
 |.own id _ _ _ _=>[id]
 |_=>[]
def cN (T:PT V) (op:Op):Z Nat :=
 match op with
 |.load _ a=>vP [] oW (bV T a)
 |.lookup _ m _ _=>vP [] oW (bV T m)
 |.slice _ x _ _ _=>vP [] oW (bV T x)
 | .call c=>match c.callee with
   |.builtin .len=>lr [] (λa _ _=>vP [] oW (bV T a)) c.args.toList
   |_=>[]
 |_=>[]
def tb(m i:Nat):Bool:=Nat.beq (m / 2 ^ i % 2) 1
def tmpsOf(l:Z Operand):Z Nat:=l.filterMap fun|.tmp t=>some t|_=>none
def looks(ops:Z Oper)(o:Oper):Z Nat :=
 jY (tmpsOf o.op.operands.toList) (vP [] (λg=>vP [] (λp=>vP [] (λd=>[d]) p.dst) (vQ ops g.1)) o.guard)
def U0(i:Nat)(acc:Z Nat)(l:Z Edge):Y Nat :=
 lr (some 0) (λe _ ih=>W ih λm=>bi (Region.binds .any e) (gd (Nat.blt e.on i) (W (vQ acc e.on) λb=>some (Nat.lor (Nat.lor (2 ^ e.on) b) m))) (some m)) l
def zyp(l:Z Oper):Nat->Z Nat->Y (Z Nat) :=
 lr (λ_ acc=>some acc) (λo _ k i acc=>W (U0 i acc o.after.toList) λm=>k (i+1) (jY acc [m])) l
def zeU(d:Y Nat)(l:Z Nat):Bool:=vP false (λd=>Kl d l) d
def zrv(d e:Y Nat):Bool:=vP false (λd=>vP false (λe=>Nat.beq d e) e) d
def lF:Op->Bool
 |.store _ _ _=>true
 |_=>false
def zH4(op:Op):Bool:=Nat.beq (dR op) 2
def indep(ops:Z Oper)(x y:Oper):Bool :=
 et (nt (zeU x.dst (looks ops y))) (et (nt (zeU y.dst (looks ops x))) (et (nt (zrv x.dst y.dst)) (nt (et (zH4 x.op) (et (zH4 y.op) (nt (et (lF x.op) (lF y.op))))))))
def Vv(ops:Z Oper)(m:Nat)(y:Oper)(l:Z Oper):Nat->Nat->Bool :=
 lr (λ_ _=>true) (λx _ k i j=>bi (Nat.blt i j) (et (bi (tb m i) true (indep ops x y)) (k (i+1) j)) true) l
def Vx(ops:Z Oper)(l:Z Oper):Nat->Z Nat->Bool :=
 lr (λ_ _=>true) (λy _ k j bs=>lr false (λm bs' _=>et (Vv ops m y ops 0 j) (k (j+1) bs')) bs) l
def U1(ops:Z Oper):Y (Z Nat):=W (zyp ops 0 []) λbs=>gd (Vx ops ops 0 bs) (some bs)
def iA(T:PT α)(l:Z Nat):PT α:=lr .leaf (λt _ ih=>vP ih (λv=>ih.set t v) (T.get t)) l
def Wd(l:Z V):Z Nat:=lr [] (λc _ ih=>jY (oW c) ih) l
def zr(C:HS)(p:V):Bool :=
 match p with
 |.ptr id _ _=>pr C id
 |_=>false
def rX(T:PT V)(C:HS)(op:Op):Z Nat :=
 match op with
 |.store _ a x=>vP [] (λp=>jY (oW p) (bi (zr C p) (vP [] (λv=>Wd v.cells) (bV T x)) [])) (bV T a)
 |_=>[]
def II(H:PT Obj)(H2:PT Obj)(X:Z Nat):PT Obj:=lr H (λk _ ih=>vP ih (λo=>ih.set k o) (H2.get k)) X
def Pt(E:Env)(ev:Ev)(o:Oper)(id:Nat)(T:PT V)(C:HS):Y (V×HS×Z Nat×Z Nat) :=
 gd (ig C id) (W (cp E ev true T { H:=iA C.H (rX T C o.op),n:=0,log:=[] } id o) λr=>some (r.1,{ H:=II C.H r.2.H (rX T C o.op),n:=C.n,log:=jY r.2.log C.log },rX T C o.op,r.2.log))
def zX (E:Env) (ev:Ev) (o:Oper) (id:Nat) (T:PT V) (C:HS):Y (V×HS×Z Nat×Z Nat) :=
 nc (W (cp E ev true T { H:=iA C.H (cN T o.op),n:=0,log:=[] } id o) λr=>some (r.1,C,cN T o.op,[]))
  (λm=>nc (gd (ig C id) (W (cp E ev true T { H:=.leaf,n:=0,log:=[] } id o) λr=>W (r.2.H.get id) λo'=>gd (nt o'.fz) (some (r.1,C.put id o',[id],[]))))
    (λ_=>gd (ig C id) (W (cp E ev true T { H:=C.H,n:=C.n,log:=[] } id o) λr=>some (r.1,{ H:=r.2.H,n:=r.2.n,log:=jY r.2.log C.log },[],r.2.log))) m) (dR o.op)
def Aj(E:Env)(ev:Ev)(o:Oper)(id:Nat)(T:PT V)(C:HS):Y (V×HS×Z Nat×Z Nat) :=
 bi (lF o.op) (Pt E ev o id T C) (zX E ev o id T C)
def kR(E:Env)(ev:Ev)(ops:Z Oper)(o:Oper)(id:Nat)(T:PT V)(C:HS):Y (V×HS×Z Nat×Z Nat) :=
 W (xy ops T o) λw=>bi w (Aj E ev o id T C) (some (oD,C,[],[]))
def wL (E:Env) (ev:Ev) (sz:Nat) (ops:Z Oper) (l:Z Oper):Nat->PT V->HS->Z (Z Nat×Z Nat)->Y ((PT V×HS)×Z (Z Nat×Z Nat)) :=
 lr (λ_ T C acc=>some ((T,C),acc)) (λo _ k id T C acc=>W (kR E ev ops o id (iA T (looks ops o)) C) λr=>W (Kj sz T o.dst r.1) λT' =>
  k (id+1) T' r.2.1 (jY acc [r.2.2])) l
def meet(l m:Z Nat):Bool:=lr false (λx _ ih=>bi (Kl x m) true ih) l
def GK(m:Nat)(r:Z Nat×Z Nat)(l:Z (Z Nat×Z Nat)):Nat->Nat->Bool :=
 lr (λ_ _=>true) (λq _ k i j=>bi (Nat.blt i j) (et (bi (tb m i) true (nt (bi (meet q.1 r.2) true (meet r.1 q.2)))) (k (i+1) j)) true) l
def wG(all:Z (Z Nat×Z Nat))(l:Z (Z Nat×Z Nat)):Nat->Z Nat->Bool :=
 lr (λ_ _=>true) (λr _ k j bs=>lr false (λm bs' _=>et (GK m r all 0 j) (k (j+1) bs')) bs) l
def QI (E:Env) (ev:Ev) (sz:Nat) (l:Z Oper) (T:PT V) (C:HS):Y (PT V×HS) :=
 W (U1 l) λbs=>W (wL E ev sz l l C.n T { H:=C.H,n:=C.n+dA l,log:=C.log } []) λr =>
  gd (wG r.2 r.2 0 bs) (some r.1)
def To(E:Env)(ev:Ev)(sz:Nat)(l:Z Oper)(draw:Bool)(T:PT V)(C:HS):Y (Ex×PT V×HS) :=
 W (bi draw (QI E ev sz l T C) (uO E ev sz l l C.n T { H:=C.H,n:=C.n+dA l,log:=C.log })) λr=>some (.normal,r.1,r.2)
def Ki(ev:Ev)(rd:Bool)(sz:Nat)(b:Code)(r:Ex×PT V×HS):Y (Ex×PT V×HS) :=
 match r.1 with
 |.normal=>ev.code rd sz b r.2.1 r.2.2
 |_=>some r
def Vn(id:Nat)(r:Ex×PT V×HS):Y (Ex×PT V×HS) :=
 match r.1 with
 |.exit j=>bi (Nat.beq j id) (some (.normal,r.2.1,r.2.2)) (some r)
 |_=>some r
def funcOf(v:V):Y (FuncId×Z V) :=
 match v with
 |.func f c=>some (f,c)
 |_=>none
def Gf (ev:Ev) (sz:Nat) (ps:Array Tmp) (assign body:Code) (T:PT V) (C:HS) (v:V):Y (Ex×PT V×HS) :=
 W (funcOf v) λg=>gd (ig C C.n) (W (ev.call g.1 (.ly C.n::g.2) (HS.put { H:=C.H,n:=C.n+1,log:=C.log } C.n (.lp sz T ps.toList assign body 0))) λr =>
  W (r.2.H.get C.n) λo=>W o.T8 λl=>W (zC7 l.2.2.2.2.2) λex=>some (ex,T,r.2.wr C.n (.lp l.1 l.2.1 l.2.2.1 l.2.2.2.1 l.2.2.2.2.1 1)))
def QQ(E:Env)(ev:Ev)(rd:Bool)(sz:Nat)(c:Code)(T:PT V)(C:HS):Y (Ex×PT V×HS) :=
 match c with
 |.skip=>some (.normal,T,C)
 |.region _ ops draw=>To E ev sz ops.toList draw T C
 |.seq a b=>W (ev.code rd sz a T C) λr=>Ki ev rd sz b r
 |.cond q a b=>W (bV T q) λv=>W v.bool? λt=>bi t (ev.code rd sz a T C) (ev.code rd sz b T C)
 |.block id body=>W (ev.code rd sz body T C) λr=>Vn id r
 |.loop body=>W (ev.code rd sz body T C) λr=>Ki ev rd sz (.loop body) r
 |.exit id=>some (.exit id,T,C)
 |.ret=>some (.ret,T,C)
 |.rangeFunc g ps assign body=>gd (nt rd) (W (bV T g) λv=>Gf ev sz ps assign body T C v)
 |_=>none
def MZ (P:Program) (T:PT V) (C:HS) (l:Z ResultVar):Y (Z V) :=
 lr (some []) (λx _ ih=>W (match x with
  |.tmp t=>T.get t
  |.cell a t=>W (ti P t) λi=>W (T.get a) λp=>Ha i C p) λv=>W ih λr=>some (v::r)) l
def jE(nt:Nat)(l:Z V):Nat->PT V->Y (PT V) :=
 lr (λ_ T=>some T) (λv _ k i T=>gd (Nat.blt i nt) (k (i+1) (T.set i v))) l
def xO(l:Z V):V:=lr (.tuple []) (λx t _=>lr x (λ_ _ _=>.tuple l) t) l
def Uq(P:Program)(fn:Func)(r:Ex×PT V×HS):Y (V×HS) :=
 match r.1 with
 |.exit _=>none
 |_=>W (MZ P r.2.1 r.2.2 fn.results.toList) λl=>some (xO l,r.2.2)
def K4(E:Env)(ev:Ev)(f:FuncId)(args:Z V)(C:HS):Y (V×HS) :=
 W (E.P.funcs[f]?) λfn=>W fn.body λc=>W (jE fn.ntmps args 0 .leaf) λT=>W (ev.code false fn.ntmps c T C) λr=>Uq E.P fn r
def rF(E:Env)(n:Nat):Ev :=
 @Nat.rec (λ_=>Ev) { code:=λ_ _ _ _ _=>none,call:=λ_ _ _=>none } (λ_ ev=>{ code:=QQ E ev,call:=K4 E ev }) n
def ziM(E:Env)(n:Nat)(f:FuncId)(args:Z V):Y V :=
 W ((rF E n).call f args ji) λr=>still r.2 r.1
def zrN(f:α->Y β):W none f=none:=rfl
theorem dY(a:α)(f:α->Y β):W (some a) f=f a:=rfl
theorem aA{x:Y α}{f:α->Y β}{b:β}:W x f=some b↔∃ a,x=some a/\f a=some b:=by
 cases x with
 |none=>simp[zrN]
 |some a=>simp[dY]
theorem qY(x:Y β):gd true x=x:=rfl
def zcc(x:Y β):gd false x=none:=rfl
theorem bE{x:Y β}{b:β}:gd c x=some b↔c=true/\x=some b:=by
 cases c with
 |true=>simp[qY]
 |false=>simp[zcc]
theorem iL(x y:α):bi true x y=x:=rfl
theorem gZ(x y:α):bi false x y=y:=rfl
theorem iO(c:Bool)(x y:α):bi c x y=if c=true then x else y:=by cases c<;>rfl
theorem AB(z:β)(f:α->β):vP z f none=z:=rfl
theorem lJ(z:β)(f:α->β)(a:α):vP z f (some a)=f a:=rfl
def zrZ(z:β)(s:Nat->β):nc z s 0=z:=rfl
def zr0(z:β)(s:Nat->β)(n:Nat):nc z s (n+1)=s n:=rfl
def znI(z:β)(c:α->Z α->β->β):lr z c []=z:=rfl
def zsa(z:β)(c:α->Z α->β->β)(x:α)(l:Z α):lr z c (x::l)=c x l (lr z c l):=rfl
theorem Xn(a b:Bool):et a b=(a&&b):=by cases a<;>rfl
def KI(a:Bool):nt a=!a:=by cases a<;>rfl
theorem dx{a b:Bool}:et a b=true↔a=true/\b=true:=by rw[Xn];simp
theorem jN{a:Bool}:nt a=true↔a=false:=by rw[KI];simp
theorem beq_true:Nat.beq a b=true↔a=b:=by rw[Nat.beq_eq]
theorem beq_false:Nat.beq a b=false↔a≠b:=by
 rw[<- Bool.not_eq_true,Nat.beq_eq]
theorem gY:Nat.ble a b=true↔a<=b:=by rw[Nat.ble_eq]
theorem gz:Nat.blt a b=true↔a<b:=by
 simp_all
theorem PN:Nat.ble a b=false↔b<a:=by
 rw[<- Bool.not_eq_true,gY];omega
section lists
def znp(n:Nat):vQ ([]:Z α) n=none:=rfl
def zjm(x:α)(l:Z α):vQ (x::l) 0=some x:=rfl
def zjn(x:α)(l:Z α)(n:Nat):vQ (x::l) (n+1)=vQ l n:=rfl
theorem sI(l:Z α)(n:Nat):vQ l n=l[n]?:=by
 induction l generalizing n with
 |nil=>simp[znp]
 | cons x l ih=>cases n with
   |zero=>simp[zjm]
   |succ n=>simp[zjn,ih]
def YD(l:Z α)(n:Nat)(y:α):VY l n y=l.set n y:=by
 induction l generalizing n with
 |nil=>rfl
 | cons x l ih=>cases n with
   |zero=>rfl
   |succ n=>show x::VY l n y=_;rw[ih];rfl
theorem yx(n:Nat)(l:Z α):KV n l=l.drop n:=by
 induction l generalizing n with
 |nil=>cases n<;>rfl
 | cons x l ih=>cases n with
   |zero=>rfl
   |succ n=>show KV n l=_;rw[ih];rfl
theorem xQ(n:Nat)(l:Z α):Ij n l=l.take n:=by
 induction l generalizing n with
 |nil=>cases n<;>rfl
 | cons x l ih=>cases n with
   |zero=>rfl
   |succ n=>show x::Ij n l=_;rw[ih];rfl
theorem dI(l:Z α):dA l=l.length:=by
 induction l with
 |nil=>rfl
 |cons x l ih=>show dA l+1=_;rw[ih];rfl
theorem oo(l m:Z α):jY l m=l++m:=by
 induction l with
 |nil=>rfl
 |cons x l ih=>show x::jY l m=_;rw[ih];rfl
def YI(x:α)(n:Nat):ziX x n=List.replicate n x:=by
 induction n with
 |zero=>rfl
 |succ n ih=>show x::ziX x n=_;rw[ih];rfl
theorem zg5(n:Nat)(l:Z Nat):Kl n l=true↔n∈l:=by
 induction l with
 |nil=>simp[Kl,znI]
 | cons x l ih =>
   show bi (Nat.beq n x) true (Kl n l)=true↔_
   grind [Nat.beq,iL,beq_true,gZ,beq_false]
theorem uP(l:Z α)(n:Nat)(new:Z α):(kI l n new).length=l.length:=by
 induction l generalizing n new with
 |nil=>rfl
 | cons x l ih=>cases n with
   | zero=>cases new with
     |nil=>rfl
     |cons y ys=>show (y::kI l 0 ys).length=_;simp[ih]
   |succ n=>show (x::kI l n new).length=_;simp[ih]
theorem Fw (l:Z α) (n:Nat) (new:Z α) (i:Nat) (hi:i<l.length) :
 (kI l n new)[i]?=if n<=i/\i<n+new.length then new[i-n]? else l[i]?:=by
 induction l generalizing n new i with
 |nil=>simp at hi
 | cons x l ih=>cases n with
   | zero=>cases new with
     |nil=>show (x::l)[i]?=_;simp
     | cons y ys =>
       show (y::kI l 0 ys)[i]?=_
       grind
   | succ n =>
     show (x::kI l n new)[i]?=_
     grind
def zjh(l:Z α)(n:Nat)(new:Z α)(i:Nat)(hi:l.length<=i):(kI l n new)[i]?=none :=
 jR (by rw[uP];exact hi)
def Ml(p:α->Bool)(l:Z α):lr true (λv _ ih=>et (p v) ih) l=true↔∀ v∈l,p v=true:=by
 induction l with
 |nil=>simp[znI]
 |cons x l ih=>rw[zsa,dx,ih];simp
end lists
theorem ZW{l:Z V}:Jy l=true↔∀ v∈l,v.bM=true:=Ml _ l
def zfJ{l:Z V}:cu l=true↔∀ v∈l,v.pure=true:=Ml _ l
theorem NV{l:Z V}:Jz l=true↔∀ v∈l,v.mM=true:=Ml _ l
def lI{l:Z (Z V)}:bj n l=true↔∀ e∈l,e.length=n:=by
 refine(Ml (λe:Z V=>Nat.beq (dA e) n) l).trans ?_;simp[beq_true,dI]
namespace PT
def zot(n:Nat):(leaf:PT α).get n=none:=rfl
def EN(l r:PT α)(v:Y α):(node l v r).get 0=v:=rfl
theorem wD(l r:PT α)(v:Y α)(m:Nat):(node l v r).get (m+1)=if m % 2=0 then l.get (m / 2)else r.get (m / 2):=by
 show bi (Nat.beq (m % 2) 0) (l.get (m / 2)) (r.get (m / 2))=_
 grind [beq_true,iL,beq_false,gZ]
def zjc{t:PT α}:∃ l v r,(∀ (β:Type) (f:PT α->Y α->PT α->β),t.parts f=f l v r)/\(∀ k,t.get k=(node l v r).get k):=by
 cases t with
 | leaf=>exact⟨leaf,none,leaf,λ_ _=>rfl,λk=>by cases k with
   |zero=>rfl
   |succ m=>rw[wD];simp[zot]⟩
 |node l v r=>exact⟨l,v,r,λ_ _=>rfl,λ_=>rfl⟩
theorem zmN (d:Nat):∀ (t:PT α) (n:Nat) (x:α) (k:Nat),n<d->(Th d t n x).get k=if k=n then some x else t.get k:=by
 induction d with
 |zero=>intro t n x k h;omega
 | succ d ih =>
   intro t n x k h;obtain⟨l,v,r,hp,hg⟩:=zjc (t:=t)
   have C:Th (d+1) t n x=nc (node l (some x) r) (λm=>bi (Nat.beq (m % 2) 0) (node (Th d l (m / 2) x) v r) (node l v (Th d r (m / 2) x))) n :=
    hp _ (λl v r=>nc (node l (some x) r) (λm=>bi (Nat.beq (m % 2) 0) (node (Th d l (m / 2) x) v r) (node l v (Th d r (m / 2) x))) n)
   rw[C,hg k]
   cases n with
   | zero=>rw[zrZ];cases k with
     |zero=>simp[EN]
     |succ m=>rw[wD,wD];simp
   | succ m =>
     rw[zr0];have hm:m / 2<d:=by omega
     by_cases O:m % 2=0
     . rw[beq_true.2 O,iL]
       cases k with
       |zero=>simp[EN]
       | succ j =>
         grind [wD]
     . rw[beq_false.2 O,gZ]
       cases k with
       |zero=>simp[EN]
       | succ j =>
         grind [wD]
def cK(t:PT α)(n:Nat)(x:α)(k:Nat):(t.set n x).get k=if k=n then some x else t.get k:=zmN (n+1) t n x k (iZ n)
end PT
theorem ma(C:HS)(id:Nat)(o:Obj)(k:Nat):(C.put id o).H.get k=if k=id then some o else C.H.get k:=PT.cK _ _ _ _
theorem Ey(C:HS)(id:Nat)(o:Obj)(k:Nat):(C.wr id o).H.get k=if k=id then some o else C.H.get k:=PT.cK _ _ _ _
structure MI where
 b:Nat
 size:Nat
 total:Nat
section
variable (I:Nat->Value)
inductive fG (w:World) (F:Nat->Prop):V->Value->Prop where
 |bool (b:Bool):fG w F (.bool b) (.bool b)
 |int (k:IntKind) (n:Int):fG w F (.int k n) (.int k n)
 |str (s:ByteArray):fG w F (.str (bytesOf s)) (.string s)
 |c9:fG w F .c9 (.pointer none)
 |aE:fG w F .aE (.slice none 0 0)
 |dj:fG w F .dj (.map none)
 |nilFunc:fG w F .nilFunc .nilFunc
 |nilIface:fG w F .nilIface .nilIface
 |sym (k:Nat):fG w F (.sym k) (I k)
 |func (f:FuncId):fG w F (.func f []) (.func (.func f) #[] #[])
 |iface (t:TypeId) (v:V) (y:Value):fG w F v y->fG w F (.iface t v) (.iface t y)
 |ref (cs:List V) (b off:Nat) (ys:Nat->Value):F b->(∀ i v,cs[i]?=some v->w.cell? ⟨b,off+i,none⟩=some (ys i)) ->
  (∀ i v,cs[i]?=some v->fG w F v (ys i))->fG w F (.ref cs) (.pointer (some ⟨b,off,none⟩))
 |po (a:Option Addr) (c:Nat) (t:Bool):(t=true->c=0)->fG w F (.sl [] t) (.slice a 0 c)
 |qe (es:List (List V)) (b off size c:Nat) (t:Bool) (ys:Nat->Nat->Value):F b->(∀ e∈es,e.length=size) ->
  (∀ i e j v,es[i]?=some e->e[j]?=some v->w.cell? ⟨b,off+i*size+j,none⟩=some (ys i j)) ->
  (∀ i e j v,es[i]?=some e->e[j]?=some v->fG w F v (ys i j))->es.length<=c->(t=true->c=es.length) ->
  fG w F (.sl es t) (.slice (some ⟨b,off,none⟩) es.length c)
 |agg (cs:List V) (ys:Array Value):ys.size=cs.length->(∀ i v,cs[i]?=some v->fG w F v (ys.getD i undef))->fG w F (.agg cs) (.agg ys)
 |tuple (cs:List V) (ys:Array Value):ys.size=cs.length->(∀ i v,cs[i]?=some v->fG w F v (ys.getD i undef))->fG w F (.tuple cs) (.tuple ys)
inductive dV (w:World) (F:Nat->Prop) (μ:Nat->Nat->Option MI):V->Value->Prop where
 |pure {v:V} {x:Value}:fG I w F v x->dV w F μ v x
 |ptr (id g off:Nat) (m:MI):μ id g=some m->dV w F μ (.ptr id g off) (.pointer (some ⟨m.b,off,none⟩))
 |own (id g off len:Nat) (cap:Option Nat) (c:Nat) (m:MI):μ id g=some m->len<=c->off+c*m.size<=m.total ->
  (∀ k,cap=some k->c=k)->(cap=none->off+c*m.size=m.total)->dV w F μ (.own id g off len cap) (.slice (some ⟨m.b,off,none⟩) len c)
 |map (id:Nat) (m:MI):μ id 0=some m->dV w F μ (.map id) (.map (some m.b))
 |ly (id:Nat) (m:MI):μ id 0=some m->dV w F μ (.ly id) (.func (.yield m.b) #[] #[])
 |func (f:FuncId) (cs:List V) (ys:Array Value):ys.size=cs.length->(∀ i v,cs[i]?=some v->dV w F μ v (ys.getD i undef))->dV w F μ (.func f cs) (.func (.func f) #[] ys)
 |iface (t:TypeId) (v:V) (y:Value):dV w F μ v y->dV w F μ (.iface t v) (.iface t y)
 |agg (cs:List V) (ys:Array Value):ys.size=cs.length->(∀ i v,cs[i]?=some v->dV w F μ v (ys.getD i undef))->dV w F μ (.agg cs) (.agg ys)
 |tuple (cs:List V) (ys:Array Value):ys.size=cs.length->(∀ i v,cs[i]?=some v->dV w F μ v (ys.getD i undef))->dV w F μ (.tuple cs) (.tuple ys)
def j9{w:World}(h:w'.heap[b]?=w.heap[b]?)(o:Nat):w'.cell? ⟨b,o,none⟩=w.cell? ⟨b,o,none⟩:=by
 simp[World.cell?,h]
theorem fG.mono{w:World}{v:V}(h:fG I w F v x)(hF:∀ b,F b->F' b)(hw:∀ b,F b->w'.heap[b]?=w.heap[b]?) :
 fG I w' F' v x:=by
 induction h with
 |bool b=>exact .bool b
 |int k n=>exact .int k n
 |str s=>exact .str s
 |c9=>exact .c9
 |aE=>exact .aE
 |dj=>exact .dj
 |nilFunc=>exact .nilFunc
 |nilIface=>exact .nilIface
 |sym k=>exact .sym k
 |func f=>exact .func f
 |iface t v y _ ih=>exact .iface t v y ih
 |ref cs b off ys hb hc _ ih=>exact .ref cs b off ys (hF b hb) (λi v hi=>by rw[j9 (hw b hb)];exact hc i v hi) ih
 |po a c t h=>exact .po a c t h
 |qe es b off size c t ys hb hl hc _ M O ih=>exact .qe es b off size c t ys (hF b hb) hl (λi e j v hi hj=>by rw[j9 (hw b hb)];exact hc i e j v hi hj) ih M O
 |agg cs ys C _ ih=>exact .agg cs ys C ih
 |tuple cs ys C _ ih=>exact .tuple cs ys C ih
theorem dV.mono{w:World}{μ μ':Nat->Nat->Y MI}{v:V}(h:dV I w F μ v x)(hF:∀ b,F b->F' b)
 (hw:∀ b,F b->w'.heap[b]?=w.heap[b]?) (hμ:∀ id g m,μ id g=some m->μ' id g=some m):dV I w' F' μ' v x:=by
 induction h with
 |pure hp=>exact .pure (hp.mono I hF hw)
 |ptr id g off m hm=>exact .ptr id g off m (hμ _ _ _ hm)
 |own id g off len cap c m hm M O h3 h4=>exact .own id g off len cap c m (hμ _ _ _ hm) M O h3 h4
 |map id m hm=>exact .map id m (hμ _ _ _ hm)
 |ly id m hm=>exact .ly id m (hμ _ _ _ hm)
 |func f cs ys C _ ih=>exact .func f cs ys C ih
 |iface t v y _ ih=>exact .iface t v y ih
 |agg cs ys C _ ih=>exact .agg cs ys C ih
 |tuple cs ys C _ ih=>exact .tuple cs ys C ih
section inv
variable {w:World}{μ:Nat->Nat->Y MI}
def dV.uE{b:Bool}(h:dV I w F μ (.bool b) x):x=.bool b:=by cases h with|pure h=>cases h;rfl
def dV.lG{n:Int}(h:dV I w F μ (.int k n) x):x=.int k n:=by cases h with|pure h=>cases h;rfl
def dV.BU{l:Z Nat}(h:dV I w F μ (.str l) x):∃ s,x=.string s/\bytesOf s=l:=by
 cases h with|pure h=>cases h with|str s=>exact⟨s,rfl,rfl⟩
def dV.yc{id off:Nat}(h:dV I w F μ (.ptr id g off) x):∃ m,μ id g=some m/\x=.pointer (some ⟨m.b,off,none⟩):=by
 cases h with
 |pure h=>cases h
 |ptr _ _ _ m hm=>exact⟨m,hm,rfl⟩
def dV.wM{id off len:Nat}{cap:Y Nat}(h:dV I w F μ (.own id g off len cap) x) :
 ∃ m c,μ id g=some m/\x=.slice (some ⟨m.b,off,none⟩) len c/\len<=c/\off+c*m.size<=m.total/\(∀ k,cap=some k->c=k)/\(cap=none->off+c*m.size=m.total):=by
 cases h with
 |pure h=>cases h
 |own _ _ _ _ _ c m hm M O h3 h4=>exact⟨m,c,hm,rfl,M,O,h3,h4⟩
def dV.Gm{id:Nat}(h:dV I w F μ (.map id) x):∃ m,μ id 0=some m/\x=.map (some m.b):=by
 cases h with
 |pure h=>cases h
 |map _ m hm=>exact⟨m,hm,rfl⟩
def dV.Mt{id:Nat}(h:dV I w F μ (.ly id) x):∃ m,μ id 0=some m/\x=.func (.yield m.b) #[] #[]:=by
 cases h with
 |pure h=>cases h
 |ly _ m hm=>exact⟨m,hm,rfl⟩
def dV.wQ{cs:Z V}(h:dV I w F μ (.agg cs) x) :
 ∃ ys:Array Value,x=.agg ys/\ys.size=cs.length/\∀ i v,cs[i]?=some v->dV I w F μ v (ys.getD i undef):=by
 cases h with
 |pure h=>cases h with|agg _ ys C hc=>exact⟨ys,rfl,C,λi v hi=>.pure (hc i v hi)⟩
 |agg _ ys C hc=>exact⟨ys,rfl,C,hc⟩
def dV.qx{cs:Z V}(h:dV I w F μ (.tuple cs) x) :
 ∃ ys:Array Value,x=.tuple ys/\ys.size=cs.length/\∀ i v,cs[i]?=some v->dV I w F μ v (ys.getD i undef):=by
 cases h with
 |pure h=>cases h with|tuple _ ys C hc=>exact⟨ys,rfl,C,λi v hi=>.pure (hc i v hi)⟩
 |tuple _ ys C hc=>exact⟨ys,rfl,C,hc⟩
def dV.AP{cs:Z V}(h:dV I w F μ (.func f cs) x) :
 ∃ ys:Array Value,x=.func (.func f) #[] ys/\ys.size=cs.length/\∀ i v,cs[i]?=some v->dV I w F μ v (ys.getD i undef):=by
 cases h with
 |pure h=>cases h with|func f=>exact⟨#[],rfl,rfl,λi v hi=>by simp at hi⟩
 |func _ _ ys C hc=>exact⟨ys,rfl,C,hc⟩
def dV.Cx{v:V}(h:dV I w F μ (.iface t v) x):∃ y,x=.iface t y/\dV I w F μ v y:=by
 cases h with
 |pure h=>cases h with|iface _ _ y hy=>exact⟨y,rfl,.pure hy⟩
 |iface _ _ y hy=>exact⟨y,rfl,hy⟩
def dV.Gd{cs:Z V}(h:dV I w F μ (.ref cs) x):fG I w F (.ref cs) x:=by cases h with|pure h=>exact h
def dV.CR{es:Z (Z V)}{t:Bool}(h:dV I w F μ (.sl es t) x):fG I w F (.sl es t) x:=by cases h with|pure h=>exact h
def dV.CO(h:dV I w F μ .aE x):x=.slice none 0 0:=by cases h with|pure h=>cases h;rfl
def dV.LC(h:dV I w F μ .dj x):x=.map none:=by cases h with|pure h=>cases h;rfl
def dV.zeo(h:dV I w F μ .c9 x):x=.pointer none:=by cases h with|pure h=>cases h;rfl
def dV.zbF(h:dV I w F μ .nilFunc x):x=.nilFunc:=by cases h with|pure h=>cases h;rfl
def dV.Nf(h:dV I w F μ .nilIface x):x=.nilIface:=by cases h with|pure h=>cases h;rfl
def dV.CX{v:V}(h:dV I w F μ v x)(hp:v.CX=true):fG I w F v x:=by
 cases h with
 |pure h=>exact h
 |_=>simp[V.CX]at hp
def dV.bM{v:V}(h:dV I w F μ v x)(hp:v.bM=true):fG I w F v x:=by
 cases h with
 |pure h=>exact h
 | func f cs ys C hc=>cases cs with
   | nil => have:ys=#[]:=by simpa using C
            subst this;exact .func f
   |cons _ _=>simp[V.bM,V.CX]at hp
 |iface t v y hy=>exact .iface t v y (dV.CX I hy (by simpa [V.bM]using hp))
 |_=>simp[V.bM,V.CX]at hp
theorem dV.BZ{v:V}(h:dV I w F μ v x)(hp:v.pure=true):fG I w F v x:=by
 cases v with
 | agg cs =>
   obtain⟨ys,rfl,C,hc⟩:=h.wQ;have s8:Jy cs=true:=hp;rw[ZW]at s8;exact .agg cs ys C λi v hi=>dV.bM I (hc i v hi) (s8 v (aC hi))
 |_=>exact dV.bM I h hp
end inv
end
section
variable (I:Nat->Value)(w:World)(F:Nat->Prop)(μ:Nat->Nat->Y MI)
structure zac(m:MI)(size:Nat)(es:List (List V))(exact fz row:Bool):Prop where
 eV:m.size=size
 hlen:∀ e∈es,e.length=size
 cells:∃ cells el,w.heap[m.b]?=some (.cells cells el (0,0))/\cells.size=m.total/\es.length*size<=m.total/\(exact=true->m.total=es.length*size) /\
  ∀ k e j v,es[k]?=some e->e[j]?=some v->∃ y,cells[k*size+j]?=some y/\dV I w F μ v y/\(row=true->fG I w F v y)
 hf:fz=true->F m.b
 hn:fz=false->¬ F m.b
structure zpw(m:MI)(es:List (V×V)):Prop where
 entries:∃ (en:Array MapEntry) (clock:Nat),w.heap[m.b]?=some (.map en clock)/\en.size=es.length /\
  ∀ (i:Nat) (k v:V),es[i]?=some (k,v)->∃ e:MapEntry,en[i]?=some e/\fG I w F k e.key/\fG I w F v e.val
 hn:¬ F m.b
def kH(T:PT V)(tmps:Array Value):Prop:=∀ t v,T.get t=some v->∃ x,tmps[t]?=some x/\dV I w F μ v x
def zK9:Nat->Loop->Prop
 | 0,l=>l.state=.ready/\l.pending=none
 | 1,_=>True
 | 2,l=>l.state=.done/\l.pending=some .ret
 |i+3,l=>l.state=.done/\l.pending=some (.exit i)
structure ztN(m:MI)(sz:Nat)(T:PT V)(ps:List Nat)(assign body:Code)(st:Nat):Prop where
 zCD:∃ l:Loop,w.heap[m.b]?=some (.loop l)/\zK9 st l/\l.params.toList=ps/\l.assign=assign/\l.body=body /\
  kH I w F μ T l.tmps/\sz<=l.tmps.size
 hn:¬ F m.b
def o9(P:Program)(id:Nat):Obj->Prop
 |.arr size gen es exact fz row=>∀ m,μ id gen=some m->zac I w F μ m size es exact fz row
 |.mp es=>∀ m,μ id 0=some m->zpw I w F m es
 |.lp fn T ps assign body st=>∀ m,μ id 0=some m->ztN I w F μ m fn T ps assign body st
abbrev gB:Nat:=1000000
def Gl:Prop:=∀ v,I (gB+v)≠.int .i64 0->F v/\w.cell? ⟨v,0,none⟩=some (I (gB+v))
structure R(P:Program)(C:HS):Prop where
 lt:∀ id g m,μ id g=some m->m.b<w.heap.size
 Bj:∀ b,F b->b<w.heap.size
 obj:∀ id o,C.H.get id=some o->o9 I w F μ P id o
 inj:∀ id jx o o' m m',C.H.get id=some o->C.H.get jx=some o'->μ id o.gen=some m->μ jx o'.gen=some m'->m.b=m'.b->id=jx
 y7:∀ id o,C.H.get id=some o->∀ g,o.gen<g->μ id g=none
 gl:Gl I w F
end
theorem Gl.bw{w:World}(h:Gl I w F)(hf:∀ b,F b->F' b)(hw:∀ b,F b->w'.heap[b]?=w.heap[b]?):Gl I w' F':=λv hv =>
 ⟨hf _ (h v hv).1,(j9 (hw v (h v hv).1) 0).trans (h v hv).2⟩
def zu(C:HS)(μ:Nat->Nat->Y MI)(b:Nat):Prop:=∃ id o m,C.H.get id=some o/\o.fz=false/\μ id o.gen=some m/\m.b=b
def Io(w w':World):Prop:=w'.os=w.os/\w'.tape=w.tape/\w'.output=w.output
def Io.trans{a b c:World}(h:Io a b)(k:Io b c):Io a c:=⟨k.1.trans h.1,k.2.1.trans h.2.1,k.2.2.trans h.2.2⟩
structure Fr(w:World)(F:Nat->Prop)(μ:Nat->Nat->Option MI)(C:HS)(w':World)(F':Nat->Prop)(μ':Nat->Nat->Option MI)(a8:HS):Prop where
 io:Io w w'
 size:w.heap.size<=w'.heap.size
 bw:∀ b,b<w.heap.size->¬ zu C μ b->w'.heap[b]?=w.heap[b]?
 fm:∀ b,F b->F' b
 Ci:∀ b,F' b->F b\/w.heap.size<=b\/zu C μ b
 mm:∀ id g m,μ id g=some m->μ' id g=some m
 own:∀ b,zu a8 μ' b->zu C μ b\/w.heap.size<=b
 hm:∀ id,C.H.get id≠none->a8.H.get id≠none
 sm:∀ id,a8.H.get id=none->∀ g,μ' id g=μ id g
 dm:∀ id,C.H.get id≠none->(∀ g,μ id g=none)->∀ g,μ' id g=none
 mn:∀ id g m,μ' id g=some m->w.heap.size<=m.b\/∃ i j m0,μ i j=some m0/\m0.b=m.b
section
variable {P:Program}{w w'':World}{zFx:Nat->Prop}{μ μ' μ'':Nat->Nat->Y MI}{C a8 zDY:HS}
theorem Fr.refl(w:World)(F:Nat->Prop)(μ:Nat->Nat->Y MI)(C:HS):Fr w F μ C w F μ C :=
 ⟨⟨rfl,rfl,rfl⟩,af _,λ_ _ _=>rfl,λ_ h=>h,λ_ h=>.inl h,λ_ _ _ h=>h,λ_ h=>.inl h,λ_ h=>h,λ_ _ _=>rfl,λ_ _ h=>h,λid g m h=>.inr ⟨id,g,m,h,rfl⟩⟩
theorem Fr.trans(h:Fr w F μ C w' F' μ' a8)(h':Fr w' F' μ' a8 w'' zFx μ'' zDY):Fr w F μ C w'' zFx μ'' zDY where
 io:=h.io.trans h'.io
 size:=aO h.size h'.size
 bw b hb hn:=by
  rw[h'.bw b (bY hb h.size) (λho=>(h.own b ho).elim hn (λqS=>by omega)),h.bw b hb hn]
 fm b hb:=h'.fm b (h.fm b hb)
 Ci b hb:=by
  rcases h'.Ci b hb with M|M|M
  . exact h.Ci b M
  . exact .inr (.inl (aO h.size M))
  . rcases h.own b M with O|O
    . exact .inr (.inr O)
    . exact .inr (.inl O)
 mm id g m hm:=h'.mm _ _ _ (h.mm _ _ _ hm)
 own b hb:=by
  rcases h'.own b hb with M|M
  . exact h.own b M
  . exact .inr (aO h.size M)
 hm id hi:=h'.hm id (h.hm id hi)
 sm id hi g:=by
  have cj:a8.H.get id=none:=aV λcb=>h'.hm id cb hi
  rw[h'.sm id hi g,h.sm id cj g]
 dm id hi hg:=h'.dm id (h.hm id hi) (h.dm id hi hg)
 mn id g m hg:=by
  rcases h'.mn id g m hg with M|⟨i,j,m0,M,O⟩
  . exact .inl (aO h.size M)
  . rcases h.mn i j m0 M with h3|⟨i',j',m1,h3,h4⟩
    . exact .inl (O ▸ h3)
    . exact .inr ⟨i',j',m1,h3,h4.trans O⟩
def R.uR(h:R I w F μ P C)(hF:F b):¬ zu C μ b:=by
 rintro ⟨id,o,m,ho,hf,hm,rfl⟩;have:=h.obj id o ho
 cases o with
 |arr size gen es exact fz row=>exact(this m hm).hn hf hF
 |mp es=>exact(this m hm).hn hF
 |lp fn T ps assign body busy=>exact(this m hm).hn hF
def Fr.rep(h:Fr w F μ C w' F' μ' a8)(hR:R I w F μ P C){v:V}(hx:dV I w F μ v x):dV I w' F' μ' v x :=
 hx.mono I h.fm (λb hb=>h.bw b (hR.Bj b hb) (hR.uR hb)) h.mm
def Fr.zIZ(h:Fr w F μ C w' F' μ' a8)(hR:R I w F μ P C){v:V}(hx:fG I w F v x):fG I w' F' v x :=
 hx.mono I h.fm (λb hb=>h.bw b (hR.Bj b hb) (hR.uR hb))
def Fr.zv1(h:Fr w F μ C w' F' μ' a8)(hR:R I w F μ P C){T:PT V}{a:Array Value}(hT:kH I w F μ T a):kH I w' F' μ' T a:=by
 intro t v hv;obtain⟨x,hx,hr⟩:=hT t v hv;exact⟨x,hx,h.rep hR hr⟩
theorem o9.mono{id:Nat}{o:Obj}(h:o9 I w F μ P id o)(hF:∀ b,F b->F' b)(hw:∀ b,F b->w'.heap[b]?=w.heap[b]?)
 (hμ:∀ id g m,μ id g=some m->μ' id g=some m) (zJD:∀ m,μ' id o.gen=some m->μ id o.gen=some m)
 (hb:∀ m,μ id o.gen=some m->w'.heap[m.b]?=w.heap[m.b]?) (hn:∀ m,μ id o.gen=some m->o.fz=false->¬ F m.b->¬ F' m.b):o9 I w' F' μ' P id o:=by
 cases o with
 | arr size gen es exact fz row =>
   intro m hm;have hE:=zJD m hm;obtain⟨M,O,⟨cells,el,hc,ht,hl,he,b6⟩,h4,h5⟩:=h m hE;refine⟨M,O,⟨cells,el,(hb m hE).trans hc,ht,hl,he,λk e j v hk hj=>?_⟩,λh=>hF _ (h4 h),λh=>hn m hE h (h5 h)⟩;obtain⟨y,hy,hr,hp⟩:=b6 k e j v hk hj;exact⟨y,hy,hr.mono I hF hw hμ,λhr=>(hp hr).mono I hF hw⟩
 | mp es =>
   intro m hm;have hE:=zJD m hm;obtain⟨⟨en,clock,he,C,b6⟩,h5⟩:=h m hE;refine⟨⟨en,clock,(hb m hE).trans he,C,λi k v hi=>?_⟩,hn m hE rfl h5⟩;obtain⟨e,M,O,h3⟩:=b6 i k v hi;exact⟨e,M,O.mono I hF hw,h3.mono I hF hw⟩
 | lp fn T ps assign body busy =>
   intro m hm;have hE:=zJD m hm;obtain⟨⟨l,hl,M,h4,h5,h6,h7,h8⟩,Ft⟩:=h m hE;refine⟨⟨l,(hb m hE).trans hl,M,h4,h5,h6,λt v hv=>?_,h8⟩,hn m hE rfl Ft⟩;obtain⟨x,hx,hr⟩:=h7 t v hv;exact⟨x,hx,hr.mono I hF hw hμ⟩
def R.grow(h:R I w F μ P C)(a8:w.heap.size<=w'.heap.size)(hw:∀ b,b<w.heap.size->w'.heap[b]?=w.heap[b]?):R I w' F μ P C where
 lt id g m hm:=bY (h.lt id g m hm) a8
 Bj b hb:=bY (h.Bj b hb) a8
 obj id o ho:=(h.obj id o ho).mono (λ_ h=>h) (λb hb=>hw b (h.Bj b hb)) (λ_ _ _ h=>h) (λ_ h=>h) (λm hm=>hw m.b (h.lt _ _ _ hm)) (λ_ _ _ h=>h)
 inj:=h.inj
 y7:=h.y7
 gl:=h.gl.bw (λ_ h=>h) λb hb=>hw b (h.Bj b hb)
end
def sA(μ:Nat->Nat->Y MI)(id g:Nat)(m:MI):Nat->Nat->Y MI:=λi j=>if i=id/\j=g then some m else μ i j
def cX(μ:Nat->Nat->Y MI)(id g:Nat)(m:MI):sA μ id g m id g=some m:=by simp[sA]
def kr{μ:Nat->Nat->Y MI}{id:Nat}{m:MI}{i j:Nat}(h:¬ (i=id/\j=g)):sA μ id g m i j=μ i j:=by simp[sA,h]
def qL(w:World)(B:_root_.Go.Obj):World:={ w with heap:=w.heap.push B }
def nQ(w:World)(B:_root_.Go.Obj):(qL w B).heap.size=w.heap.size+1:=by simp[qL]
def qp(w:World)(B:_root_.Go.Obj)(h:b<w.heap.size):(qL w B).heap[b]?=w.heap[b]?:=by
 simp[qL,nG,Nat.ne_of_lt h]
def uI(w:World)(B:_root_.Go.Obj):(qL w B).heap[w.heap.size]?=some B:=by simp[qL]
section
variable {P:Program}{w:World}{μ:Nat->Nat->Y MI}{C a8:HS}
def O7{id:Nat}{o:Obj}(hH:∀ k,a8.H.get k=if k=id then some o else C.H.get k)(i:Nat)(hi:C.H.get i≠none):a8.H.get i≠none:=by
 rw[hH];split
 . simp
 . exact hi
def R.alloc (h:R I w F μ P C) {id:Nat} (fy:C.H.get id=none) (lA:∀ g,μ id g=none) {o:Obj} (hg:o.gen=0) (hz:o.fz=false)
 {m:MI} (b8:w.heap.size<=m.b) (cC:m.b<w'.heap.size) (hw:∀ b,b<w.heap.size->w'.heap[b]?=w.heap[b]?)
 (hH:∀ k,a8.H.get k=if k=id then some o else C.H.get k)
 (ho:o9 I w' F (sA μ id 0 m) P id o) (CH:Io w w':=by exact⟨rfl,rfl,rfl⟩):R I w' F (sA μ id 0 m) P a8/\Fr w F μ C w' F (sA μ id 0 m) a8:=by
 have tz:∀ i g m',μ i g=some m'->sA μ id 0 m i g=some m':=by
  intro i g m' hm;rw[kr];exact hm;rintro ⟨rfl,rfl⟩;rw[lA]at hm;cases hm
 have gj:∀ i g m',i≠id->sA μ id 0 m i g=some m'->μ i g=some m':=by
  intro i g m' cb hm
  rwa [kr (λe=>cb e.1)]at hm
 have sE:∀ g m',sA μ id 0 m id g=some m'->g=0/\m'=m:=by
  intro g m' hm;by_cases e:g=0
  . subst e;rw[cX]at hm;exact⟨rfl,(bS hm).symm⟩
  . rw[kr (λx=>e x.2),lA]at hm;cases hm
 have eV:w.heap.size<=w'.heap.size:=by omega
 refine⟨⟨?_,?_,?_,?_,?_,h.gl.bw (λ_ h=>h) λb hb=>hw b (h.Bj b hb)⟩,⟨CH,eV,λb hb _=>hw b hb,λ_ h=>h,λ_ h=>.inl h,tz,?_,?_,?_,?_,?_⟩⟩
 . intro i g m' hm;by_cases e:i=id
   . subst e;obtain⟨_,rfl⟩:=sE g m' hm;exact cC
   . exact bY (h.lt i g m' (gj i g m' e hm)) eV
 . intro b hb;exact bY (h.Bj b hb) eV
 . intro i o' h1;rw[hH]at h1;by_cases e:i=id
   . subst e;rw[if_pos rfl]at h1;cases h1;exact ho
   . rw[if_neg e]at h1;exact(h.obj i o' h1).mono (λ_ h=>h) (λb hb=>hw b (h.Bj b hb)) tz (λm' hm=>gj _ _ _ e hm) (λm' hm=>hw _ (h.lt _ _ _ hm)) (λ_ _ _ h=>h)
 . intro i j o1 o2 m1 m2 M O eg jz he;rw[hH]at M O;by_cases ei:i=id
   . subst ei;obtain⟨_,rfl⟩:=sE _ _ eg;by_cases ej:j=i
     . exact ej.symm
     . have:=h.lt _ _ _ (gj _ _ _ ej jz);omega
   . by_cases ej:j=id
     . subst ej;obtain⟨_,rfl⟩:=sE _ _ jz;have:=h.lt _ _ _ (gj _ _ _ ei eg);omega
     . rw[if_neg ei]at M;rw[if_neg ej]at O;exact h.inj i j o1 o2 m1 m2 M O (gj _ _ _ ei eg) (gj _ _ _ ej jz) he
 . intro i o' h1 g Pa;rw[hH]at h1;by_cases e:i=id
   . subst e;rw[if_pos rfl]at h1;cases h1;rw[kr (λx=>by omega)];exact lA g
   . rw[if_neg e]at h1;rw[kr (λx=>e x.1)];exact h.y7 i o' h1 g Pa
 . rintro b ⟨i,o',m',h1,hf,eR,rfl⟩;rw[hH]at h1;by_cases e:i=id
   . subst e;obtain⟨_,rfl⟩:=sE _ _ eR;exact .inr b8
   . rw[if_neg e]at h1;exact .inl ⟨i,o',m',h1,hf,gj _ _ _ e eR,rfl⟩
 . intro i hi;rw[hH];split
   . simp
   . exact hi
 . intro i hi g;rw[hH]at hi;split at hi
   . cases hi
   . rename_i e;exact kr (λx=>e x.1)
 . intro i hi hg g;rw[kr (λx=>hi (by rw[x.1];exact fy))];exact hg g
 . intro i g m' eR;by_cases e:i=id
   . subst e;obtain⟨_,rfl⟩:=sE _ _ eR;exact .inl b8
   . exact .inr ⟨i,g,m',gj _ _ _ e eR,rfl⟩
theorem R.write(h:R I w F μ P C){id:Nat}{o o':Obj}(de:C.H.get id=some o)(hz:o.fz=false){m:MI}(hm:μ id o.gen=some m)(hg:o'.gen=o.gen)(HE:o'.fz=false)
 (b8:w'.heap.size=w.heap.size) (hw:∀ b,b≠m.b->w'.heap[b]?=w.heap[b]?) (hH:∀ k,a8.H.get k=if k=id then some o' else C.H.get k)
 (ho:o9 I w' F μ P id o') (CH:Io w w':=by exact⟨rfl,rfl,rfl⟩):R I w' F μ P a8/\Fr w F μ C w' F μ a8:=by
 have pN:zu C μ m.b:=⟨id,o,m,de,hz,hm,rfl⟩;have u5:¬ F m.b:=λhF=>h.uR hF pN
 have hF:∀ b,F b->w'.heap[b]?=w.heap[b]?:=λb hb=>hw b (λe=>u5 (e ▸ hb))
 refine⟨⟨?_,?_,?_,?_,?_,h.gl.bw (λ_ h=>h) hF⟩,⟨CH,by omega,λb _ hb=>hw b (λe=>hb (e ▸ pN)),λ_ h=>h,λ_ h=>.inl h,λ_ _ _ h=>h,?_,O7 hH,λ_ _ _=>rfl,λ_ _ h=>h,λi g m1 M=>.inr ⟨i,g,m1,M,rfl⟩⟩⟩
 . intro i g m' eR;rw[b8];exact h.lt i g m' eR
 . intro b hb;rw[b8];exact h.Bj b hb
 . intro i o1 M;rw[hH]at M;by_cases e:i=id
   . grind
   . rw[if_neg e]at M;exact(h.obj i o1 M).mono (λ_ h=>h) hF (λ_ _ _ h=>h) (λ_ h=>h) (λm1 eg=>hw _ (λe'=>e (h.inj i id o1 o m1 m M de eg hm e'))) (λ_ _ _ h=>h)
 . intro i j o1 o2 m1 m2 M O eg jz he;rw[hH]at M O
   have key:∀ k ok mk,(if k=id then some o' else C.H.get k)=some ok->μ k ok.gen=some mk->∃ ok',C.H.get k=some ok'/\μ k ok'.gen=some mk:=by
    grind
   obtain⟨a1,ha1,HN⟩:=key i o1 m1 M eg;obtain⟨a2,ZD,pZ⟩:=key j o2 m2 O jz;exact h.inj i j a1 a2 m1 m2 ha1 ZD HN pZ he
 . intro i o1 M g Pa;rw[hH]at M;by_cases e:i=id
   . subst e;rw[if_pos rfl]at M;cases M;exact h.y7 i o de g (by omega)
   . rw[if_neg e]at M;exact h.y7 i o1 M g Pa
 . rintro b ⟨i,o1,m1,M,hf,eg,rfl⟩;rw[hH]at M;by_cases e:i=id
   . subst e;rw[if_pos rfl]at M;cases M;rw[hg]at eg;exact .inl ⟨i,o,m1,de,hz,eg,rfl⟩
   . rw[if_neg e]at M;exact .inl ⟨i,o1,m1,M,hf,eg,rfl⟩
def R.next (h:R I w F μ P C) {id:Nat} {o o':Obj} (de:C.H.get id=some o) (hz:o.fz=false) {m m':MI} (hm:μ id o.gen=some m) (hg:o'.gen=o.gen+1) (HE:o'.fz=false)
 (b8:w.heap.size<=w'.heap.size) (cC:m'.b<w'.heap.size) (hb:m'.b=m.b\/w.heap.size<=m'.b) (hw:∀ b,b<w.heap.size->b≠m.b->w'.heap[b]?=w.heap[b]?)
 (hH:∀ k,a8.H.get k=if k=id then some o' else C.H.get k)
 (ho:o9 I w' F (sA μ id (o.gen+1) m') P id o') (CH:Io w w':=by exact⟨rfl,rfl,rfl⟩):R I w' F (sA μ id (o.gen+1) m') P a8/\Fr w F μ C w' F (sA μ id (o.gen+1) m') a8:=by
 have pN:zu C μ m.b:=⟨id,o,m,de,hz,hm,rfl⟩;have u5:¬ F m.b:=λhF=>h.uR hF pN
 have hF:∀ b,F b->w'.heap[b]?=w.heap[b]?:=λb hb=>hw b (h.Bj b hb) (λe=>u5 (e ▸ hb))
 have kq:μ id (o.gen+1)=none:=h.y7 id o de _ (by omega)
 have tz:∀ i g m1,μ i g=some m1->sA μ id (o.gen+1) m' i g=some m1:=by
  intro i g m1 eg;rw[kr];exact eg;rintro ⟨rfl,rfl⟩;rw[kq]at eg;cases eg
 have gj:∀ i g m1,i≠id->sA μ id (o.gen+1) m' i g=some m1->μ i g=some m1:=by
  intro i g m1 cb M
  rwa [kr (λe=>cb e.1)]at M
 have bc:∀ m1,sA μ id (o.gen+1) m' id o'.gen=some m1->m1=m':=by
  intro m1 M;rw[hg,cX]at M;exact(bS M).symm
 refine⟨⟨?_,?_,?_,?_,?_,h.gl.bw (λ_ h=>h) hF⟩,⟨CH,b8,λb cC hb=>hw b cC (λe=>hb (e ▸ pN)),λ_ h=>h,λ_ h=>.inl h,tz,?_,O7 hH,?_,?_,?_⟩⟩
 . intro i g m1 eg;by_cases e:i=id/\g=o.gen+1
   . obtain⟨rfl,rfl⟩:=e;rw[cX]at eg;cases eg;exact cC
   . rw[kr e]at eg;exact bY (h.lt i g m1 eg) b8
 . intro b hb;exact bY (h.Bj b hb) b8
 . intro i o1 M;rw[hH]at M;by_cases e:i=id
   . subst e;rw[if_pos rfl]at M;cases M;exact ho
   . rw[if_neg e]at M;exact(h.obj i o1 M).mono (λ_ h=>h) hF tz (λm1 eg=>gj _ _ _ e eg) (λm1 eg=>hw _ (h.lt _ _ _ eg) (λe'=>e (h.inj i id o1 o m1 m M de eg hm e'))) (λ_ _ _ h=>h)
 . intro i j o1 o2 m1 m2 M O eg jz he;rw[hH]at M O;by_cases ei:i=id
   . subst ei;rw[if_pos rfl]at M;cases M;have e1:=bc _ eg;subst e1;by_cases ej:j=i
     . exact ej.symm
     . rw[if_neg ej]at O;have LO:=gj _ _ _ ej jz;have hl:=h.lt _ _ _ LO;rcases hb with hb|hb
       . exact(h.inj j i o2 o m2 m O de LO hm (by omega)).symm
       . omega
   . by_cases ej:j=id
     . subst ej;rw[if_pos rfl]at O;cases O;have e1:=bc _ jz;subst e1;rw[if_neg ei]at M;have vj:=gj _ _ _ ei eg;have hl:=h.lt _ _ _ vj;rcases hb with hb|hb
       . exact h.inj i j o1 o m1 m M de vj hm (by omega)
       . omega
     . rw[if_neg ei]at M;rw[if_neg ej]at O;exact h.inj i j o1 o2 m1 m2 M O (gj _ _ _ ei eg) (gj _ _ _ ej jz) he
 . intro i o1 M g Pa;rw[hH]at M;by_cases e:i=id
   . subst e;rw[if_pos rfl]at M;cases M;rw[kr (λx=>by omega)];exact h.y7 i o de g (by omega)
   . rw[if_neg e]at M;rw[kr (λx=>e x.1)];exact h.y7 i o1 M g Pa
 . rintro b ⟨i,o1,m1,M,hf,eg,rfl⟩;rw[hH]at M;by_cases e:i=id
   . subst e;rw[if_pos rfl]at M;cases M;have e1:=bc _ eg;subst e1;rcases hb with hb|hb
     . exact .inl (hb ▸ pN)
     . exact .inr hb
   . rw[if_neg e]at M;exact .inl ⟨i,o1,m1,M,hf,gj _ _ _ e eg,rfl⟩
 . intro i hi g;rw[hH]at hi;split at hi
   . cases hi
   . rename_i e;exact kr (λx=>e x.1)
 . intro i _ hg g;rw[kr];exact hg g;rintro ⟨rfl,_⟩;rw[hg]at hm;cases hm
 . intro i g m1 eg;by_cases e:i=id/\g=o.gen+1
   . obtain⟨rfl,rfl⟩:=e;rw[cX]at eg;cases eg;rcases hb with hb|hb
     . exact .inr ⟨_,_,m,hm,hb.symm⟩
     . exact .inl hb
   . rw[kr e]at eg;exact .inr ⟨i,g,m1,eg,rfl⟩
theorem R.freeze(h:R I w F μ P C){id size gen:Nat}{es:Z (Z V)}{exact fz row:Bool}(de:C.H.get id=some (.arr size gen es exact fz row))
 (hH:∀ k,a8.H.get k=if k=id then some (.arr size gen es exact true row)else C.H.get k) :
 R I w (λb=>F b\/∃ m,μ id gen=some m/\b=m.b) μ P a8/\Fr w F μ C w (λb=>F b\/∃ m,μ id gen=some m/\b=m.b) μ a8:=by
 have key:∀ k ok mk,(if k=id then some (Obj.arr size gen es exact true row)else C.H.get k)=some ok->μ k ok.gen=some mk->∃ ok',C.H.get k=some ok'/\μ k ok'.gen=some mk/\(ok.fz=false->ok'.fz=false/\k≠id):=by
  intro k ok mk hk FA;by_cases e:k=id
  . subst e;rw[if_pos rfl]at hk;cases hk;exact⟨_,de,FA,λhf=>by cases hf⟩
  grind
 refine⟨⟨?_,?_,?_,?_,?_,h.gl.bw (λ_ h=>.inl h) λ_ _=>rfl⟩,⟨⟨rfl,rfl,rfl⟩,af _,λ_ _ _=>rfl,λ_ h=>.inl h,?_,λ_ _ _ h=>h,?_,O7 hH,λ_ _ _=>rfl,λ_ _ h=>h,λi g m1 M=>.inr ⟨i,g,m1,M,rfl⟩⟩⟩
 . exact h.lt
 . intro b hb;rcases hb with hb|⟨m,hm,rfl⟩
   . exact h.Bj b hb
   . exact h.lt _ _ _ hm
 . intro i o1 M;rw[hH]at M;by_cases e:i=id
   . subst e;rw[if_pos rfl]at M;cases M;intro m hm;obtain⟨M,O,⟨cells,el,hc,ht,hl,he,b6⟩,h4,h5⟩:=h.obj _ _ de m hm;refine⟨M,O,⟨cells,el,hc,ht,hl,he,λk e j v hk hj=>?_⟩,λ_=>.inr ⟨m,hm,rfl⟩,λhf=>by cases hf⟩;obtain⟨y,hy,hr,hp⟩:=b6 k e j v hk hj;exact⟨y,hy,hr.mono I (λ_ h=>.inl h) (λ_ _=>rfl) (λ_ _ _ h=>h),λhr=>(hp hr).mono I (λ_ h=>.inl h) (λ_ _=>rfl)⟩
   . rw[if_neg e]at M;refine(h.obj i o1 M).mono (λ_ h=>.inl h) (λ_ _=>rfl) (λ_ _ _ h=>h) (λ_ h=>h) (λ_ _=>rfl) ?_;rintro m1 eg hf u5 (hF|⟨m,hm,hb⟩)
     . exact u5 hF
     . exact e (h.inj i id o1 _ m1 m M de eg hm hb)
 . intro i j o1 o2 m1 m2 M O eg jz he;rw[hH]at M O;obtain⟨a1,ha1,HN,_⟩:=key i o1 m1 M eg;obtain⟨a2,ZD,pZ,_⟩:=key j o2 m2 O jz;exact h.inj i j a1 a2 m1 m2 ha1 ZD HN pZ he
 . intro i o1 M g Pa;rw[hH]at M;by_cases e:i=id
   . subst e;rw[if_pos rfl]at M;cases M;exact h.y7 i _ de g Pa
   . rw[if_neg e]at M;exact h.y7 i o1 M g Pa
 . rintro b (hF|⟨m,hm,rfl⟩)
   . exact .inl hF
   . cases fz with
     |true=>exact .inl ((h.obj _ _ de m hm).hf rfl)
     |false=>exact .inr (.inr ⟨id,_,m,de,rfl,hm,rfl⟩)
 . rintro b ⟨i,o1,m1,M,hf,eg,rfl⟩;rw[hH]at M;obtain⟨a1,ha1,HN,B1⟩:=key i o1 m1 M eg;exact .inl ⟨i,a1,m1,ha1,(B1 hf).1,HN,rfl⟩
end
end Go.J
