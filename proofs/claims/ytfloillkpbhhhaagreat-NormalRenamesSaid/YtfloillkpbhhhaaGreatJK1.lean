import GoSem.Step
import GoSem.Dispatch
import Derived.Control
set_option linter.all false
noncomputable section
abbrev Go.J.Z:=@List
abbrev Go.J.Y:=@Option
namespace Go.J
variable {c:Bool}{f:FuncId}{k:IntKind}{a b g n:Nat}{F F':Nat->Prop}{I:Nat->Value}{α β:Type}{t:TypeId}{x:Value}{w':World}
def bS:=@Array.getD_eq_getD_getElem?
def mU:=@Array.getElem?_append_left
def fB:=@Array.getElem?_eq_getElem
def d9:=@Array.getElem?_eq_some_iff
def nQ:=@Array.getElem?_push
def gy:=@Array.getElem?_toList
def jE:=@Array.length_toList
def aW:=@Bool.and_eq_true
def fT:=@Bool.and_true
def dI:=@Bool.eq_iff_iff
def sK:=@Bool.false_and
def lU:=@Bool.false_eq_true
def nk:=@Bool.or_eq_false_iff
def iQ:=@Bool.or_eq_true
def gG:=@Bool.true_and
def aY:=@Classical.byContradiction
def bE:=@Int.eq_ofNat_of_zero_le
def fM:=@Int.le_refl
def bO:=@Int.toNat_natCast
def nP:=@List.Pairwise.imp_of_mem
def iG:=@List.all_cons
def au:=@List.all_eq_true
def w9:=@List.all_map
def rQ:=@List.all_nil
def qD:=@List.any_cons
def uj:=@List.any_eq_false
def dN:=@List.any_eq_true
def fA:=@List.append_assoc
def oo:=@List.append_cancel_left
def fq:=@List.append_nil
def dx:=@List.cons_append
def aG:=@List.drop_eq_getElem_cons
def bz:=@List.drop_length
def sJ:=@List.drop_zero
def bV:=@List.eq_nil_of_length_eq_zero
def cK:=@List.exists_cons_of_ne_nil
def o8:=@List.ext_getElem?
def ky:=@List.foldl_cons
def jY:=@List.getElem?_append_left
def eU:=@List.getElem?_append_right
def og:=@List.getElem?_cons_succ
def oL:=@List.getElem?_drop
def az:=@List.getElem?_eq_getElem
def jS:=@List.getElem?_eq_none
def aM:=@List.getElem?_eq_some_iff
def bC:=@List.getElem?_map
def qC:=@List.getElem?_of_mem
def mR:=@List.getElem?_set
def r9:=@List.getElem?_take
def jZ:=@List.getElem_append_right
def iD:=@List.getElem_map
def ax:=@List.getElem_mem
def aR:=@List.length_append
def aL:=@List.length_cons
def wm:=@List.length_drop
def oU:=@List.length_eq_one_iff
def aN:=@List.length_map
def ku:=@List.length_nil
def bR:=@List.length_pos_iff
def rf:=@List.length_reverse
def mI:=@List.length_singleton
def dR:=@List.length_take
def fe:=@List.map_append
def ic:=@List.map_congr_left
def aX:=@List.map_cons
def kU:=@List.map_eq_nil_iff
def gI:=@List.map_map
def iF:=@List.map_nil
def jX:=@List.map_set
def qB:=@List.map_take
def bu:=@List.mem_append
def dQ:=@List.mem_append_left
def eY:=@List.mem_append_right
def ay:=@List.mem_cons
def aD:=@List.mem_cons_of_mem
def aB:=@List.mem_cons_self
def jf:=@List.mem_iff_getElem?
def aF:=@List.mem_map
def aI:=@List.mem_of_getElem?
def ni:=@List.mem_of_mem_drop
def fQ:=@List.mem_of_mem_take
def iX:=@List.mem_or_eq_of_mem_set
def dh:=@List.mem_range
def ag:=@List.mem_singleton
def gL:=@List.nil_append
def ug:=@List.nodup_append
def gK:=@List.nodup_cons
def jP:=@List.nodup_nil
def gQ:=@List.nodup_range
def aU:=@List.not_mem_nil
def q9:=@List.reverse_append
def qA:=@List.reverse_reverse
def je:=@List.set_append_right
def mH:=@List.singleton_append
def dS:=@List.take_add_one
def gm:=@List.take_length
def aP:=@List.take_of_length_le
def df:=@List.take_succ_eq_append_getElem
def eH:=@Nat.add_assoc
def nD:=@Nat.add_comm
def gJ:=@Nat.add_mul
def ma:=@Nat.div_add_mod
def wh:=@Nat.div_eq_of_lt
def jb:=@Nat.eq_of_beq_eq_true
def fG:=@Nat.le_add_right
def iP:=@Nat.le_max_left
def jO:=@Nat.le_max_right
def dG:=@Nat.le_of_lt
def af:=@Nat.le_refl
def mQ:=@Nat.le_succ
def aO:=@Nat.le_trans
def cu:=@Nat.lt_of_lt_of_le
def jN:=@Nat.lt_of_not_le
def oK:=@Nat.lt_or_gt_of_ne
def ji:=@Nat.lt_succ_self
def vZ:=@Nat.mod_eq_of_lt
def jW:=@Nat.mul_comm
def kT:=@Nat.mul_le_mul_left
def aQ:=@Nat.mul_le_mul_right
def wZ:=@Nat.mul_succ
def l9:=@Nat.not_lt_zero
def bf:=@Nat.not_succ_le_self
def iW:=@Nat.sub_self
def fV:=@Nat.zero_add
def aZ:=@Nat.zero_le
def eD:=@Option.getD_some
def bQ:=@Option.isSome_iff_exists
def bH:=@Option.map_eq_some_iff
def lZ:=@Option.map_none
def kr:=@Option.map_some
def bT:=@Option.some.inj
def o7:=@Option.some.injEq
def iB:=@Option.toList_some
def uf:=@Prod.ext
def cO:=@Prod.mk.inj
def bi(c:Bool)(x y:α):α:=@Bool.rec (λ_=>α) y x c
def ob(x:Y α)(f:α->Y β):Y β:=@Option.rec α (λ_=>Y β) none f x
def u6(z:β)(f:α->β)(x:Y α):β:=@Option.rec α (λ_=>β) z f x
def gd(c:Bool)(x:Y β):Y β:=@Bool.rec (λ_=>Y β) none x c
def lr(z:β)(c:α->Z α->β->β)(l:Z α):β:=@List.rec α (λ_=>β) z c l
def nc(z:β)(s:Nat->β)(n:Nat):β:=@Nat.rec (λ_=>β) z (λm _=>s m) n
def nr(z:β)(s:Nat->β->β)(n:Nat):β:=@Nat.rec (λ_=>β) z s n
def et(a b:Bool):Bool:=@Bool.rec (λ_=>Bool) false b a
def nt(a:Bool):Bool:=@Bool.rec (λ_=>Bool) true false a
inductive V where
 |bool (b:Bool)
 |int (k:IntKind) (n:Int)
 |str (s:List Nat)
 |de
 |ptr (id gen off:Nat)
 |ref (cs:List V)
 |a8
 |sl (es:List (List V)) (tight:Bool)
 |own (id gen off len:Nat) (cap:Option Nat)
 |dy
 |map (id:Nat)
 |nilFunc
 |func (f:FuncId) (captured:List V)
 |lx (id:Nat)
 |nilIface
 |iface (t:TypeId) (v:V)
 |agg (cs:List V)
 |tuple (vs:List V)
 |sym (k:Nat)
 deriving Inhabited
inductive PT (α:Type) where
 |leaf
 |node (l:PT α) (v:Option α) (r:PT α)
namespace PT
def get(t:PT α):Nat->Y α :=
 @PT.rec α (λ_=>Nat->Y α) (λ_=>none) (λ_ v _ gl gr n=>nc v (λm=>bi (Nat.beq (m % 2) 0) (gl (m / 2)) (gr (m / 2))) n) t
def parts(t:PT α)(f:PT α->Y α->PT α->β):β:=@PT.rec α (λ_=>β) (f leaf none leaf) (λl v r _ _=>f l v r) t
def ze2 (d:Nat):PT α->Nat->α->PT α :=
 @Nat.rec (λ_=>PT α->Nat->α->PT α) (λt _ _=>t)
  (λ_ ih t n x=>t.parts λl v r=>nc (node l (some x) r) (λm=>bi (Nat.beq (m % 2) 0) (node (ih l (m / 2) x) v r) (node l v (ih r (m / 2) x))) n) d
def set(t:PT α)(n:Nat)(x:α):PT α:=ze2 (n+1) t n x
end PT
inductive Obj where
 |arr (size gen:Nat) (es:List (List V)) (exact frozen row:Bool)
 |mp (es:List (V×V))
 |lp (fn:FuncId) (T:PT V) (ps:List Nat) (assign body:Code) (st:Nat)
structure HS where
 H:PT Obj
 n:Nat
 log:List Nat
def HS.put(C:HS)(id:Nat)(o:Obj):HS:={ H:=C.H.set id o,n:=C.n,log:=C.log }
def HS.wr(C:HS)(id:Nat)(o:Obj):HS:={ H:=C.H.set id o,n:=C.n,log:=id::C.log }
structure TI where
 desc:TypeDesc
 size:Nat
 bytes:Nat
 zero:List V
 qV:Bool
def bytesOf(s:ByteArray):Z Nat:=s.data.toList.map UInt8.toNat
def Jw:Value->Y V
 |.bool b=>some (.bool b)
 |.int k n=>some (.int k n)
 |.string s=>some (.str (bytesOf s))
 |.pointer none=>some .de
 |.slice none 0 0=>some .a8
 |.map none=>some .dy
 |.nilFunc=>some .nilFunc
 |.nilIface=>some .nilIface
 |_=>none
def Ad(l:Z Value):Y (Z V) :=
 lr (some []) (λx _ ih=>ob (Jw x) λv=>ob ih λr=>some (v::r)) l
def ofConst:Value->Y V
 |.agg cs=>ob (Ad cs.toList) λl=>some (.agg l)
 |v=>Jw v
def V.cells:V->Z V
 |.agg cs=>cs
 |v=>[v]
def V.mY:V->Bool
 |.agg _=>false
 |.tuple _=>false
 |_=>true
def Ka(l:Z V):Bool:=lr true (λv _ ih=>et v.mY ih) l
def V.Dw:V->Bool
 |.bool _|.int _ _|.str _|.de|.ref _|.a8|.sl _ _|.dy|.nilFunc|.nilIface|.sym _=>true
 |_=>false
def V.bN:V->Bool
 |.iface _ v=>v.Dw
 |.func _ []=>true
 |v=>v.Dw
def J9(l:Z V):Bool:=lr true (λv _ ih=>et v.bN ih) l
def V.pure:V->Bool
 |.agg cs=>J9 cs
 |v=>v.bN
def bX(l:Z V):Bool:=lr true (λv _ ih=>et v.pure ih) l
def wu(l:Z α):Nat->Y α:=lr (λ_=>none) (λx _ ih n=>nc (some x) ih n) l
def Xm(l:Z α):Nat->α->Z α:=lr (λ_ _=>[]) (λx t ih n y=>nc (y::t) (λm=>x::ih m y) n) l
def LC(n:Nat)(l:Z α):Z α:=lr (β:=Nat->Z α) (λ_=>[]) (λx t ih n=>nc (x::t) ih n) l n
def I7(n:Nat)(l:Z α):Z α:=lr (β:=Nat->Z α) (λ_=>[]) (λx _ ih n=>nc [] (λm=>x::ih m) n) l n
def dB(l:Z α):Nat:=lr 0 (λ_ _ ih=>ih+1) l
def kF(l:Z α)(n:Nat)(new:Z α):Z α :=
 lr (β:=Nat->Z α->Z α) (λ_ _=>[]) (λx t ih n new=>nc (lr (x::t) (λy ys _=>y::ih 0 ys) new) (λm=>x::ih m new) n) l n new
def kg(l m:Z α):Z α:=lr m (λx _ ih=>x::ih) l
def zj7(x:α)(n:Nat):Z α:=nr [] (λ_ ih=>x::ih) n
def KX(n:Nat)(l:Z Nat):Bool:=lr false (λx _ ih=>bi (Nat.beq n x) true ih) l
def OG(l:Z Nat):Z Nat->Bool :=
 lr (λm=>lr true (λ_ _ _=>false) m) (λa _ ih m=>lr false (λb y _=>et (Nat.beq a b) (ih y)) m) l
def KY(l:Z Nat):Z Nat->Bool :=
 lr (λm=>lr false (λ_ _ _=>true) m) (λa _ ih m=>lr false (λb y _=>bi (Nat.blt a b) true (et (Nat.beq a b) (ih y))) m) l
def H8(k:IntKind)(n:Int):Int :=
 match k,n with
 |.i64,.ofNat m=>bi (Nat.blt m 9223372036854775808) n (k.wrap n)
 |.i64,.negSucc m=>bi (Nat.blt m 9223372036854775808) n (k.wrap n)
 |_,_=>k.wrap n
def B5:Int->Int->Bool
 |.ofNat a,.ofNat b=>Nat.blt a b
 |.ofNat _,.negSucc _=>false
 |.negSucc _,.ofNat _=>true
 |.negSucc a,.negSucc b=>Nat.blt b a
def ue:Int->Int->Bool
 |.ofNat a,.ofNat b=>Nat.beq a b
 |.negSucc a,.negSucc b=>Nat.beq a b
 |_,_=>false
def leI(a b:Int):Bool:=nt (B5 b a)
def Z3:Int->Y Nat
 |.ofNat a=>some a
 |_=>none
def Vw:IntKind->Nat
 |.i8=>0
 |.i16=>1
 |.i32=>2
 |.i64=>3
 |.u8=>4
 |.u16=>5
 |.u32=>6
 |.u64=>7
def DK(a b:IntKind):Bool:=Nat.beq (Vw a) (Vw b)
def V.bool?:V->Y Bool
 |.bool b=>some b
 |_=>none
def V.int?:V->Y (IntKind×Int)
 |.int k n=>some (k,n)
 |_=>none
def V.nat? (v:V):Y Nat:=ob v.int? λp=>Z3 p.2
def V.s7:V->Y (Z Nat)
 |.str s=>some s
 |_=>none
def V.HT:V->Y (Z V)
 |.agg s=>some s
 |_=>none
def V.o4:V->Y (Z V)
 |.tuple s=>some s
 |_=>none
def Obj.ye:Obj->Y (Nat×Nat×Z (Z V)×Bool×Bool×Bool)
 |.arr a b c d e f=>some (a,b,c,d,e,f)
 |_=>none
def Obj.mp?:Obj->Y (Z (V×V))
 |.mp es=>some es
 |_=>none
def sN:TypeDesc->Y TypeId
 |.slice e=>some e
 |_=>none
def elemOf:TypeDesc->Y (TypeId×Y Nat)
 |.slice e=>some (e,none)
 |.array n e=>some (e,some n)
 |_=>none
def mapOf:TypeDesc->Y (TypeId×TypeId)
 |.map k e=>some (k,e)
 |_=>none
def kP:TypeDesc->Bool
 |.struct _|.array _ _=>true
 |_=>false
def ng(C:HS)(id g:Nat):Y (Nat×Z (Z V)×Bool×Bool×Bool) :=
 ob (C.H.get id) λo=>ob o.ye λa=>gd (et (Nat.beq g a.2.1) (nt (Nat.beq a.1 0))) (some (a.1,a.2.2))
def BU(size off len:Nat)(es:Z (Z V)):Y (Z (Z V)) :=
 gd (et (Nat.beq (off % size) 0) (Nat.ble (off / size+len) (dB es))) (some (I7 len (LC (off / size) es)))
def Jb(C:HS)(id g off len:Nat):Y V :=
 ob (ng C id g) λa=>gd a.2.2.2.2 (ob (BU a.1 off len a.2.1) λl=>some (.sl l false))
def uo(C:HS)(v:V):Y V :=
 match v with
 |.own id g off len _=>Jb C id g off len
 |v=>gd v.bN (some v)
def BM(C:HS)(l:Z V):Y (Z V) :=
 lr (some []) (λv _ ih=>ob (uo C v) λv'=>ob ih λl'=>some (v'::l')) l
def kV(C:HS)(v:V):Y V :=
 match v with
 |.agg cs=>ob (BM C cs) λl=>some (.agg l)
 |v=>uo C v
def mf(C:HS)(l:Z V):Y (Z V) :=
 lr (some []) (λv _ ih=>ob (kV C v) λv'=>ob ih λl'=>some (v'::l')) l
def still(C:HS)(v:V):Y V :=
 match v with
 |.tuple cs=>ob (mf C cs) λl=>some (.tuple l)
 |v=>kV C v
def iO(C:HS)(id:Nat):HS :=
 u6 C (λo=>u6 C (λa=>C.wr id (.arr a.1 a.2.1 a.2.2.1 a.2.2.2.1 true a.2.2.2.2.2)) o.ye) (C.H.get id)
def nU(C:HS)(v:V):HS :=
 match v with
 |.own id _ _ _ _=>iO C id
 |_=>C
def mO(C:HS)(l:Z V):HS:=lr C (λv _ ih=>nU ih v) l
def nE(v:V)(C:HS):Y (V×HS) :=
 ob (kV C v) λv'=>some (v',mO C v.cells)
def kK(l:Z V):HS->Y (Z V×HS) :=
 lr (λC=>some ([],C)) (λv _ ih C=>ob (nE v C) λr=>ob (ih r.2) λq=>some (r.1::q.1,q.2)) l
def zfg(r:V×HS):Y (V×HS) :=
 match r.1 with
 |.tuple vs=>ob (kK vs r.2) λq=>some (.tuple q.1,q.2)
 |v=>nE v r.2
def V.Jj:V->Bool
 |.bool _|.int _ _|.str _|.de|.a8|.dy|.nilFunc|.nilIface=>true
 |_=>false
def zvd(l:Z V):Bool:=lr true (λv _ ih=>et v.Jj ih) l
def V.SP(v:V):Bool :=
 match v with
 |.agg cs=>zvd cs
 |.tuple cs=>zvd cs
 |v=>v.Jj
def bU(T:PT V)(o:Operand):Y V :=
 match o with
 |.tmp t=>T.get t
 |.const v=>ofConst v
 |.func f=>some (.func f [])
 |.global _=>none
def kG(T:PT V)(l:Z Operand):Y (Z V) :=
 lr (some []) (λo _ ih=>ob (bU T o) λv=>ob ih λr=>some (v::r)) l
def zo3(x:Value):Bool :=
 match x with
 |.agg _=>true
 |_=>false
section
variable (P:Program)
def ti (t:TypeId):Y TI :=
 ob (P.info? t) λi=>ob (P.underlying t) λd=>ob i.zero λz=>ob (Ad z.cells.toList) λcs =>
  some { desc:=d,size:=i.size,bytes:=i.bytes,zero:=cs,qV:=zo3 z }
def zqM(size:Nat)(r:Z V):Y V:=gd (Nat.beq (dB r) size) (some (.agg r))
def Bh(i:TI)(cs:Z V)(off:Nat):Y V :=
 bi (kP i.desc) (zqM i.size (I7 i.size (LC off cs))) (wu cs off)
def bJ(i:TI)(f:Nat):Y Field :=
 match i.desc with
 |.struct fs=>fs[f]?
 |_=>none
def zte(v:V):Y Bool :=
 match v with
 |.de=>some true
 |.ptr _ _ _=>some false
 |.ref _=>some false
 |_=>none
def ztd(v:V):Y Bool :=
 match v with
 |.a8=>some true
 |.own _ _ _ _ _=>some false
 |.sl (_::_) _=>some false
 |_=>none
def ztf(v:V):Y Bool :=
 match v with
 |.dy=>some true
 |.map _=>some false
 |_=>none
def zth(v:V):Y Bool :=
 match v with
 |.nilFunc=>some true
 |.func _ _=>some false
 |_=>none
def YB(a b:Y Bool):Y Bool:=ob a λa=>ob b λb=>bi a (some b) (bi b (some false) none)
def Az(a b:Bool):Bool:=bi a b (nt b)
def zGA(d:TypeDesc)(x y:V):Y Bool :=
 match d with
 |.bool=>ob x.bool? λa=>ob y.bool? λb=>some (Az a b)
 |.pointer _=>YB (zte x) (zte y)
 |.slice _=>YB (ztd x) (ztd y)
 |.map _ _=>YB (ztf x) (ztf y)
 |.func _ _ _=>YB (zth x) (zth y)
 |_=>none
def zfJ:TypeDesc->Bool
 |.int _=>true
 |_=>false
def OD:Z Field->Z V->Z V->Y Bool
 | [],_,_=>some true
 | f :: fs, xs, ys => gd (nt (f.name == "_")) (ob (ti P f.type) fun i => gd (zfJ i.desc) (ob (wu xs f.offset) fun a => ob (wu ys f.offset) fun b =>
     ob a.int? λp=>ob b.int? λq=>gd (DK p.1 q.1) (bi (ue p.2 q.2) (OD fs xs ys) (some false))))
def zMI(t:TypeId)(fs:Array Field)(x y:V):Y Bool :=
 match x,y with
 |.agg xs,.agg ys=>gd (et (nt (P.stoodInHeld t)) (nt (P.eqGuardType P.depth t))) (OD P fs.toList xs ys)
 |_,_=>none
def zGx(t:TypeId)(d:TypeDesc)(x y:V):Y Bool :=
 match d with
 |.struct fs=>zMI P t fs x y
 |d=>zGA d x y
def Kx(t:TypeId)(x y:V):Y Bool:=ob (ti P t) λi=>zGx P t i.desc x y
def Mu(k:IntKind)(a b:Int):Int:=k.wrap ((BitVec.ofInt k.bits a &&& BitVec.ofInt k.bits b).toNat)
def arith(op:BinOp)(k:IntKind)(a b:Int):Y V :=
 match op with
 |.add=>some (.int k (H8 k (a+b)))
 |.sub=>some (.int k (H8 k (a-b)))
 |.mul=>some (.int k (H8 k (a*b)))
 |.quo=>gd (nt (ue b 0)) (some (.int k (H8 k (a.tdiv b))))
 |.rem=>gd (nt (ue b 0)) (some (.int k (a.tmod b)))
 |.eql=>some (.bool (ue a b))
 |.neq=>some (.bool (nt (ue a b)))
 |.lss=>some (.bool (B5 a b))
 |.leq=>some (.bool (leI a b))
 |.gtr=>some (.bool (B5 b a))
 |.geq=>some (.bool (leI b a))
 |.and=>some (.int k (Mu k a b))
 |_=>none
def Uz(op:BinOp)(k:IntKind)(a b:Int):Y V :=
 match op with
 |.shr=>ob (Z3 b) λm=>some (.int k (a.fdiv (2 ^ min m k.bits)))
 |_=>none
def Ia(op:BinOp)(a b:Z Nat):Y V :=
 match op with
 |.add=>gd (Nat.ble (dB a+dB b) 1048576) (some (.str (kg a b)))
 |.eql=>some (.bool (OG a b))
 |.neq=>some (.bool (nt (OG a b)))
 |.lss=>some (.bool (KY a b))
 |.gtr=>some (.bool (bi (KY a b) false (nt (OG a b))))
 |.geq=>some (.bool (nt (KY a b)))
 |.leq=>some (.bool (bi (KY a b) true (OG a b)))
 |_=>none
def TM(op:BinOp)(t:TypeId)(x y:V):Y V :=
 match op with
 |.eql=>ob (Kx P t x y) λb=>some (.bool b)
 |.neq=>ob (Kx P t x y) λb=>some (.bool (nt b))
 |_=>none
def qp:BinOp->Bool
 |.shl|.shr=>true
 |_=>false
def TB(op:BinOp)(t:TypeId)(x y:V):Y V :=
 match x with
 |.int k a=>ob y.int? λb=>bi (qp op) (Uz op k a b.2) (gd (DK k b.1) (arith op k a b.2))
 |.str a=>ob y.s7 λb=>Ia op a b
 |x=>TM P op t x y
def TP(i:TI)(a:Nat×Z (Z V)×Bool×Bool×Bool)(off:Nat):Y V :=
 ob (wu a.2.1 (off / a.1)) λe=>Bh i e (off % a.1)
def Ii(i:TI)(C:HS)(v:V):Y V :=
 match v with
 |.ptr id g off=>ob (ng C id g) λa=>TP i a off
 |.ref cs=>Bh i cs 0
 |_=>none
def qG (i:TI) (id g off:Nat) (v:V) (C:HS):Y HS :=
 ob (ng C id g) λa=>gd (nt a.2.2.2.1) (gd (et (Ka v.cells) (et (Nat.beq (dB v.cells) i.size) (Nat.ble (off % a.1+i.size) a.1)))
  (ob (wu a.2.1 (off / a.1)) λe=>some (C.wr id (.arr a.1 g (Xm a.2.1 (off / a.1) (kF e (off % a.1) v.cells)) a.2.2.1 false a.2.2.2.2))))
def pZ(C:HS)(id:Nat):Bool:=u6 false (λo=>u6 false (λa=>a.2.2.2.2.2) o.ye) (C.H.get id)
def E9(i:TI)(C:HS)(a v:V):Y HS :=
 match a with
 |.ptr id g off=>bi (pZ C id) (ob (nE v C) λr=>qG i id g off r.1 r.2) (qG i id g off v C)
 |_=>none
def Cb (T:PT V) (i:TI) (l:Z (Nat×Operand)):Z V->Y (Z V) :=
 lr (λcells=>some cells) (λp _ k cells=>ob (bJ i p.1) λfd=>ob (ti P fd.type) λfi=>ob (bU T p.2) λv =>
  gd (et (Nat.beq (dB v.cells) fi.size) (Nat.ble (fd.offset+fi.size) (dB cells))) (k (kF cells fd.offset v.cells))) l
def D5(dr:Bool)(v:V)(C:HS):Y (V×HS):=bi dr (gd v.pure (some (v,C))) (nE v C)
def Aa (dr:Bool) (T:PT V) (e:TI) (len:Nat) (l:Z (Nat×Operand)):HS->Z (Z V)->Y (Z (Z V)×HS) :=
 lr (λC es=>some (es,C)) (λp _ k C es=>ob (bU T p.2) λv=>ob (D5 dr v C) λr =>
  gd (et (Nat.beq (dB r.1.cells) e.size) (Nat.blt p.1 len)) (k r.2 (Xm es p.1 r.1.cells))) l
def Av(C:HS)(size:Nat)(v:V):Y (Z (Z V)) :=
 match v with
 |.a8=>some []
 |.sl es _=>some es
 |.own id g off len _=>ob (ng C id g) λa=>gd (et a.2.2.2.2 (Nat.beq a.1 size)) (BU a.1 off len a.2.1)
 |_=>none
def SU (C:HS) (d:TypeDesc) (v:V):Y Nat :=
 match d with
 |.string=>ob v.s7 λs=>some (dB s)
 | .slice _=>match v with
   |.a8=>some 0
   |.sl es _=>some (dB es)
   |.own _ _ _ len _=>some len
   |_=>none
 | .map _ _=>match v with
   |.dy=>some 0
   |.map id=>ob (C.H.get id) λo=>ob o.mp? λes=>some (dB es)
   |_=>none
 |_=>none
def bj(size:Nat)(l:Z (Z V)):Bool:=lr true (λe _ ih=>et (Nat.beq (dB e) size) ih) l
def yE(n bytes:Nat):Bool:=Nat.ble (n*bytes) 1048576
def kJ(l:Z (Z V)):Bool:=lr true (λe _ ih=>et (Ka e) ih) l
def DD(e:TI)(C:HS)(id n:Nat)(es:Z (Z V)):Y (V×HS) :=
 some (.own id 0 0 n none,C.put id (.arr e.size 0 es false false true))
def J8 (e:TI) (C:HS) (id:Nat) (es:Z (Z V)) (tight:Bool) (new:Z (Z V)):Y (V×HS) :=
 bi (Nat.beq (dB new) 0) (some (.sl es tight,C))
  (gd (et tight (et (yE (dB es+dB new) e.bytes) (bj e.size es))) (DD e C id (dB es+dB new) (kg es new)))
def Gj(e:TI)(C:HS)(id:Nat)(new:Z (Z V)):Y (V×HS) :=
 bi (Nat.beq (dB new) 0) (some (.a8,C)) (gd (yE (dB new) e.bytes) (DD e C id (dB new) new))
def yY (C:HS) (id g off len:Nat) (cap:Y Nat) (a:Nat×Z (Z V)×Bool×Bool×Bool) (new:Z (Z V)):Y (V×HS) :=
 gd (et (nt a.2.2.2.1) (Nat.ble (off / a.1+len+dB new) (dB a.2.1)))
  (some (.own id g off (len+dB new) cap,C.wr id (.arr a.1 g (kF a.2.1 (off / a.1+len) new) a.2.2.1 false a.2.2.2.2)))
def Di (e:TI) (C:HS) (j9 id g off len:Nat) (cap:Y Nat) (new:Z (Z V)):Y (V×HS) :=
 ob (ng C id g) λa=>gd (et a.2.2.2.2 (et (Nat.beq a.1 e.size) (et (Nat.beq (off % a.1) 0) (yE (len+dB new) e.bytes))))
  (u6
    (bi (Nat.ble (off / a.1+len+dB new) (dB a.2.1)) (yY C id g off len none a new)
      (gd (et (nt a.2.2.2.1) (et (Nat.beq off 0) (Nat.ble len (dB a.2.1)))) (some (.own id (g+1) 0 (len+dB new) none,C.wr id (.arr a.1 (g+1) (kg (I7 len a.2.1) new) false false true)))))
    (λc=>bi (Nat.ble (len+dB new) c) (yY C id g off len cap a new) (ob (BU a.1 off len a.2.1) λcb=>DD e C j9 (len+dB new) (kg cb new)))
    cap)
def CV (e:TI) (C:HS) (j9:Nat) (s x:V):Y (V×HS) :=
 ob (Av C e.size x) λnew=>gd (et (bj e.size new) (et (kJ new) (et (nt (Nat.beq e.size 0)) (et (nt (Nat.beq e.bytes 0)) (Nat.beq (dB e.zero) e.size)))))
  (match s with
  |.a8=>Gj e C j9 new
  |.sl es tight=>J8 e C j9 es tight new
  |.own id g off len cap=>Di e C j9 id g off len cap new
  |_=>none)
def zoJ(a b:Nat):Nat:=bi (Nat.ble a b) a b
def za6 (e:TI) (C:HS) (id g off len:Nat) (src:Z (Z V)):Y (V×HS) :=
 ob (ng C id g) λa=>gd (et (nt a.2.2.2.1) (et a.2.2.2.2 (et (Nat.beq a.1 e.size) (et (Nat.beq (off % a.1) 0) (et (bj e.size src) (et (kJ src) (Nat.ble (off / a.1+zoJ (dB src) len) (dB a.2.1))))))))
  (some (.int .i64 (Int.ofNat (zoJ (dB src) len)),C.wr id (.arr a.1 g (kF a.2.1 (off / a.1) (I7 (zoJ (dB src) len) src)) a.2.2.1 false true)))
def zdE (e:TI) (C:HS) (d x:V):Y (V×HS) :=
 ob (Av C e.size x) λsrc =>
  match d with
  |.own id g off len _=>za6 e C id g off len src
  |.a8=>some (.int .i64 0,C)
  |_=>none
def xK (i:TI) (C:HS) (id:Nat) (l c:V):Y (V×HS) :=
 ob (sN i.desc) λel=>ob (ti P el) λe=>ob l.nat? λl=>ob c.nat? λc =>
  gd (et (Nat.ble l c) (et (yE c e.bytes) (et (Nat.ble (c*e.size) 1048576) (et (nt (Nat.beq e.size 0)) (et (Nat.beq (dB e.zero) e.size) (J9 e.zero))))))
   (some (.own id 0 0 l (some c),C.put id (.arr e.size 0 (zj7 e.zero c) true false true)))
def fE:Y α->Bool
 |some _=>true
 |none=>false
def NZ(T:PT V)(o:Y Operand)(y d:Nat):Y Nat :=
 u6 (some d) (λo=>ob (bU T o) λv=>ob v.nat? λn=>gd (Nat.ble n y) (some n)) o
def bounds(T:PT V)(len cap:Nat)(lo hi mx:Y Operand):Y (Nat×Nat×Nat) :=
 gd (bi (fE mx) (fE hi) true) (ob (NZ T mx cap cap) λm=>ob (NZ T hi m len) λh=>ob (NZ T lo h 0) λl=>some (l,h,m))
def Ux(T:PT V)(s:Z Nat)(lo hi mx:Y Operand):Y V :=
 gd (nt (fE mx)) (ob (bounds T (dB s) (dB s) lo hi mx) λb=>some (.str (I7 (b.2.1-b.1) (LC b.1 s))))
def Cy (T:PT V) (e:TI) (es:Z (Z V)) (tight:Bool) (lo hi mx:Y Operand):Y V :=
 gd (bj e.size es) (ob (bounds T (dB es) (dB es) lo hi mx) λb =>
  some (.sl (I7 (b.2.1-b.1) (LC b.1 es)) (bi (fE mx) (Nat.beq b.2.1 b.2.2) (et tight (Nat.beq b.2.1 (dB es))))))
def zeQ(c:Y Nat)(l:Nat):Y Nat:=u6 none (λc=>some (c-l)) c
def NF (T:PT V) (C:HS) (e:TI) (id g off len:Nat) (cap:Y Nat) (lo hi mx:Y Operand):Y V :=
 ob (ng C id g) λa=>gd (Nat.beq a.1 e.size) (ob (bounds T len (u6 len (λc=>c) cap) lo hi mx) λb =>
  gd (bi (Nat.beq b.1 0) true (Nat.blt b.1 b.2.2)) (some (.own id g (off+b.1*e.size) (b.2.1-b.1) (bi (fE mx) (some (b.2.2-b.1)) (zeQ cap b.1)))))
def zcd(T:PT V)(lo hi mx:Y Operand):Y V:=ob (bounds T 0 0 lo hi mx) λ_=>some .a8
def xE (T:PT V) (C:HS) (i:TI) (x:V) (lo hi mx:Y Operand):Y V :=
 match i.desc with
 |.string=>ob x.s7 λs=>Ux T s lo hi mx
 | .slice el=>ob (ti P el) λe =>
   match x with
   |.a8=>zcd T lo hi mx
   |.sl es tight=>Cy T e es tight lo hi mx
   |.own id g off len cap=>NF T C e id g off len cap lo hi mx
   |_=>none
 |_=>none
def Lp(k a:V):Y Bool :=
 match k with
 |.int k n=>ob a.int? λp=>gd (DK k p.1) (some (ue n p.2))
 |.str s=>ob a.s7 λt=>some (OG s t)
 |.bool b=>ob a.bool? λc=>some (Az b c)
 |_=>none
def VO(k:V)(l:Z (V×V)):Y (Y V) :=
 lr (some none) (λp _ ih=>ob (Lp k p.1) λq=>bi q (some (some p.2)) ih) l
def GJ(k v:V)(l:Z (V×V)):Y (Z (V×V)) :=
 lr (some [(k,v)]) (λp t ih=>ob (Lp k p.1) λq=>bi q (some ((p.1,v)::t)) (ob ih λr=>some (p::r))) l
def uE (d:TypeDesc) (k:V):Bool :=
 match d with
 | .int j=>match k with
   |.int k _=>DK j k
   |_=>false
 | .string=>match k with
   |.str _=>true
   |_=>false
 | .bool=>match k with
   |.bool _=>true
   |_=>false
 |_=>false
def oW:V:=.tuple []
def zbH(e:TI):Y V:=bi e.qV (some (.agg e.zero)) (wu e.zero 0)
def NY(T:PT V)(C:HS)(c a b:Operand):Y (V×HS) :=
 ob (bU T c) λq=>ob q.bool? λq=>ob (bi q (bU T a) (bU T b)) λv=>some (v,C)
def Cc(C:HS)(id:Nat)(t:TypeId):Y (V×HS) :=
 ob (ti P t) λi=>gd (Nat.beq (dB i.zero) i.size) (some (.ptr id 0 0,C.put id (.arr i.size 0 [i.zero] true false false)))
def XC(T:PT V)(C:HS)(id:Nat)(x:Operand):Y (V×HS) :=
 ob (bU T x) λv=>some (.ptr id 0 0,C.put id (.arr (dB v.cells) 0 [v.cells] true false false))
def jK(l:Z Field):Bool:=lr true (λf _ ih=>et (fE (ti P f.type)) ih) l
def jg(d:TypeDesc):Bool :=
 match d with
 |.struct _=>true
 |_=>false
def fieldsOf(d:TypeDesc):Z Field :=
 match d with
 |.struct fs=>fs.toList
 |_=>[]
def zd5:TypeDesc->Y TypeId
 |.array _ e=>some e
 |_=>none
def CU(T:PT V)(n:Nat)(l:Z (Nat×Operand)):Z V->Y (Z V) :=
 lr (λcells=>some cells) (λp _ k cells=>ob (bU T p.2) λv=>gd (et (Nat.beq (dB v.cells) n) (Nat.ble (p.1*n+n) (dB cells))) (k (kF cells (p.1*n) v.cells))) l
def yV(T:PT V)(C:HS)(t:TypeId)(parts:Array (Nat×Operand)):Y (V×HS) :=
 ob (ti P t) λi=>ob (bi (jg i.desc) (gd (jK P (fieldsOf i.desc)) (Cb P T i parts.toList i.zero)) (ob (zd5 i.desc) λel=>ob (ti P el) λe=>CU T e.size parts.toList i.zero)) λcs=>some (.agg cs,C)
def jU (dr:Bool) (T:PT V) (C:HS) (id:Nat) (t:TypeId) (len:Nat) (parts:Array (Nat×Operand)):Y (V×HS) :=
 ob (ti P t) λi=>ob (sN i.desc) λel=>ob (ti P el) λe =>
  gd (et (Nat.ble (len*e.size) 1048576) (et (nt (Nat.beq e.size 0)) (et (Nat.beq (dB e.zero) e.size) (J9 e.zero))))
   (ob (Aa dr T e len parts.toList C (zj7 e.zero len)) λr=>some (bi (Nat.beq e.bytes 128) (.own id 0 0 len (some len)) (.sl r.1 true),r.2.put id (bi (Nat.beq e.bytes 128) (.arr e.size 0 r.1 true false true) (.mp []))))
def CK(T:PT V)(C:HS)(t:TypeId)(a:Operand):Y (V×HS) :=
 ob (ti P t) λi=>ob (bU T a) λp=>ob (Ii i C p) λv=>some (v,C)
def nL(T:PT V)(C:HS)(t:TypeId)(a x:Operand):Y (V×HS) :=
 ob (ti P t) λi=>ob (bU T a) λp=>ob (bU T x) λv=>ob (E9 i C p v) λa9=>some (oW,a9)
def notNil(v:V):Bool :=
 match v with
 |.ptr _ _ _=>true
 |.ref _=>true
 |.func _ _=>true
 |.lx _=>true
 |_=>false
def vo(T:PT V)(C:HS)(x:Operand):Y (V×HS):=ob (bU T x) λv=>gd (notNil v) (some (v,C))
def JE:Operand->Bool
 |.const .nilIface=>true
 |_=>false
def zyo(v:V):Y Bool :=
 match v with
 |.nilIface=>some true
 |.iface _ _=>some false
 |_=>none
def isIface:TypeDesc->Bool
 |.interface _=>true
 |_=>false
def zoy(op:BinOp)(t:TypeId)(a:V):Y V:=ob (ti P t) λi=>gd (isIface i.desc) (ob (zyo a) λb =>
 match op with
 |.eql=>some (.bool b)
 |.neq=>some (.bool (nt b))
 |_=>none)
def Hu(T:PT V)(C:HS)(op:BinOp)(t:TypeId)(x y:Operand):Y (V×HS) :=
 ob (bU T x) λa=>ob (bU T y) λb=>ob (bi (JE y) (zoy P op t a) (TB P op t a b)) λv=>some (v,C)
def Rj(T:PT V)(C:HS)(op:UnOp)(x:Operand):Y (V×HS) :=
 match op with
 |.not=>ob (bU T x) λv=>ob v.bool? λb=>some (.bool (nt b),C)
 |.neg=>ob (bU T x) λv=>ob v.int? λp=>some (.int p.1 (H8 p.1 (0-p.2)),C)
 |_=>none
def zdF(d:TypeDesc)(v:V):Y V :=
 match d with
 |.int k=>ob v.int? λp=>some (.int k (H8 k p.2))
 |.string=>ob v.s7 λs=>some (.str s)
 |_=>none
def Wj(T:PT V)(C:HS)(s d:TypeId)(x:Operand):Y (V×HS) :=
 ob (ti P s) λ_=>ob (ti P d) λj=>ob (bU T x) λv=>ob (zdF j.desc v) λr=>some (r,C)
def pX(n:Nat)(v:V):Y V :=
 match v with
 |.ptr id g off=>some (.ptr id g (off+n))
 |.ref cs=>some (.ref (LC n cs))
 |_=>none
def rF(T:PT V)(C:HS)(t:TypeId)(x:Operand)(f:Nat):Y (V×HS) :=
 ob (ti P t) λi=>ob (bJ i f) λfd=>ob (ti P fd.type) λfi=>gd (nt (Nat.beq fi.size 0)) (ob (bU T x) λv=>ob (pX fd.offset v) λr=>some (r,C))
def MZ(T:PT V)(C:HS)(t:TypeId)(x:Operand)(f:Nat):Y (V×HS) :=
 ob (ti P t) λi=>ob (bJ i f) λfd=>ob (ti P fd.type) λfi=>ob (bU T x) λv=>ob v.HT λcs=>ob (Bh fi cs fd.offset) λv=>some (v,C)
def Ag(e:TI)(n:Nat)(v:V):Y V :=
 match v with
 |.sl es _=>gd (bj e.size es) (ob (wu es n) λc=>some (.ref c))
 |.own id g off len _=>gd (Nat.blt n len) (some (.ptr id g (off+n*e.size)))
 |_=>none
def zo8(m:Y Nat)(e:TI)(n:Nat)(v:V):Y V :=
 match m with
 |none=>Ag e n v
 |some k=>gd (Nat.blt n k) (pX (n*e.size) v)
def rC(T:PT V)(C:HS)(t:TypeId)(x ix:Operand):Y (V×HS) :=
 ob (ti P t) λi=>ob (elemOf i.desc) λel=>ob (ti P el.1) λe=>ob (bU T x) λv=>ob (bU T ix) λn=>ob n.nat? λn=>ob (zo8 el.2 e n v) λr=>some (r,C)
def isStr:TypeDesc->Bool
 |.string=>true
 |_=>false
def MP(T:PT V)(C:HS)(t:TypeId)(x ix:Operand):Y (V×HS) :=
 ob (ti P t) λi=>gd (isStr i.desc) (ob (bU T x) λv=>ob v.s7 λs=>ob (bU T ix) λn=>ob n.nat? λn=>ob (wu s n) λb=>some (.int .u8 (Int.ofNat b),C))
def yB(T:PT V)(C:HS)(t:TypeId)(x:Operand)(lo hi mx:Y Operand):Y (V×HS) :=
 ob (ti P t) λi=>ob (bU T x) λv=>ob (xE P T C i v lo hi mx) λr=>some (r,C)
def yR(T:PT V)(C:HS)(x:Operand)(k:Nat):Y (V×HS) :=
 ob (bU T x) λv=>ob v.o4 λvs=>ob (wu vs k) λv=>some (v,C)
def Db(T:PT V)(C:HS)(fn:Fn)(first Ca:Array Operand):Y (V×HS) :=
 match fn with
 |.func f=>gd (first.toList.isEmpty) (ob (kG T Ca.toList) λl=>some (.func f l,C))
 |_=>none
def Bo(C:HS)(id:Nat)(r:Y Operand):Y (V×HS):=gd (nt (fE r)) (some (.map id,C.put id (.mp [])))
def mK(T:PT V)(C:HS)(id:Nat)(t:TypeId)(l c:Operand):Y (V×HS) :=
 ob (ti P t) λi=>ob (bU T l) λa=>ob (bU T c) λb=>xK P i C id a b
def nO(C:HS)(m:V):Y (Z (V×V)) :=
 match m with
 |.dy=>some []
 |.map id=>ob (C.H.get id) λo=>o.mp?
 |_=>none
def mM (T:PT V) (C:HS) (t:TypeId) (m k:Operand) (ok:Bool):Y (V×HS) :=
 ob (ti P t) λi=>ob (mapOf i.desc) λd=>ob (ti P d.1) λki=>ob (ti P d.2) λe=>ob (bU T m) λmv=>ob (bU T k) λkv =>
  gd (uE ki.desc kv) (ob (nO C mv) λes=>ob (VO kv es) λr =>
   ob (u6 (zbH e) (λv=>some v) r) λv=>some (bi ok (.tuple [v,.bool (fE r)]) v,C))
def iw (T:PT V) (C:HS) (t:TypeId) (m k x:Operand):Y (V×HS) :=
 ob (ti P t) λi=>ob (mapOf i.desc) λd=>ob (ti P d.1) λki=>ob (bU T m) λmv=>ob (bU T k) λkv=>ob (bU T x) λv =>
  gd (uE ki.desc kv) (match mv with
   |.map id=>ob (nE v C) λr=>ob (r.2.H.get id) λo=>ob o.mp? λes=>ob (GJ kv r.1 es) λcT=>some (oW,r.2.wr id (.mp cT))
   |_=>none)
def DF(T:PT V)(C:HS)(t:TypeId)(x:Operand):Y (V×HS) :=
 ob (ti P t) λi=>gd (nt (isIface i.desc)) (ob (bU T x) λv=>some (.iface t v,C))
def Vg(T:PT V)(C:HS)(x:Operand):Y (V×HS):=ob (bU T x) λv=>some (v,C)
structure It where
 no:Nat
 t:TypeId
 x:Operand
 y:Operand
 z:Operand
 n:Nat
 u:TypeId
 ps:Array (Nat×Operand)
 l:Option Operand
 h:Option Operand
 m:Option Operand
 b:BinOp
 un:UnOp
 ok:Bool
 fn:Fn
 fs:Array Operand
 cs:Array Operand
def Ac:It:={ no:=100,t:=0,x:=.func 0,y:=.func 0,z:=.func 0,n:=0,u:=0,ps:=#[],l:=none,h:=none,m:=none,b:=.add,un:=.plus,ok:=false,fn:=.func 0,fs:=#[],cs:=#[] }
def WY(op:Op):It :=
 match op with
 |.move x=>{ Ac with no:=0,x:=x }
 |.assign x=>{ Ac with no:=0,x:=x }
 |.load t a=>{ Ac with no:=1,t:=t,x:=a }
 |.binOp op t x y _=>{ Ac with no:=2,t:=t,x:=x,y:=y,b:=op }
 |.fieldAddr t x f=>{ Ac with no:=3,t:=t,x:=x,n:=f }
 |.store t a x=>{ Ac with no:=4,t:=t,x:=a,y:=x }
 |.alloc t=>{ Ac with no:=5,t:=t }
 |.box _ x=>{ Ac with no:=6,x:=x }
 |.indexAddr t x ix=>{ Ac with no:=7,t:=t,x:=x,y:=ix }
 |.pick c a b=>{ Ac with no:=8,x:=c,y:=a,z:=b }
 |.extract x k=>{ Ac with no:=9,x:=x,n:=k }
 |.nilCheck x=>{ Ac with no:=10,x:=x }
 |.unOp op _ x=>{ Ac with no:=11,un:=op,x:=x }
 |.build t parts=>{ Ac with no:=12,t:=t,ps:=parts }
 |.buildSlice t len parts=>{ Ac with no:=13,t:=t,n:=len,ps:=parts }
 |.slice t x lo hi mx=>{ Ac with no:=14,t:=t,x:=x,l:=lo,h:=hi,m:=mx }
 |.index t x ix=>{ Ac with no:=15,t:=t,x:=x,y:=ix }
 |.lookup t m k ok=>{ Ac with no:=16,t:=t,x:=m,y:=k,ok:=ok }
 |.mapUpdate t m k x=>{ Ac with no:=17,t:=t,x:=m,y:=k,z:=x }
 |.insert t m k x=>{ Ac with no:=17,t:=t,x:=m,y:=k,z:=x }
 |.convert s d x=>{ Ac with no:=18,t:=s,u:=d,x:=x }
 |.field t x f=>{ Ac with no:=19,t:=t,x:=x,n:=f }
 |.makeSlice t l c=>{ Ac with no:=20,t:=t,x:=l,y:=c }
 |.makeMap _ r=>{ Ac with no:=21,l:=r }
 |.makeFunc fn first Ca=>{ Ac with no:=22,fn:=fn,fs:=first,cs:=Ca }
 |.makeInterface t x=>{ Ac with no:=23,t:=t,x:=x }
 |_=>Ac
def zPO(T:PT V)(C:HS)(id:Nat)(r:It):Y (V×HS) :=
 nc (Vg T C r.x) (λm=>nc (CK P T C r.t r.x) (λm=>nc (Hu P T C r.b r.t r.x r.y) (λ_=>rF P T C r.t r.x r.n) m) m) r.no
def zPN(T:PT V)(C:HS)(id:Nat)(r:It):Y (V×HS) :=
 nc (nL P T C r.t r.x r.y) (λm=>nc (Cc P C id r.t) (λm=>nc (XC T C id r.x) (λ_=>rC P T C r.t r.x r.y) m) m) (r.no-4)
def opC(T:PT V)(C:HS)(r:It):Y (V×HS) :=
 nc (NY T C r.x r.y r.z) (λm=>nc (yR T C r.x r.n) (λm=>nc (vo T C r.x) (λ_=>Rj T C r.un r.x) m) m) (r.no-8)
def zPM(dr:Bool)(T:PT V)(C:HS)(id:Nat)(r:It):Y (V×HS) :=
 nc (yV P T C r.t r.ps) (λm=>nc (jU P dr T C id r.t r.n r.ps) (λm=>nc (yB P T C r.t r.x r.l r.h r.m) (λ_=>MP P T C r.t r.x r.y) m) m) (r.no-12)
def zPL(T:PT V)(C:HS)(r:It):Y (V×HS) :=
 nc (mM P T C r.t r.x r.y r.ok) (λm=>nc (iw P T C r.t r.x r.y r.z) (λm=>nc (Wj P T C r.t r.u r.x) (λ_=>MZ P T C r.t r.x r.n) m) m) (r.no-16)
def zPK(T:PT V)(C:HS)(id:Nat)(r:It):Y (V×HS) :=
 nc (mK P T C id r.t r.x r.y) (λm=>nc (Bo C id r.l) (λm=>nc (Db T C r.fn r.fs r.cs) (λm=>nc (DF P T C r.t r.x) (λ_=>none) m) m) m) (r.no-20)
def zPJ(dr:Bool)(T:PT V)(C:HS)(id:Nat)(r:It):Y (V×HS) :=
 bi (Nat.blt r.no 16) (bi (Nat.blt r.no 12) (opC T C r) (zPM P dr T C id r)) (bi (Nat.blt r.no 20) (zPL P T C r) (zPK P T C id r))
def UZ(dr:Bool)(T:PT V)(C:HS)(id:Nat)(r:It):Y (V×HS) :=
 bi (Nat.blt r.no 4) (zPO P T C id r) (bi (Nat.blt r.no 8) (zPN P T C id r) (zPJ P dr T C id r))
def MT(l:Z V):Y V:=lr none (λx t _=>lr (some x) (λ_ _ _=>none) t) l
def ZA(l:Z V):Y (V×V):=lr none (λx t _=>ob (MT t) λy=>some (x,y)) l
def zfX(ts:Z TypeId):Y TI:=lr none (λt _ _=>ti P t) ts
def JC(C:HS)(ts:Z TypeId)(vs:Z V):Y (V×HS):=ob (zfX P ts) λi=>ob (MT vs) λx=>ob (SU C i.desc x) λn=>some (.int .i64 (Int.ofNat n),C)
def za0(ts:Z TypeId):Y TI:=lr none (λt _ _=>ob (ti P t) λi=>ob (sN i.desc) λel=>ti P el) ts
def yN(ts:Z TypeId):Y TypeId :=
 match ts with
 | [_,u]=>some u
 |_=>none
def AJ(C:HS)(id:Nat)(ts:Z TypeId)(vs:Z V):Y (V×HS) :=
 ob (ZA vs) λp=>ob (za0 P ts) λe=>ob (yN ts) λu=>ob (ti P u) λj=>ob (sN j.desc) λ_=>CV e C id p.1 p.2
def za7(C:HS)(ts:Z TypeId)(vs:Z V):Y (V×HS) :=
 ob (ZA vs) λp=>ob (za0 P ts) λe=>ob (yN ts) λ_=>zdE e C p.1 p.2
def vz(C:HS)(less:Bool)(vs:Z V):Y (V×HS) :=
 ob (ZA vs) λp=>ob p.1.int? λa=>ob p.2.int? λb=>some (.int a.1 (bi (bi less (B5 b.2 a.2) (B5 a.2 b.2)) b.2 a.2),C)
def qO(C:HS)(id:Nat)(b:Builtin)(ts:Z TypeId)(vs:Z V):Y (V×HS) :=
 match b with
 |.len=>JC P C ts vs
 |.append=>AJ P C id ts vs
 |.copy=>za7 P C ts vs
 |.min=>vz C true vs
 |.max=>vz C false vs
 |_=>none
end
inductive Ex where
 |normal|ret|exit (id:Nat)
structure Ev where
 code:Bool->Nat->Code->PT V->HS->Option (Ex×PT V×HS)
 call:FuncId->List V->HS->Option (V×HS)
structure Env where
 P:Program
 zj:FuncId->Nat
 dA:FuncId->List V->HS->Option (V×HS)
def jv:HS:={ H:=.leaf,n:=0,log:=[] }
def rW(ev:Ev)(f:FuncId)(args:Z V)(C:HS):Y (V×HS) :=
 ob (ev.call f args jv) λr=>ob (still r.2 r.1) λr'=>some (r',C)
def oD(ev:Ev)(f:FuncId)(args:Z V)(C:HS):Y (V×HS) :=
 ob (ev.call f args jv) λr=>gd r.1.SP (some (r.1,C))
def Bc(ev:Ev)(f:FuncId)(args:Z V)(C:HS):Y (V×HS) :=
 ob (ev.call f args C) λr=>u6 (some r) (λq=>some q) (zfg r)
def Fy (E:Env) (ev:Ev) (f:FuncId) (args:Z V) (C:HS):Y (V×HS) :=
 nc (bi (bX args) (rW ev f args C) (ev.call f args C))
  (λm=>nc (ev.call f args C) (λk=>nc (u6 (ev.call f args C) (λeI=>oD ev f eI C) (mf C args)) (λ_=>Bc ev f args C) k) m) (E.zj f)
def Gd(E:Env)(ev:Ev)(f:FuncId)(args:Z V)(C:HS):Y (V×HS) :=
 u6 (Fy E ev f args C) (λr=>some r) (E.dA f args C)
def Obj.gen:Obj->Nat
 |.arr _ g _ _ _ _=>g
 |_=>0
def Obj.fz:Obj->Bool
 |.arr _ _ _ _ f _=>f
 |_=>false
def Obj.lp?:Obj->Y (FuncId×PT V×Z Nat×Code×Code×Nat)
 |.lp a b c d e f=>some (a,b,c,d,e,f)
 |_=>none
def IV(sz:Nat)(ps:Z Nat):Z V->PT V->Y (PT V) :=
 lr (λvs T=>lr (some T) (λ_ _ _=>none) vs) (λp _ k vs T=>lr none (λv t _=>gd (Nat.blt p sz) (k t (T.set p v))) vs) ps
def Oq:Ex->Bool
 |.normal=>true
 |_=>false
def zMG:Ex->Nat
 |.normal=>0
 |.ret=>2
 |.exit i=>i+3
def zEY(n:Nat):Y Ex:=nc (some .normal) (λm=>nc none (λk=>some (nc .ret (λi=>.exit i) k)) m) n
def zW (ev:Ev) (id:Nat) (vs:Z V) (C:HS):Y (V×HS) :=
 ob (C.H.get id) λo=>ob o.lp? λl=>gd (Nat.beq l.2.2.2.2.2 0) (ob (IV l.1 l.2.2.1 vs l.2.1) λT =>
  ob (ev.code true l.1 l.2.2.2.1 T C) λr=>gd (Oq r.1)
   (ob (r.2.2.H.get id) λo1=>ob o1.lp? λl1=>gd (Nat.beq l1.2.2.2.2.2 0)
   (ob (ev.code true l.1 l.2.2.2.2.1 r.2.1 (r.2.2.wr id (.lp l1.1 l1.2.1 l1.2.2.1 l1.2.2.2.1 l1.2.2.2.2.1 1))) λq =>
     ob (q.2.2.H.get id) λo2=>ob o2.lp? λl2=>some (.bool (Oq q.1),q.2.2.wr id (.lp l2.1 l2.2.1 l2.2.2.1 l2.2.2.2.1 l2.2.2.2.2.1 (zMG q.1))))))
def Mc(E:Env)(ev:Ev)(v:V)(vs:Z V)(C:HS):Y (V×HS) :=
 match v with
 |.func f Ca=>Gd E ev f (kg vs Ca) C
 |.lx id=>zW ev id vs C
 |_=>none
def wL (E:Env) (ev:Ev) (T:PT V) (C:HS) (id:Nat) (c:Call):Y (V×HS) :=
 ob (kG T c.args.toList) λvs =>
  match c.callee with
  |.builtin b=>qO E.P C id b c.argTypes.toList vs
  |.value x=>ob (bU T x) λv=>Mc E ev v vs C
  |.invoke _ _=>none
def qN(op:Op):Y Call :=
 match op with
 |.call c=>some c
 |_=>none
def cy(E:Env)(ev:Ev)(dr:Bool)(T:PT V)(C:HS)(id:Nat)(o:Oper):Y (V×HS) :=
 u6 (UZ E.P dr T C id (WY o.op)) (λc=>wL E ev T C id c) (qN o.op)
def KV(sz:Nat)(T:PT V)(d:Y Tmp)(v:V):Y (PT V) :=
 u6 (some T) (λd=>gd (Nat.blt d sz) (some (T.set d v))) d
def xQ (ops:Z Oper) (T:PT V) (o:Oper):Y Bool :=
 u6 (some true) (λg=>ob (wu ops g.1) λp=>ob p.dst λd=>ob (T.get d) λv =>
  match v with
  |.bool b=>some (Az b g.2)
  |.tuple []=>some false
  |_=>none) o.guard
def dX:Op->Nat
 |.alloc _|.box _ _|.buildSlice _ _ _|.makeMap _ _|.makeSlice _ _ _=>1
 | .call c=>match c.callee with
   |.builtin .len|.builtin .min|.builtin .max=>0
   |_=>2
 |.store _ _ _|.mapUpdate _ _ _ _|.insert _ _ _ _=>2
 |_=>0
def gW(C:HS)(id:Nat):Bool:=nt (fE (C.H.get id))
def wB (E:Env) (ev:Ev) (sz:Nat) (ops:Z Oper) (o:Oper) (id:Nat) (T:PT V) (C:HS):Y (PT V×HS) :=
 ob (xQ ops T o) λw=>bi w
  (gd (bi (Nat.beq (dX o.op) 0) true (gW C id)) (ob (cy E ev false T C id o) λr=>ob (KV sz T o.dst r.1) λT'=>some (T',r.2)))
  (ob (KV sz T o.dst oW) λT'=>some (T',C))
def uX(E:Env)(ev:Ev)(sz:Nat)(ops:Z Oper)(l:Z Oper):Nat->PT V->HS->Y (PT V×HS) :=
 lr (λ_ T C=>some (T,C)) (λo _ k id T C=>ob (wB E ev sz ops o id T C) λr=>k (id+1) r.1 r.2) l
def nM(v:V):Z Nat :=
 match v with
 |.ptr id _ _=>[id]
 |.map id=>[id]
 |.own id _ _ _ _=>[id]
 |_=>[]
def cP (T:PT V) (op:Op):Z Nat :=
 match op with
 |.load _ a=>u6 [] nM (bU T a)
 |.lookup _ m _ _=>u6 [] nM (bU T m)
 |.slice _ x _ _ _=>u6 [] nM (bU T x)
 | .call c=>match c.callee with
   |.builtin .len=>lr [] (λa _ _=>u6 [] nM (bU T a)) c.args.toList
   |_=>[]
 |_=>[]
def tb(m i:Nat):Bool:=Nat.beq (m / 2 ^ i % 2) 1
def tmpsOf(l:Z Operand):Z Nat:=l.filterMap fun|.tmp t=>some t|_=>none
def looks(ops:Z Oper)(o:Oper):Z Nat :=
 kg (tmpsOf o.op.operands.toList) (u6 [] (λg=>u6 [] (λp=>u6 [] (λd=>[d]) p.dst) (wu ops g.1)) o.guard)
def V4(i:Nat)(acc:Z Nat)(l:Z Edge):Y Nat :=
 lr (some 0) (λe _ ih=>ob ih λm=>bi (Region.binds .any e) (gd (Nat.blt e.on i) (ob (wu acc e.on) λb=>some (Nat.lor (Nat.lor (2 ^ e.on) b) m))) (some m)) l
def zAa(l:Z Oper):Nat->Z Nat->Y (Z Nat) :=
 lr (λ_ acc=>some acc) (λo _ k i acc=>ob (V4 i acc o.after.toList) λm=>k (i+1) (kg acc [m])) l
def zfZ(d:Y Nat)(l:Z Nat):Bool:=u6 false (λd=>KX d l) d
def zsK(d e:Y Nat):Bool:=u6 false (λd=>u6 false (λe=>Nat.beq d e) e) d
def lS:Op->Bool
 |.store _ _ _=>true
 |_=>false
def zJ6(op:Op):Bool:=Nat.beq (dX op) 2
def indep(ops:Z Oper)(x y:Oper):Bool :=
 et (nt (zfZ x.dst (looks ops y))) (et (nt (zfZ y.dst (looks ops x))) (et (nt (zsK x.dst y.dst)) (nt (et (zJ6 x.op) (et (zJ6 y.op) (nt (et (lS x.op) (lS y.op))))))))
def WJ(ops:Z Oper)(m:Nat)(y:Oper)(l:Z Oper):Nat->Nat->Bool :=
 lr (λ_ _=>true) (λx _ k i j=>bi (Nat.blt i j) (et (bi (tb m i) true (indep ops x y)) (k (i+1) j)) true) l
def WL(ops:Z Oper)(l:Z Oper):Nat->Z Nat->Bool :=
 lr (λ_ _=>true) (λy _ k j bs=>lr false (λm bs' _=>et (WJ ops m y ops 0 j) (k (j+1) bs')) bs) l
def V5(ops:Z Oper):Y (Z Nat):=ob (zAa ops 0 []) λbs=>gd (WL ops ops 0 bs) (some bs)
def iC(T:PT α)(l:Z Nat):PT α:=lr .leaf (λt _ ih=>u6 ih (λv=>ih.set t v) (T.get t)) l
def Xx(l:Z V):Z Nat:=lr [] (λc _ ih=>kg (nM c) ih) l
def AT(C:HS)(p:V):Bool :=
 match p with
 |.ptr id _ _=>pZ C id
 |_=>false
def sD(T:PT V)(C:HS)(op:Op):Z Nat :=
 match op with
 |.store _ a x=>u6 [] (λp=>kg (nM p) (bi (AT C p) (u6 [] (λv=>Xx v.cells) (bU T x)) [])) (bU T a)
 |_=>[]
def Jp(H:PT Obj)(H2:PT Obj)(X:Z Nat):PT Obj:=lr H (λk _ ih=>u6 ih (λo=>ih.set k o) (H2.get k)) X
def QC(E:Env)(ev:Ev)(o:Oper)(id:Nat)(T:PT V)(C:HS):Y (V×HS×Z Nat×Z Nat) :=
 gd (gW C id) (ob (cy E ev true T { H:=iC C.H (sD T C o.op),n:=0,log:=[] } id o) λr=>some (r.1,{ H:=Jp C.H r.2.H (sD T C o.op),n:=C.n,log:=kg r.2.log C.log },sD T C o.op,r.2.log))
def Aw (E:Env) (ev:Ev) (o:Oper) (id:Nat) (T:PT V) (C:HS):Y (V×HS×Z Nat×Z Nat) :=
 nc (ob (cy E ev true T { H:=iC C.H (cP T o.op),n:=0,log:=[] } id o) λr=>some (r.1,C,cP T o.op,[]))
  (λm=>nc (gd (gW C id) (ob (cy E ev true T { H:=.leaf,n:=0,log:=[] } id o) λr=>ob (r.2.H.get id) λo'=>gd (nt o'.fz) (some (r.1,C.put id o',[id],[]))))
    (λ_=>gd (gW C id) (ob (cy E ev true T { H:=C.H,n:=C.n,log:=[] } id o) λr=>some (r.1,{ H:=r.2.H,n:=r.2.n,log:=kg r.2.log C.log },[],r.2.log))) m) (dX o.op)
def A9(E:Env)(ev:Ev)(o:Oper)(id:Nat)(T:PT V)(C:HS):Y (V×HS×Z Nat×Z Nat) :=
 bi (lS o.op) (QC E ev o id T C) (Aw E ev o id T C)
def lg(E:Env)(ev:Ev)(ops:Z Oper)(o:Oper)(id:Nat)(T:PT V)(C:HS):Y (V×HS×Z Nat×Z Nat) :=
 ob (xQ ops T o) λw=>bi w (A9 E ev o id T C) (some (oW,C,[],[]))
def xc (E:Env) (ev:Ev) (sz:Nat) (ops:Z Oper) (l:Z Oper):Nat->PT V->HS->Z (Z Nat×Z Nat)->Y ((PT V×HS)×Z (Z Nat×Z Nat)) :=
 lr (λ_ T C acc=>some ((T,C),acc)) (λo _ k id T C acc=>ob (lg E ev ops o id (iC T (looks ops o)) C) λr=>ob (KV sz T o.dst r.1) λT' =>
  k (id+1) T' r.2.1 (kg acc [r.2.2])) l
def meet(l m:Z Nat):Bool:=lr false (λx _ ih=>bi (KX x m) true ih) l
def Ho(m:Nat)(r:Z Nat×Z Nat)(l:Z (Z Nat×Z Nat)):Nat->Nat->Bool :=
 lr (λ_ _=>true) (λq _ k i j=>bi (Nat.blt i j) (et (bi (tb m i) true (nt (bi (meet q.1 r.2) true (meet r.1 q.2)))) (k (i+1) j)) true) l
def wV(all:Z (Z Nat×Z Nat))(l:Z (Z Nat×Z Nat)):Nat->Z Nat->Bool :=
 lr (λ_ _=>true) (λr _ k j bs=>lr false (λm bs' _=>et (Ho m r all 0 j) (k (j+1) bs')) bs) l
def R4 (E:Env) (ev:Ev) (sz:Nat) (l:Z Oper) (T:PT V) (C:HS):Y (PT V×HS) :=
 ob (V5 l) λbs=>ob (xc E ev sz l l C.n T { H:=C.H,n:=C.n+dB l,log:=C.log } []) λr =>
  gd (wV r.2 r.2 0 bs) (some r.1)
def zfb(E:Env)(ev:Ev)(sz:Nat)(l:Z Oper)(draw:Bool)(T:PT V)(C:HS):Y (Ex×PT V×HS) :=
 ob (bi draw (R4 E ev sz l T C) (uX E ev sz l l C.n T { H:=C.H,n:=C.n+dB l,log:=C.log })) λr=>some (.normal,r.1,r.2)
def KT(ev:Ev)(rd:Bool)(sz:Nat)(b:Code)(r:Ex×PT V×HS):Y (Ex×PT V×HS) :=
 match r.1 with
 |.normal=>ev.code rd sz b r.2.1 r.2.2
 |_=>some r
def WA(id:Nat)(r:Ex×PT V×HS):Y (Ex×PT V×HS) :=
 match r.1 with
 |.exit j=>bi (Nat.beq j id) (some (.normal,r.2.1,r.2.2)) (some r)
 |_=>some r
def funcOf(v:V):Y (FuncId×Z V) :=
 match v with
 |.func f c=>some (f,c)
 |_=>none
def GI (ev:Ev) (sz:Nat) (ps:Array Tmp) (assign body:Code) (T:PT V) (C:HS) (v:V):Y (Ex×PT V×HS) :=
 ob (funcOf v) λg=>gd (gW C C.n) (ob (ev.call g.1 (.lx C.n::g.2) (HS.put { H:=C.H,n:=C.n+1,log:=C.log } C.n (.lp sz T ps.toList assign body 0))) λr =>
  ob (r.2.H.get C.n) λo=>ob o.lp? λl=>ob (zEY l.2.2.2.2.2) λex=>some (ex,T,r.2.wr C.n (.lp l.1 l.2.1 l.2.2.1 l.2.2.2.1 l.2.2.2.2.1 1)))
def Sd(E:Env)(ev:Ev)(rd:Bool)(sz:Nat)(c:Code)(T:PT V)(C:HS):Y (Ex×PT V×HS) :=
 match c with
 |.skip=>some (.normal,T,C)
 |.region _ ops draw=>zfb E ev sz ops.toList draw T C
 |.seq a b=>ob (ev.code rd sz a T C) λr=>KT ev rd sz b r
 |.cond q a b=>ob (bU T q) λv=>ob v.bool? λt=>bi t (ev.code rd sz a T C) (ev.code rd sz b T C)
 |.block id body=>ob (ev.code rd sz body T C) λr=>WA id r
 |.loop body=>ob (ev.code rd sz body T C) λr=>KT ev rd sz (.loop body) r
 |.exit id=>some (.exit id,T,C)
 |.ret=>some (.ret,T,C)
 |.rangeFunc g ps assign body=>gd (nt rd) (ob (bU T g) λv=>GI ev sz ps assign body T C v)
 |_=>none
def NL (P:Program) (T:PT V) (C:HS) (l:Z ResultVar):Y (Z V) :=
 lr (some []) (λx _ ih=>ob (match x with
  |.tmp t=>T.get t
  |.cell a t=>ob (ti P t) λi=>ob (T.get a) λp=>Ii i C p) λv=>ob ih λr=>some (v::r)) l
def jH(nt:Nat)(l:Z V):Nat->PT V->Y (PT V) :=
 lr (λ_ T=>some T) (λv _ k i T=>gd (Nat.blt i nt) (k (i+1) (T.set i v))) l
def yx(l:Z V):V:=lr (.tuple []) (λx t _=>lr x (λ_ _ _=>.tuple l) t) l
def Vu(P:Program)(fn:Func)(r:Ex×PT V×HS):Y (V×HS) :=
 match r.1 with
 |.exit _=>none
 |_=>ob (NL P r.2.1 r.2.2 fn.results.toList) λl=>some (yx l,r.2.2)
def LK(E:Env)(ev:Ev)(f:FuncId)(args:Z V)(C:HS):Y (V×HS) :=
 ob (E.P.funcs[f]?) λfn=>ob fn.body λc=>ob (jH fn.ntmps args 0 .leaf) λT=>ob (ev.code false fn.ntmps c T C) λr=>Vu E.P fn r
def rV(E:Env)(n:Nat):Ev :=
 @Nat.rec (λ_=>Ev) { code:=λ_ _ _ _ _=>none,call:=λ_ _ _=>none } (λ_ ev=>{ code:=Sd E ev,call:=LK E ev }) n
def zjX(E:Env)(n:Nat)(f:FuncId)(args:Z V):Y V :=
 ob ((rV E n).call f args jv) λr=>still r.2 r.1
def zs6(f:α->Y β):ob none f=none:=rfl
theorem ed(a:α)(f:α->Y β):ob (some a) f=f a:=rfl
theorem aC{x:Y α}{f:α->Y β}{b:β}:ob x f=some b↔∃ a,x=some a/\f a=some b:=by
 cases x with
 |none=>simp[zs6]
 |some a=>simp[ed]
theorem rE(x:Y β):gd true x=x:=rfl
def zdk(x:Y β):gd false x=none:=rfl
theorem bI{x:Y β}{b:β}:gd c x=some b↔c=true/\x=some b:=by
 cases c with
 |true=>simp[rE]
 |false=>simp[zdk]
theorem iR(x y:α):bi true x y=x:=rfl
theorem il(x y:α):bi false x y=y:=rfl
theorem iV(c:Bool)(x y:α):bi c x y=if c=true then x else y:=by cases c<;>rfl
theorem Bi(z:β)(f:α->β):u6 z f none=z:=rfl
theorem kX(z:β)(f:α->β)(a:α):u6 z f (some a)=f a:=rfl
def ztj(z:β)(s:Nat->β):nc z s 0=z:=rfl
def ztk(z:β)(s:Nat->β)(n:Nat):nc z s (n+1)=s n:=rfl
def zoO(z:β)(c:α->Z α->β->β):lr z c []=z:=rfl
def ztv(z:β)(c:α->Z α->β->β)(x:α)(l:Z α):lr z c (x::l)=c x l (lr z c l):=rfl
theorem YA(a b:Bool):et a b=(a&&b):=by cases a<;>rfl
def Ll(a:Bool):nt a=!a:=by cases a<;>rfl
theorem dz{a b:Bool}:et a b=true↔a=true/\b=true:=by rw[YA];simp
theorem jQ{a:Bool}:nt a=true↔a=false:=by rw[Ll];simp
theorem beq_true:Nat.beq a b=true↔a=b:=by rw[Nat.beq_eq]
theorem beq_false:Nat.beq a b=false↔a≠b:=by
 rw[<- Bool.not_eq_true,Nat.beq_eq]
theorem gM:Nat.ble a b=true↔a<=b:=by rw[Nat.ble_eq]
theorem gz:Nat.blt a b=true↔a<b:=by
 simp_all
theorem QR:Nat.ble a b=false↔b<a:=by
 rw[<- Bool.not_eq_true,gM];omega
section lists
def zos(n:Nat):wu ([]:Z α) n=none:=rfl
def zkw(x:α)(l:Z α):wu (x::l) 0=some x:=rfl
def zkx(x:α)(l:Z α)(n:Nat):wu (x::l) (n+1)=wu l n:=rfl
theorem sP(l:Z α)(n:Nat):wu l n=l[n]?:=by
 induction l generalizing n with
 |nil=>simp[zos]
 | cons x l ih=>cases n with
   |zero=>simp[zkw]
   |succ n=>simp[zkx,ih]
def ZM(l:Z α)(n:Nat)(y:α):Xm l n y=l.set n y:=by
 induction l generalizing n with
 |nil=>rfl
 | cons x l ih=>cases n with
   |zero=>rfl
   |succ n=>show x::Xm l n y=_;rw[ih];rfl
theorem yS(n:Nat)(l:Z α):LC n l=l.drop n:=by
 induction l generalizing n with
 |nil=>cases n<;>rfl
 | cons x l ih=>cases n with
   |zero=>rfl
   |succ n=>show LC n l=_;rw[ih];rfl
theorem yA(n:Nat)(l:Z α):I7 n l=l.take n:=by
 induction l generalizing n with
 |nil=>cases n<;>rfl
 | cons x l ih=>cases n with
   |zero=>rfl
   |succ n=>show x::I7 n l=_;rw[ih];rfl
theorem dH(l:Z α):dB l=l.length:=by
 induction l with
 |nil=>rfl
 |cons x l ih=>show dB l+1=_;rw[ih];rfl
theorem oN(l m:Z α):kg l m=l++m:=by
 induction l with
 |nil=>rfl
 |cons x l ih=>show x::kg l m=_;rw[ih];rfl
def ZT(x:α)(n:Nat):zj7 x n=List.replicate n x:=by
 induction n with
 |zero=>rfl
 |succ n ih=>show x::zj7 x n=_;rw[ih];rfl
theorem zia(n:Nat)(l:Z Nat):KX n l=true↔n∈l:=by
 induction l with
 |nil=>simp[KX,zoO]
 | cons x l ih =>
   show bi (Nat.beq n x) true (KX n l)=true↔_;grind [Nat.beq,iR,beq_true,il,beq_false]
theorem uZ(l:Z α)(n:Nat)(new:Z α):(kF l n new).length=l.length:=by
 induction l generalizing n new with
 |nil=>rfl
 | cons x l ih=>cases n with
   | zero=>cases new with
     |nil=>rfl
     |cons y ys=>show (y::kF l 0 ys).length=_;simp[ih]
   |succ n=>show (x::kF l n new).length=_;simp[ih]
theorem FR (l:Z α) (n:Nat) (new:Z α) (i:Nat) (hi:i<l.length) :
 (kF l n new)[i]?=if n<=i/\i<n+new.length then new[i-n]? else l[i]?:=by
 induction l generalizing n new i with
 |nil=>simp at hi
 | cons x l ih=>cases n with
   | zero=>cases new with
     |nil=>show (x::l)[i]?=_;simp
     | cons y ys =>show (y::kF l 0 ys)[i]?=_;grind
   | succ n =>
     show (x::kF l n new)[i]?=_;grind
def zkr(l:Z α)(n:Nat)(new:Z α)(i:Nat)(hi:l.length<=i):(kF l n new)[i]?=none :=
 jS (by rw[uZ];exact hi)
def Nh(p:α->Bool)(l:Z α):lr true (λv _ ih=>et (p v) ih) l=true↔∀ v∈l,p v=true:=by
 induction l with
 |nil=>simp[zoO]
 |cons x l ih=>rw[ztv,dz,ih];simp
end lists
theorem zbh{l:Z V}:J9 l=true↔∀ v∈l,v.bN=true:=Nh _ l
def zgP{l:Z V}:bX l=true↔∀ v∈l,v.pure=true:=Nh _ l
theorem O5{l:Z V}:Ka l=true↔∀ v∈l,v.mY=true:=Nh _ l
def lV{l:Z (Z V)}:bj n l=true↔∀ e∈l,e.length=n:=by
 refine(Nh (λe:Z V=>Nat.beq (dB e) n) l).trans ?_;simp[beq_true,dH]
namespace PT
def zpI(n:Nat):(leaf:PT α).get n=none:=rfl
def Fs(l r:PT α)(v:Y α):(node l v r).get 0=v:=rfl
theorem wR(l r:PT α)(v:Y α)(m:Nat):(node l v r).get (m+1)=if m % 2=0 then l.get (m / 2)else r.get (m / 2):=by
 show bi (Nat.beq (m % 2) 0) (l.get (m / 2)) (r.get (m / 2))=_;grind [beq_true,iR,beq_false,il]
def zkm{t:PT α}:∃ l v r,(∀ (β:Type) (f:PT α->Y α->PT α->β),t.parts f=f l v r)/\(∀ k,t.get k=(node l v r).get k):=by
 cases t with
 | leaf=>exact⟨leaf,none,leaf,λ_ _=>rfl,λk=>by cases k with
   |zero=>rfl
   |succ m=>rw[wR];simp[zpI]⟩
 |node l v r=>exact⟨l,v,r,λ_ _=>rfl,λ_=>rfl⟩
theorem znT (d:Nat):∀ (t:PT α) (n:Nat) (x:α) (k:Nat),n<d->(ze2 d t n x).get k=if k=n then some x else t.get k:=by
 induction d with
 |zero=>intro t n x k h;omega
 | succ d ih =>
   intro t n x k h;let⟨l,v,r,hp,hg⟩:=zkm (t:=t)
   have C:ze2 (d+1) t n x=nc (node l (some x) r) (λm=>bi (Nat.beq (m % 2) 0) (node (ze2 d l (m / 2) x) v r) (node l v (ze2 d r (m / 2) x))) n :=
    hp _ (λl v r=>nc (node l (some x) r) (λm=>bi (Nat.beq (m % 2) 0) (node (ze2 d l (m / 2) x) v r) (node l v (ze2 d r (m / 2) x))) n)
   rw[C,hg k]
   cases n with
   | zero=>rw[ztj];cases k with
     |zero=>simp[Fs]
     |succ m=>rw[wR,wR];simp
   | succ m =>
     rw[ztk];have hm:m / 2<d:=(by omega);by_cases O:m % 2=0;rw[beq_true.2 O,iR]
     cases k with
     |zero=>simp[Fs]
     | succ j =>grind [wR]
     rw[beq_false.2 O,il]
     cases k with
     |zero=>simp[Fs]
     | succ j =>
       grind [wR]
def cZ(t:PT α)(n:Nat)(x:α)(k:Nat):(t.set n x).get k=if k=n then some x else t.get k:=znT (n+1) t n x k (ji n)
end PT
theorem mJ(C:HS)(id:Nat)(o:Obj)(k:Nat):(C.put id o).H.get k=if k=id then some o else C.H.get k:=PT.cZ _ _ _ _
theorem EZ(C:HS)(id:Nat)(o:Obj)(k:Nat):(C.wr id o).H.get k=if k=id then some o else C.H.get k:=PT.cZ _ _ _ _
structure MI where
 b:Nat
 size:Nat
 total:Nat
section
variable (I:Nat->Value)
inductive fJ (w:World) (F:Nat->Prop):V->Value->Prop where
 |bool (b:Bool):fJ w F (.bool b) (.bool b)
 |int (k:IntKind) (n:Int):fJ w F (.int k n) (.int k n)
 |str (s:ByteArray):fJ w F (.str (bytesOf s)) (.string s)
 |de:fJ w F .de (.pointer none)
 |a8:fJ w F .a8 (.slice none 0 0)
 |dy:fJ w F .dy (.map none)
 |nilFunc:fJ w F .nilFunc .nilFunc
 |nilIface:fJ w F .nilIface .nilIface
 |sym (k:Nat):fJ w F (.sym k) (I k)
 |func (f:FuncId):fJ w F (.func f []) (.func (.func f) #[] #[])
 |iface (t:TypeId) (v:V) (y:Value):fJ w F v y->fJ w F (.iface t v) (.iface t y)
 |ref (cs:List V) (b off:Nat) (ys:Nat->Value):F b->(∀ i v,cs[i]?=some v->w.cell? ⟨b,off+i,none⟩=some (ys i)) ->
  (∀ i v,cs[i]?=some v->fJ w F v (ys i))->fJ w F (.ref cs) (.pointer (some ⟨b,off,none⟩))
 |pT (a:Option Addr) (c:Nat) (t:Bool):(t=true->c=0)->fJ w F (.sl [] t) (.slice a 0 c)
 |rj (es:List (List V)) (b off size c:Nat) (t:Bool) (ys:Nat->Nat->Value):F b->(∀ e∈es,e.length=size) ->
  (∀ i e j v,es[i]?=some e->e[j]?=some v->w.cell? ⟨b,off+i*size+j,none⟩=some (ys i j)) ->
  (∀ i e j v,es[i]?=some e->e[j]?=some v->fJ w F v (ys i j))->es.length<=c->(t=true->c=es.length) ->
  fJ w F (.sl es t) (.slice (some ⟨b,off,none⟩) es.length c)
 |agg (cs:List V) (ys:Array Value):ys.size=cs.length->(∀ i v,cs[i]?=some v->fJ w F v (ys.getD i undef))->fJ w F (.agg cs) (.agg ys)
 |tuple (cs:List V) (ys:Array Value):ys.size=cs.length->(∀ i v,cs[i]?=some v->fJ w F v (ys.getD i undef))->fJ w F (.tuple cs) (.tuple ys)
inductive dZ (w:World) (F:Nat->Prop) (μ:Nat->Nat->Option MI):V->Value->Prop where
 |pure {v:V} {x:Value}:fJ I w F v x->dZ w F μ v x
 |ptr (id g off:Nat) (m:MI):μ id g=some m->dZ w F μ (.ptr id g off) (.pointer (some ⟨m.b,off,none⟩))
 |own (id g off len:Nat) (cap:Option Nat) (c:Nat) (m:MI):μ id g=some m->len<=c->off+c*m.size<=m.total ->
  (∀ k,cap=some k->c=k)->(cap=none->off+c*m.size=m.total)->dZ w F μ (.own id g off len cap) (.slice (some ⟨m.b,off,none⟩) len c)
 |map (id:Nat) (m:MI):μ id 0=some m->dZ w F μ (.map id) (.map (some m.b))
 |lx (id:Nat) (m:MI):μ id 0=some m->dZ w F μ (.lx id) (.func (.yield m.b) #[] #[])
 |func (f:FuncId) (cs:List V) (ys:Array Value):ys.size=cs.length->(∀ i v,cs[i]?=some v->dZ w F μ v (ys.getD i undef))->dZ w F μ (.func f cs) (.func (.func f) #[] ys)
 |iface (t:TypeId) (v:V) (y:Value):dZ w F μ v y->dZ w F μ (.iface t v) (.iface t y)
 |agg (cs:List V) (ys:Array Value):ys.size=cs.length->(∀ i v,cs[i]?=some v->dZ w F μ v (ys.getD i undef))->dZ w F μ (.agg cs) (.agg ys)
 |tuple (cs:List V) (ys:Array Value):ys.size=cs.length->(∀ i v,cs[i]?=some v->dZ w F μ v (ys.getD i undef))->dZ w F μ (.tuple cs) (.tuple ys)
def kd{w:World}(h:w'.heap[b]?=w.heap[b]?)(o:Nat):w'.cell? ⟨b,o,none⟩=w.cell? ⟨b,o,none⟩:=by
 simp[World.cell?,h]
theorem fJ.mono{w:World}{v:V}(h:fJ I w F v x)(hF:∀ b,F b->F' b)(hw:∀ b,F b->w'.heap[b]?=w.heap[b]?) :
 fJ I w' F' v x:=by
 induction h with
 |bool b=>exact .bool b
 |int k n=>exact .int k n
 |str s=>exact .str s
 |de=>exact .de
 |a8=>exact .a8
 |dy=>exact .dy
 |nilFunc=>exact .nilFunc
 |nilIface=>exact .nilIface
 |sym k=>exact .sym k
 |func f=>exact .func f
 |iface t v y _ ih=>exact .iface t v y ih
 |ref cs b off ys hb hc _ ih=>exact .ref cs b off ys (hF b hb) (λi v hi=>by rw[kd (hw b hb)];exact hc i v hi) ih
 |pT a c t h=>exact .pT a c t h
 |rj es b off size c t ys hb hl hc _ M O ih=>exact .rj es b off size c t ys (hF b hb) hl (λi e j v hi hj=>by rw[kd (hw b hb)];exact hc i e j v hi hj) ih M O
 |agg cs ys C _ ih=>exact .agg cs ys C ih
 |tuple cs ys C _ ih=>exact .tuple cs ys C ih
theorem dZ.mono{w:World}{μ μ':Nat->Nat->Y MI}{v:V}(h:dZ I w F μ v x)(hF:∀ b,F b->F' b)
 (hw:∀ b,F b->w'.heap[b]?=w.heap[b]?) (hμ:∀ id g m,μ id g=some m->μ' id g=some m):dZ I w' F' μ' v x:=by
 induction h with
 |pure hp=>exact .pure (hp.mono I hF hw)
 |ptr id g off m hm=>exact .ptr id g off m (hμ _ _ _ hm)
 |own id g off len cap c m hm M O h3 h4=>exact .own id g off len cap c m (hμ _ _ _ hm) M O h3 h4
 |map id m hm=>exact .map id m (hμ _ _ _ hm)
 |lx id m hm=>exact .lx id m (hμ _ _ _ hm)
 |func f cs ys C _ ih=>exact .func f cs ys C ih
 |iface t v y _ ih=>exact .iface t v y ih
 |agg cs ys C _ ih=>exact .agg cs ys C ih
 |tuple cs ys C _ ih=>exact .tuple cs ys C ih
section inv
variable {w:World}{μ:Nat->Nat->Y MI}
def dZ.uL{b:Bool}(h:dZ I w F μ (.bool b) x):x=.bool b:=by cases h with|pure h=>cases h;rfl
def dZ.lT{n:Int}(h:dZ I w F μ (.int k n) x):x=.int k n:=by cases h with|pure h=>cases h;rfl
def dZ.Cx{l:Z Nat}(h:dZ I w F μ (.str l) x):∃ s,x=.string s/\bytesOf s=l:=by
 cases h with|pure h=>cases h with|str s=>exact⟨s,rfl,rfl⟩
def dZ.yI{id off:Nat}(h:dZ I w F μ (.ptr id g off) x):∃ m,μ id g=some m/\x=.pointer (some ⟨m.b,off,none⟩):=by
 cases h with
 |pure h=>cases h
 |ptr _ _ _ m hm=>exact⟨m,hm,rfl⟩
def dZ.xe{id off len:Nat}{cap:Y Nat}(h:dZ I w F μ (.own id g off len cap) x) :
 ∃ m c,μ id g=some m/\x=.slice (some ⟨m.b,off,none⟩) len c/\len<=c/\off+c*m.size<=m.total/\(∀ k,cap=some k->c=k)/\(cap=none->off+c*m.size=m.total):=by
 cases h with
 |pure h=>cases h
 |own _ _ _ _ _ c m hm M O h3 h4=>exact⟨m,c,hm,rfl,M,O,h3,h4⟩
def dZ.GR{id:Nat}(h:dZ I w F μ (.map id) x):∃ m,μ id 0=some m/\x=.map (some m.b):=by
 cases h with
 |pure h=>cases h
 |map _ m hm=>exact⟨m,hm,rfl⟩
def dZ.Nn{id:Nat}(h:dZ I w F μ (.lx id) x):∃ m,μ id 0=some m/\x=.func (.yield m.b) #[] #[]:=by
 cases h with
 |pure h=>cases h
 |lx _ m hm=>exact⟨m,hm,rfl⟩
def dZ.xy{cs:Z V}(h:dZ I w F μ (.agg cs) x) :
 ∃ ys:Array Value,x=.agg ys/\ys.size=cs.length/\∀ i v,cs[i]?=some v->dZ I w F μ v (ys.getD i undef):=by
 cases h with
 |pure h=>cases h with|agg _ ys C hc=>exact⟨ys,rfl,C,λi v hi=>.pure (hc i v hi)⟩
 |agg _ ys C hc=>exact⟨ys,rfl,C,hc⟩
def dZ.qF{cs:Z V}(h:dZ I w F μ (.tuple cs) x) :
 ∃ ys:Array Value,x=.tuple ys/\ys.size=cs.length/\∀ i v,cs[i]?=some v->dZ I w F μ v (ys.getD i undef):=by
 cases h with
 |pure h=>cases h with|tuple _ ys C hc=>exact⟨ys,rfl,C,λi v hi=>.pure (hc i v hi)⟩
 |tuple _ ys C hc=>exact⟨ys,rfl,C,hc⟩
def dZ.Br{cs:Z V}(h:dZ I w F μ (.func f cs) x) :
 ∃ ys:Array Value,x=.func (.func f) #[] ys/\ys.size=cs.length/\∀ i v,cs[i]?=some v->dZ I w F μ v (ys.getD i undef):=by
 cases h with
 |pure h=>cases h with|func f=>exact⟨#[],rfl,rfl,λi v hi=>by simp at hi⟩
 |func _ _ ys C hc=>exact⟨ys,rfl,C,hc⟩
def dZ.Dc{v:V}(h:dZ I w F μ (.iface t v) x):∃ y,x=.iface t y/\dZ I w F μ v y:=by
 cases h with
 |pure h=>cases h with|iface _ _ y hy=>exact⟨y,rfl,.pure hy⟩
 |iface _ _ y hy=>exact⟨y,rfl,hy⟩
def dZ.GG{cs:Z V}(h:dZ I w F μ (.ref cs) x):fJ I w F (.ref cs) x:=by cases h with|pure h=>exact h
def dZ.Dq{es:Z (Z V)}{t:Bool}(h:dZ I w F μ (.sl es t) x):fJ I w F (.sl es t) x:=by cases h with|pure h=>exact h
def dZ.Dn(h:dZ I w F μ .a8 x):x=.slice none 0 0:=by cases h with|pure h=>cases h;rfl
def dZ.Mw(h:dZ I w F μ .dy x):x=.map none:=by cases h with|pure h=>cases h;rfl
def dZ.zft(h:dZ I w F μ .de x):x=.pointer none:=by cases h with|pure h=>cases h;rfl
def dZ.zcP(h:dZ I w F μ .nilFunc x):x=.nilFunc:=by cases h with|pure h=>cases h;rfl
def dZ.Od(h:dZ I w F μ .nilIface x):x=.nilIface:=by cases h with|pure h=>cases h;rfl
def dZ.Dw{v:V}(h:dZ I w F μ v x)(hp:v.Dw=true):fJ I w F v x:=by
 cases h with
 |pure h=>exact h
 |_=>simp[V.Dw]at hp
def dZ.bN{v:V}(h:dZ I w F μ v x)(hp:v.bN=true):fJ I w F v x:=by
 cases h with
 |pure h=>exact h
 | func f cs ys C hc=>cases cs with
   | nil => have:ys=#[]:=by simpa using C
            subst this;exact .func f
   |cons _ _=>simp[V.bN,V.Dw]at hp
 |iface t v y hy=>exact .iface t v y (dZ.Dw I hy (by simpa [V.bN]using hp))
 |_=>simp[V.bN,V.Dw]at hp
theorem dZ.CF{v:V}(h:dZ I w F μ v x)(hp:v.pure=true):fJ I w F v x:=by
 cases v with
 | agg cs =>obtain⟨ys,rfl,C,hc⟩:=h.xy;have tM:J9 cs=true:=hp;rw[zbh]at tM;exact .agg cs ys C λi v hi=>dZ.bN I (hc i v hi) (tM v (aI hi))
 |_=>exact dZ.bN I h hp
end inv
end
section
variable (I:Nat->Value)(w:World)(F:Nat->Prop)(μ:Nat->Nat->Y MI)
structure zbu(m:MI)(size:Nat)(es:List (List V))(exact fz row:Bool):Prop where
 fg:m.size=size
 hlen:∀ e∈es,e.length=size
 cells:∃ cells el,w.heap[m.b]?=some (.cells cells el (0,0))/\cells.size=m.total/\es.length*size<=m.total/\(exact=true->m.total=es.length*size) /\
  ∀ k e j v,es[k]?=some e->e[j]?=some v->∃ y,cells[k*size+j]?=some y/\dZ I w F μ v y/\(row=true->fJ I w F v y)
 hf:fz=true->F m.b
 hn:fz=false->¬ F m.b
structure zqQ(m:MI)(es:List (V×V)):Prop where
 entries:∃ (en:Array MapEntry) (clock:Nat),w.heap[m.b]?=some (.map en clock)/\en.size=es.length /\
  ∀ (i:Nat) (k v:V),es[i]?=some (k,v)->∃ e:MapEntry,en[i]?=some e/\fJ I w F k e.key/\fJ I w F v e.val
 hn:¬ F m.b
def kR(T:PT V)(tmps:Array Value):Prop:=∀ t v,T.get t=some v->∃ x,tmps[t]?=some x/\dZ I w F μ v x
def zNl:Nat->Loop->Prop
 | 0,l=>l.state=.ready/\l.pending=none
 | 1,_=>True
 | 2,l=>l.state=.done/\l.pending=some .ret
 |i+3,l=>l.state=.done/\l.pending=some (.exit i)
structure zvo(m:MI)(sz:Nat)(T:PT V)(ps:List Nat)(assign body:Code)(st:Nat):Prop where
 zEt:∃ l:Loop,w.heap[m.b]?=some (.loop l)/\zNl st l/\l.params.toList=ps/\l.assign=assign/\l.body=body /\
  kR I w F μ T l.tmps/\sz<=l.tmps.size
 hn:¬ F m.b
def pO(P:Program)(id:Nat):Obj->Prop
 |.arr size gen es exact fz row=>∀ m,μ id gen=some m->zbu I w F μ m size es exact fz row
 |.mp es=>∀ m,μ id 0=some m->zqQ I w F m es
 |.lp fn T ps assign body st=>∀ m,μ id 0=some m->zvo I w F μ m fn T ps assign body st
abbrev gB:Nat:=1000000
def Gl:Prop:=∀ v,I (gB+v)≠.int .i64 0->F v/\w.cell? ⟨v,0,none⟩=some (I (gB+v))
structure R(P:Program)(C:HS):Prop where
 lt:∀ id g m,μ id g=some m->m.b<w.heap.size
 BR:∀ b,F b->b<w.heap.size
 obj:∀ id o,C.H.get id=some o->pO I w F μ P id o
 inj:∀ id j9 o o' m m',C.H.get id=some o->C.H.get j9=some o'->μ id o.gen=some m->μ j9 o'.gen=some m'->m.b=m'.b->id=j9
 zL:∀ id o,C.H.get id=some o->∀ g,o.gen<g->μ id g=none
 gl:Gl I w F
end
theorem Gl.bw{w:World}(h:Gl I w F)(hf:∀ b,F b->F' b)(hw:∀ b,F b->w'.heap[b]?=w.heap[b]?):Gl I w' F':=λv hv =>
 ⟨hf _ (h v hv).1,(kd (hw v (h v hv).1) 0).trans (h v hv).2⟩
def zS(C:HS)(μ:Nat->Nat->Y MI)(b:Nat):Prop:=∃ id o m,C.H.get id=some o/\o.fz=false/\μ id o.gen=some m/\m.b=b
def Io(w w':World):Prop:=w'.os=w.os/\w'.tape=w.tape/\w'.output=w.output
def Io.trans{a b c:World}(h:Io a b)(k:Io b c):Io a c:=⟨k.1.trans h.1,k.2.1.trans h.2.1,k.2.2.trans h.2.2⟩
structure Fr(w:World)(F:Nat->Prop)(μ:Nat->Nat->Option MI)(C:HS)(w':World)(F':Nat->Prop)(μ':Nat->Nat->Option MI)(a9:HS):Prop where
 io:Io w w'
 size:w.heap.size<=w'.heap.size
 bw:∀ b,b<w.heap.size->¬ zS C μ b->w'.heap[b]?=w.heap[b]?
 fm:∀ b,F b->F' b
 CQ:∀ b,F' b->F b\/w.heap.size<=b\/zS C μ b
 mm:∀ id g m,μ id g=some m->μ' id g=some m
 own:∀ b,zS a9 μ' b->zS C μ b\/w.heap.size<=b
 hm:∀ id,C.H.get id≠none->a9.H.get id≠none
 sm:∀ id,a9.H.get id=none->∀ g,μ' id g=μ id g
 dm:∀ id,C.H.get id≠none->(∀ g,μ id g=none)->∀ g,μ' id g=none
 mn:∀ id g m,μ' id g=some m->w.heap.size<=m.b\/∃ i j m0,μ i j=some m0/\m0.b=m.b
section
variable {P:Program}{w w'':World}{zHt:Nat->Prop}{μ μ' μ'':Nat->Nat->Y MI}{C a9 zFO:HS}
theorem Fr.refl(w:World)(F:Nat->Prop)(μ:Nat->Nat->Y MI)(C:HS):Fr w F μ C w F μ C :=
 ⟨⟨rfl,rfl,rfl⟩,af _,λ_ _ _=>rfl,λ_ h=>h,λ_ h=>.inl h,λ_ _ _ h=>h,λ_ h=>.inl h,λ_ h=>h,λ_ _ _=>rfl,λ_ _ h=>h,λid g m h=>.inr ⟨id,g,m,h,rfl⟩⟩
theorem Fr.trans(h:Fr w F μ C w' F' μ' a9)(h':Fr w' F' μ' a9 w'' zHt μ'' zFO):Fr w F μ C w'' zHt μ'' zFO where
 io:=h.io.trans h'.io
 size:=aO h.size h'.size
 bw b hb hn:=by rw[h'.bw b (cu hb h.size) (λho=>(h.own b ho).elim hn (λrK=>by omega)),h.bw b hb hn]
 fm b hb:=h'.fm b (h.fm b hb)
 CQ b hb:=by rcases h'.CQ b hb with M|M|M;exact h.CQ b M;exact .inr (.inl (aO h.size M));rcases h.own b M with O|O;exact .inr (.inr O);exact .inr (.inl O)
 mm id g m hm:=h'.mm _ _ _ (h.mm _ _ _ hm)
 own b hb:=by rcases h'.own b hb with M|M;exact h.own b M;exact .inr (aO h.size M)
 hm id hi:=h'.hm id (h.hm id hi)
 sm id hi g:=by have cm:a9.H.get id=none:=aY λcg=>h'.hm id cg hi;rw[h'.sm id hi g,h.sm id cm g]
 dm id hi hg:=h'.dm id (h.hm id hi) (h.dm id hi hg)
 mn id g m hg:=by
  rcases h'.mn id g m hg with M|⟨i,j,m0,M,O⟩;exact .inl (aO h.size M);rcases h.mn i j m0 M with h3|⟨i',j',m1,h3,h4⟩;exact .inl (O ▸ h3);exact .inr ⟨i',j',m1,h3,h4.trans O⟩
def R.vg(h:R I w F μ P C)(hF:F b):¬ zS C μ b:=by
 rintro ⟨id,o,m,ho,hf,hm,rfl⟩;have:=h.obj id o ho
 cases o with
 |arr size gen es exact fz row=>exact(this m hm).hn hf hF
 |mp es=>exact(this m hm).hn hF
 |lp fn T ps assign body busy=>exact(this m hm).hn hF
def Fr.rep(h:Fr w F μ C w' F' μ' a9)(hR:R I w F μ P C){v:V}(W:dZ I w F μ v x):dZ I w' F' μ' v x :=
 W.mono I h.fm (λb hb=>h.bw b (hR.BR b hb) (hR.vg hb)) h.mm
def Fr.zK2(h:Fr w F μ C w' F' μ' a9)(hR:R I w F μ P C){v:V}(W:fJ I w F v x):fJ I w' F' v x :=
 W.mono I h.fm (λb hb=>h.bw b (hR.BR b hb) (hR.vg hb))
def Fr.zxB(h:Fr w F μ C w' F' μ' a9)(hR:R I w F μ P C){T:PT V}{a:Array Value}(hT:kR I w F μ T a):kR I w' F' μ' T a:=by
 intro t v hv;let⟨x,W,hr⟩:=hT t v hv;exact⟨x,W,h.rep hR hr⟩
theorem pO.mono{id:Nat}{o:Obj}(h:pO I w F μ P id o)(hF:∀ b,F b->F' b)(hw:∀ b,F b->w'.heap[b]?=w.heap[b]?)
 (hμ:∀ id g m,μ id g=some m->μ' id g=some m) (zLI:∀ m,μ' id o.gen=some m->μ id o.gen=some m)
 (hb:∀ m,μ id o.gen=some m->w'.heap[m.b]?=w.heap[m.b]?) (hn:∀ m,μ id o.gen=some m->o.fz=false->¬ F m.b->¬ F' m.b):pO I w' F' μ' P id o:=by
 cases o with
 | arr size gen es exact fz row =>intro m hm;have fW:=zLI m hm;let⟨M,O,⟨cells,el,hc,ht,hl,he,b7⟩,h4,h5⟩:=h m fW;refine⟨M,O,⟨cells,el,(hb m fW).trans hc,ht,hl,he,λk e j v hk hj=>?_⟩,λh=>hF _ (h4 h),λh=>hn m fW h (h5 h)⟩;let⟨y,hy,hr,hp⟩:=b7 k e j v hk hj;exact⟨y,hy,hr.mono I hF hw hμ,λhr=>(hp hr).mono I hF hw⟩
 | mp es =>intro m hm;have fW:=zLI m hm;let⟨⟨en,clock,he,C,b7⟩,h5⟩:=h m fW;refine⟨⟨en,clock,(hb m fW).trans he,C,λi k v hi=>?_⟩,hn m fW rfl h5⟩;let⟨e,M,O,h3⟩:=b7 i k v hi;exact⟨e,M,O.mono I hF hw,h3.mono I hF hw⟩
 | lp fn T ps assign body busy =>
   intro m hm;have fW:=zLI m hm;let⟨⟨l,hl,M,h4,h5,h6,h7,h8⟩,HE⟩:=h m fW;refine⟨⟨l,(hb m fW).trans hl,M,h4,h5,h6,λt v hv=>?_,h8⟩,hn m fW rfl HE⟩;let⟨x,W,hr⟩:=h7 t v hv;exact⟨x,W,hr.mono I hF hw hμ⟩
def R.grow(h:R I w F μ P C)(a9:w.heap.size<=w'.heap.size)(hw:∀ b,b<w.heap.size->w'.heap[b]?=w.heap[b]?):R I w' F μ P C where
 lt id g m hm:=cu (h.lt id g m hm) a9
 BR b hb:=cu (h.BR b hb) a9
 obj id o ho:=(h.obj id o ho).mono (λ_ h=>h) (λb hb=>hw b (h.BR b hb)) (λ_ _ _ h=>h) (λ_ h=>h) (λm hm=>hw m.b (h.lt _ _ _ hm)) (λ_ _ _ h=>h)
 inj:=h.inj
 zL:=h.zL
 gl:=h.gl.bw (λ_ h=>h) λb hb=>hw b (h.BR b hb)
end
def s6(μ:Nat->Nat->Y MI)(id g:Nat)(m:MI):Nat->Nat->Y MI:=λi j=>if i=id/\j=g then some m else μ i j
def c8(μ:Nat->Nat->Y MI)(id g:Nat)(m:MI):s6 μ id g m id g=some m:=by simp[s6]
def kE{μ:Nat->Nat->Y MI}{id:Nat}{m:MI}{i j:Nat}(h:¬ (i=id/\j=g)):s6 μ id g m i j=μ i j:=by simp[s6,h]
def qW(w:World)(B:_root_.Go.Obj):World:={ w with heap:=w.heap.push B }
def ou(w:World)(B:_root_.Go.Obj):(qW w B).heap.size=w.heap.size+1:=by simp[qW]
def qE(w:World)(B:_root_.Go.Obj)(h:b<w.heap.size):(qW w B).heap[b]?=w.heap[b]?:=by
 simp[qW,nQ,Nat.ne_of_lt h]
def uT(w:World)(B:_root_.Go.Obj):(qW w B).heap[w.heap.size]?=some B:=by simp[qW]
section
variable {P:Program}{w:World}{μ:Nat->Nat->Y MI}{C a9:HS}
def Ql{id:Nat}{o:Obj}(hH:∀ k,a9.H.get k=if k=id then some o else C.H.get k)(i:Nat)(hi:C.H.get i≠none):a9.H.get i≠none:=by
 rw[hH];split;simp;exact hi
def R.alloc (h:R I w F μ P C) {id:Nat} (ft:C.H.get id=none) (ly:∀ g,μ id g=none) {o:Obj} (hg:o.gen=0) (hz:o.fz=false)
 {m:MI} (cd:w.heap.size<=m.b) (cG:m.b<w'.heap.size) (hw:∀ b,b<w.heap.size->w'.heap[b]?=w.heap[b]?)
 (hH:∀ k,a9.H.get k=if k=id then some o else C.H.get k)
 (ho:pO I w' F (s6 μ id 0 m) P id o) (D0:Io w w':=by exact⟨rfl,rfl,rfl⟩):R I w' F (s6 μ id 0 m) P a9/\Fr w F μ C w' F (s6 μ id 0 m) a9:=by
 have u9:∀ i g m',μ i g=some m'->s6 μ id 0 m i g=some m':=by intro i g m' hm;rw[kE];exact hm;rintro ⟨rfl,rfl⟩;rw[ly]at hm;cases hm
 have gw:∀ i g m',i≠id->s6 μ id 0 m i g=some m'->μ i g=some m':=by
  intro i g m' cg hm
  rwa [kE (λe=>cg e.1)]at hm
 have s9:∀ g m',s6 μ id 0 m id g=some m'->g=0/\m'=m:=by intro g m' hm;by_cases e:g=0;subst e;rw[c8]at hm;exact⟨rfl,(bT hm).symm⟩;rw[kE (λx=>e x.2),ly]at hm;cases hm
 have fg:w.heap.size<=w'.heap.size:=by omega
 refine⟨⟨?_,?_,?_,?_,?_,h.gl.bw (λ_ h=>h) λb hb=>hw b (h.BR b hb)⟩,⟨D0,fg,λb hb _=>hw b hb,λ_ h=>h,λ_ h=>.inl h,u9,?_,?_,?_,?_,?_⟩⟩;intro i g m' hm;by_cases e:i=id;subst e;obtain⟨_,rfl⟩:=s9 g m' hm;exact cG;exact cu (h.lt i g m' (gw i g m' e hm)) fg;intro b hb;exact cu (h.BR b hb) fg;intro i o' im;rw[hH]at im;by_cases e:i=id;subst e;rw[if_pos rfl]at im;cases im;exact ho;rw[if_neg e]at im;exact(h.obj i o' im).mono (λ_ h=>h) (λb hb=>hw b (h.BR b hb)) u9 (λm' hm=>gw _ _ _ e hm) (λm' hm=>hw _ (h.lt _ _ _ hm)) (λ_ _ _ h=>h);intro i j o1 o2 m1 m2 M O ez kj he;rw[hH]at M O;by_cases ei:i=id;subst ei;obtain⟨_,rfl⟩:=s9 _ _ ez;by_cases ej:j=i;exact ej.symm;have:=h.lt _ _ _ (gw _ _ _ ej kj);omega;by_cases ej:j=id;subst ej;obtain⟨_,rfl⟩:=s9 _ _ kj;have:=h.lt _ _ _ (gw _ _ _ ei ez);omega;rw[if_neg ei]at M;rw[if_neg ej]at O;exact h.inj i j o1 o2 m1 m2 M O (gw _ _ _ ei ez) (gw _ _ _ ej kj) he;intro i o' im g Tl;rw[hH]at im;by_cases e:i=id;subst e;rw[if_pos rfl]at im;cases im;rw[kE (λx=>by omega)];exact ly g;rw[if_neg e]at im;rw[kE (λx=>e x.1)];exact h.zL i o' im g Tl;rintro b ⟨i,o',m',im,hf,eW,rfl⟩;rw[hH]at im;by_cases e:i=id;subst e;obtain⟨_,rfl⟩:=s9 _ _ eW;exact .inr cd;rw[if_neg e]at im;exact .inl ⟨i,o',m',im,hf,gw _ _ _ e eW,rfl⟩;intro i hi;rw[hH];split;simp;exact hi;intro i hi g;rw[hH]at hi;split at hi;cases hi;rename_i e;exact kE (λx=>e x.1);intro i hi hg g;rw[kE (λx=>hi (by rw[x.1];exact ft))];exact hg g;intro i g m' eW;by_cases e:i=id;subst e;obtain⟨_,rfl⟩:=s9 _ _ eW;exact .inl cd;exact .inr ⟨i,g,m',gw _ _ _ e eW,rfl⟩
theorem R.write(h:R I w F μ P C){id:Nat}{o o':Obj}(dq:C.H.get id=some o)(hz:o.fz=false){m:MI}(hm:μ id o.gen=some m)(hg:o'.gen=o.gen)(I2:o'.fz=false)
 (cd:w'.heap.size=w.heap.size) (hw:∀ b,b≠m.b->w'.heap[b]?=w.heap[b]?) (hH:∀ k,a9.H.get k=if k=id then some o' else C.H.get k)
 (ho:pO I w' F μ P id o') (D0:Io w w':=by exact⟨rfl,rfl,rfl⟩):R I w' F μ P a9/\Fr w F μ C w' F μ a9:=by
 have qT:zS C μ m.b:=⟨id,o,m,dq,hz,hm,rfl⟩;have wg:¬ F m.b:=λhF=>h.vg hF qT;have hF:∀ b,F b->w'.heap[b]?=w.heap[b]?:=λb hb=>hw b (λe=>wg (e ▸ hb));refine⟨⟨?_,?_,?_,?_,?_,h.gl.bw (λ_ h=>h) hF⟩,⟨D0,by omega,λb _ hb=>hw b (λe=>hb (e ▸ qT)),λ_ h=>h,λ_ h=>.inl h,λ_ _ _ h=>h,?_,Ql hH,λ_ _ _=>rfl,λ_ _ h=>h,λi g m1 M=>.inr ⟨i,g,m1,M,rfl⟩⟩⟩;intro i g m' eW;rw[cd];exact h.lt i g m' eW;intro b hb;rw[cd];exact h.BR b hb;intro i o1 M;rw[hH]at M;by_cases e:i=id;grind;rw[if_neg e]at M;exact(h.obj i o1 M).mono (λ_ h=>h) hF (λ_ _ _ h=>h) (λ_ h=>h) (λm1 ez=>hw _ (λe'=>e (h.inj i id o1 o m1 m M dq ez hm e'))) (λ_ _ _ h=>h);intro i j o1 o2 m1 m2 M O ez kj he;rw[hH]at M O;have key:∀ k ok mk,(if k=id then some o' else C.H.get k)=some ok->μ k ok.gen=some mk->∃ ok',C.H.get k=some ok'/\μ k ok'.gen=some mk:=by grind
 let⟨a1,ha1,Kf⟩:=key i o1 m1 M ez;let⟨a2,ha2,ri⟩:=key j o2 m2 O kj;exact h.inj i j a1 a2 m1 m2 ha1 ha2 Kf ri he;intro i o1 M g Tl;rw[hH]at M;by_cases e:i=id;subst e;rw[if_pos rfl]at M;cases M;exact h.zL i o dq g (by omega);rw[if_neg e]at M;exact h.zL i o1 M g Tl;rintro b ⟨i,o1,m1,M,hf,ez,rfl⟩;rw[hH]at M;by_cases e:i=id;subst e;rw[if_pos rfl]at M;cases M;rw[hg]at ez;exact .inl ⟨i,o,m1,dq,hz,ez,rfl⟩;rw[if_neg e]at M;exact .inl ⟨i,o1,m1,M,hf,ez,rfl⟩
def R.next (h:R I w F μ P C) {id:Nat} {o o':Obj} (dq:C.H.get id=some o) (hz:o.fz=false) {m m':MI} (hm:μ id o.gen=some m) (hg:o'.gen=o.gen+1) (I2:o'.fz=false)
 (cd:w.heap.size<=w'.heap.size) (cG:m'.b<w'.heap.size) (hb:m'.b=m.b\/w.heap.size<=m'.b) (hw:∀ b,b<w.heap.size->b≠m.b->w'.heap[b]?=w.heap[b]?)
 (hH:∀ k,a9.H.get k=if k=id then some o' else C.H.get k)
 (ho:pO I w' F (s6 μ id (o.gen+1) m') P id o') (D0:Io w w':=by exact⟨rfl,rfl,rfl⟩):R I w' F (s6 μ id (o.gen+1) m') P a9/\Fr w F μ C w' F (s6 μ id (o.gen+1) m') a9:=by
 have qT:zS C μ m.b:=⟨id,o,m,dq,hz,hm,rfl⟩;have wg:¬ F m.b:=λhF=>h.vg hF qT;have hF:∀ b,F b->w'.heap[b]?=w.heap[b]?:=λb hb=>hw b (h.BR b hb) (λe=>wg (e ▸ hb));have js:μ id (o.gen+1)=none:=h.zL id o dq _ (by omega);have u9:∀ i g m1,μ i g=some m1->s6 μ id (o.gen+1) m' i g=some m1:=by intro i g m1 ez;rw[kE];exact ez;rintro ⟨rfl,rfl⟩;rw[js]at ez;cases ez
 have gw:∀ i g m1,i≠id->s6 μ id (o.gen+1) m' i g=some m1->μ i g=some m1:=by
  intro i g m1 cg M
  rwa [kE (λe=>cg e.1)]at M
 have aE:∀ m1,s6 μ id (o.gen+1) m' id o'.gen=some m1->m1=m':=by intro m1 M;rw[hg,c8]at M;exact(bT M).symm
 refine⟨⟨?_,?_,?_,?_,?_,h.gl.bw (λ_ h=>h) hF⟩,⟨D0,cd,λb cG hb=>hw b cG (λe=>hb (e ▸ qT)),λ_ h=>h,λ_ h=>.inl h,u9,?_,Ql hH,?_,?_,?_⟩⟩;intro i g m1 ez;by_cases e:i=id/\g=o.gen+1;obtain⟨rfl,rfl⟩:=e;rw[c8]at ez;cases ez;exact cG;rw[kE e]at ez;exact cu (h.lt i g m1 ez) cd;intro b hb;exact cu (h.BR b hb) cd;intro i o1 M;rw[hH]at M;by_cases e:i=id;subst e;rw[if_pos rfl]at M;cases M;exact ho;rw[if_neg e]at M;exact(h.obj i o1 M).mono (λ_ h=>h) hF u9 (λm1 ez=>gw _ _ _ e ez) (λm1 ez=>hw _ (h.lt _ _ _ ez) (λe'=>e (h.inj i id o1 o m1 m M dq ez hm e'))) (λ_ _ _ h=>h);intro i j o1 o2 m1 m2 M O ez kj he;rw[hH]at M O;by_cases ei:i=id;subst ei;rw[if_pos rfl]at M;cases M;have e1:=aE _ ez;subst e1;by_cases ej:j=i;exact ej.symm;rw[if_neg ej]at O;have PF:=gw _ _ _ ej kj;have hl:=h.lt _ _ _ PF;rcases hb with hb|hb;exact(h.inj j i o2 o m2 m O dq PF hm (by omega)).symm;omega;by_cases ej:j=id;subst ej;rw[if_pos rfl]at O;cases O;have e1:=aE _ kj;subst e1;rw[if_neg ei]at M;have wx:=gw _ _ _ ei ez;have hl:=h.lt _ _ _ wx;rcases hb with hb|hb;exact h.inj i j o1 o m1 m M dq wx hm (by omega);omega;rw[if_neg ei]at M;rw[if_neg ej]at O;exact h.inj i j o1 o2 m1 m2 M O (gw _ _ _ ei ez) (gw _ _ _ ej kj) he;intro i o1 M g Tl;rw[hH]at M;by_cases e:i=id;subst e;rw[if_pos rfl]at M;cases M;rw[kE (λx=>by omega)];exact h.zL i o dq g (by omega);rw[if_neg e]at M;rw[kE (λx=>e x.1)];exact h.zL i o1 M g Tl;rintro b ⟨i,o1,m1,M,hf,ez,rfl⟩;rw[hH]at M;by_cases e:i=id;subst e;rw[if_pos rfl]at M;cases M;have e1:=aE _ ez;subst e1;rcases hb with hb|hb;exact .inl (hb ▸ qT);exact .inr hb;rw[if_neg e]at M;exact .inl ⟨i,o1,m1,M,hf,gw _ _ _ e ez,rfl⟩;intro i hi g;rw[hH]at hi;split at hi;cases hi;rename_i e;exact kE (λx=>e x.1);intro i _ hg g;rw[kE];exact hg g;rintro ⟨rfl,_⟩;rw[hg]at hm;cases hm;intro i g m1 ez;by_cases e:i=id/\g=o.gen+1;obtain⟨rfl,rfl⟩:=e;rw[c8]at ez;cases ez;rcases hb with hb|hb;exact .inr ⟨_,_,m,hm,hb.symm⟩;exact .inl hb;rw[kE e]at ez;exact .inr ⟨i,g,m1,ez,rfl⟩
theorem R.freeze(h:R I w F μ P C){id size gen:Nat}{es:Z (Z V)}{exact fz row:Bool}(dq:C.H.get id=some (.arr size gen es exact fz row))
 (hH:∀ k,a9.H.get k=if k=id then some (.arr size gen es exact true row)else C.H.get k) :
 R I w (λb=>F b\/∃ m,μ id gen=some m/\b=m.b) μ P a9/\Fr w F μ C w (λb=>F b\/∃ m,μ id gen=some m/\b=m.b) μ a9:=by
 have key:∀ k ok mk,(if k=id then some (Obj.arr size gen es exact true row)else C.H.get k)=some ok->μ k ok.gen=some mk->∃ ok',C.H.get k=some ok'/\μ k ok'.gen=some mk/\(ok.fz=false->ok'.fz=false/\k≠id):=by intro k ok mk hk HG;by_cases e:k=id;subst e;rw[if_pos rfl]at hk;cases hk;exact⟨_,dq,HG,λhf=>by cases hf⟩;grind
 refine⟨⟨?_,?_,?_,?_,?_,h.gl.bw (λ_ h=>.inl h) λ_ _=>rfl⟩,⟨⟨rfl,rfl,rfl⟩,af _,λ_ _ _=>rfl,λ_ h=>.inl h,?_,λ_ _ _ h=>h,?_,Ql hH,λ_ _ _=>rfl,λ_ _ h=>h,λi g m1 M=>.inr ⟨i,g,m1,M,rfl⟩⟩⟩;exact h.lt;intro b hb;rcases hb with hb|⟨m,hm,rfl⟩;exact h.BR b hb;exact h.lt _ _ _ hm;intro i o1 M;rw[hH]at M;by_cases e:i=id;subst e;rw[if_pos rfl]at M;cases M;intro m hm;let⟨M,O,⟨cells,el,hc,ht,hl,he,b7⟩,h4,h5⟩:=h.obj _ _ dq m hm;refine⟨M,O,⟨cells,el,hc,ht,hl,he,λk e j v hk hj=>?_⟩,λ_=>.inr ⟨m,hm,rfl⟩,λhf=>by cases hf⟩;let⟨y,hy,hr,hp⟩:=b7 k e j v hk hj;exact⟨y,hy,hr.mono I (λ_ h=>.inl h) (λ_ _=>rfl) (λ_ _ _ h=>h),λhr=>(hp hr).mono I (λ_ h=>.inl h) (λ_ _=>rfl)⟩;rw[if_neg e]at M;refine(h.obj i o1 M).mono (λ_ h=>.inl h) (λ_ _=>rfl) (λ_ _ _ h=>h) (λ_ h=>h) (λ_ _=>rfl) ?_;rintro m1 ez hf wg (hF|⟨m,hm,hb⟩);exact wg hF;exact e (h.inj i id o1 _ m1 m M dq ez hm hb);intro i j o1 o2 m1 m2 M O ez kj he;rw[hH]at M O;let⟨a1,ha1,Kf,_⟩:=key i o1 m1 M ez;let⟨a2,ha2,ri,_⟩:=key j o2 m2 O kj;exact h.inj i j a1 a2 m1 m2 ha1 ha2 Kf ri he;intro i o1 M g Tl;rw[hH]at M;by_cases e:i=id;subst e;rw[if_pos rfl]at M;cases M;exact h.zL i _ dq g Tl;rw[if_neg e]at M;exact h.zL i o1 M g Tl;rintro b (hF|⟨m,hm,rfl⟩);exact .inl hF
 cases fz with
 |true=>exact .inl ((h.obj _ _ dq m hm).hf rfl)
 |false=>exact .inr (.inr ⟨id,_,m,dq,rfl,hm,rfl⟩)
 rintro b ⟨i,o1,m1,M,hf,ez,rfl⟩;rw[hH]at M;let⟨a1,ha1,Kf,C1⟩:=key i o1 m1 M ez;exact .inl ⟨i,a1,m1,ha1,(C1 hf).1,Kf,rfl⟩
end
end Go.J
