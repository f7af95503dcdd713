import GoSem.Step
import GoSem.Dispatch
import Derived.Control
set_option linter.all false
noncomputable section
/- A checked evaluator for the fragment of the program's code that the claims reach: values without addresses,and objects with numbers. Definitions alone. -/
namespace Go.J
def bi{α:Type}(c:Bool)(x y:α):α:=@Bool.rec (fun _=>α) y x c
def ob{α β:Type}(x:Option α)(f:α→Option β):Option β:=@Option.rec α (fun _=>Option β) none f x
def orc{α β:Type}(z:β)(f:α→β)(x:Option α):β:=@Option.rec α (fun _=>β) z f x
def gd{β:Type}(c:Bool)(x:Option β):Option β:=@Bool.rec (fun _=>Option β) none x c
def lr{α β:Type}(z:β)(c:α→List α→β→β)(l:List α):β:=@List.rec α (fun _=>β) z c l
def nc{β:Type}(z:β)(s:Nat→β)(n:Nat):β:=@Nat.rec (fun _=>β) z (fun m _=>s m) n
def nr{β:Type}(z:β)(s:Nat→β→β)(n:Nat):β:=@Nat.rec (fun _=>β) z s n
def et(a b:Bool):Bool:=@Bool.rec (fun _=>Bool) false b a
def nt(a:Bool):Bool:=@Bool.rec (fun _=>Bool) true false a
inductive V where
 |bool (b:Bool)
 |int (k:IntKind) (n:Int)
 |str (s:List Nat)
 |nilptr
 |ptr (id gen off:Nat)
 |ref (cs:List V)
 |snil
 |sl (es:List (List V)) (tight:Bool)
 |own (id gen off len:Nat) (cap:Option Nat)
 |nilmap
 |map (id:Nat)
 |nilFunc
 |func (f:FuncId) (captured:List V)
 |yld (id:Nat)
 |nilIface
 |iface (t:TypeId) (v:V)
 |agg (cs:List V)
 |tuple (vs:List V)
 |sym (k:Nat)
 deriving Inhabited
inductive PT (α:Type) where
 |leaf
 |node (l:PT α) (v:Option α) (r:PT α)
namespace PT
variable {α:Type}
def get(t:PT α):Nat→Option α :=
 @PT.rec α (fun _=>Nat→Option α) (fun _=>none) (fun _ v _ gl gr n=>nc v (fun m=>bi (Nat.beq (m % 2) 0) (gl (m / 2)) (gr (m / 2))) n) t
def parts{β:Type}(t:PT α)(f:PT α→Option α→PT α→β):β:=@PT.rec α (fun _=>β) (f leaf none leaf) (fun l v r _ _=>f l v r) t
def setD (d:Nat):PT α→Nat→α→PT α :=
 @Nat.rec (fun _=>PT α→Nat→α→PT α) (fun t _ _=>t)
  (fun _ ih t n x=>t.parts fun l v r=>nc (node l (some x) r) (fun m=>bi (Nat.beq (m % 2) 0) (node (ih l (m / 2) x) v r) (node l v (ih r (m / 2) x))) n) d
def set(t:PT α)(n:Nat)(x:α):PT α:=setD (n+1) t n x
end PT
inductive Obj where
 |arr (size gen:Nat) (es:List (List V)) (exact frozen row:Bool)
 |mp (es:List (V×V))
 |lp (fn:FuncId) (T:PT V) (ps:List Nat) (assign body:Code) (st:Nat)
structure HS where
 H:PT Obj
 n:Nat
 log:List Nat
def HS.put(hs:HS)(id:Nat)(o:Obj):HS:={ H:=hs.H.set id o,n:=hs.n,log:=hs.log }
def HS.wr(hs:HS)(id:Nat)(o:Obj):HS:={ H:=hs.H.set id o,n:=hs.n,log:=id::hs.log }
structure TI where
 desc:TypeDesc
 size:Nat
 bytes:Nat
 zero:List V
 zagg:Bool
def bytesOf(s:ByteArray):List Nat:=s.data.toList.map UInt8.toNat
def ofConst1:Value→Option V
 |.bool b=>some (.bool b)
 |.int k n=>some (.int k n)
 |.string s=>some (.str (bytesOf s))
 |.pointer none=>some .nilptr
 |.slice none 0 0=>some .snil
 |.map none=>some .nilmap
 |.nilFunc=>some .nilFunc
 |.nilIface=>some .nilIface
 |_=>none
def ofConst1L(l:List Value):Option (List V) :=
 lr (some []) (fun x _ ih=>ob (ofConst1 x) fun v=>ob ih fun r=>some (v::r)) l
def ofConst:Value→Option V
 |.agg cs=>ob (ofConst1L cs.toList) fun l=>some (.agg l)
 |v=>ofConst1 v
def V.cells:V→List V
 |.agg cs=>cs
 |v=>[v]
def V.isCell:V→Bool
 |.agg _=>false
 |.tuple _=>false
 |_=>true
def allC(l:List V):Bool:=lr true (fun v _ ih=>et v.isCell ih) l
def V.pure1:V→Bool
 |.bool _|.int _ _|.str _|.nilptr|.ref _|.snil|.sl _ _|.nilmap|.nilFunc|.nilIface|.sym _=>true
 |_=>false
def V.pure2:V→Bool
 |.iface _ v=>v.pure1
 |.func _ []=>true
 |v=>v.pure1
def allP(l:List V):Bool:=lr true (fun v _ ih=>et v.pure2 ih) l
def V.pure:V→Bool
 |.agg cs=>allP cs
 |v=>v.pure2
def allPure(l:List V):Bool:=lr true (fun v _ ih=>et v.pure ih) l
def nthL{α:Type}(l:List α):Nat→Option α:=lr (fun _=>none) (fun x _ ih n=>nc (some x) ih n) l
def setL{α:Type}(l:List α):Nat→α→List α:=lr (fun _ _=>[]) (fun x t ih n y=>nc (y::t) (fun m=>x::ih m y) n) l
def dropL{α:Type}(n:Nat)(l:List α):List α:=lr (β:=Nat→List α) (fun _=>[]) (fun x t ih n=>nc (x::t) ih n) l n
def takeL{α:Type}(n:Nat)(l:List α):List α:=lr (β:=Nat→List α) (fun _=>[]) (fun x _ ih n=>nc [] (fun m=>x::ih m) n) l n
def lenL{α:Type}(l:List α):Nat:=lr 0 (fun _ _ ih=>ih+1) l
def overL{α:Type}(l:List α)(n:Nat)(new:List α):List α :=
 lr (β:=Nat→List α→List α) (fun _ _=>[]) (fun x t ih n new=>nc (lr (x::t) (fun y ys _=>y::ih 0 ys) new) (fun m=>x::ih m new) n) l n new
def appL{α:Type}(l m:List α):List α:=lr m (fun x _ ih=>x::ih) l
def repL{α:Type}(x:α)(n:Nat):List α:=nr [] (fun _ ih=>x::ih) n
def memL(n:Nat)(l:List Nat):Bool:=lr false (fun x _ ih=>bi (Nat.beq n x) true ih) l
def eqNs(l:List Nat):List Nat→Bool :=
 lr (fun m=>lr true (fun _ _ _=>false) m) (fun a _ ih m=>lr false (fun b y _=>et (Nat.beq a b) (ih y)) m) l
def ltNs(l:List Nat):List Nat→Bool :=
 lr (fun m=>lr false (fun _ _ _=>true) m) (fun a _ ih m=>lr false (fun b y _=>bi (Nat.blt a b) true (et (Nat.beq a b) (ih y))) m) l
def wrapJ(k:IntKind)(n:Int):Int :=
 match k,n with
 |.i64,.ofNat m=>bi (Nat.blt m 9223372036854775808) n (k.wrap n)
 |.i64,.negSucc m=>bi (Nat.blt m 9223372036854775808) n (k.wrap n)
 |_,_=>k.wrap n
def ltI:Int→Int→Bool
 |.ofNat a,.ofNat b=>Nat.blt a b
 |.ofNat _,.negSucc _=>false
 |.negSucc _,.ofNat _=>true
 |.negSucc a,.negSucc b=>Nat.blt b a
def eqI:Int→Int→Bool
 |.ofNat a,.ofNat b=>Nat.beq a b
 |.negSucc a,.negSucc b=>Nat.beq a b
 |_,_=>false
def leI(a b:Int):Bool:=nt (ltI b a)
def natI:Int→Option Nat
 |.ofNat a=>some a
 |_=>none
def kindNo:IntKind→Nat
 |.i8=>0
 |.i16=>1
 |.i32=>2
 |.i64=>3
 |.u8=>4
 |.u16=>5
 |.u32=>6
 |.u64=>7
def kindEq(a b:IntKind):Bool:=Nat.beq (kindNo a) (kindNo b)
def V.bool?:V→Option Bool
 |.bool b=>some b
 |_=>none
def V.int?:V→Option (IntKind×Int)
 |.int k n=>some (k,n)
 |_=>none
def V.nat? (v:V):Option Nat:=ob v.int? fun p=>natI p.2
def V.str?:V→Option (List Nat)
 |.str s=>some s
 |_=>none
def V.agg?:V→Option (List V)
 |.agg s=>some s
 |_=>none
def V.tuple?:V→Option (List V)
 |.tuple s=>some s
 |_=>none
def Obj.arr?:Obj→Option (Nat×Nat×List (List V)×Bool×Bool×Bool)
 |.arr a b c d e f=>some (a,b,c,d,e,f)
 |_=>none
def Obj.mp?:Obj→Option (List (V×V))
 |.mp es=>some es
 |_=>none
def sliceOf:TypeDesc→Option TypeId
 |.slice e=>some e
 |_=>none
def elemOf:TypeDesc→Option (TypeId×Option Nat)
 |.slice e=>some (e,none)
 |.array n e=>some (e,some n)
 |_=>none
def mapOf:TypeDesc→Option (TypeId×TypeId)
 |.map k e=>some (k,e)
 |_=>none
def isAggD:TypeDesc→Bool
 |.struct _|.array _ _=>true
 |_=>false
def getRow(hs:HS)(id g:Nat):Option (Nat×List (List V)×Bool×Bool×Bool) :=
 ob (hs.H.get id) fun o=>ob o.arr? fun a=>gd (et (Nat.beq g a.2.1) (nt (Nat.beq a.1 0))) (some (a.1,a.2.2))
def cutRow(size off len:Nat)(es:List (List V)):Option (List (List V)) :=
 gd (et (Nat.beq (off % size) 0) (Nat.ble (off / size+len) (lenL es))) (some (takeL len (dropL (off / size) es)))
def stillRow(hs:HS)(id g off len:Nat):Option V :=
 ob (getRow hs id g) fun a=>gd a.2.2.2.2 (ob (cutRow a.1 off len a.2.1) fun l=>some (.sl l false))
def still1(hs:HS)(v:V):Option V :=
 match v with
 |.own id g off len _=>stillRow hs id g off len
 |v=>gd v.pure2 (some v)
def stillL(hs:HS)(l:List V):Option (List V) :=
 lr (some []) (fun v _ ih=>ob (still1 hs v) fun v'=>ob ih fun l'=>some (v'::l')) l
def still2(hs:HS)(v:V):Option V :=
 match v with
 |.agg cs=>ob (stillL hs cs) fun l=>some (.agg l)
 |v=>still1 hs v
def stillA(hs:HS)(l:List V):Option (List V) :=
 lr (some []) (fun v _ ih=>ob (still2 hs v) fun v'=>ob ih fun l'=>some (v'::l')) l
def still(hs:HS)(v:V):Option V :=
 match v with
 |.tuple cs=>ob (stillA hs cs) fun l=>some (.tuple l)
 |v=>still2 hs v
def freezeRow(hs:HS)(id:Nat):HS :=
 orc hs (fun o=>orc hs (fun a=>hs.wr id (.arr a.1 a.2.1 a.2.2.1 a.2.2.2.1 true a.2.2.2.2.2)) o.arr?) (hs.H.get id)
def freeze1(hs:HS)(v:V):HS :=
 match v with
 |.own id _ _ _ _=>freezeRow hs id
 |_=>hs
def freezeL(hs:HS)(l:List V):HS:=lr hs (fun v _ ih=>freeze1 ih v) l
def purify(v:V)(hs:HS):Option (V×HS) :=
 ob (still2 hs v) fun v'=>some (v',freezeL hs v.cells)
def purifyA(l:List V):HS→Option (List V×HS) :=
 lr (fun hs=>some ([],hs)) (fun v _ ih hs=>ob (purify v hs) fun r=>ob (ih r.2) fun q=>some (r.1::q.1,q.2)) l
def purR(r:V×HS):Option (V×HS) :=
 match r.1 with
 |.tuple vs=>ob (purifyA vs r.2) fun q=>some (.tuple q.1,q.2)
 |v=>purify v r.2
def V.scal1:V→Bool
 |.bool _|.int _ _|.str _|.nilptr|.snil|.nilmap|.nilFunc|.nilIface=>true
 |_=>false
def allS(l:List V):Bool:=lr true (fun v _ ih=>et v.scal1 ih) l
def V.scal(v:V):Bool :=
 match v with
 |.agg cs=>allS cs
 |.tuple cs=>allS cs
 |v=>v.scal1
def evalO(T:PT V)(o:Operand):Option V :=
 match o with
 |.tmp t=>T.get t
 |.const v=>ofConst v
 |.func f=>some (.func f [])
 |.global _=>none
def evalL(T:PT V)(l:List Operand):Option (List V) :=
 lr (some []) (fun o _ ih=>ob (evalO T o) fun v=>ob ih fun r=>some (v::r)) l
def isAggV(x:Value):Bool :=
 match x with
 |.agg _=>true
 |_=>false
section
variable (P:Program)
def ti (t:TypeId):Option TI :=
 ob (P.info? t) fun i=>ob (P.underlying t) fun d=>ob i.zero fun z=>ob (ofConst1L z.cells.toList) fun cs =>
  some { desc:=d,size:=i.size,bytes:=i.bytes,zero:=cs,zagg:=isAggV z }
def aggL(size:Nat)(r:List V):Option V:=gd (Nat.beq (lenL r) size) (some (.agg r))
def partL(i:TI)(cs:List V)(off:Nat):Option V :=
 bi (isAggD i.desc) (aggL i.size (takeL i.size (dropL off cs))) (nthL cs off)
def fieldOf(i:TI)(f:Nat):Option Field :=
 match i.desc with
 |.struct fs=>fs[f]?
 |_=>none
def nilP(v:V):Option Bool :=
 match v with
 |.nilptr=>some true
 |.ptr _ _ _=>some false
 |.ref _=>some false
 |_=>none
def nilS(v:V):Option Bool :=
 match v with
 |.snil=>some true
 |.own _ _ _ _ _=>some false
 |.sl (_::_) _=>some false
 |_=>none
def nilM(v:V):Option Bool :=
 match v with
 |.nilmap=>some true
 |.map _=>some false
 |_=>none
def nilF(v:V):Option Bool :=
 match v with
 |.nilFunc=>some true
 |.func _ _=>some false
 |_=>none
def eqNil(a b:Option Bool):Option Bool:=ob a fun a=>ob b fun b=>bi a (some b) (bi b (some false) none)
def boolEq(a b:Bool):Bool:=bi a b (nt b)
def eqD(d:TypeDesc)(x y:V):Option Bool :=
 match d with
 |.bool=>ob x.bool? fun a=>ob y.bool? fun b=>some (boolEq a b)
 |.pointer _=>eqNil (nilP x) (nilP y)
 |.slice _=>eqNil (nilS x) (nilS y)
 |.map _ _=>eqNil (nilM x) (nilM y)
 |.func _ _ _=>eqNil (nilF x) (nilF y)
 |_=>none
def isIntD:TypeDesc→Bool
 |.int _=>true
 |_=>false
def fieldsEq:List Field→List V→List V→Option Bool
 | [],_,_=>some true
 | f :: fs, xs, ys => gd (nt (f.name == "_")) (ob (ti P f.type) fun i => gd (isIntD i.desc) (ob (nthL xs f.offset) fun a => ob (nthL ys f.offset) fun b =>
     ob a.int? fun p=>ob b.int? fun q=>gd (kindEq p.1 q.1) (bi (eqI p.2 q.2) (fieldsEq fs xs ys) (some false))))
def eqS(t:TypeId)(fs:Array Field)(x y:V):Option Bool :=
 match x,y with
 |.agg xs,.agg ys=>gd (et (nt (P.stoodInHeld t)) (nt (P.eqGuardType P.depth t))) (fieldsEq P fs.toList xs ys)
 |_,_=>none
def eqW(t:TypeId)(d:TypeDesc)(x y:V):Option Bool :=
 match d with
 |.struct fs=>eqS P t fs x y
 |d=>eqD d x y
def eqV(t:TypeId)(x y:V):Option Bool:=ob (ti P t) fun i=>eqW P t i.desc x y
def andI(k:IntKind)(a b:Int):Int:=k.wrap ((BitVec.ofInt k.bits a &&& BitVec.ofInt k.bits b).toNat)
def arith(op:BinOp)(k:IntKind)(a b:Int):Option V :=
 match op with
 |.add=>some (.int k (wrapJ k (a+b)))
 |.sub=>some (.int k (wrapJ k (a-b)))
 |.mul=>some (.int k (wrapJ k (a*b)))
 |.quo=>gd (nt (eqI b 0)) (some (.int k (wrapJ k (a.tdiv b))))
 |.rem=>gd (nt (eqI b 0)) (some (.int k (a.tmod b)))
 |.eql=>some (.bool (eqI a b))
 |.neq=>some (.bool (nt (eqI a b)))
 |.lss=>some (.bool (ltI a b))
 |.leq=>some (.bool (leI a b))
 |.gtr=>some (.bool (ltI b a))
 |.geq=>some (.bool (leI b a))
 |.and=>some (.int k (andI k a b))
 |_=>none
def shiftJ(op:BinOp)(k:IntKind)(a b:Int):Option V :=
 match op with
 |.shr=>ob (natI b) fun m=>some (.int k (a.fdiv (2 ^ min m k.bits)))
 |_=>none
def strOp(op:BinOp)(a b:List Nat):Option V :=
 match op with
 |.add=>gd (Nat.ble (lenL a+lenL b) 1048576) (some (.str (appL a b)))
 |.eql=>some (.bool (eqNs a b))
 |.neq=>some (.bool (nt (eqNs a b)))
 |.lss=>some (.bool (ltNs a b))
 |.gtr=>some (.bool (bi (ltNs a b) false (nt (eqNs a b))))
 |.geq=>some (.bool (nt (ltNs a b)))
 |.leq=>some (.bool (bi (ltNs a b) true (eqNs a b)))
 |_=>none
def otherOp(op:BinOp)(t:TypeId)(x y:V):Option V :=
 match op with
 |.eql=>ob (eqV P t x y) fun b=>some (.bool b)
 |.neq=>ob (eqV P t x y) fun b=>some (.bool (nt b))
 |_=>none
def isShift:BinOp→Bool
 |.shl|.shr=>true
 |_=>false
def binJ(op:BinOp)(t:TypeId)(x y:V):Option V :=
 match x with
 |.int k a=>ob y.int? fun b=>bi (isShift op) (shiftJ op k a b.2) (gd (kindEq k b.1) (arith op k a b.2))
 |.str a=>ob y.str? fun b=>strOp op a b
 |x=>otherOp P op t x y
def loadRow(i:TI)(a:Nat×List (List V)×Bool×Bool×Bool)(off:Nat):Option V :=
 ob (nthL a.2.1 (off / a.1)) fun e=>partL i e (off % a.1)
def loadJ(i:TI)(hs:HS)(v:V):Option V :=
 match v with
 |.ptr id g off=>ob (getRow hs id g) fun a=>loadRow i a off
 |.ref cs=>partL i cs 0
 |_=>none
def storeRow (i:TI) (id g off:Nat) (v:V) (hs:HS):Option HS :=
 ob (getRow hs id g) fun a=>gd (nt a.2.2.2.1) (gd (et (allC v.cells) (et (Nat.beq (lenL v.cells) i.size) (Nat.ble (off % a.1+i.size) a.1)))
  (ob (nthL a.2.1 (off / a.1)) fun e=>some (hs.wr id (.arr a.1 g (setL a.2.1 (off / a.1) (overL e (off % a.1) v.cells)) a.2.2.1 false a.2.2.2.2))))
def isRow(hs:HS)(id:Nat):Bool:=orc false (fun o=>orc false (fun a=>a.2.2.2.2.2) o.arr?) (hs.H.get id)
def storeJ(i:TI)(hs:HS)(a v:V):Option HS :=
 match a with
 |.ptr id g off=>bi (isRow hs id) (ob (purify v hs) fun r=>storeRow i id g off r.1 r.2) (storeRow i id g off v hs)
 |_=>none
def buildJ (T:PT V) (i:TI) (l:List (Nat×Operand)):List V→Option (List V) :=
 lr (fun cells=>some cells) (fun p _ k cells=>ob (fieldOf i p.1) fun fd=>ob (ti P fd.type) fun fi=>ob (evalO T p.2) fun v =>
  gd (et (Nat.beq (lenL v.cells) fi.size) (Nat.ble (fd.offset+fi.size) (lenL cells))) (k (overL cells fd.offset v.cells))) l
def cleanJ(dr:Bool)(v:V)(hs:HS):Option (V×HS):=bi dr (gd v.pure (some (v,hs))) (purify v hs)
def partsJ (dr:Bool) (T:PT V) (e:TI) (len:Nat) (l:List (Nat×Operand)):HS→List (List V)→Option (List (List V)×HS) :=
 lr (fun hs es=>some (es,hs)) (fun p _ k hs es=>ob (evalO T p.2) fun v=>ob (cleanJ dr v hs) fun r =>
  gd (et (Nat.beq (lenL r.1.cells) e.size) (Nat.blt p.1 len)) (k r.2 (setL es p.1 r.1.cells))) l
def elemsJ(hs:HS)(size:Nat)(v:V):Option (List (List V)) :=
 match v with
 |.snil=>some []
 |.sl es _=>some es
 |.own id g off len _=>ob (getRow hs id g) fun a=>gd (et a.2.2.2.2 (Nat.beq a.1 size)) (cutRow a.1 off len a.2.1)
 |_=>none
def lenJ (hs:HS) (d:TypeDesc) (v:V):Option Nat :=
 match d with
 |.string=>ob v.str? fun s=>some (lenL s)
 | .slice _=>match v with
   |.snil=>some 0
   |.sl es _=>some (lenL es)
   |.own _ _ _ len _=>some len
   |_=>none
 | .map _ _=>match v with
   |.nilmap=>some 0
   |.map id=>ob (hs.H.get id) fun o=>ob o.mp? fun es=>some (lenL es)
   |_=>none
 |_=>none
def sizes(size:Nat)(l:List (List V)):Bool:=lr true (fun e _ ih=>et (Nat.beq (lenL e) size) ih) l
def roomOk(n bytes:Nat):Bool:=Nat.ble (n*bytes) 1048576
def allCells(l:List (List V)):Bool:=lr true (fun e _ ih=>et (allC e) ih) l
def mkRowJ(e:TI)(hs:HS)(id n:Nat)(es:List (List V)):Option (V×HS) :=
 some (.own id 0 0 n none,hs.put id (.arr e.size 0 es false false true))
def appendSl (e:TI) (hs:HS) (id:Nat) (es:List (List V)) (tight:Bool) (new:List (List V)):Option (V×HS) :=
 bi (Nat.beq (lenL new) 0) (some (.sl es tight,hs))
  (gd (et tight (et (roomOk (lenL es+lenL new) e.bytes) (sizes e.size es))) (mkRowJ e hs id (lenL es+lenL new) (appL es new)))
def appendNil(e:TI)(hs:HS)(id:Nat)(new:List (List V)):Option (V×HS) :=
 bi (Nat.beq (lenL new) 0) (some (.snil,hs)) (gd (roomOk (lenL new) e.bytes) (mkRowJ e hs id (lenL new) new))
def appendIn (hs:HS) (id g off len:Nat) (cap:Option Nat) (a:Nat×List (List V)×Bool×Bool×Bool) (new:List (List V)):Option (V×HS) :=
 gd (et (nt a.2.2.2.1) (Nat.ble (off / a.1+len+lenL new) (lenL a.2.1)))
  (some (.own id g off (len+lenL new) cap,hs.wr id (.arr a.1 g (overL a.2.1 (off / a.1+len) new) a.2.2.1 false a.2.2.2.2)))
def appendOwn (e:TI) (hs:HS) (id' id g off len:Nat) (cap:Option Nat) (new:List (List V)):Option (V×HS) :=
 ob (getRow hs id g) fun a=>gd (et a.2.2.2.2 (et (Nat.beq a.1 e.size) (et (Nat.beq (off % a.1) 0) (roomOk (len+lenL new) e.bytes))))
  (orc
    (bi (Nat.ble (off / a.1+len+lenL new) (lenL a.2.1)) (appendIn hs id g off len none a new)
      (gd (et (nt a.2.2.2.1) (et (Nat.beq off 0) (Nat.ble len (lenL a.2.1)))) (some (.own id (g+1) 0 (len+lenL new) none,hs.wr id (.arr a.1 (g+1) (appL (takeL len a.2.1) new) false false true)))))
    (fun c=>bi (Nat.ble (len+lenL new) c) (appendIn hs id g off len cap a new) (ob (cutRow a.1 off len a.2.1) fun old=>mkRowJ e hs id' (len+lenL new) (appL old new)))
    cap)
def appendJ (e:TI) (hs:HS) (id':Nat) (s x:V):Option (V×HS) :=
 ob (elemsJ hs e.size x) fun new=>gd (et (sizes e.size new) (et (allCells new) (et (nt (Nat.beq e.size 0)) (et (nt (Nat.beq e.bytes 0)) (Nat.beq (lenL e.zero) e.size)))))
  (match s with
  |.snil=>appendNil e hs id' new
  |.sl es tight=>appendSl e hs id' es tight new
  |.own id g off len cap=>appendOwn e hs id' id g off len cap new
  |_=>none)
def minN(a b:Nat):Nat:=bi (Nat.ble a b) a b
def copyOwn (e:TI) (hs:HS) (id g off len:Nat) (src:List (List V)):Option (V×HS) :=
 ob (getRow hs id g) fun a=>gd (et (nt a.2.2.2.1) (et a.2.2.2.2 (et (Nat.beq a.1 e.size) (et (Nat.beq (off % a.1) 0) (et (sizes e.size src) (et (allCells src) (Nat.ble (off / a.1+minN (lenL src) len) (lenL a.2.1))))))))
  (some (.int .i64 (Int.ofNat (minN (lenL src) len)),hs.wr id (.arr a.1 g (overL a.2.1 (off / a.1) (takeL (minN (lenL src) len) src)) a.2.2.1 false true)))
def copyJ (e:TI) (hs:HS) (d x:V):Option (V×HS) :=
 ob (elemsJ hs e.size x) fun src =>
  match d with
  |.own id g off len _=>copyOwn e hs id g off len src
  |.snil=>some (.int .i64 0,hs)
  |_=>none
def makeSliceJ (i:TI) (hs:HS) (id:Nat) (l c:V):Option (V×HS) :=
 ob (sliceOf i.desc) fun el=>ob (ti P el) fun e=>ob l.nat? fun l=>ob c.nat? fun c =>
  gd (et (Nat.ble l c) (et (roomOk c e.bytes) (et (Nat.ble (c*e.size) 1048576) (et (nt (Nat.beq e.size 0)) (et (Nat.beq (lenL e.zero) e.size) (allP e.zero))))))
   (some (.own id 0 0 l (some c),hs.put id (.arr e.size 0 (repL e.zero c) true false true)))
def isSomeO{α:Type}:Option α→Bool
 |some _=>true
 |none=>false
def optJ(T:PT V)(o:Option Operand)(y d:Nat):Option Nat :=
 orc (some d) (fun o=>ob (evalO T o) fun v=>ob v.nat? fun n=>gd (Nat.ble n y) (some n)) o
def bounds(T:PT V)(len cap:Nat)(lo hi mx:Option Operand):Option (Nat×Nat×Nat) :=
 gd (bi (isSomeO mx) (isSomeO hi) true) (ob (optJ T mx cap cap) fun m=>ob (optJ T hi m len) fun h=>ob (optJ T lo h 0) fun l=>some (l,h,m))
def sliceStr(T:PT V)(s:List Nat)(lo hi mx:Option Operand):Option V :=
 gd (nt (isSomeO mx)) (ob (bounds T (lenL s) (lenL s) lo hi mx) fun b=>some (.str (takeL (b.2.1-b.1) (dropL b.1 s))))
def sliceSl (T:PT V) (e:TI) (es:List (List V)) (tight:Bool) (lo hi mx:Option Operand):Option V :=
 gd (sizes e.size es) (ob (bounds T (lenL es) (lenL es) lo hi mx) fun b =>
  some (.sl (takeL (b.2.1-b.1) (dropL b.1 es)) (bi (isSomeO mx) (Nat.beq b.2.1 b.2.2) (et tight (Nat.beq b.2.1 (lenL es))))))
def subCap(c:Option Nat)(l:Nat):Option Nat:=orc none (fun c=>some (c-l)) c
def sliceOwn (T:PT V) (hs:HS) (e:TI) (id g off len:Nat) (cap:Option Nat) (lo hi mx:Option Operand):Option V :=
 ob (getRow hs id g) fun a=>gd (Nat.beq a.1 e.size) (ob (bounds T len (orc len (fun c=>c) cap) lo hi mx) fun b =>
  gd (bi (Nat.beq b.1 0) true (Nat.blt b.1 b.2.2)) (some (.own id g (off+b.1*e.size) (b.2.1-b.1) (bi (isSomeO mx) (some (b.2.2-b.1)) (subCap cap b.1)))))
def sliceNil(T:PT V)(lo hi mx:Option Operand):Option V:=ob (bounds T 0 0 lo hi mx) fun _=>some .snil
def sliceJ (T:PT V) (hs:HS) (i:TI) (x:V) (lo hi mx:Option Operand):Option V :=
 match i.desc with
 |.string=>ob x.str? fun s=>sliceStr T s lo hi mx
 | .slice el=>ob (ti P el) fun e =>
   match x with
   |.snil=>sliceNil T lo hi mx
   |.sl es tight=>sliceSl T e es tight lo hi mx
   |.own id g off len cap=>sliceOwn T hs e id g off len cap lo hi mx
   |_=>none
 |_=>none
def keyEq(k a:V):Option Bool :=
 match k with
 |.int k n=>ob a.int? fun p=>gd (kindEq k p.1) (some (eqI n p.2))
 |.str s=>ob a.str? fun t=>some (eqNs s t)
 |.bool b=>ob a.bool? fun c=>some (boolEq b c)
 |_=>none
def findJ(k:V)(l:List (V×V)):Option (Option V) :=
 lr (some none) (fun p _ ih=>ob (keyEq k p.1) fun q=>bi q (some (some p.2)) ih) l
def putMapJ(k v:V)(l:List (V×V)):Option (List (V×V)) :=
 lr (some [(k,v)]) (fun p t ih=>ob (keyEq k p.1) fun q=>bi q (some ((p.1,v)::t)) (ob ih fun r=>some (p::r))) l
def keyOk (d:TypeDesc) (k:V):Bool :=
 match d with
 | .int j=>match k with
   |.int k _=>kindEq j k
   |_=>false
 | .string=>match k with
   |.str _=>true
   |_=>false
 | .bool=>match k with
   |.bool _=>true
   |_=>false
 |_=>false
def undefV:V:=.tuple []
def zeroJ(e:TI):Option V:=bi e.zagg (some (.agg e.zero)) (nthL e.zero 0)
def pickJ(T:PT V)(hs:HS)(c a b:Operand):Option (V×HS) :=
 ob (evalO T c) fun q=>ob q.bool? fun q=>ob (bi q (evalO T a) (evalO T b)) fun v=>some (v,hs)
def allocJ(hs:HS)(id:Nat)(t:TypeId):Option (V×HS) :=
 ob (ti P t) fun i=>gd (Nat.beq (lenL i.zero) i.size) (some (.ptr id 0 0,hs.put id (.arr i.size 0 [i.zero] true false false)))
def boxJ(T:PT V)(hs:HS)(id:Nat)(x:Operand):Option (V×HS) :=
 ob (evalO T x) fun v=>some (.ptr id 0 0,hs.put id (.arr (lenL v.cells) 0 [v.cells] true false false))
def fieldsOk(l:List Field):Bool:=lr true (fun f _ ih=>et (isSomeO (ti P f.type)) ih) l
def isStructD(d:TypeDesc):Bool :=
 match d with
 |.struct _=>true
 |_=>false
def fieldsOf(d:TypeDesc):List Field :=
 match d with
 |.struct fs=>fs.toList
 |_=>[]
def arrOf:TypeDesc→Option TypeId
 |.array _ e=>some e
 |_=>none
def buildAJ(T:PT V)(n:Nat)(l:List (Nat×Operand)):List V→Option (List V) :=
 lr (fun cells=>some cells) (fun p _ k cells=>ob (evalO T p.2) fun v=>gd (et (Nat.beq (lenL v.cells) n) (Nat.ble (p.1*n+n) (lenL cells))) (k (overL cells (p.1*n) v.cells))) l
def buildOpJ(T:PT V)(hs:HS)(t:TypeId)(parts:Array (Nat×Operand)):Option (V×HS) :=
 ob (ti P t) fun i=>ob (bi (isStructD i.desc) (gd (fieldsOk P (fieldsOf i.desc)) (buildJ P T i parts.toList i.zero)) (ob (arrOf i.desc) fun el=>ob (ti P el) fun e=>buildAJ T e.size parts.toList i.zero)) fun cs=>some (.agg cs,hs)
def buildSliceOpJ (dr:Bool) (T:PT V) (hs:HS) (id:Nat) (t:TypeId) (len:Nat) (parts:Array (Nat×Operand)):Option (V×HS) :=
 ob (ti P t) fun i=>ob (sliceOf i.desc) fun el=>ob (ti P el) fun e =>
  gd (et (Nat.ble (len*e.size) 1048576) (et (nt (Nat.beq e.size 0)) (et (Nat.beq (lenL e.zero) e.size) (allP e.zero))))
   (ob (partsJ dr T e len parts.toList hs (repL e.zero len)) fun r=>some (bi (Nat.beq e.bytes 128) (.own id 0 0 len (some len)) (.sl r.1 true),r.2.put id (bi (Nat.beq e.bytes 128) (.arr e.size 0 r.1 true false true) (.mp []))))
def loadOpJ(T:PT V)(hs:HS)(t:TypeId)(a:Operand):Option (V×HS) :=
 ob (ti P t) fun i=>ob (evalO T a) fun p=>ob (loadJ i hs p) fun v=>some (v,hs)
def storeOpJ(T:PT V)(hs:HS)(t:TypeId)(a x:Operand):Option (V×HS) :=
 ob (ti P t) fun i=>ob (evalO T a) fun p=>ob (evalO T x) fun v=>ob (storeJ i hs p v) fun hs'=>some (undefV,hs')
def notNil(v:V):Bool :=
 match v with
 |.ptr _ _ _=>true
 |.ref _=>true
 |.func _ _=>true
 |.yld _=>true
 |_=>false
def nilCheckJ(T:PT V)(hs:HS)(x:Operand):Option (V×HS):=ob (evalO T x) fun v=>gd (notNil v) (some (v,hs))
def isNilC:Operand→Bool
 |.const .nilIface=>true
 |_=>false
def nilI(v:V):Option Bool :=
 match v with
 |.nilIface=>some true
 |.iface _ _=>some false
 |_=>none
def isIface:TypeDesc→Bool
 |.interface _=>true
 |_=>false
def nilJ(op:BinOp)(t:TypeId)(a:V):Option V:=ob (ti P t) fun i=>gd (isIface i.desc) (ob (nilI a) fun b =>
 match op with
 |.eql=>some (.bool b)
 |.neq=>some (.bool (nt b))
 |_=>none)
def binOpJ(T:PT V)(hs:HS)(op:BinOp)(t:TypeId)(x y:Operand):Option (V×HS) :=
 ob (evalO T x) fun a=>ob (evalO T y) fun b=>ob (bi (isNilC y) (nilJ P op t a) (binJ P op t a b)) fun v=>some (v,hs)
def unOpJ(T:PT V)(hs:HS)(op:UnOp)(x:Operand):Option (V×HS) :=
 match op with
 |.not=>ob (evalO T x) fun v=>ob v.bool? fun b=>some (.bool (nt b),hs)
 |.neg=>ob (evalO T x) fun v=>ob v.int? fun p=>some (.int p.1 (wrapJ p.1 (0-p.2)),hs)
 |_=>none
def convV(d:TypeDesc)(v:V):Option V :=
 match d with
 |.int k=>ob v.int? fun p=>some (.int k (wrapJ k p.2))
 |.string=>ob v.str? fun s=>some (.str s)
 |_=>none
def convJ(T:PT V)(hs:HS)(s d:TypeId)(x:Operand):Option (V×HS) :=
 ob (ti P s) fun _=>ob (ti P d) fun j=>ob (evalO T x) fun v=>ob (convV j.desc v) fun r=>some (r,hs)
def fieldAddrV(n:Nat)(v:V):Option V :=
 match v with
 |.ptr id g off=>some (.ptr id g (off+n))
 |.ref cs=>some (.ref (dropL n cs))
 |_=>none
def fieldAddrJ(T:PT V)(hs:HS)(t:TypeId)(x:Operand)(f:Nat):Option (V×HS) :=
 ob (ti P t) fun i=>ob (fieldOf i f) fun fd=>ob (ti P fd.type) fun fi=>gd (nt (Nat.beq fi.size 0)) (ob (evalO T x) fun v=>ob (fieldAddrV fd.offset v) fun r=>some (r,hs))
def fieldJ(T:PT V)(hs:HS)(t:TypeId)(x:Operand)(f:Nat):Option (V×HS) :=
 ob (ti P t) fun i=>ob (fieldOf i f) fun fd=>ob (ti P fd.type) fun fi=>ob (evalO T x) fun v=>ob v.agg? fun cs=>ob (partL fi cs fd.offset) fun v=>some (v,hs)
def indexAddrV(e:TI)(n:Nat)(v:V):Option V :=
 match v with
 |.sl es _=>gd (sizes e.size es) (ob (nthL es n) fun c=>some (.ref c))
 |.own id g off len _=>gd (Nat.blt n len) (some (.ptr id g (off+n*e.size)))
 |_=>none
def idxV(m:Option Nat)(e:TI)(n:Nat)(v:V):Option V :=
 match m with
 |none=>indexAddrV e n v
 |some k=>gd (Nat.blt n k) (fieldAddrV (n*e.size) v)
def indexAddrJ(T:PT V)(hs:HS)(t:TypeId)(x ix:Operand):Option (V×HS) :=
 ob (ti P t) fun i=>ob (elemOf i.desc) fun el=>ob (ti P el.1) fun e=>ob (evalO T x) fun v=>ob (evalO T ix) fun n=>ob n.nat? fun n=>ob (idxV el.2 e n v) fun r=>some (r,hs)
def isStr:TypeDesc→Bool
 |.string=>true
 |_=>false
def indexJ(T:PT V)(hs:HS)(t:TypeId)(x ix:Operand):Option (V×HS) :=
 ob (ti P t) fun i=>gd (isStr i.desc) (ob (evalO T x) fun v=>ob v.str? fun s=>ob (evalO T ix) fun n=>ob n.nat? fun n=>ob (nthL s n) fun b=>some (.int .u8 (Int.ofNat b),hs))
def sliceOpJ(T:PT V)(hs:HS)(t:TypeId)(x:Operand)(lo hi mx:Option Operand):Option (V×HS) :=
 ob (ti P t) fun i=>ob (evalO T x) fun v=>ob (sliceJ P T hs i v lo hi mx) fun r=>some (r,hs)
def extractJ(T:PT V)(hs:HS)(x:Operand)(k:Nat):Option (V×HS) :=
 ob (evalO T x) fun v=>ob v.tuple? fun vs=>ob (nthL vs k) fun v=>some (v,hs)
def makeFuncJ(T:PT V)(hs:HS)(fn:Fn)(first caps:Array Operand):Option (V×HS) :=
 match fn with
 |.func f=>gd (first.toList.isEmpty) (ob (evalL T caps.toList) fun l=>some (.func f l,hs))
 |_=>none
def makeMapJ(hs:HS)(id:Nat)(r:Option Operand):Option (V×HS):=gd (nt (isSomeO r)) (some (.map id,hs.put id (.mp [])))
def makeSliceOpJ(T:PT V)(hs:HS)(id:Nat)(t:TypeId)(l c:Operand):Option (V×HS) :=
 ob (ti P t) fun i=>ob (evalO T l) fun a=>ob (evalO T c) fun b=>makeSliceJ P i hs id a b
def entriesJ(hs:HS)(m:V):Option (List (V×V)) :=
 match m with
 |.nilmap=>some []
 |.map id=>ob (hs.H.get id) fun o=>o.mp?
 |_=>none
def lookupJ (T:PT V) (hs:HS) (t:TypeId) (m k:Operand) (ok:Bool):Option (V×HS) :=
 ob (ti P t) fun i=>ob (mapOf i.desc) fun d=>ob (ti P d.1) fun ki=>ob (ti P d.2) fun e=>ob (evalO T m) fun mv=>ob (evalO T k) fun kv =>
  gd (keyOk ki.desc kv) (ob (entriesJ hs mv) fun es=>ob (findJ kv es) fun r =>
   ob (orc (zeroJ e) (fun v=>some v) r) fun v=>some (bi ok (.tuple [v,.bool (isSomeO r)]) v,hs))
def mapUpdateJ (T:PT V) (hs:HS) (t:TypeId) (m k x:Operand):Option (V×HS) :=
 ob (ti P t) fun i=>ob (mapOf i.desc) fun d=>ob (ti P d.1) fun ki=>ob (evalO T m) fun mv=>ob (evalO T k) fun kv=>ob (evalO T x) fun v =>
  gd (keyOk ki.desc kv) (match mv with
   |.map id=>ob (purify v hs) fun r=>ob (r.2.H.get id) fun o=>ob o.mp? fun es=>ob (putMapJ kv r.1 es) fun es'=>some (undefV,r.2.wr id (.mp es'))
   |_=>none)
def makeIfaceJ(T:PT V)(hs:HS)(t:TypeId)(x:Operand):Option (V×HS) :=
 ob (ti P t) fun i=>gd (nt (isIface i.desc)) (ob (evalO T x) fun v=>some (.iface t v,hs))
def moveJ(T:PT V)(hs:HS)(x:Operand):Option (V×HS):=ob (evalO T x) fun v=>some (v,hs)
structure OpR where
 no:Nat
 t:TypeId
 x:Operand
 y:Operand
 z:Operand
 n:Nat
 u:TypeId
 ps:Array (Nat×Operand)
 l:Option Operand
 h:Option Operand
 m:Option Operand
 b:BinOp
 un:UnOp
 ok:Bool
 fn:Fn
 fs:Array Operand
 cs:Array Operand
def opR0:OpR:={ no:=100,t:=0,x:=.func 0,y:=.func 0,z:=.func 0,n:=0,u:=0,ps:=#[],l:=none,h:=none,m:=none,b:=.add,un:=.plus,ok:=false,fn:=.func 0,fs:=#[],cs:=#[] }
def opR(op:Op):OpR :=
 match op with
 |.move x=>{ opR0 with no:=0,x:=x }
 |.assign x=>{ opR0 with no:=0,x:=x }
 |.load t a=>{ opR0 with no:=1,t:=t,x:=a }
 |.binOp op t x y _=>{ opR0 with no:=2,t:=t,x:=x,y:=y,b:=op }
 |.fieldAddr t x f=>{ opR0 with no:=3,t:=t,x:=x,n:=f }
 |.store t a x=>{ opR0 with no:=4,t:=t,x:=a,y:=x }
 |.alloc t=>{ opR0 with no:=5,t:=t }
 |.box _ x=>{ opR0 with no:=6,x:=x }
 |.indexAddr t x ix=>{ opR0 with no:=7,t:=t,x:=x,y:=ix }
 |.pick c a b=>{ opR0 with no:=8,x:=c,y:=a,z:=b }
 |.extract x k=>{ opR0 with no:=9,x:=x,n:=k }
 |.nilCheck x=>{ opR0 with no:=10,x:=x }
 |.unOp op _ x=>{ opR0 with no:=11,un:=op,x:=x }
 |.build t parts=>{ opR0 with no:=12,t:=t,ps:=parts }
 |.buildSlice t len parts=>{ opR0 with no:=13,t:=t,n:=len,ps:=parts }
 |.slice t x lo hi mx=>{ opR0 with no:=14,t:=t,x:=x,l:=lo,h:=hi,m:=mx }
 |.index t x ix=>{ opR0 with no:=15,t:=t,x:=x,y:=ix }
 |.lookup t m k ok=>{ opR0 with no:=16,t:=t,x:=m,y:=k,ok:=ok }
 |.mapUpdate t m k x=>{ opR0 with no:=17,t:=t,x:=m,y:=k,z:=x }
 |.insert t m k x=>{ opR0 with no:=17,t:=t,x:=m,y:=k,z:=x }
 |.convert s d x=>{ opR0 with no:=18,t:=s,u:=d,x:=x }
 |.field t x f=>{ opR0 with no:=19,t:=t,x:=x,n:=f }
 |.makeSlice t l c=>{ opR0 with no:=20,t:=t,x:=l,y:=c }
 |.makeMap _ r=>{ opR0 with no:=21,l:=r }
 |.makeFunc fn first caps=>{ opR0 with no:=22,fn:=fn,fs:=first,cs:=caps }
 |.makeInterface t x=>{ opR0 with no:=23,t:=t,x:=x }
 |_=>opR0
def opA(T:PT V)(hs:HS)(id:Nat)(r:OpR):Option (V×HS) :=
 nc (moveJ T hs r.x) (fun m=>nc (loadOpJ P T hs r.t r.x) (fun m=>nc (binOpJ P T hs r.b r.t r.x r.y) (fun _=>fieldAddrJ P T hs r.t r.x r.n) m) m) r.no
def opB(T:PT V)(hs:HS)(id:Nat)(r:OpR):Option (V×HS) :=
 nc (storeOpJ P T hs r.t r.x r.y) (fun m=>nc (allocJ P hs id r.t) (fun m=>nc (boxJ T hs id r.x) (fun _=>indexAddrJ P T hs r.t r.x r.y) m) m) (r.no-4)
def opC(T:PT V)(hs:HS)(r:OpR):Option (V×HS) :=
 nc (pickJ T hs r.x r.y r.z) (fun m=>nc (extractJ T hs r.x r.n) (fun m=>nc (nilCheckJ T hs r.x) (fun _=>unOpJ T hs r.un r.x) m) m) (r.no-8)
def opD(dr:Bool)(T:PT V)(hs:HS)(id:Nat)(r:OpR):Option (V×HS) :=
 nc (buildOpJ P T hs r.t r.ps) (fun m=>nc (buildSliceOpJ P dr T hs id r.t r.n r.ps) (fun m=>nc (sliceOpJ P T hs r.t r.x r.l r.h r.m) (fun _=>indexJ P T hs r.t r.x r.y) m) m) (r.no-12)
def opE(T:PT V)(hs:HS)(r:OpR):Option (V×HS) :=
 nc (lookupJ P T hs r.t r.x r.y r.ok) (fun m=>nc (mapUpdateJ P T hs r.t r.x r.y r.z) (fun m=>nc (convJ P T hs r.t r.u r.x) (fun _=>fieldJ P T hs r.t r.x r.n) m) m) (r.no-16)
def opF(T:PT V)(hs:HS)(id:Nat)(r:OpR):Option (V×HS) :=
 nc (makeSliceOpJ P T hs id r.t r.x r.y) (fun m=>nc (makeMapJ hs id r.l) (fun m=>nc (makeFuncJ T hs r.fn r.fs r.cs) (fun m=>nc (makeIfaceJ P T hs r.t r.x) (fun _=>none) m) m) m) (r.no-20)
def opG(dr:Bool)(T:PT V)(hs:HS)(id:Nat)(r:OpR):Option (V×HS) :=
 bi (Nat.blt r.no 16) (bi (Nat.blt r.no 12) (opC T hs r) (opD P dr T hs id r)) (bi (Nat.blt r.no 20) (opE P T hs r) (opF P T hs id r))
def opJ(dr:Bool)(T:PT V)(hs:HS)(id:Nat)(r:OpR):Option (V×HS) :=
 bi (Nat.blt r.no 4) (opA P T hs id r) (bi (Nat.blt r.no 8) (opB P T hs id r) (opG P dr T hs id r))
def oneL(l:List V):Option V:=lr none (fun x t _=>lr (some x) (fun _ _ _=>none) t) l
def twoL(l:List V):Option (V×V):=lr none (fun x t _=>ob (oneL t) fun y=>some (x,y)) l
def headTI(ts:List TypeId):Option TI:=lr none (fun t _ _=>ti P t) ts
def lenOpJ(hs:HS)(ts:List TypeId)(vs:List V):Option (V×HS):=ob (headTI P ts) fun i=>ob (oneL vs) fun x=>ob (lenJ hs i.desc x) fun n=>some (.int .i64 (Int.ofNat n),hs)
def elemTI(ts:List TypeId):Option TI:=lr none (fun t _ _=>ob (ti P t) fun i=>ob (sliceOf i.desc) fun el=>ti P el) ts
def isSlice2(ts:List TypeId):Option TypeId :=
 match ts with
 | [_,u]=>some u
 |_=>none
def appendOpJ(hs:HS)(id:Nat)(ts:List TypeId)(vs:List V):Option (V×HS) :=
 ob (twoL vs) fun p=>ob (elemTI P ts) fun e=>ob (isSlice2 ts) fun u=>ob (ti P u) fun j=>ob (sliceOf j.desc) fun _=>appendJ e hs id p.1 p.2
def copyOpJ(hs:HS)(ts:List TypeId)(vs:List V):Option (V×HS) :=
 ob (twoL vs) fun p=>ob (elemTI P ts) fun e=>ob (isSlice2 ts) fun _=>copyJ e hs p.1 p.2
def minmaxJ(hs:HS)(less:Bool)(vs:List V):Option (V×HS) :=
 ob (twoL vs) fun p=>ob p.1.int? fun a=>ob p.2.int? fun b=>some (.int a.1 (bi (bi less (ltI b.2 a.2) (ltI a.2 b.2)) b.2 a.2),hs)
def builtinJ(hs:HS)(id:Nat)(b:Builtin)(ts:List TypeId)(vs:List V):Option (V×HS) :=
 match b with
 |.len=>lenOpJ P hs ts vs
 |.append=>appendOpJ P hs id ts vs
 |.copy=>copyOpJ P hs ts vs
 |.min=>minmaxJ hs true vs
 |.max=>minmaxJ hs false vs
 |_=>none
end
inductive Ex where
 |normal|ret|exit (id:Nat)
structure Ev where
 code:Bool→Nat→Code→PT V→HS→Option (Ex×PT V×HS)
 call:FuncId→List V→HS→Option (V×HS)
structure Env where
 P:Program
 pol:FuncId→Nat
 con:FuncId→List V→HS→Option (V×HS)
def emptyHS:HS:={ H:=.leaf,n:=0,log:=[] }
def callPure(ev:Ev)(f:FuncId)(args:List V)(hs:HS):Option (V×HS) :=
 ob (ev.call f args emptyHS) fun r=>ob (still r.2 r.1) fun r'=>some (r',hs)
def callScal(ev:Ev)(f:FuncId)(args:List V)(hs:HS):Option (V×HS) :=
 ob (ev.call f args emptyHS) fun r=>gd r.1.scal (some (r.1,hs))
def callPur(ev:Ev)(f:FuncId)(args:List V)(hs:HS):Option (V×HS) :=
 ob (ev.call f args hs) fun r=>orc (some r) (fun q=>some q) (purR r)
def callBy (E:Env) (ev:Ev) (f:FuncId) (args:List V) (hs:HS):Option (V×HS) :=
 nc (bi (allPure args) (callPure ev f args hs) (ev.call f args hs))
  (fun m=>nc (ev.call f args hs) (fun k=>nc (orc (ev.call f args hs) (fun args'=>callScal ev f args' hs) (stillA hs args)) (fun _=>callPur ev f args hs) k) m) (E.pol f)
def callJ(E:Env)(ev:Ev)(f:FuncId)(args:List V)(hs:HS):Option (V×HS) :=
 orc (callBy E ev f args hs) (fun r=>some r) (E.con f args hs)
def Obj.gen:Obj→Nat
 |.arr _ g _ _ _ _=>g
 |_=>0
def Obj.fz:Obj→Bool
 |.arr _ _ _ _ f _=>f
 |_=>false
def Obj.lp?:Obj→Option (FuncId×PT V×List Nat×Code×Code×Nat)
 |.lp a b c d e f=>some (a,b,c,d,e,f)
 |_=>none
def zipPut(sz:Nat)(ps:List Nat):List V→PT V→Option (PT V) :=
 lr (fun vs T=>lr (some T) (fun _ _ _=>none) vs) (fun p _ k vs T=>lr none (fun v t _=>gd (Nat.blt p sz) (k t (T.set p v))) vs) ps
def isNormal:Ex→Bool
 |.normal=>true
 |_=>false
def exNo:Ex→Nat
 |.normal=>0
 |.ret=>2
 |.exit i=>i+3
def noEx(n:Nat):Option Ex:=nc (some .normal) (fun m=>nc none (fun k=>some (nc .ret (fun i=>.exit i) k)) m) n
def roundJ (ev:Ev) (id:Nat) (vs:List V) (hs:HS):Option (V×HS) :=
 ob (hs.H.get id) fun o=>ob o.lp? fun l=>gd (Nat.beq l.2.2.2.2.2 0) (ob (zipPut l.1 l.2.2.1 vs l.2.1) fun T =>
  ob (ev.code true l.1 l.2.2.2.1 T hs) fun r=>gd (isNormal r.1)
   (ob (r.2.2.H.get id) fun o1=>ob o1.lp? fun l1=>gd (Nat.beq l1.2.2.2.2.2 0)
   (ob (ev.code true l.1 l.2.2.2.2.1 r.2.1 (r.2.2.wr id (.lp l1.1 l1.2.1 l1.2.2.1 l1.2.2.2.1 l1.2.2.2.2.1 1))) fun q =>
     ob (q.2.2.H.get id) fun o2=>ob o2.lp? fun l2=>some (.bool (isNormal q.1),q.2.2.wr id (.lp l2.1 l2.2.1 l2.2.2.1 l2.2.2.2.1 l2.2.2.2.2.1 (exNo q.1))))))
def valueJ(E:Env)(ev:Ev)(v:V)(vs:List V)(hs:HS):Option (V×HS) :=
 match v with
 |.func f caps=>callJ E ev f (appL vs caps) hs
 |.yld id=>roundJ ev id vs hs
 |_=>none
def stepCall (E:Env) (ev:Ev) (T:PT V) (hs:HS) (id:Nat) (c:Call):Option (V×HS) :=
 ob (evalL T c.args.toList) fun vs =>
  match c.callee with
  |.builtin b=>builtinJ E.P hs id b c.argTypes.toList vs
  |.value x=>ob (evalO T x) fun v=>valueJ E ev v vs hs
  |.invoke _ _=>none
def callOf(op:Op):Option Call :=
 match op with
 |.call c=>some c
 |_=>none
def stepJ(E:Env)(ev:Ev)(dr:Bool)(T:PT V)(hs:HS)(id:Nat)(o:Oper):Option (V×HS) :=
 orc (opJ E.P dr T hs id (opR o.op)) (fun c=>stepCall E ev T hs id c) (callOf o.op)
def putJ(sz:Nat)(T:PT V)(d:Option Tmp)(v:V):Option (PT V) :=
 orc (some T) (fun d=>gd (Nat.blt d sz) (some (T.set d v))) d
def wantJ (ops:List Oper) (T:PT V) (o:Oper):Option Bool :=
 orc (some true) (fun g=>ob (nthL ops g.1) fun p=>ob p.dst fun d=>ob (T.get d) fun v =>
  match v with
  |.bool b=>some (boolEq b g.2)
  |.tuple []=>some false
  |_=>none) o.guard
def opClass:Op→Nat
 |.alloc _|.box _ _|.buildSlice _ _ _|.makeMap _ _|.makeSlice _ _ _=>1
 | .call c=>match c.callee with
   |.builtin .len|.builtin .min|.builtin .max=>0
   |_=>2
 |.store _ _ _|.mapUpdate _ _ _ _|.insert _ _ _ _=>2
 |_=>0
def vacant(hs:HS)(id:Nat):Bool:=nt (isSomeO (hs.H.get id))
def goStep (E:Env) (ev:Ev) (sz:Nat) (ops:List Oper) (o:Oper) (id:Nat) (T:PT V) (hs:HS):Option (PT V×HS) :=
 ob (wantJ ops T o) fun w=>bi w
  (gd (bi (Nat.beq (opClass o.op) 0) true (vacant hs id)) (ob (stepJ E ev false T hs id o) fun r=>ob (putJ sz T o.dst r.1) fun T'=>some (T',r.2)))
  (ob (putJ sz T o.dst undefV) fun T'=>some (T',hs))
def regionJ(E:Env)(ev:Ev)(sz:Nat)(ops:List Oper)(l:List Oper):Nat→PT V→HS→Option (PT V×HS) :=
 lr (fun _ T hs=>some (T,hs)) (fun o _ k id T hs=>ob (goStep E ev sz ops o id T hs) fun r=>k (id+1) r.1 r.2) l
def objOf(v:V):List Nat :=
 match v with
 |.ptr id _ _=>[id]
 |.map id=>[id]
 |.own id _ _ _ _=>[id]
 |_=>[]
def readsOf (T:PT V) (op:Op):List Nat :=
 match op with
 |.load _ a=>orc [] objOf (evalO T a)
 |.lookup _ m _ _=>orc [] objOf (evalO T m)
 |.slice _ x _ _ _=>orc [] objOf (evalO T x)
 | .call c=>match c.callee with
   |.builtin .len=>lr [] (fun a _ _=>orc [] objOf (evalO T a)) c.args.toList
   |_=>[]
 |_=>[]
def tb(m i:Nat):Bool:=Nat.beq (m / 2 ^ i % 2) 1
def tmpsOf(l:List Operand):List Nat:=l.filterMap fun|.tmp t=>some t|_=>none
def looks(ops:List Oper)(o:Oper):List Nat :=
 appL (tmpsOf o.op.operands.toList) (orc [] (fun g=>orc [] (fun p=>orc [] (fun d=>[d]) p.dst) (nthL ops g.1)) o.guard)
def edgesJ(i:Nat)(acc:List Nat)(l:List Edge):Option Nat :=
 lr (some 0) (fun e _ ih=>ob ih fun m=>bi (Region.binds .any e) (gd (Nat.blt e.on i) (ob (nthL acc e.on) fun b=>some (Nat.lor (Nat.lor (2 ^ e.on) b) m))) (some m)) l
def befJ(l:List Oper):Nat→List Nat→Option (List Nat) :=
 lr (fun _ acc=>some acc) (fun o _ k i acc=>ob (edgesJ i acc o.after.toList) fun m=>k (i+1) (appL acc [m])) l
def hasDst(d:Option Nat)(l:List Nat):Bool:=orc false (fun d=>memL d l) d
def sameDst(d e:Option Nat):Bool:=orc false (fun d=>orc false (fun e=>Nat.beq d e) e) d
def isStore:Op→Bool
 |.store _ _ _=>true
 |_=>false
def wrD(op:Op):Bool:=Nat.beq (opClass op) 2
def indep(ops:List Oper)(x y:Oper):Bool :=
 et (nt (hasDst x.dst (looks ops y))) (et (nt (hasDst y.dst (looks ops x))) (et (nt (sameDst x.dst y.dst)) (nt (et (wrD x.op) (et (wrD y.op) (nt (et (isStore x.op) (isStore y.op))))))))
def apartJ(ops:List Oper)(m:Nat)(y:Oper)(l:List Oper):Nat→Nat→Bool :=
 lr (fun _ _=>true) (fun x _ k i j=>bi (Nat.blt i j) (et (bi (tb m i) true (indep ops x y)) (k (i+1) j)) true) l
def allApart(ops:List Oper)(l:List Oper):Nat→List Nat→Bool :=
 lr (fun _ _=>true) (fun y _ k j bs=>lr false (fun m bs' _=>et (apartJ ops m y ops 0 j) (k (j+1) bs')) bs) l
def drawOk(ops:List Oper):Option (List Nat):=ob (befJ ops 0 []) fun bs=>gd (allApart ops ops 0 bs) (some bs)
def pickT{α:Type}(T:PT α)(l:List Nat):PT α:=lr .leaf (fun t _ ih=>orc ih (fun v=>ih.set t v) (T.get t)) l
def idsL(l:List V):List Nat:=lr [] (fun c _ ih=>appL (objOf c) ih) l
def rowP(hs:HS)(p:V):Bool :=
 match p with
 |.ptr id _ _=>isRow hs id
 |_=>false
def readsS(T:PT V)(hs:HS)(op:Op):List Nat :=
 match op with
 |.store _ a x=>orc [] (fun p=>appL (objOf p) (bi (rowP hs p) (orc [] (fun v=>idsL v.cells) (evalO T x)) [])) (evalO T a)
 |_=>[]
def putX(H:PT Obj)(H2:PT Obj)(X:List Nat):PT Obj:=lr H (fun k _ ih=>orc ih (fun o=>ih.set k o) (H2.get k)) X
def drawSt(E:Env)(ev:Ev)(o:Oper)(id:Nat)(T:PT V)(hs:HS):Option (V×HS×List Nat×List Nat) :=
 gd (vacant hs id) (ob (stepJ E ev true T { H:=pickT hs.H (readsS T hs o.op),n:=0,log:=[] } id o) fun r=>some (r.1,{ H:=putX hs.H r.2.H (readsS T hs o.op),n:=hs.n,log:=appL r.2.log hs.log },readsS T hs o.op,r.2.log))
def drawOp (E:Env) (ev:Ev) (o:Oper) (id:Nat) (T:PT V) (hs:HS):Option (V×HS×List Nat×List Nat) :=
 nc (ob (stepJ E ev true T { H:=pickT hs.H (readsOf T o.op),n:=0,log:=[] } id o) fun r=>some (r.1,hs,readsOf T o.op,[]))
  (fun m=>nc (gd (vacant hs id) (ob (stepJ E ev true T { H:=.leaf,n:=0,log:=[] } id o) fun r=>ob (r.2.H.get id) fun o'=>gd (nt o'.fz) (some (r.1,hs.put id o',[id],[]))))
    (fun _=>gd (vacant hs id) (ob (stepJ E ev true T { H:=hs.H,n:=hs.n,log:=[] } id o) fun r=>some (r.1,{ H:=r.2.H,n:=r.2.n,log:=appL r.2.log hs.log },[],r.2.log))) m) (opClass o.op)
def drawRun(E:Env)(ev:Ev)(o:Oper)(id:Nat)(T:PT V)(hs:HS):Option (V×HS×List Nat×List Nat) :=
 bi (isStore o.op) (drawSt E ev o id T hs) (drawOp E ev o id T hs)
def drawStep(E:Env)(ev:Ev)(ops:List Oper)(o:Oper)(id:Nat)(T:PT V)(hs:HS):Option (V×HS×List Nat×List Nat) :=
 ob (wantJ ops T o) fun w=>bi w (drawRun E ev o id T hs) (some (undefV,hs,[],[]))
def regionD (E:Env) (ev:Ev) (sz:Nat) (ops:List Oper) (l:List Oper):Nat→PT V→HS→List (List Nat×List Nat)→Option ((PT V×HS)×List (List Nat×List Nat)) :=
 lr (fun _ T hs acc=>some ((T,hs),acc)) (fun o _ k id T hs acc=>ob (drawStep E ev ops o id (pickT T (looks ops o)) hs) fun r=>ob (putJ sz T o.dst r.1) fun T' =>
  k (id+1) T' r.2.1 (appL acc [r.2.2])) l
def meet(l m:List Nat):Bool:=lr false (fun x _ ih=>bi (memL x m) true ih) l
def clashJ(m:Nat)(r:List Nat×List Nat)(l:List (List Nat×List Nat)):Nat→Nat→Bool :=
 lr (fun _ _=>true) (fun q _ k i j=>bi (Nat.blt i j) (et (bi (tb m i) true (nt (bi (meet q.1 r.2) true (meet r.1 q.2)))) (k (i+1) j)) true) l
def allClash(all:List (List Nat×List Nat))(l:List (List Nat×List Nat)):Nat→List Nat→Bool :=
 lr (fun _ _=>true) (fun r _ k j bs=>lr false (fun m bs' _=>et (clashJ m r all 0 j) (k (j+1) bs')) bs) l
def drawJ (E:Env) (ev:Ev) (sz:Nat) (l:List Oper) (T:PT V) (hs:HS):Option (PT V×HS) :=
 ob (drawOk l) fun bs=>ob (regionD E ev sz l l hs.n T { H:=hs.H,n:=hs.n+lenL l,log:=hs.log } []) fun r =>
  gd (allClash r.2 r.2 0 bs) (some r.1)
def regJ(E:Env)(ev:Ev)(sz:Nat)(l:List Oper)(draw:Bool)(T:PT V)(hs:HS):Option (Ex×PT V×HS) :=
 ob (bi draw (drawJ E ev sz l T hs) (regionJ E ev sz l l hs.n T { H:=hs.H,n:=hs.n+lenL l,log:=hs.log })) fun r=>some (.normal,r.1,r.2)
def seqJ(ev:Ev)(rd:Bool)(sz:Nat)(b:Code)(r:Ex×PT V×HS):Option (Ex×PT V×HS) :=
 match r.1 with
 |.normal=>ev.code rd sz b r.2.1 r.2.2
 |_=>some r
def blockJ(id:Nat)(r:Ex×PT V×HS):Option (Ex×PT V×HS) :=
 match r.1 with
 |.exit j=>bi (Nat.beq j id) (some (.normal,r.2.1,r.2.2)) (some r)
 |_=>some r
def funcOf(v:V):Option (FuncId×List V) :=
 match v with
 |.func f c=>some (f,c)
 |_=>none
def rangeJ (ev:Ev) (sz:Nat) (ps:Array Tmp) (assign body:Code) (T:PT V) (hs:HS) (v:V):Option (Ex×PT V×HS) :=
 ob (funcOf v) fun g=>gd (vacant hs hs.n) (ob (ev.call g.1 (.yld hs.n::g.2) (HS.put { H:=hs.H,n:=hs.n+1,log:=hs.log } hs.n (.lp sz T ps.toList assign body 0))) fun r =>
  ob (r.2.H.get hs.n) fun o=>ob o.lp? fun l=>ob (noEx l.2.2.2.2.2) fun ex=>some (ex,T,r.2.wr hs.n (.lp l.1 l.2.1 l.2.2.1 l.2.2.2.1 l.2.2.2.2.1 1)))
def codeJ(E:Env)(ev:Ev)(rd:Bool)(sz:Nat)(c:Code)(T:PT V)(hs:HS):Option (Ex×PT V×HS) :=
 match c with
 |.skip=>some (.normal,T,hs)
 |.region _ ops draw=>regJ E ev sz ops.toList draw T hs
 |.seq a b=>ob (ev.code rd sz a T hs) fun r=>seqJ ev rd sz b r
 |.cond q a b=>ob (evalO T q) fun v=>ob v.bool? fun t=>bi t (ev.code rd sz a T hs) (ev.code rd sz b T hs)
 |.block id body=>ob (ev.code rd sz body T hs) fun r=>blockJ id r
 |.loop body=>ob (ev.code rd sz body T hs) fun r=>seqJ ev rd sz (.loop body) r
 |.exit id=>some (.exit id,T,hs)
 |.ret=>some (.ret,T,hs)
 |.rangeFunc g ps assign body=>gd (nt rd) (ob (evalO T g) fun v=>rangeJ ev sz ps assign body T hs v)
 |_=>none
def resJ (P:Program) (T:PT V) (hs:HS) (l:List ResultVar):Option (List V) :=
 lr (some []) (fun x _ ih=>ob (match x with
  |.tmp t=>T.get t
  |.cell a t=>ob (ti P t) fun i=>ob (T.get a) fun p=>loadJ i hs p) fun v=>ob ih fun r=>some (v::r)) l
def enterJ(nt:Nat)(l:List V):Nat→PT V→Option (PT V) :=
 lr (fun _ T=>some T) (fun v _ k i T=>gd (Nat.blt i nt) (k (i+1) (T.set i v))) l
def tupleJ(l:List V):V:=lr (.tuple []) (fun x t _=>lr x (fun _ _ _=>.tuple l) t) l
def leaveJ(P:Program)(fn:Func)(r:Ex×PT V×HS):Option (V×HS) :=
 match r.1 with
 |.exit _=>none
 |_=>ob (resJ P r.2.1 r.2.2 fn.results.toList) fun l=>some (tupleJ l,r.2.2)
def bodyJ(E:Env)(ev:Ev)(f:FuncId)(args:List V)(hs:HS):Option (V×HS) :=
 ob (E.P.funcs[f]?) fun fn=>ob fn.body fun c=>ob (enterJ fn.ntmps args 0 .leaf) fun T=>ob (ev.code false fn.ntmps c T hs) fun r=>leaveJ E.P fn r
def evJ(E:Env)(n:Nat):Ev :=
 @Nat.rec (fun _=>Ev) { code:=fun _ _ _ _ _=>none,call:=fun _ _ _=>none } (fun _ ev=>{ code:=codeJ E ev,call:=bodyJ E ev }) n
def runJ(E:Env)(n:Nat)(f:FuncId)(args:List V):Option V :=
 ob ((evJ E n).call f args emptyHS) fun r=>still r.2 r.1
end Go.J
/- Plain lemmas on the evaluator's words. -/
namespace Go.J
theorem ob_none{α β:Type}(f:α→Option β):ob none f=none:=rfl
theorem ob_some{α β:Type}(a:α)(f:α→Option β):ob (some a) f=f a:=rfl
theorem ob_eq{α β:Type}{x:Option α}{f:α→Option β}{b:β}:ob x f=some b↔∃ a,x=some a∧f a=some b:=by
 cases x with
 |none=>simp[ob_none]
 |some a=>simp[ob_some]
theorem gd_true{β:Type}(x:Option β):gd true x=x:=rfl
theorem gd_false{β:Type}(x:Option β):gd false x=none:=rfl
theorem gd_eq{β:Type}{c:Bool}{x:Option β}{b:β}:gd c x=some b↔c=true∧x=some b:=by
 cases c with
 |true=>simp[gd_true]
 |false=>simp[gd_false]
theorem bi_true{α:Type}(x y:α):bi true x y=x:=rfl
theorem bi_false{α:Type}(x y:α):bi false x y=y:=rfl
theorem bi_eq{α:Type}(c:Bool)(x y:α):bi c x y=if c=true then x else y:=by cases c<;>rfl
theorem orc_none{α β:Type}(z:β)(f:α→β):orc z f none=z:=rfl
theorem orc_some{α β:Type}(z:β)(f:α→β)(a:α):orc z f (some a)=f a:=rfl
theorem nc_zero{β:Type}(z:β)(s:Nat→β):nc z s 0=z:=rfl
theorem nc_succ{β:Type}(z:β)(s:Nat→β)(n:Nat):nc z s (n+1)=s n:=rfl
theorem lr_nil{α β:Type}(z:β)(c:α→List α→β→β):lr z c []=z:=rfl
theorem lr_cons{α β:Type}(z:β)(c:α→List α→β→β)(x:α)(l:List α):lr z c (x::l)=c x l (lr z c l):=rfl
theorem et_eq(a b:Bool):et a b=(a&&b):=by cases a<;>rfl
theorem nt_eq(a:Bool):nt a=!a:=by cases a<;>rfl
theorem et_true{a b:Bool}:et a b=true↔a=true∧b=true:=by rw[et_eq];simp
theorem nt_true{a:Bool}:nt a=true↔a=false:=by rw[nt_eq];simp
theorem beq_true{a b:Nat}:Nat.beq a b=true↔a=b:=by rw[Nat.beq_eq]
theorem beq_false{a b:Nat}:Nat.beq a b=false↔a≠b:=by
 rw[← Bool.not_eq_true,Nat.beq_eq]
theorem ble_true{a b:Nat}:Nat.ble a b=true↔a≤b:=by rw[Nat.ble_eq]
theorem blt_true{a b:Nat}:Nat.blt a b=true↔a<b:=by
 simp_all
theorem ble_false{a b:Nat}:Nat.ble a b=false↔b<a:=by
 rw[← Bool.not_eq_true,ble_true];omega
section lists
variable {α:Type}
theorem nthL_nil(n:Nat):nthL ([]:List α) n=none:=rfl
theorem nthL_zero(x:α)(l:List α):nthL (x::l) 0=some x:=rfl
theorem nthL_succ(x:α)(l:List α)(n:Nat):nthL (x::l) (n+1)=nthL l n:=rfl
theorem nthL_eq(l:List α)(n:Nat):nthL l n=l[n]?:=by
 induction l generalizing n with
 |nil=>simp[nthL_nil]
 | cons x l ih=>cases n with
   |zero=>simp[nthL_zero]
   |succ n=>simp[nthL_succ,ih]
theorem setL_eq(l:List α)(n:Nat)(y:α):setL l n y=l.set n y:=by
 induction l generalizing n with
 |nil=>rfl
 | cons x l ih=>cases n with
   |zero=>rfl
   |succ n=>show x::setL l n y=_;rw[ih];rfl
theorem dropL_eq(n:Nat)(l:List α):dropL n l=l.drop n:=by
 induction l generalizing n with
 |nil=>cases n<;>rfl
 | cons x l ih=>cases n with
   |zero=>rfl
   |succ n=>show dropL n l=_;rw[ih];rfl
theorem takeL_eq(n:Nat)(l:List α):takeL n l=l.take n:=by
 induction l generalizing n with
 |nil=>cases n<;>rfl
 | cons x l ih=>cases n with
   |zero=>rfl
   |succ n=>show x::takeL n l=_;rw[ih];rfl
theorem lenL_eq(l:List α):lenL l=l.length:=by
 induction l with
 |nil=>rfl
 |cons x l ih=>show lenL l+1=_;rw[ih];rfl
theorem appL_eq(l m:List α):appL l m=l++m:=by
 induction l with
 |nil=>rfl
 |cons x l ih=>show x::appL l m=_;rw[ih];rfl
theorem repL_eq(x:α)(n:Nat):repL x n=List.replicate n x:=by
 induction n with
 |zero=>rfl
 |succ n ih=>show x::repL x n=_;rw[ih];rfl
theorem memL_eq(n:Nat)(l:List Nat):memL n l=true↔n∈l:=by
 induction l with
 |nil=>simp[memL,lr_nil]
 | cons x l ih =>
   show bi (Nat.beq n x) true (memL n l)=true↔_
   grind [Nat.beq,bi_true,beq_true,bi_false,beq_false]
theorem overL_len(l:List α)(n:Nat)(new:List α):(overL l n new).length=l.length:=by
 induction l generalizing n new with
 |nil=>rfl
 | cons x l ih=>cases n with
   | zero=>cases new with
     |nil=>rfl
     |cons y ys=>show (y::overL l 0 ys).length=_;simp[ih]
   |succ n=>show (x::overL l n new).length=_;simp[ih]
theorem overL_get (l:List α) (n:Nat) (new:List α) (i:Nat) (hi:i<l.length) :
 (overL l n new)[i]?=if n≤i∧i<n+new.length then new[i-n]? else l[i]?:=by
 induction l generalizing n new i with
 |nil=>simp at hi
 | cons x l ih=>cases n with
   | zero=>cases new with
     |nil=>show (x::l)[i]?=_;simp
     | cons y ys =>
       show (y::overL l 0 ys)[i]?=_
       grind
   | succ n =>
     show (x::overL l n new)[i]?=_
     grind
theorem all_lr(p:α→Bool)(l:List α):lr true (fun v _ ih=>et (p v) ih) l=true↔∀ v∈l,p v=true:=by
 induction l with
 |nil=>simp[lr_nil]
 |cons x l ih=>rw[lr_cons,et_true,ih];simp
end lists
theorem allP_eq{l:List V}:allP l=true↔∀ v∈l,v.pure2=true:=all_lr _ l
theorem allPure_eq{l:List V}:allPure l=true↔∀ v∈l,v.pure=true:=all_lr _ l
theorem allC_eq{l:List V}:allC l=true↔∀ v∈l,v.isCell=true:=all_lr _ l
theorem sizes_eq{n:Nat}{l:List (List V)}:sizes n l=true↔∀ e∈l,e.length=n:=by
 refine(all_lr (fun e:List V=>Nat.beq (lenL e) n) l).trans ?_
 simp[beq_true,lenL_eq]
namespace PT
variable {α:Type}
theorem get_leaf(n:Nat):(leaf:PT α).get n=none:=rfl
theorem get_node_zero(l r:PT α)(v:Option α):(node l v r).get 0=v:=rfl
theorem get_node_succ(l r:PT α)(v:Option α)(m:Nat):(node l v r).get (m+1)=if m % 2=0 then l.get (m / 2)else r.get (m / 2):=by
 show bi (Nat.beq (m % 2) 0) (l.get (m / 2)) (r.get (m / 2))=_
 grind [beq_true,bi_true,beq_false,bi_false]
theorem parts_get{t:PT α}:∃ l v r,(∀ (β:Type) (f:PT α→Option α→PT α→β),t.parts f=f l v r)∧(∀ k,t.get k=(node l v r).get k):=by
 cases t with
 | leaf=>exact⟨leaf,none,leaf,fun _ _=>rfl,fun k=>by cases k with
   |zero=>rfl
   |succ m=>rw[get_node_succ];simp[get_leaf]⟩
 |node l v r=>exact⟨l,v,r,fun _ _=>rfl,fun _=>rfl⟩
theorem setD_get (d:Nat):∀ (t:PT α) (n:Nat) (x:α) (k:Nat),n<d→(setD d t n x).get k=if k=n then some x else t.get k:=by
 induction d with
 |zero=>intro t n x k h;omega
 | succ d ih =>
   intro t n x k h
   obtain⟨l,v,r,hp,hg⟩:=parts_get (t:=t)
   have hs:setD (d+1) t n x=nc (node l (some x) r) (fun m=>bi (Nat.beq (m % 2) 0) (node (setD d l (m / 2) x) v r) (node l v (setD d r (m / 2) x))) n :=
    hp _ (fun l v r=>nc (node l (some x) r) (fun m=>bi (Nat.beq (m % 2) 0) (node (setD d l (m / 2) x) v r) (node l v (setD d r (m / 2) x))) n)
   rw[hs,hg k]
   cases n with
   | zero=>rw[nc_zero];cases k with
     |zero=>simp[get_node_zero]
     |succ m=>rw[get_node_succ,get_node_succ];simp
   | succ m =>
     rw[nc_succ]
     have hm:m / 2<d:=by omega
     by_cases h2:m % 2=0
     · rw[beq_true.2 h2,bi_true]
       cases k with
       |zero=>simp[get_node_zero]
       | succ j =>
         grind [get_node_succ]
     · rw[beq_false.2 h2,bi_false]
       cases k with
       |zero=>simp[get_node_zero]
       | succ j =>
         grind [get_node_succ]
theorem set_get(t:PT α)(n:Nat)(x:α)(k:Nat):(t.set n x).get k=if k=n then some x else t.get k:=setD_get (n+1) t n x k (Nat.lt_succ_self n)
end PT
theorem put_get(hs:HS)(id:Nat)(o:Obj)(k:Nat):(hs.put id o).H.get k=if k=id then some o else hs.H.get k:=PT.set_get _ _ _ _
theorem wr_get(hs:HS)(id:Nat)(o:Obj)(k:Nat):(hs.wr id o).H.get k=if k=id then some o else hs.H.get k:=PT.set_get _ _ _ _
end Go.J
/- What a value of the evaluator stands for in a world of the model,and how that is kept. -/
namespace Go.J
structure MI where
 b:Nat
 size:Nat
 total:Nat
section
variable (ρ:Nat→Value)
inductive PRep (w:World) (F:Nat→Prop):V→Value→Prop where
 |bool (b:Bool):PRep w F (.bool b) (.bool b)
 |int (k:IntKind) (n:Int):PRep w F (.int k n) (.int k n)
 |str (s:ByteArray):PRep w F (.str (bytesOf s)) (.string s)
 |nilptr:PRep w F .nilptr (.pointer none)
 |snil:PRep w F .snil (.slice none 0 0)
 |nilmap:PRep w F .nilmap (.map none)
 |nilFunc:PRep w F .nilFunc .nilFunc
 |nilIface:PRep w F .nilIface .nilIface
 |sym (k:Nat):PRep w F (.sym k) (ρ k)
 |func (f:FuncId):PRep w F (.func f []) (.func (.func f) #[] #[])
 |iface (t:TypeId) (v:V) (y:Value):PRep w F v y→PRep w F (.iface t v) (.iface t y)
 |ref (cs:List V) (b off:Nat) (ys:Nat→Value):F b→(∀ i v,cs[i]?=some v→w.cell? ⟨b,off+i,none⟩=some (ys i)) →
  (∀ i v,cs[i]?=some v→PRep w F v (ys i))→PRep w F (.ref cs) (.pointer (some ⟨b,off,none⟩))
 |slE (a:Option Addr) (c:Nat) (t:Bool):(t=true→c=0)→PRep w F (.sl [] t) (.slice a 0 c)
 |slC (es:List (List V)) (b off size c:Nat) (t:Bool) (ys:Nat→Nat→Value):F b→(∀ e∈es,e.length=size) →
  (∀ i e j v,es[i]?=some e→e[j]?=some v→w.cell? ⟨b,off+i*size+j,none⟩=some (ys i j)) →
  (∀ i e j v,es[i]?=some e→e[j]?=some v→PRep w F v (ys i j))→es.length≤c→(t=true→c=es.length) →
  PRep w F (.sl es t) (.slice (some ⟨b,off,none⟩) es.length c)
 |agg (cs:List V) (ys:Array Value):ys.size=cs.length→(∀ i v,cs[i]?=some v→PRep w F v (ys.getD i undef))→PRep w F (.agg cs) (.agg ys)
 |tuple (cs:List V) (ys:Array Value):ys.size=cs.length→(∀ i v,cs[i]?=some v→PRep w F v (ys.getD i undef))→PRep w F (.tuple cs) (.tuple ys)
inductive Rep (w:World) (F:Nat→Prop) (μ:Nat→Nat→Option MI):V→Value→Prop where
 |pure {v:V} {x:Value}:PRep ρ w F v x→Rep w F μ v x
 |ptr (id g off:Nat) (m:MI):μ id g=some m→Rep w F μ (.ptr id g off) (.pointer (some ⟨m.b,off,none⟩))
 |own (id g off len:Nat) (cap:Option Nat) (c:Nat) (m:MI):μ id g=some m→len≤c→off+c*m.size≤m.total →
  (∀ k,cap=some k→c=k)→(cap=none→off+c*m.size=m.total)→Rep w F μ (.own id g off len cap) (.slice (some ⟨m.b,off,none⟩) len c)
 |map (id:Nat) (m:MI):μ id 0=some m→Rep w F μ (.map id) (.map (some m.b))
 |yld (id:Nat) (m:MI):μ id 0=some m→Rep w F μ (.yld id) (.func (.yield m.b) #[] #[])
 |func (f:FuncId) (cs:List V) (ys:Array Value):ys.size=cs.length→(∀ i v,cs[i]?=some v→Rep w F μ v (ys.getD i undef))→Rep w F μ (.func f cs) (.func (.func f) #[] ys)
 |iface (t:TypeId) (v:V) (y:Value):Rep w F μ v y→Rep w F μ (.iface t v) (.iface t y)
 |agg (cs:List V) (ys:Array Value):ys.size=cs.length→(∀ i v,cs[i]?=some v→Rep w F μ v (ys.getD i undef))→Rep w F μ (.agg cs) (.agg ys)
 |tuple (cs:List V) (ys:Array Value):ys.size=cs.length→(∀ i v,cs[i]?=some v→Rep w F μ v (ys.getD i undef))→Rep w F μ (.tuple cs) (.tuple ys)
theorem cell_of_heap{w w':World}{b:Nat}(h:w'.heap[b]?=w.heap[b]?)(o:Nat):w'.cell? ⟨b,o,none⟩=w.cell? ⟨b,o,none⟩:=by
 simp[World.cell?,h]
theorem PRep.mono{w w':World}{F F':Nat→Prop}{v:V}{x:Value}(h:PRep ρ w F v x)(hF:∀ b,F b→F' b)(hw:∀ b,F b→w'.heap[b]?=w.heap[b]?) :
 PRep ρ w' F' v x:=by
 induction h with
 |bool b=>exact .bool b
 |int k n=>exact .int k n
 |str s=>exact .str s
 |nilptr=>exact .nilptr
 |snil=>exact .snil
 |nilmap=>exact .nilmap
 |nilFunc=>exact .nilFunc
 |nilIface=>exact .nilIface
 |sym k=>exact .sym k
 |func f=>exact .func f
 |iface t v y _ ih=>exact .iface t v y ih
 |ref cs b off ys hb hc _ ih=>exact .ref cs b off ys (hF b hb) (fun i v hi=>by rw[cell_of_heap (hw b hb)];exact hc i v hi) ih
 |slE a c t h=>exact .slE a c t h
 |slC es b off size c t ys hb hl hc _ h1 h2 ih=>exact .slC es b off size c t ys (hF b hb) hl (fun i e j v hi hj=>by rw[cell_of_heap (hw b hb)];exact hc i e j v hi hj) ih h1 h2
 |agg cs ys hs _ ih=>exact .agg cs ys hs ih
 |tuple cs ys hs _ ih=>exact .tuple cs ys hs ih
theorem Rep.mono{w w':World}{F F':Nat→Prop}{μ μ':Nat→Nat→Option MI}{v:V}{x:Value}(h:Rep ρ w F μ v x)(hF:∀ b,F b→F' b)
 (hw:∀ b,F b→w'.heap[b]?=w.heap[b]?) (hμ:∀ id g m,μ id g=some m→μ' id g=some m):Rep ρ w' F' μ' v x:=by
 induction h with
 |pure hp=>exact .pure (hp.mono ρ hF hw)
 |ptr id g off m hm=>exact .ptr id g off m (hμ _ _ _ hm)
 |own id g off len cap c m hm h1 h2 h3 h4=>exact .own id g off len cap c m (hμ _ _ _ hm) h1 h2 h3 h4
 |map id m hm=>exact .map id m (hμ _ _ _ hm)
 |yld id m hm=>exact .yld id m (hμ _ _ _ hm)
 |func f cs ys hs _ ih=>exact .func f cs ys hs ih
 |iface t v y _ ih=>exact .iface t v y ih
 |agg cs ys hs _ ih=>exact .agg cs ys hs ih
 |tuple cs ys hs _ ih=>exact .tuple cs ys hs ih
section inv
variable {w:World}{F:Nat→Prop}{μ:Nat→Nat→Option MI}
theorem Rep.bool_inv{b:Bool}{x:Value}(h:Rep ρ w F μ (.bool b) x):x=.bool b:=by cases h with|pure h=>cases h;rfl
theorem Rep.int_inv{k:IntKind}{n:Int}{x:Value}(h:Rep ρ w F μ (.int k n) x):x=.int k n:=by cases h with|pure h=>cases h;rfl
theorem Rep.str_inv{l:List Nat}{x:Value}(h:Rep ρ w F μ (.str l) x):∃ s,x=.string s∧bytesOf s=l:=by
 cases h with|pure h=>cases h with|str s=>exact⟨s,rfl,rfl⟩
theorem Rep.ptr_inv{id g off:Nat}{x:Value}(h:Rep ρ w F μ (.ptr id g off) x):∃ m,μ id g=some m∧x=.pointer (some ⟨m.b,off,none⟩):=by
 cases h with
 |pure h=>cases h
 |ptr _ _ _ m hm=>exact⟨m,hm,rfl⟩
theorem Rep.own_inv{id g off len:Nat}{cap:Option Nat}{x:Value}(h:Rep ρ w F μ (.own id g off len cap) x) :
 ∃ m c,μ id g=some m∧x=.slice (some ⟨m.b,off,none⟩) len c∧len≤c∧off+c*m.size≤m.total∧(∀ k,cap=some k→c=k)∧(cap=none→off+c*m.size=m.total):=by
 cases h with
 |pure h=>cases h
 |own _ _ _ _ _ c m hm h1 h2 h3 h4=>exact⟨m,c,hm,rfl,h1,h2,h3,h4⟩
theorem Rep.map_inv{id:Nat}{x:Value}(h:Rep ρ w F μ (.map id) x):∃ m,μ id 0=some m∧x=.map (some m.b):=by
 cases h with
 |pure h=>cases h
 |map _ m hm=>exact⟨m,hm,rfl⟩
theorem Rep.yld_inv{id:Nat}{x:Value}(h:Rep ρ w F μ (.yld id) x):∃ m,μ id 0=some m∧x=.func (.yield m.b) #[] #[]:=by
 cases h with
 |pure h=>cases h
 |yld _ m hm=>exact⟨m,hm,rfl⟩
theorem Rep.agg_inv{cs:List V}{x:Value}(h:Rep ρ w F μ (.agg cs) x) :
 ∃ ys:Array Value,x=.agg ys∧ys.size=cs.length∧∀ i v,cs[i]?=some v→Rep ρ w F μ v (ys.getD i undef):=by
 cases h with
 |pure h=>cases h with|agg _ ys hs hc=>exact⟨ys,rfl,hs,fun i v hi=>.pure (hc i v hi)⟩
 |agg _ ys hs hc=>exact⟨ys,rfl,hs,hc⟩
theorem Rep.tuple_inv{cs:List V}{x:Value}(h:Rep ρ w F μ (.tuple cs) x) :
 ∃ ys:Array Value,x=.tuple ys∧ys.size=cs.length∧∀ i v,cs[i]?=some v→Rep ρ w F μ v (ys.getD i undef):=by
 cases h with
 |pure h=>cases h with|tuple _ ys hs hc=>exact⟨ys,rfl,hs,fun i v hi=>.pure (hc i v hi)⟩
 |tuple _ ys hs hc=>exact⟨ys,rfl,hs,hc⟩
theorem Rep.func_inv{f:FuncId}{cs:List V}{x:Value}(h:Rep ρ w F μ (.func f cs) x) :
 ∃ ys:Array Value,x=.func (.func f) #[] ys∧ys.size=cs.length∧∀ i v,cs[i]?=some v→Rep ρ w F μ v (ys.getD i undef):=by
 cases h with
 |pure h=>cases h with|func f=>exact⟨#[],rfl,rfl,fun i v hi=>by simp at hi⟩
 |func _ _ ys hs hc=>exact⟨ys,rfl,hs,hc⟩
theorem Rep.iface_inv{t:TypeId}{v:V}{x:Value}(h:Rep ρ w F μ (.iface t v) x):∃ y,x=.iface t y∧Rep ρ w F μ v y:=by
 cases h with
 |pure h=>cases h with|iface _ _ y hy=>exact⟨y,rfl,.pure hy⟩
 |iface _ _ y hy=>exact⟨y,rfl,hy⟩
theorem Rep.ref_inv{cs:List V}{x:Value}(h:Rep ρ w F μ (.ref cs) x):PRep ρ w F (.ref cs) x:=by cases h with|pure h=>exact h
theorem Rep.sl_inv{es:List (List V)}{t:Bool}{x:Value}(h:Rep ρ w F μ (.sl es t) x):PRep ρ w F (.sl es t) x:=by cases h with|pure h=>exact h
theorem Rep.snil_inv{x:Value}(h:Rep ρ w F μ .snil x):x=.slice none 0 0:=by cases h with|pure h=>cases h;rfl
theorem Rep.nilmap_inv{x:Value}(h:Rep ρ w F μ .nilmap x):x=.map none:=by cases h with|pure h=>cases h;rfl
theorem Rep.nilptr_inv{x:Value}(h:Rep ρ w F μ .nilptr x):x=.pointer none:=by cases h with|pure h=>cases h;rfl
theorem Rep.nilFunc_inv{x:Value}(h:Rep ρ w F μ .nilFunc x):x=.nilFunc:=by cases h with|pure h=>cases h;rfl
theorem Rep.nilIface_inv{x:Value}(h:Rep ρ w F μ .nilIface x):x=.nilIface:=by cases h with|pure h=>cases h;rfl
theorem Rep.pure1{v:V}{x:Value}(h:Rep ρ w F μ v x)(hp:v.pure1=true):PRep ρ w F v x:=by
 cases h with
 |pure h=>exact h
 |_=>simp[V.pure1]at hp
theorem Rep.pure2{v:V}{x:Value}(h:Rep ρ w F μ v x)(hp:v.pure2=true):PRep ρ w F v x:=by
 cases h with
 |pure h=>exact h
 | func f cs ys hs hc=>cases cs with
   | nil => have:ys=#[]:=by simpa using hs
            subst this;exact .func f
   |cons _ _=>simp[V.pure2,V.pure1]at hp
 |iface t v y hy=>exact .iface t v y (Rep.pure1 ρ hy (by simpa [V.pure2]using hp))
 |_=>simp[V.pure2,V.pure1]at hp
theorem Rep.of_pure{v:V}{x:Value}(h:Rep ρ w F μ v x)(hp:v.pure=true):PRep ρ w F v x:=by
 cases v with
 | agg cs =>
   obtain⟨ys,rfl,hs,hc⟩:=h.agg_inv
   have hp':allP cs=true:=hp
   rw[allP_eq]at hp'
   exact .agg cs ys hs fun i v hi=>Rep.pure2 ρ (hc i v hi) (hp' v (List.mem_of_getElem? hi))
 |_=>exact Rep.pure2 ρ h hp
end inv
end
section
variable (ρ:Nat→Value)(w:World)(F:Nat→Prop)(μ:Nat→Nat→Option MI)
structure ArrRel(m:MI)(size:Nat)(es:List (List V))(exact fz row:Bool):Prop where
 hsize:m.size=size
 hlen:∀ e∈es,e.length=size
 cells:∃ cells el,w.heap[m.b]?=some (.cells cells el (0,0))∧cells.size=m.total∧es.length*size≤m.total∧(exact=true→m.total=es.length*size) ∧
  ∀ k e j v,es[k]?=some e→e[j]?=some v→∃ y,cells[k*size+j]?=some y∧Rep ρ w F μ v y∧(row=true→PRep ρ w F v y)
 hf:fz=true→F m.b
 hn:fz=false→¬ F m.b
structure MapRel(m:MI)(es:List (V×V)):Prop where
 entries:∃ (en:Array MapEntry) (clock:Nat),w.heap[m.b]?=some (.map en clock)∧en.size=es.length ∧
  ∀ (i:Nat) (k v:V),es[i]?=some (k,v)→∃ e:MapEntry,en[i]?=some e∧PRep ρ w F k e.key∧PRep ρ w F v e.val
 hn:¬ F m.b
def TRel(T:PT V)(tmps:Array Value):Prop:=∀ t v,T.get t=some v→∃ x,tmps[t]?=some x∧Rep ρ w F μ v x
def LSt:Nat→Loop→Prop
 | 0,l=>l.state=.ready∧l.pending=none
 | 1,_=>True
 | 2,l=>l.state=.done∧l.pending=some .ret
 |i+3,l=>l.state=.done∧l.pending=some (.exit i)
structure LoopRel(m:MI)(sz:Nat)(T:PT V)(ps:List Nat)(assign body:Code)(st:Nat):Prop where
 rec_:∃ l:Loop,w.heap[m.b]?=some (.loop l)∧LSt st l∧l.params.toList=ps∧l.assign=assign∧l.body=body ∧
  TRel ρ w F μ T l.tmps∧sz≤l.tmps.size
 hn:¬ F m.b
def ORel(P:Program)(id:Nat):Obj→Prop
 |.arr size gen es exact fz row=>∀ m,μ id gen=some m→ArrRel ρ w F μ m size es exact fz row
 |.mp es=>∀ m,μ id 0=some m→MapRel ρ w F m es
 |.lp fn T ps assign body st=>∀ m,μ id 0=some m→LoopRel ρ w F μ m fn T ps assign body st
abbrev gB:Nat:=1000000
def Gl:Prop:=∀ v,ρ (gB+v)≠.int .i64 0→F v∧w.cell? ⟨v,0,none⟩=some (ρ (gB+v))
structure R(P:Program)(hs:HS):Prop where
 lt:∀ id g m,μ id g=some m→m.b<w.heap.size
 flt:∀ b,F b→b<w.heap.size
 obj:∀ id o,hs.H.get id=some o→ORel ρ w F μ P id o
 inj:∀ id id' o o' m m',hs.H.get id=some o→hs.H.get id'=some o'→μ id o.gen=some m→μ id' o'.gen=some m'→m.b=m'.b→id=id'
 gens:∀ id o,hs.H.get id=some o→∀ g,o.gen<g→μ id g=none
 gl:Gl ρ w F
end
theorem Gl.keep{ρ:Nat→Value}{w w':World}{F F':Nat→Prop}(h:Gl ρ w F)(hf:∀ b,F b→F' b)(hw:∀ b,F b→w'.heap[b]?=w.heap[b]?):Gl ρ w' F':=fun v hv =>
 ⟨hf _ (h v hv).1,(cell_of_heap (hw v (h v hv).1) 0).trans (h v hv).2⟩
def Owned(hs:HS)(μ:Nat→Nat→Option MI)(b:Nat):Prop:=∃ id o m,hs.H.get id=some o∧o.fz=false∧μ id o.gen=some m∧m.b=b
def Io(w w':World):Prop:=w'.os=w.os∧w'.tape=w.tape∧w'.output=w.output
theorem Io.trans{a b c:World}(h:Io a b)(k:Io b c):Io a c:=⟨k.1.trans h.1,k.2.1.trans h.2.1,k.2.2.trans h.2.2⟩
structure Fr(w:World)(F:Nat→Prop)(μ:Nat→Nat→Option MI)(hs:HS)(w':World)(F':Nat→Prop)(μ':Nat→Nat→Option MI)(hs':HS):Prop where
 io:Io w w'
 size:w.heap.size≤w'.heap.size
 keep:∀ b,b<w.heap.size→¬ Owned hs μ b→w'.heap[b]?=w.heap[b]?
 fm:∀ b,F b→F' b
 fnew:∀ b,F' b→F b∨w.heap.size≤b∨Owned hs μ b
 mm:∀ id g m,μ id g=some m→μ' id g=some m
 own:∀ b,Owned hs' μ' b→Owned hs μ b∨w.heap.size≤b
 hm:∀ id,hs.H.get id≠none→hs'.H.get id≠none
 sm:∀ id,hs'.H.get id=none→∀ g,μ' id g=μ id g
 dm:∀ id,hs.H.get id≠none→(∀ g,μ id g=none)→∀ g,μ' id g=none
 mn:∀ id g m,μ' id g=some m→w.heap.size≤m.b∨∃ i j m0,μ i j=some m0∧m0.b=m.b
section
variable {ρ:Nat→Value}{P:Program}{w w' w'':World}{F F' F'':Nat→Prop}{μ μ' μ'':Nat→Nat→Option MI}{hs hs' hs'':HS}
theorem Fr.refl(w:World)(F:Nat→Prop)(μ:Nat→Nat→Option MI)(hs:HS):Fr w F μ hs w F μ hs :=
 ⟨⟨rfl,rfl,rfl⟩,Nat.le_refl _,fun _ _ _=>rfl,fun _ h=>h,fun _ h=>.inl h,fun _ _ _ h=>h,fun _ h=>.inl h,fun _ h=>h,fun _ _ _=>rfl,fun _ _ h=>h,fun id g m h=>.inr ⟨id,g,m,h,rfl⟩⟩
theorem Fr.trans(h:Fr w F μ hs w' F' μ' hs')(h':Fr w' F' μ' hs' w'' F'' μ'' hs''):Fr w F μ hs w'' F'' μ'' hs'' where
 io:=h.io.trans h'.io
 size:=Nat.le_trans h.size h'.size
 keep b hb hn:=by
  rw[h'.keep b (Nat.lt_of_lt_of_le hb h.size) (fun ho=>(h.own b ho).elim hn (fun hge=>by omega)),h.keep b hb hn]
 fm b hb:=h'.fm b (h.fm b hb)
 fnew b hb:=by
  rcases h'.fnew b hb with h1|h1|h1
  · exact h.fnew b h1
  · exact .inr (.inl (Nat.le_trans h.size h1))
  · rcases h.own b h1 with h2|h2
    · exact .inr (.inr h2)
    · exact .inr (.inl h2)
 mm id g m hm:=h'.mm _ _ _ (h.mm _ _ _ hm)
 own b hb:=by
  rcases h'.own b hb with h1|h1
  · exact h.own b h1
  · exact .inr (Nat.le_trans h.size h1)
 hm id hi:=h'.hm id (h.hm id hi)
 sm id hi g:=by
  have hi':hs'.H.get id=none:=Classical.byContradiction fun hne=>h'.hm id hne hi
  rw[h'.sm id hi g,h.sm id hi' g]
 dm id hi hg:=h'.dm id (h.hm id hi) (h.dm id hi hg)
 mn id g m hg:=by
  rcases h'.mn id g m hg with h1|⟨i,j,m0,h1,h2⟩
  · exact .inl (Nat.le_trans h.size h1)
  · rcases h.mn i j m0 h1 with h3|⟨i',j',m1,h3,h4⟩
    · exact .inl (h2 ▸ h3)
    · exact .inr ⟨i',j',m1,h3,h4.trans h2⟩
theorem R.not_owned(h:R ρ w F μ P hs){b:Nat}(hF:F b):¬ Owned hs μ b:=by
 rintro ⟨id,o,m,ho,hf,hm,rfl⟩
 have:=h.obj id o ho
 cases o with
 |arr size gen es exact fz row=>exact(this m hm).hn hf hF
 |mp es=>exact(this m hm).hn hF
 |lp fn T ps assign body busy=>exact(this m hm).hn hF
theorem Fr.rep(h:Fr w F μ hs w' F' μ' hs')(hR:R ρ w F μ P hs){v:V}{x:Value}(hx:Rep ρ w F μ v x):Rep ρ w' F' μ' v x :=
 hx.mono ρ h.fm (fun b hb=>h.keep b (hR.flt b hb) (hR.not_owned hb)) h.mm
theorem Fr.prep(h:Fr w F μ hs w' F' μ' hs')(hR:R ρ w F μ P hs){v:V}{x:Value}(hx:PRep ρ w F v x):PRep ρ w' F' v x :=
 hx.mono ρ h.fm (fun b hb=>h.keep b (hR.flt b hb) (hR.not_owned hb))
theorem Fr.trel(h:Fr w F μ hs w' F' μ' hs')(hR:R ρ w F μ P hs){T:PT V}{a:Array Value}(hT:TRel ρ w F μ T a):TRel ρ w' F' μ' T a:=by
 intro t v hv
 obtain⟨x,hx,hr⟩:=hT t v hv
 exact⟨x,hx,h.rep hR hr⟩
theorem ORel.mono{id:Nat}{o:Obj}(h:ORel ρ w F μ P id o)(hF:∀ b,F b→F' b)(hw:∀ b,F b→w'.heap[b]?=w.heap[b]?)
 (hμ:∀ id g m,μ id g=some m→μ' id g=some m) (hμ':∀ m,μ' id o.gen=some m→μ id o.gen=some m)
 (hb:∀ m,μ id o.gen=some m→w'.heap[m.b]?=w.heap[m.b]?) (hn:∀ m,μ id o.gen=some m→o.fz=false→¬ F m.b→¬ F' m.b):ORel ρ w' F' μ' P id o:=by
 cases o with
 | arr size gen es exact fz row =>
   intro m hm
   have hm0:=hμ' m hm
   obtain⟨h1,h2,⟨cells,el,hc,ht,hl,he,hall⟩,h4,h5⟩:=h m hm0
   refine⟨h1,h2,⟨cells,el,(hb m hm0).trans hc,ht,hl,he,fun k e j v hk hj=>?_⟩,fun h=>hF _ (h4 h),fun h=>hn m hm0 h (h5 h)⟩
   obtain⟨y,hy,hr,hp⟩:=hall k e j v hk hj
   exact⟨y,hy,hr.mono ρ hF hw hμ,fun hr=>(hp hr).mono ρ hF hw⟩
 | mp es =>
   intro m hm
   have hm0:=hμ' m hm
   obtain⟨⟨en,clock,he,hs,hall⟩,h5⟩:=h m hm0
   refine⟨⟨en,clock,(hb m hm0).trans he,hs,fun i k v hi=>?_⟩,hn m hm0 rfl h5⟩
   obtain⟨e,h1,h2,h3⟩:=hall i k v hi
   exact⟨e,h1,h2.mono ρ hF hw,h3.mono ρ hF hw⟩
 | lp fn T ps assign body busy =>
   intro m hm
   have hm0:=hμ' m hm
   obtain⟨⟨l,hl,h1,h4,h5,h6,h7,h8⟩,hnn⟩:=h m hm0
   refine⟨⟨l,(hb m hm0).trans hl,h1,h4,h5,h6,fun t v hv=>?_,h8⟩,hn m hm0 rfl hnn⟩
   obtain⟨x,hx,hr⟩:=h7 t v hv
   exact⟨x,hx,hr.mono ρ hF hw hμ⟩
theorem R.grow(h:R ρ w F μ P hs)(hs':w.heap.size≤w'.heap.size)(hw:∀ b,b<w.heap.size→w'.heap[b]?=w.heap[b]?):R ρ w' F μ P hs where
 lt id g m hm:=Nat.lt_of_lt_of_le (h.lt id g m hm) hs'
 flt b hb:=Nat.lt_of_lt_of_le (h.flt b hb) hs'
 obj id o ho:=(h.obj id o ho).mono (fun _ h=>h) (fun b hb=>hw b (h.flt b hb)) (fun _ _ _ h=>h) (fun _ h=>h) (fun m hm=>hw m.b (h.lt _ _ _ hm)) (fun _ _ _ h=>h)
 inj:=h.inj
 gens:=h.gens
 gl:=h.gl.keep (fun _ h=>h) fun b hb=>hw b (h.flt b hb)
end
end Go.J
/- How the relation between the evaluator's heap and the world is kept: a new object,a written row,a frozen row. -/
namespace Go.J
def upd(μ:Nat→Nat→Option MI)(id g:Nat)(m:MI):Nat→Nat→Option MI:=fun i j=>if i=id∧j=g then some m else μ i j
theorem upd_same(μ:Nat→Nat→Option MI)(id g:Nat)(m:MI):upd μ id g m id g=some m:=by simp[upd]
theorem upd_other{μ:Nat→Nat→Option MI}{id g:Nat}{m:MI}{i j:Nat}(h:¬ (i=id∧j=g)):upd μ id g m i j=μ i j:=by simp[upd,h]
def wpush(w:World)(B:_root_.Go.Obj):World:={ w with heap:=w.heap.push B }
theorem wpush_size(w:World)(B:_root_.Go.Obj):(wpush w B).heap.size=w.heap.size+1:=by simp[wpush]
theorem wpush_old(w:World)(B:_root_.Go.Obj){b:Nat}(h:b<w.heap.size):(wpush w B).heap[b]?=w.heap[b]?:=by
 simp[wpush,Array.getElem?_push,Nat.ne_of_lt h]
theorem wpush_new(w:World)(B:_root_.Go.Obj):(wpush w B).heap[w.heap.size]?=some B:=by simp[wpush]
section
variable {ρ:Nat→Value}{P:Program}{w w':World}{F:Nat→Prop}{μ:Nat→Nat→Option MI}{hs hs':HS}
theorem kept_some{id:Nat}{o:Obj}(hH:∀ k,hs'.H.get k=if k=id then some o else hs.H.get k)(i:Nat)(hi:hs.H.get i≠none):hs'.H.get i≠none:=by
 rw[hH];split
 · simp
 · exact hi
theorem R.alloc (h:R ρ w F μ P hs) {id:Nat} (hnone:hs.H.get id=none) (hfree:∀ g,μ id g=none) {o:Obj} (hg:o.gen=0) (hz:o.fz=false)
 {m:MI} (hsz:w.heap.size≤m.b) (hlt:m.b<w'.heap.size) (hw:∀ b,b<w.heap.size→w'.heap[b]?=w.heap[b]?)
 (hH:∀ k,hs'.H.get k=if k=id then some o else hs.H.get k)
 (ho:ORel ρ w' F (upd μ id 0 m) P id o) (hio:Io w w':=by exact⟨rfl,rfl,rfl⟩):R ρ w' F (upd μ id 0 m) P hs'∧Fr w F μ hs w' F (upd μ id 0 m) hs':=by
 have hmm:∀ i g m',μ i g=some m'→upd μ id 0 m i g=some m':=by
  intro i g m' hm
  rw[upd_other];exact hm
  rintro ⟨rfl,rfl⟩;rw[hfree]at hm;cases hm
 have hback:∀ i g m',i≠id→upd μ id 0 m i g=some m'→μ i g=some m':=by
  intro i g m' hne hm
  rwa [upd_other (fun e=>hne e.1)]at hm
 have hone:∀ g m',upd μ id 0 m id g=some m'→g=0∧m'=m:=by
  intro g m' hm
  by_cases e:g=0
  · subst e;rw[upd_same]at hm;exact⟨rfl,(Option.some.inj hm).symm⟩
  · rw[upd_other (fun x=>e x.2),hfree]at hm;cases hm
 have hsize:w.heap.size≤w'.heap.size:=by omega
 refine⟨⟨?_,?_,?_,?_,?_,h.gl.keep (fun _ h=>h) fun b hb=>hw b (h.flt b hb)⟩,⟨hio,hsize,fun b hb _=>hw b hb,fun _ h=>h,fun _ h=>.inl h,hmm,?_,?_,?_,?_,?_⟩⟩
 · intro i g m' hm
   by_cases e:i=id
   · subst e;obtain⟨_,rfl⟩:=hone g m' hm;exact hlt
   · exact Nat.lt_of_lt_of_le (h.lt i g m' (hback i g m' e hm)) hsize
 · intro b hb;exact Nat.lt_of_lt_of_le (h.flt b hb) hsize
 · intro i o' ho'
   rw[hH]at ho'
   by_cases e:i=id
   · subst e;rw[if_pos rfl]at ho';cases ho';exact ho
   · rw[if_neg e]at ho'
     exact(h.obj i o' ho').mono (fun _ h=>h) (fun b hb=>hw b (h.flt b hb)) hmm (fun m' hm=>hback _ _ _ e hm) (fun m' hm=>hw _ (h.lt _ _ _ hm)) (fun _ _ _ h=>h)
 · intro i j o1 o2 m1 m2 h1 h2 hm1 hm2 he
   rw[hH]at h1 h2
   by_cases ei:i=id
   · subst ei
     obtain⟨_,rfl⟩:=hone _ _ hm1
     by_cases ej:j=i
     · exact ej.symm
     · have:=h.lt _ _ _ (hback _ _ _ ej hm2);omega
   · by_cases ej:j=id
     · subst ej
       obtain⟨_,rfl⟩:=hone _ _ hm2
       have:=h.lt _ _ _ (hback _ _ _ ei hm1);omega
     · rw[if_neg ei]at h1;rw[if_neg ej]at h2
       exact h.inj i j o1 o2 m1 m2 h1 h2 (hback _ _ _ ei hm1) (hback _ _ _ ej hm2) he
 · intro i o' ho' g hgg
   rw[hH]at ho'
   by_cases e:i=id
   · subst e;rw[if_pos rfl]at ho';cases ho'
     rw[upd_other (fun x=>by omega)];exact hfree g
   · rw[if_neg e]at ho'
     rw[upd_other (fun x=>e x.1)];exact h.gens i o' ho' g hgg
 · rintro b ⟨i,o',m',ho',hf,hm',rfl⟩
   rw[hH]at ho'
   by_cases e:i=id
   · subst e;obtain⟨_,rfl⟩:=hone _ _ hm';exact .inr hsz
   · rw[if_neg e]at ho'
     exact .inl ⟨i,o',m',ho',hf,hback _ _ _ e hm',rfl⟩
 · intro i hi
   rw[hH];split
   · simp
   · exact hi
 · intro i hi g
   rw[hH]at hi
   split at hi
   · cases hi
   · rename_i e
     exact upd_other (fun x=>e x.1)
 · intro i hi hg g
   rw[upd_other (fun x=>hi (by rw[x.1];exact hnone))];exact hg g
 · intro i g m' hm'
   by_cases e:i=id
   · subst e;obtain⟨_,rfl⟩:=hone _ _ hm';exact .inl hsz
   · exact .inr ⟨i,g,m',hback _ _ _ e hm',rfl⟩
theorem R.write(h:R ρ w F μ P hs){id:Nat}{o o':Obj}(hget:hs.H.get id=some o)(hz:o.fz=false){m:MI}(hm:μ id o.gen=some m)(hg:o'.gen=o.gen)(hz':o'.fz=false)
 (hsz:w'.heap.size=w.heap.size) (hw:∀ b,b≠m.b→w'.heap[b]?=w.heap[b]?) (hH:∀ k,hs'.H.get k=if k=id then some o' else hs.H.get k)
 (ho:ORel ρ w' F μ P id o') (hio:Io w w':=by exact⟨rfl,rfl,rfl⟩):R ρ w' F μ P hs'∧Fr w F μ hs w' F μ hs':=by
 have hown:Owned hs μ m.b:=⟨id,o,m,hget,hz,hm,rfl⟩
 have hnF:¬ F m.b:=fun hF=>h.not_owned hF hown
 have hF:∀ b,F b→w'.heap[b]?=w.heap[b]?:=fun b hb=>hw b (fun e=>hnF (e ▸ hb))
 refine⟨⟨?_,?_,?_,?_,?_,h.gl.keep (fun _ h=>h) hF⟩,⟨hio,by omega,fun b _ hb=>hw b (fun e=>hb (e ▸ hown)),fun _ h=>h,fun _ h=>.inl h,fun _ _ _ h=>h,?_,kept_some hH,fun _ _ _=>rfl,fun _ _ h=>h,fun i g m1 h1=>.inr ⟨i,g,m1,h1,rfl⟩⟩⟩
 · intro i g m' hm';rw[hsz];exact h.lt i g m' hm'
 · intro b hb;rw[hsz];exact h.flt b hb
 · intro i o1 h1
   rw[hH]at h1
   by_cases e:i=id
   · grind
   · rw[if_neg e]at h1
     exact(h.obj i o1 h1).mono (fun _ h=>h) hF (fun _ _ _ h=>h) (fun _ h=>h) (fun m1 hm1=>hw _ (fun e'=>e (h.inj i id o1 o m1 m h1 hget hm1 hm e'))) (fun _ _ _ h=>h)
 · intro i j o1 o2 m1 m2 h1 h2 hm1 hm2 he
   rw[hH]at h1 h2
   have key:∀ k ok mk,(if k=id then some o' else hs.H.get k)=some ok→μ k ok.gen=some mk→∃ ok',hs.H.get k=some ok'∧μ k ok'.gen=some mk:=by
    grind
   obtain⟨a1,ha1,hb1⟩:=key i o1 m1 h1 hm1
   obtain⟨a2,ha2,hb2⟩:=key j o2 m2 h2 hm2
   exact h.inj i j a1 a2 m1 m2 ha1 ha2 hb1 hb2 he
 · intro i o1 h1 g hgg
   rw[hH]at h1
   by_cases e:i=id
   · subst e;rw[if_pos rfl]at h1;cases h1;exact h.gens i o hget g (by omega)
   · rw[if_neg e]at h1;exact h.gens i o1 h1 g hgg
 · rintro b ⟨i,o1,m1,h1,hf,hm1,rfl⟩
   rw[hH]at h1
   by_cases e:i=id
   · subst e;rw[if_pos rfl]at h1;cases h1;rw[hg]at hm1;exact .inl ⟨i,o,m1,hget,hz,hm1,rfl⟩
   · rw[if_neg e]at h1;exact .inl ⟨i,o1,m1,h1,hf,hm1,rfl⟩
theorem R.next (h:R ρ w F μ P hs) {id:Nat} {o o':Obj} (hget:hs.H.get id=some o) (hz:o.fz=false) {m m':MI} (hm:μ id o.gen=some m) (hg:o'.gen=o.gen+1) (hz':o'.fz=false)
 (hsz:w.heap.size≤w'.heap.size) (hlt:m'.b<w'.heap.size) (hb:m'.b=m.b∨w.heap.size≤m'.b) (hw:∀ b,b<w.heap.size→b≠m.b→w'.heap[b]?=w.heap[b]?)
 (hH:∀ k,hs'.H.get k=if k=id then some o' else hs.H.get k)
 (ho:ORel ρ w' F (upd μ id (o.gen+1) m') P id o') (hio:Io w w':=by exact⟨rfl,rfl,rfl⟩):R ρ w' F (upd μ id (o.gen+1) m') P hs'∧Fr w F μ hs w' F (upd μ id (o.gen+1) m') hs':=by
 have hown:Owned hs μ m.b:=⟨id,o,m,hget,hz,hm,rfl⟩
 have hnF:¬ F m.b:=fun hF=>h.not_owned hF hown
 have hF:∀ b,F b→w'.heap[b]?=w.heap[b]?:=fun b hb=>hw b (h.flt b hb) (fun e=>hnF (e ▸ hb))
 have hno:μ id (o.gen+1)=none:=h.gens id o hget _ (by omega)
 have hmm:∀ i g m1,μ i g=some m1→upd μ id (o.gen+1) m' i g=some m1:=by
  intro i g m1 hm1
  rw[upd_other];exact hm1
  rintro ⟨rfl,rfl⟩;rw[hno]at hm1;cases hm1
 have hback:∀ i g m1,i≠id→upd μ id (o.gen+1) m' i g=some m1→μ i g=some m1:=by
  intro i g m1 hne h1
  rwa [upd_other (fun e=>hne e.1)]at h1
 have hnew:∀ m1,upd μ id (o.gen+1) m' id o'.gen=some m1→m1=m':=by
  intro m1 h1;rw[hg,upd_same]at h1;exact(Option.some.inj h1).symm
 refine⟨⟨?_,?_,?_,?_,?_,h.gl.keep (fun _ h=>h) hF⟩,⟨hio,hsz,fun b hlt hb=>hw b hlt (fun e=>hb (e ▸ hown)),fun _ h=>h,fun _ h=>.inl h,hmm,?_,kept_some hH,?_,?_,?_⟩⟩
 · intro i g m1 hm1
   by_cases e:i=id∧g=o.gen+1
   · obtain⟨rfl,rfl⟩:=e;rw[upd_same]at hm1;cases hm1;exact hlt
   · rw[upd_other e]at hm1;exact Nat.lt_of_lt_of_le (h.lt i g m1 hm1) hsz
 · intro b hb;exact Nat.lt_of_lt_of_le (h.flt b hb) hsz
 · intro i o1 h1
   rw[hH]at h1
   by_cases e:i=id
   · subst e;rw[if_pos rfl]at h1;cases h1;exact ho
   · rw[if_neg e]at h1
     exact(h.obj i o1 h1).mono (fun _ h=>h) hF hmm (fun m1 hm1=>hback _ _ _ e hm1) (fun m1 hm1=>hw _ (h.lt _ _ _ hm1) (fun e'=>e (h.inj i id o1 o m1 m h1 hget hm1 hm e'))) (fun _ _ _ h=>h)
 · intro i j o1 o2 m1 m2 h1 h2 hm1 hm2 he
   rw[hH]at h1 h2
   by_cases ei:i=id
   · subst ei;rw[if_pos rfl]at h1;cases h1
     have e1:=hnew _ hm1;subst e1
     by_cases ej:j=i
     · exact ej.symm
     · rw[if_neg ej]at h2
       have h2':=hback _ _ _ ej hm2
       have hl:=h.lt _ _ _ h2'
       rcases hb with hb|hb
       · exact(h.inj j i o2 o m2 m h2 hget h2' hm (by omega)).symm
       · omega
   · by_cases ej:j=id
     · subst ej;rw[if_pos rfl]at h2;cases h2
       have e1:=hnew _ hm2;subst e1
       rw[if_neg ei]at h1
       have h1':=hback _ _ _ ei hm1
       have hl:=h.lt _ _ _ h1'
       rcases hb with hb|hb
       · exact h.inj i j o1 o m1 m h1 hget h1' hm (by omega)
       · omega
     · rw[if_neg ei]at h1;rw[if_neg ej]at h2
       exact h.inj i j o1 o2 m1 m2 h1 h2 (hback _ _ _ ei hm1) (hback _ _ _ ej hm2) he
 · intro i o1 h1 g hgg
   rw[hH]at h1
   by_cases e:i=id
   · subst e;rw[if_pos rfl]at h1;cases h1
     rw[upd_other (fun x=>by omega)];exact h.gens i o hget g (by omega)
   · rw[if_neg e]at h1;rw[upd_other (fun x=>e x.1)];exact h.gens i o1 h1 g hgg
 · rintro b ⟨i,o1,m1,h1,hf,hm1,rfl⟩
   rw[hH]at h1
   by_cases e:i=id
   · subst e;rw[if_pos rfl]at h1;cases h1
     have e1:=hnew _ hm1;subst e1
     rcases hb with hb|hb
     · exact .inl (hb ▸ hown)
     · exact .inr hb
   · rw[if_neg e]at h1;exact .inl ⟨i,o1,m1,h1,hf,hback _ _ _ e hm1,rfl⟩
 · intro i hi g
   rw[hH]at hi
   split at hi
   · cases hi
   · rename_i e
     exact upd_other (fun x=>e x.1)
 · intro i _ hg g
   rw[upd_other];exact hg g
   rintro ⟨rfl,_⟩
   rw[hg]at hm;cases hm
 · intro i g m1 hm1
   by_cases e:i=id∧g=o.gen+1
   · obtain⟨rfl,rfl⟩:=e;rw[upd_same]at hm1;cases hm1
     rcases hb with hb|hb
     · exact .inr ⟨_,_,m,hm,hb.symm⟩
     · exact .inl hb
   · rw[upd_other e]at hm1;exact .inr ⟨i,g,m1,hm1,rfl⟩
theorem R.freeze(h:R ρ w F μ P hs){id size gen:Nat}{es:List (List V)}{exact fz row:Bool}(hget:hs.H.get id=some (.arr size gen es exact fz row))
 (hH:∀ k,hs'.H.get k=if k=id then some (.arr size gen es exact true row)else hs.H.get k) :
 R ρ w (fun b=>F b∨∃ m,μ id gen=some m∧b=m.b) μ P hs'∧Fr w F μ hs w (fun b=>F b∨∃ m,μ id gen=some m∧b=m.b) μ hs':=by
 have key:∀ k ok mk,(if k=id then some (Obj.arr size gen es exact true row)else hs.H.get k)=some ok→μ k ok.gen=some mk→∃ ok',hs.H.get k=some ok'∧μ k ok'.gen=some mk∧(ok.fz=false→ok'.fz=false∧k≠id):=by
  intro k ok mk hk hmk
  by_cases e:k=id
  · subst e;rw[if_pos rfl]at hk;cases hk;exact⟨_,hget,hmk,fun hf=>by cases hf⟩
  grind
 refine⟨⟨?_,?_,?_,?_,?_,h.gl.keep (fun _ h=>.inl h) fun _ _=>rfl⟩,⟨⟨rfl,rfl,rfl⟩,Nat.le_refl _,fun _ _ _=>rfl,fun _ h=>.inl h,?_,fun _ _ _ h=>h,?_,kept_some hH,fun _ _ _=>rfl,fun _ _ h=>h,fun i g m1 h1=>.inr ⟨i,g,m1,h1,rfl⟩⟩⟩
 · exact h.lt
 · intro b hb
   rcases hb with hb|⟨m,hm,rfl⟩
   · exact h.flt b hb
   · exact h.lt _ _ _ hm
 · intro i o1 h1
   rw[hH]at h1
   by_cases e:i=id
   · subst e;rw[if_pos rfl]at h1;cases h1
     intro m hm
     obtain⟨h1,h2,⟨cells,el,hc,ht,hl,he,hall⟩,h4,h5⟩:=h.obj _ _ hget m hm
     refine⟨h1,h2,⟨cells,el,hc,ht,hl,he,fun k e j v hk hj=>?_⟩,fun _=>.inr ⟨m,hm,rfl⟩,fun hf=>by cases hf⟩
     obtain⟨y,hy,hr,hp⟩:=hall k e j v hk hj
     exact⟨y,hy,hr.mono ρ (fun _ h=>.inl h) (fun _ _=>rfl) (fun _ _ _ h=>h),fun hr=>(hp hr).mono ρ (fun _ h=>.inl h) (fun _ _=>rfl)⟩
   · rw[if_neg e]at h1
     refine(h.obj i o1 h1).mono (fun _ h=>.inl h) (fun _ _=>rfl) (fun _ _ _ h=>h) (fun _ h=>h) (fun _ _=>rfl) ?_
     rintro m1 hm1 hf hnF (hF|⟨m,hm,hb⟩)
     · exact hnF hF
     · exact e (h.inj i id o1 _ m1 m h1 hget hm1 hm hb)
 · intro i j o1 o2 m1 m2 h1 h2 hm1 hm2 he
   rw[hH]at h1 h2
   obtain⟨a1,ha1,hb1,_⟩:=key i o1 m1 h1 hm1
   obtain⟨a2,ha2,hb2,_⟩:=key j o2 m2 h2 hm2
   exact h.inj i j a1 a2 m1 m2 ha1 ha2 hb1 hb2 he
 · intro i o1 h1 g hgg
   rw[hH]at h1
   by_cases e:i=id
   · subst e;rw[if_pos rfl]at h1;cases h1;exact h.gens i _ hget g hgg
   · rw[if_neg e]at h1;exact h.gens i o1 h1 g hgg
 · rintro b (hF|⟨m,hm,rfl⟩)
   · exact .inl hF
   · cases fz with
     |true=>exact .inl ((h.obj _ _ hget m hm).hf rfl)
     |false=>exact .inr (.inr ⟨id,_,m,hget,rfl,hm,rfl⟩)
 · rintro b ⟨i,o1,m1,h1,hf,hm1,rfl⟩
   rw[hH]at h1
   obtain⟨a1,ha1,hb1,hc1⟩:=key i o1 m1 h1 hm1
   exact .inl ⟨i,a1,m1,ha1,(hc1 hf).1,hb1,rfl⟩
end
end Go.J
