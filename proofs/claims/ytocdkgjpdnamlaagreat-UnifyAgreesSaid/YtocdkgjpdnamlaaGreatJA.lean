import GoSem.Step
import GoSem.Dispatch
import Derived.Control
set_option linter.all false
noncomputable section
/- A checked gI for the fragment of the program's code that the claims reach: values without addresses,and objects with numbers. zsu alone. -/
namespace Go.J
def bi{α:Type}(c:Bool)(x y:α):α:=@Bool.rec (fun _=>α) y x c
def ob{α β:Type}(x:Option α)(f:α->Option β):Option β:=@Option.rec α (fun _=>Option β) none f x
def kF{α β:Type}(z:β)(f:α->β)(x:Option α):β:=@Option.rec α (fun _=>β) z f x
def gd{β:Type}(c:Bool)(x:Option β):Option β:=@Bool.rec (fun _=>Option β) none x c
def lr{α β:Type}(z:β)(c:α->List α->β->β)(l:List α):β:=@List.rec α (fun _=>β) z c l
def nc{β:Type}(z:β)(s:Nat->β)(n:Nat):β:=@Nat.rec (fun _=>β) z (fun m _=>s m) n
def nr{β:Type}(z:β)(s:Nat->β->β)(n:Nat):β:=@Nat.rec (fun _=>β) z s n
def et(a b:Bool):Bool:=@Bool.rec (fun _=>Bool) false b a
def nt(a:Bool):Bool:=@Bool.rec (fun _=>Bool) true false a
inductive V where
 |bool (b:Bool)
 |int (k:IntKind) (n:Int)
 |str (s:List Nat)
 |nilptr
 |ptr (id gen off:Nat)
 |ref (cs:List V)
 |snil
 |sl (es:List (List V)) (tight:Bool)
 |own (id gen off len:Nat) (cap:Option Nat)
 |nilmap
 |map (id:Nat)
 |nilFunc
 |func (f:FuncId) (captured:List V)
 |yld (id:Nat)
 |nilIface
 |iface (t:TypeId) (v:V)
 |agg (cs:List V)
 |tuple (vs:List V)
 |sym (k:Nat)
 deriving Inhabited
inductive PT (α:Type) where
 |leaf
 |node (l:PT α) (v:Option α) (r:PT α)
namespace PT
variable {α:Type}
def get(t:PT α):Nat->Option α :=
 @PT.rec α (fun _=>Nat->Option α) (fun _=>none) (fun _ v _ gl gr n=>nc v (fun m=>bi (Nat.beq (m % 2) 0) (gl (m / 2)) (gr (m / 2))) n) t
def parts{β:Type}(t:PT α)(f:PT α->Option α->PT α->β):β:=@PT.rec α (fun _=>β) (f leaf none leaf) (fun l v r _ _=>f l v r) t
def Q0 (d:Nat):PT α->Nat->α->PT α :=
 @Nat.rec (fun _=>PT α->Nat->α->PT α) (fun t _ _=>t)
  (fun _ ih t n x=>t.parts fun l v r=>nc (node l (some x) r) (fun m=>bi (Nat.beq (m % 2) 0) (node (ih l (m / 2) x) v r) (node l v (ih r (m / 2) x))) n) d
def set(t:PT α)(n:Nat)(x:α):PT α:=Q0 (n+1) t n x
end PT
inductive Obj where
 |arr (size gen:Nat) (es:List (List V)) (exact frozen row:Bool)
 |mp (es:List (V×V))
 |lp (fn:FuncId) (T:PT V) (ps:List Nat) (assign body:Code) (st:Nat)
structure HS where
 H:PT Obj
 n:Nat
 log:List Nat
def HS.put(hs:HS)(id:Nat)(o:Obj):HS:={ H:=hs.H.set id o,n:=hs.n,log:=hs.log }
def HS.wr(hs:HS)(id:Nat)(o:Obj):HS:={ H:=hs.H.set id o,n:=hs.n,log:=id::hs.log }
structure TI where
 desc:TypeDesc
 size:Nat
 bytes:Nat
 zero:List V
 lF:Bool
def bytesOf(s:ByteArray):List Nat:=s.data.toList.map UInt8.toNat
def xu:Value->Option V
 |.bool b=>some (.bool b)
 |.int k n=>some (.int k n)
 |.string s=>some (.str (bytesOf s))
 |.pointer none=>some .nilptr
 |.slice none 0 0=>some .snil
 |.map none=>some .nilmap
 |.nilFunc=>some .nilFunc
 |.nilIface=>some .nilIface
 |_=>none
def oI(l:List Value):Option (List V) :=
 lr (some []) (fun x _ ih=>ob (xu x) fun v=>ob ih fun r=>some (v::r)) l
def ofConst:Value->Option V
 |.agg cs=>ob (oI cs.toList) fun l=>some (.agg l)
 |v=>xu v
def V.cells:V->List V
 |.agg cs=>cs
 |v=>[v]
def V.jR:V->Bool
 |.agg _=>false
 |.tuple _=>false
 |_=>true
def IK(l:List V):Bool:=lr true (fun v _ ih=>et v.jR ih) l
def V.rW:V->Bool
 |.bool _|.int _ _|.str _|.nilptr|.ref _|.snil|.sl _ _|.nilmap|.nilFunc|.nilIface|.sym _=>true
 |_=>false
def V.aI:V->Bool
 |.iface _ v=>v.rW
 |.func _ []=>true
 |v=>v.rW
def Cb(l:List V):Bool:=lr true (fun v _ ih=>et v.aI ih) l
def V.pure:V->Bool
 |.agg cs=>Cb cs
 |v=>v.aI
def aR(l:List V):Bool:=lr true (fun v _ ih=>et v.pure ih) l
def mI{α:Type}(l:List α):Nat->Option α:=lr (fun _=>none) (fun x _ ih n=>nc (some x) ih n) l
def Jk{α:Type}(l:List α):Nat->α->List α:=lr (fun _ _=>[]) (fun x t ih n y=>nc (y::t) (fun m=>x::ih m y) n) l
def zF{α:Type}(n:Nat)(l:List α):List α:=lr (β:=Nat->List α) (fun _=>[]) (fun x t ih n=>nc (x::t) ih n) l n
def wu{α:Type}(n:Nat)(l:List α):List α:=lr (β:=Nat->List α) (fun _=>[]) (fun x _ ih n=>nc [] (fun m=>x::ih m) n) l n
def aN{α:Type}(l:List α):Nat:=lr 0 (fun _ _ ih=>ih+1) l
def gy{α:Type}(l:List α)(n:Nat)(new:List α):List α :=
 lr (β:=Nat->List α->List α) (fun _ _=>[]) (fun x t ih n new=>nc (lr (x::t) (fun y ys _=>y::ih 0 ys) new) (fun m=>x::ih m new) n) l n new
def fC{α:Type}(l m:List α):List α:=lr m (fun x _ ih=>x::ih) l
def Zd{α:Type}(x:α)(n:Nat):List α:=nr [] (fun _ ih=>x::ih) n
def xy(n:Nat)(l:List Nat):Bool:=lr false (fun x _ ih=>bi (Nat.beq n x) true ih) l
def BM(l:List Nat):List Nat->Bool :=
 lr (fun m=>lr true (fun _ _ _=>false) m) (fun a _ ih m=>lr false (fun b y _=>et (Nat.beq a b) (ih y)) m) l
def JA(l:List Nat):List Nat->Bool :=
 lr (fun m=>lr false (fun _ _ _=>true) m) (fun a _ ih m=>lr false (fun b y _=>bi (Nat.blt a b) true (et (Nat.beq a b) (ih y))) m) l
def sM(k:IntKind)(n:Int):Int :=
 match k,n with
 |.i64,.ofNat m=>bi (Nat.blt m 9223372036854775808) n (k.wrap n)
 |.i64,.negSucc m=>bi (Nat.blt m 9223372036854775808) n (k.wrap n)
 |_,_=>k.wrap n
def Un:Int->Int->Bool
 |.ofNat a,.ofNat b=>Nat.blt a b
 |.ofNat _,.negSucc _=>false
 |.negSucc _,.ofNat _=>true
 |.negSucc a,.negSucc b=>Nat.blt b a
def M8:Int->Int->Bool
 |.ofNat a,.ofNat b=>Nat.beq a b
 |.negSucc a,.negSucc b=>Nat.beq a b
 |_,_=>false
def leI(a b:Int):Bool:=nt (Un b a)
def Rw:Int->Option Nat
 |.ofNat a=>some a
 |_=>none
def G9:IntKind->Nat
 |.i8=>0
 |.i16=>1
 |.i32=>2
 |.i64=>3
 |.u8=>4
 |.u16=>5
 |.u32=>6
 |.u64=>7
def um(a b:IntKind):Bool:=Nat.beq (G9 a) (G9 b)
def V.bool?:V->Option Bool
 |.bool b=>some b
 |_=>none
def V.int?:V->Option (IntKind×Int)
 |.int k n=>some (k,n)
 |_=>none
def V.nat? (v:V):Option Nat:=ob v.int? fun p=>Rw p.2
def V.str?:V->Option (List Nat)
 |.str s=>some s
 |_=>none
def V.agg?:V->Option (List V)
 |.agg s=>some s
 |_=>none
def V.tuple?:V->Option (List V)
 |.tuple s=>some s
 |_=>none
def Obj.arr?:Obj->Option (Nat×Nat×List (List V)×Bool×Bool×Bool)
 |.arr a b c d e f=>some (a,b,c,d,e,f)
 |_=>none
def Obj.mp?:Obj->Option (List (V×V))
 |.mp es=>some es
 |_=>none
def kC:TypeDesc->Option TypeId
 |.slice e=>some e
 |_=>none
def elemOf:TypeDesc->Option (TypeId×Option Nat)
 |.slice e=>some (e,none)
 |.array n e=>some (e,some n)
 |_=>none
def mapOf:TypeDesc->Option (TypeId×TypeId)
 |.map k e=>some (k,e)
 |_=>none
def gL:TypeDesc->Bool
 |.struct _|.array _ _=>true
 |_=>false
def gM(hs:HS)(id g:Nat):Option (Nat×List (List V)×Bool×Bool×Bool) :=
 ob (hs.H.get id) fun o=>ob o.arr? fun a=>gd (et (Nat.beq g a.2.1) (nt (Nat.beq a.1 0))) (some (a.1,a.2.2))
def qz(size off len:Nat)(es:List (List V)):Option (List (List V)) :=
 gd (et (Nat.beq (off % size) 0) (Nat.ble (off / size+len) (aN es))) (some (wu len (zF (off / size) es)))
def rO(hs:HS)(id g off len:Nat):Option V :=
 ob (gM hs id g) fun a=>gd a.2.2.2.2 (ob (qz a.1 off len a.2.1) fun l=>some (.sl l false))
def ja(hs:HS)(v:V):Option V :=
 match v with
 |.own id g off len _=>rO hs id g off len
 |v=>gd v.aI (some v)
def mD(hs:HS)(l:List V):Option (List V) :=
 lr (some []) (fun v _ ih=>ob (ja hs v) fun v'=>ob ih fun l'=>some (v'::l')) l
def gV(hs:HS)(v:V):Option V :=
 match v with
 |.agg cs=>ob (mD hs cs) fun l=>some (.agg l)
 |v=>ja hs v
def fD(hs:HS)(l:List V):Option (List V) :=
 lr (some []) (fun v _ ih=>ob (gV hs v) fun v'=>ob ih fun l'=>some (v'::l')) l
def still(hs:HS)(v:V):Option V :=
 match v with
 |.tuple cs=>ob (fD hs cs) fun l=>some (.tuple l)
 |v=>gV hs v
def dQ(hs:HS)(id:Nat):HS :=
 kF hs (fun o=>kF hs (fun a=>hs.wr id (.arr a.1 a.2.1 a.2.2.1 a.2.2.2.1 true a.2.2.2.2.2)) o.arr?) (hs.H.get id)
def iG(hs:HS)(v:V):HS :=
 match v with
 |.own id _ _ _ _=>dQ hs id
 |_=>hs
def ig(hs:HS)(l:List V):HS:=lr hs (fun v _ ih=>iG ih v) l
def iE(v:V)(hs:HS):Option (V×HS) :=
 ob (gV hs v) fun v'=>some (v',ig hs v.cells)
def gq(l:List V):HS->Option (List V×HS) :=
 lr (fun hs=>some ([],hs)) (fun v _ ih hs=>ob (iE v hs) fun r=>ob (ih r.2) fun q=>some (r.1::q.1,q.2)) l
def Rj(r:V×HS):Option (V×HS) :=
 match r.1 with
 |.tuple vs=>ob (gq vs r.2) fun q=>some (.tuple q.1,q.2)
 |v=>iE v r.2
def V.rQ:V->Bool
 |.bool _|.int _ _|.str _|.nilptr|.snil|.nilmap|.nilFunc|.nilIface=>true
 |_=>false
def Qk(l:List V):Bool:=lr true (fun v _ ih=>et v.rQ ih) l
def V.CG(v:V):Bool :=
 match v with
 |.agg cs=>Qk cs
 |.tuple cs=>Qk cs
 |v=>v.rQ
def aG(T:PT V)(o:Operand):Option V :=
 match o with
 |.tmp t=>T.get t
 |.const v=>ofConst v
 |.func f=>some (.func f [])
 |.global _=>none
def fe(T:PT V)(l:List Operand):Option (List V) :=
 lr (some []) (fun o _ ih=>ob (aG T o) fun v=>ob ih fun r=>some (v::r)) l
def zc1(x:Value):Bool :=
 match x with
 |.agg _=>true
 |_=>false
section
variable (P:Program)
def ti (t:TypeId):Option TI :=
 ob (P.info? t) fun i=>ob (P.underlying t) fun d=>ob i.zero fun z=>ob (oI z.cells.toList) fun cs =>
  some { desc:=d,size:=i.size,bytes:=i.bytes,zero:=cs,lF:=zc1 z }
def zln(size:Nat)(r:List V):Option V:=gd (Nat.beq (aN r) size) (some (.agg r))
def qG(i:TI)(cs:List V)(off:Nat):Option V :=
 bi (gL i.desc) (zln i.size (wu i.size (zF off cs))) (mI cs off)
def aO(i:TI)(f:Nat):Option Field :=
 match i.desc with
 |.struct fs=>fs[f]?
 |_=>none
def LH(v:V):Option Bool :=
 match v with
 |.nilptr=>some true
 |.ptr _ _ _=>some false
 |.ref _=>some false
 |_=>none
def LG(v:V):Option Bool :=
 match v with
 |.snil=>some true
 |.own _ _ _ _ _=>some false
 |.sl (_::_) _=>some false
 |_=>none
def OA(v:V):Option Bool :=
 match v with
 |.nilmap=>some true
 |.map _=>some false
 |_=>none
def OC(v:V):Option Bool :=
 match v with
 |.nilFunc=>some true
 |.func _ _=>some false
 |_=>none
def xL(a b:Option Bool):Option Bool:=ob a fun a=>ob b fun b=>bi a (some b) (bi b (some false) none)
def oN(a b:Bool):Bool:=bi a b (nt b)
def zo5(d:TypeDesc)(x y:V):Option Bool :=
 match d with
 |.bool=>ob x.bool? fun a=>ob y.bool? fun b=>some (oN a b)
 |.pointer _=>xL (LH x) (LH y)
 |.slice _=>xL (LG x) (LG y)
 |.map _ _=>xL (OA x) (OA y)
 |.func _ _ _=>xL (OC x) (OC y)
 |_=>none
def zmw(t:TypeId)(x y:V):Option Bool:=ob (ti P t) fun i=>zo5 i.desc x y
def MR(k:IntKind)(a b:Int):Int:=k.wrap ((BitVec.ofInt k.bits a &&& BitVec.ofInt k.bits b).toNat)
def arith(op:BinOp)(k:IntKind)(a b:Int):Option V :=
 match op with
 |.add=>some (.int k (sM k (a+b)))
 |.sub=>some (.int k (sM k (a-b)))
 |.mul=>some (.int k (sM k (a*b)))
 |.quo=>gd (nt (M8 b 0)) (some (.int k (sM k (a.tdiv b))))
 |.rem=>gd (nt (M8 b 0)) (some (.int k (a.tmod b)))
 |.eql=>some (.bool (M8 a b))
 |.neq=>some (.bool (nt (M8 a b)))
 |.lss=>some (.bool (Un a b))
 |.leq=>some (.bool (leI a b))
 |.gtr=>some (.bool (Un b a))
 |.geq=>some (.bool (leI b a))
 |.and=>some (.int k (MR k a b))
 |_=>none
def F6(op:BinOp)(k:IntKind)(a b:Int):Option V :=
 match op with
 |.shr=>ob (Rw b) fun m=>some (.int k (a.fdiv (2 ^ min m k.bits)))
 |_=>none
def Dz(op:BinOp)(a b:List Nat):Option V :=
 match op with
 |.add=>gd (Nat.ble (aN a+aN b) 1048576) (some (.str (fC a b)))
 |.eql=>some (.bool (BM a b))
 |.neq=>some (.bool (nt (BM a b)))
 |.lss=>some (.bool (JA a b))
 |.gtr=>some (.bool (bi (JA a b) false (nt (BM a b))))
 |.geq=>some (.bool (nt (JA a b)))
 |.leq=>some (.bool (bi (JA a b) true (BM a b)))
 |_=>none
def Bn(op:BinOp)(t:TypeId)(x y:V):Option V :=
 match op with
 |.eql=>ob (zmw P t x y) fun b=>some (.bool b)
 |.neq=>ob (zmw P t x y) fun b=>some (.bool (nt b))
 |_=>none
def iF:BinOp->Bool
 |.shl|.shr=>true
 |_=>false
def MM(op:BinOp)(t:TypeId)(x y:V):Option V :=
 match x with
 |.int k a=>ob y.int? fun b=>bi (iF op) (F6 op k a b.2) (gd (um k b.1) (arith op k a b.2))
 |.str a=>ob y.str? fun b=>Dz op a b
 |x=>Bn P op t x y
def FE(i:TI)(a:Nat×List (List V)×Bool×Bool×Bool)(off:Nat):Option V :=
 ob (mI a.2.1 (off / a.1)) fun e=>qG i e (off % a.1)
def wD(i:TI)(hs:HS)(v:V):Option V :=
 match v with
 |.ptr id g off=>ob (gM hs id g) fun a=>FE i a off
 |.ref cs=>qG i cs 0
 |_=>none
def jw (i:TI) (id g off:Nat) (v:V) (hs:HS):Option HS :=
 ob (gM hs id g) fun a=>gd (nt a.2.2.2.1) (gd (et (IK v.cells) (et (Nat.beq (aN v.cells) i.size) (Nat.ble (off % a.1+i.size) a.1)))
  (ob (mI a.2.1 (off / a.1)) fun e=>some (hs.wr id (.arr a.1 g (Jk a.2.1 (off / a.1) (gy e (off % a.1) v.cells)) a.2.2.1 false a.2.2.2.2))))
def isRow(hs:HS)(id:Nat):Bool:=kF false (fun o=>kF false (fun a=>a.2.2.2.2.2) o.arr?) (hs.H.get id)
def tZ(i:TI)(hs:HS)(a v:V):Option HS :=
 match a with
 |.ptr id g off=>bi (isRow hs id) (ob (iE v hs) fun r=>jw i id g off r.1 r.2) (jw i id g off v hs)
 |_=>none
def qC (T:PT V) (i:TI) (l:List (Nat×Operand)):List V->Option (List V) :=
 lr (fun cells=>some cells) (fun p _ k cells=>ob (aO i p.1) fun fd=>ob (ti P fd.type) fun fi=>ob (aG T p.2) fun v =>
  gd (et (Nat.beq (aN v.cells) fi.size) (Nat.ble (fd.offset+fi.size) (aN cells))) (k (gy cells fd.offset v.cells))) l
def sF(dr:Bool)(v:V)(hs:HS):Option (V×HS):=bi dr (gd v.pure (some (v,hs))) (iE v hs)
def oG (dr:Bool) (T:PT V) (e:TI) (len:Nat) (l:List (Nat×Operand)):HS->List (List V)->Option (List (List V)×HS) :=
 lr (fun hs es=>some (es,hs)) (fun p _ k hs es=>ob (aG T p.2) fun v=>ob (sF dr v hs) fun r =>
  gd (et (Nat.beq (aN r.1.cells) e.size) (Nat.blt p.1 len)) (k r.2 (Jk es p.1 r.1.cells))) l
def nL(hs:HS)(size:Nat)(v:V):Option (List (List V)) :=
 match v with
 |.snil=>some []
 |.sl es _=>some es
 |.own id g off len _=>ob (gM hs id g) fun a=>gd (et a.2.2.2.2 (Nat.beq a.1 size)) (qz a.1 off len a.2.1)
 |_=>none
def JC (hs:HS) (d:TypeDesc) (v:V):Option Nat :=
 match d with
 |.string=>ob v.str? fun s=>some (aN s)
 | .slice _=>match v with
   |.snil=>some 0
   |.sl es _=>some (aN es)
   |.own _ _ _ len _=>some len
   |_=>none
 | .map _ _=>match v with
   |.nilmap=>some 0
   |.map id=>ob (hs.H.get id) fun o=>ob o.mp? fun es=>some (aN es)
   |_=>none
 |_=>none
def sizes(size:Nat)(l:List (List V)):Bool:=lr true (fun e _ ih=>et (Nat.beq (aN e) size) ih) l
def nA(n bytes:Nat):Bool:=Nat.ble (n*bytes) 1048576
def dw(l:List (List V)):Bool:=lr true (fun e _ ih=>et (IK e) ih) l
def rX(e:TI)(hs:HS)(id n:Nat)(es:List (List V)):Option (V×HS) :=
 some (.own id 0 0 n none,hs.put id (.arr e.size 0 es false false true))
def xV (e:TI) (hs:HS) (id:Nat) (es:List (List V)) (tight:Bool) (new:List (List V)):Option (V×HS) :=
 bi (Nat.beq (aN new) 0) (some (.sl es tight,hs))
  (gd (et tight (et (nA (aN es+aN new) e.bytes) (sizes e.size es))) (rX e hs id (aN es+aN new) (fC es new)))
def vo(e:TI)(hs:HS)(id:Nat)(new:List (List V)):Option (V×HS) :=
 bi (Nat.beq (aN new) 0) (some (.snil,hs)) (gd (nA (aN new) e.bytes) (rX e hs id (aN new) new))
def nP (hs:HS) (id g off len:Nat) (cap:Option Nat) (a:Nat×List (List V)×Bool×Bool×Bool) (new:List (List V)):Option (V×HS) :=
 gd (et (nt a.2.2.2.1) (Nat.ble (off / a.1+len+aN new) (aN a.2.1)))
  (some (.own id g off (len+aN new) cap,hs.wr id (.arr a.1 g (gy a.2.1 (off / a.1+len) new) a.2.2.1 false a.2.2.2.2)))
def rG (e:TI) (hs:HS) (id' id g off len:Nat) (cap:Option Nat) (new:List (List V)):Option (V×HS) :=
 ob (gM hs id g) fun a=>gd (et a.2.2.2.2 (et (Nat.beq a.1 e.size) (et (Nat.beq (off % a.1) 0) (nA (len+aN new) e.bytes))))
  (kF
    (bi (Nat.ble (off / a.1+len+aN new) (aN a.2.1)) (nP hs id g off len none a new)
      (gd (et (nt a.2.2.2.1) (et (Nat.beq off 0) (Nat.ble len (aN a.2.1)))) (some (.own id (g+1) 0 (len+aN new) none,hs.wr id (.arr a.1 (g+1) (fC (wu len a.2.1) new) false false true)))))
    (fun c=>bi (Nat.ble (len+aN new) c) (nP hs id g off len cap a new) (ob (qz a.1 off len a.2.1) fun old=>rX e hs id' (len+aN new) (fC old new)))
    cap)
def qY (e:TI) (hs:HS) (id':Nat) (s x:V):Option (V×HS) :=
 ob (nL hs e.size x) fun new=>gd (et (sizes e.size new) (et (dw new) (et (nt (Nat.beq e.size 0)) (et (nt (Nat.beq e.bytes 0)) (Nat.beq (aN e.zero) e.size)))))
  (match s with
  |.snil=>vo e hs id' new
  |.sl es tight=>xV e hs id' es tight new
  |.own id g off len cap=>rG e hs id' id g off len cap new
  |_=>none)
def Jy(a b:Nat):Nat:=bi (Nat.ble a b) a b
def BU (e:TI) (hs:HS) (id g off len:Nat) (src:List (List V)):Option (V×HS) :=
 ob (gM hs id g) fun a=>gd (et (nt a.2.2.2.1) (et a.2.2.2.2 (et (Nat.beq a.1 e.size) (et (Nat.beq (off % a.1) 0) (et (sizes e.size src) (et (dw src) (Nat.ble (off / a.1+Jy (aN src) len) (aN a.2.1))))))))
  (some (.int .i64 (Int.ofNat (Jy (aN src) len)),hs.wr id (.arr a.1 g (gy a.2.1 (off / a.1) (wu (Jy (aN src) len) src)) a.2.2.1 false true)))
def Iw (e:TI) (hs:HS) (d x:V):Option (V×HS) :=
 ob (nL hs e.size x) fun src =>
  match d with
  |.own id g off len _=>BU e hs id g off len src
  |.snil=>some (.int .i64 0,hs)
  |_=>none
def mJ (i:TI) (hs:HS) (id:Nat) (l c:V):Option (V×HS) :=
 ob (kC i.desc) fun el=>ob (ti P el) fun e=>ob l.nat? fun l=>ob c.nat? fun c =>
  gd (et (Nat.ble l c) (et (nA c e.bytes) (et (Nat.ble (c*e.size) 1048576) (et (nt (Nat.beq e.size 0)) (et (Nat.beq (aN e.zero) e.size) (Cb e.zero))))))
   (some (.own id 0 0 l (some c),hs.put id (.arr e.size 0 (Zd e.zero c) true false true)))
def bU{α:Type}:Option α->Bool
 |some _=>true
 |none=>false
def Bo(T:PT V)(o:Option Operand)(y d:Nat):Option Nat :=
 kF (some d) (fun o=>ob (aG T o) fun v=>ob v.nat? fun n=>gd (Nat.ble n y) (some n)) o
def bounds(T:PT V)(len cap:Nat)(lo hi mx:Option Operand):Option (Nat×Nat×Nat) :=
 gd (bi (bU mx) (bU hi) true) (ob (Bo T mx cap cap) fun m=>ob (Bo T hi m len) fun h=>ob (Bo T lo h 0) fun l=>some (l,h,m))
def NQ(T:PT V)(s:List Nat)(lo hi mx:Option Operand):Option V :=
 gd (nt (bU mx)) (ob (bounds T (aN s) (aN s) lo hi mx) fun b=>some (.str (wu (b.2.1-b.1) (zF b.1 s))))
def Fz (T:PT V) (e:TI) (es:List (List V)) (tight:Bool) (lo hi mx:Option Operand):Option V :=
 gd (sizes e.size es) (ob (bounds T (aN es) (aN es) lo hi mx) fun b =>
  some (.sl (wu (b.2.1-b.1) (zF b.1 es)) (bi (bU mx) (Nat.beq b.2.1 b.2.2) (et tight (Nat.beq b.2.1 (aN es))))))
def vD(c:Option Nat)(l:Nat):Option Nat:=kF none (fun c=>some (c-l)) c
def lN (T:PT V) (hs:HS) (e:TI) (id g off len:Nat) (cap:Option Nat) (lo hi mx:Option Operand):Option V :=
 ob (gM hs id g) fun a=>gd (Nat.beq a.1 e.size) (ob (bounds T len (kF len (fun c=>c) cap) lo hi mx) fun b =>
  gd (bi (Nat.beq b.1 0) true (Nat.blt b.1 b.2.2)) (some (.own id g (off+b.1*e.size) (b.2.1-b.1) (bi (bU mx) (some (b.2.2-b.1)) (vD cap b.1)))))
def NS(T:PT V)(lo hi mx:Option Operand):Option V:=ob (bounds T 0 0 lo hi mx) fun _=>some .snil
def mE (T:PT V) (hs:HS) (i:TI) (x:V) (lo hi mx:Option Operand):Option V :=
 match i.desc with
 |.string=>ob x.str? fun s=>NQ T s lo hi mx
 | .slice el=>ob (ti P el) fun e =>
   match x with
   |.snil=>NS T lo hi mx
   |.sl es tight=>Fz T e es tight lo hi mx
   |.own id g off len cap=>lN T hs e id g off len cap lo hi mx
   |_=>none
 |_=>none
def zB(k a:V):Option Bool :=
 match k with
 |.int k n=>ob a.int? fun p=>gd (um k p.1) (some (M8 n p.2))
 |.str s=>ob a.str? fun t=>some (BM s t)
 |.bool b=>ob a.bool? fun c=>some (oN b c)
 |_=>none
def Hw(k:V)(l:List (V×V)):Option (Option V) :=
 lr (some none) (fun p _ ih=>ob (zB k p.1) fun q=>bi q (some (some p.2)) ih) l
def vJ(k v:V)(l:List (V×V)):Option (List (V×V)) :=
 lr (some [(k,v)]) (fun p t ih=>ob (zB k p.1) fun q=>bi q (some ((p.1,v)::t)) (ob ih fun r=>some (p::r))) l
def jk (d:TypeDesc) (k:V):Bool :=
 match d with
 | .int j=>match k with
   |.int k _=>um j k
   |_=>false
 | .string=>match k with
   |.str _=>true
   |_=>false
 | .bool=>match k with
   |.bool _=>true
   |_=>false
 |_=>false
def iZ:V:=.tuple []
def Na(e:TI):Option V:=bi e.lF (some (.agg e.zero)) (mI e.zero 0)
def Bj(T:PT V)(hs:HS)(c a b:Operand):Option (V×HS) :=
 ob (aG T c) fun q=>ob q.bool? fun q=>ob (bi q (aG T a) (aG T b)) fun v=>some (v,hs)
def qE(hs:HS)(id:Nat)(t:TypeId):Option (V×HS) :=
 ob (ti P t) fun i=>gd (Nat.beq (aN i.zero) i.size) (some (.ptr id 0 0,hs.put id (.arr i.size 0 [i.zero] true false false)))
def Ff(T:PT V)(hs:HS)(id:Nat)(x:Operand):Option (V×HS) :=
 ob (aG T x) fun v=>some (.ptr id 0 0,hs.put id (.arr (aN v.cells) 0 [v.cells] true false false))
def gZ(l:List Field):Bool:=lr true (fun f _ ih=>et (bU (ti P f.type)) ih) l
def fU(d:TypeDesc):Bool :=
 match d with
 |.struct _=>true
 |_=>false
def fieldsOf(d:TypeDesc):List Field :=
 match d with
 |.struct fs=>fs.toList
 |_=>[]
def KI:TypeDesc->Option TypeId
 |.array _ e=>some e
 |_=>none
def mr(T:PT V)(n:Nat)(l:List (Nat×Operand)):List V->Option (List V) :=
 lr (fun cells=>some cells) (fun p _ k cells=>ob (aG T p.2) fun v=>gd (et (Nat.beq (aN v.cells) n) (Nat.ble (p.1*n+n) (aN cells))) (k (gy cells (p.1*n) v.cells))) l
def nO(T:PT V)(hs:HS)(t:TypeId)(parts:Array (Nat×Operand)):Option (V×HS) :=
 ob (ti P t) fun i=>ob (bi (fU i.desc) (gd (gZ P (fieldsOf i.desc)) (qC P T i parts.toList i.zero)) (ob (KI i.desc) fun el=>ob (ti P el) fun e=>mr T e.size parts.toList i.zero)) fun cs=>some (.agg cs,hs)
def fG (dr:Bool) (T:PT V) (hs:HS) (id:Nat) (t:TypeId) (len:Nat) (parts:Array (Nat×Operand)):Option (V×HS) :=
 ob (ti P t) fun i=>ob (kC i.desc) fun el=>ob (ti P el) fun e =>
  gd (et (Nat.ble (len*e.size) 1048576) (et (nt (Nat.beq e.size 0)) (et (Nat.beq (aN e.zero) e.size) (Cb e.zero))))
   (ob (oG dr T e len parts.toList hs (Zd e.zero len)) fun r=>some (bi (Nat.beq e.bytes 128) (.own id 0 0 len (some len)) (.sl r.1 true),r.2.put id (bi (Nat.beq e.bytes 128) (.arr e.size 0 r.1 true false true) (.mp []))))
def qU(T:PT V)(hs:HS)(t:TypeId)(a:Operand):Option (V×HS) :=
 ob (ti P t) fun i=>ob (aG T a) fun p=>ob (wD i hs p) fun v=>some (v,hs)
def iq(T:PT V)(hs:HS)(t:TypeId)(a x:Operand):Option (V×HS) :=
 ob (ti P t) fun i=>ob (aG T a) fun p=>ob (aG T x) fun v=>ob (tZ i hs p v) fun hs'=>some (iZ,hs')
def notNil(v:V):Bool :=
 match v with
 |.ptr _ _ _=>true
 |.ref _=>true
 |.func _ _=>true
 |.yld _=>true
 |_=>false
def kX(T:PT V)(hs:HS)(x:Operand):Option (V×HS):=ob (aG T x) fun v=>gd (notNil v) (some (v,hs))
def wh(T:PT V)(hs:HS)(op:BinOp)(t:TypeId)(x y:Operand):Option (V×HS) :=
 ob (aG T x) fun a=>ob (aG T y) fun b=>ob (MM P op t a b) fun v=>some (v,hs)
def AU(T:PT V)(hs:HS)(op:UnOp)(x:Operand):Option (V×HS) :=
 match op with
 |.not=>ob (aG T x) fun v=>ob v.bool? fun b=>some (.bool (nt b),hs)
 |.neg=>ob (aG T x) fun v=>ob v.int? fun p=>some (.int p.1 (sM p.1 (0-p.2)),hs)
 |_=>none
def Iy(d:TypeDesc)(v:V):Option V :=
 match d with
 |.int k=>ob v.int? fun p=>some (.int k (sM k p.2))
 |.string=>ob v.str? fun s=>some (.str s)
 |_=>none
def BV(T:PT V)(hs:HS)(s d:TypeId)(x:Operand):Option (V×HS) :=
 ob (ti P s) fun _=>ob (ti P d) fun j=>ob (aG T x) fun v=>ob (Iy j.desc v) fun r=>some (r,hs)
def iT(n:Nat)(v:V):Option V :=
 match v with
 |.ptr id g off=>some (.ptr id g (off+n))
 |.ref cs=>some (.ref (zF n cs))
 |_=>none
def jU(T:PT V)(hs:HS)(t:TypeId)(x:Operand)(f:Nat):Option (V×HS) :=
 ob (ti P t) fun i=>ob (aO i f) fun fd=>ob (ti P fd.type) fun fi=>gd (nt (Nat.beq fi.size 0)) (ob (aG T x) fun v=>ob (iT fd.offset v) fun r=>some (r,hs))
def vV(T:PT V)(hs:HS)(t:TypeId)(x:Operand)(f:Nat):Option (V×HS) :=
 ob (ti P t) fun i=>ob (aO i f) fun fd=>ob (ti P fd.type) fun fi=>ob (aG T x) fun v=>ob v.agg? fun cs=>ob (qG fi cs fd.offset) fun v=>some (v,hs)
def oK(e:TI)(n:Nat)(v:V):Option V :=
 match v with
 |.sl es _=>gd (sizes e.size es) (ob (mI es n) fun c=>some (.ref c))
 |.own id g off len _=>gd (Nat.blt n len) (some (.ptr id g (off+n*e.size)))
 |_=>none
def ZJ(m:Option Nat)(e:TI)(n:Nat)(v:V):Option V :=
 match m with
 |none=>oK e n v
 |some k=>gd (Nat.blt n k) (iT (n*e.size) v)
def jS(T:PT V)(hs:HS)(t:TypeId)(x ix:Operand):Option (V×HS) :=
 ob (ti P t) fun i=>ob (elemOf i.desc) fun el=>ob (ti P el.1) fun e=>ob (aG T x) fun v=>ob (aG T ix) fun n=>ob n.nat? fun n=>ob (ZJ el.2 e n v) fun r=>some (r,hs)
def isStr:TypeDesc->Bool
 |.string=>true
 |_=>false
def vT(T:PT V)(hs:HS)(t:TypeId)(x ix:Operand):Option (V×HS) :=
 ob (ti P t) fun i=>gd (isStr i.desc) (ob (aG T x) fun v=>ob v.str? fun s=>ob (aG T ix) fun n=>ob n.nat? fun n=>ob (mI s n) fun b=>some (.int .u8 (Int.ofNat b),hs))
def nz(T:PT V)(hs:HS)(t:TypeId)(x:Operand)(lo hi mx:Option Operand):Option (V×HS) :=
 ob (ti P t) fun i=>ob (aG T x) fun v=>ob (mE P T hs i v lo hi mx) fun r=>some (r,hs)
def nK(T:PT V)(hs:HS)(x:Operand)(k:Nat):Option (V×HS) :=
 ob (aG T x) fun v=>ob v.tuple? fun vs=>ob (mI vs k) fun v=>some (v,hs)
def ry(T:PT V)(hs:HS)(fn:Fn)(first qB:Array Operand):Option (V×HS) :=
 match fn with
 |.func f=>gd (first.toList.isEmpty) (ob (fe T qB.toList) fun l=>some (.func f l,hs))
 |_=>none
def pK(hs:HS)(id:Nat)(r:Option Operand):Option (V×HS):=gd (nt (bU r)) (some (.map id,hs.put id (.mp [])))
def gU(T:PT V)(hs:HS)(id:Nat)(t:TypeId)(l c:Operand):Option (V×HS) :=
 ob (ti P t) fun i=>ob (aG T l) fun a=>ob (aG T c) fun b=>mJ P i hs id a b
def fF(hs:HS)(m:V):Option (List (V×V)) :=
 match m with
 |.nilmap=>some []
 |.map id=>ob (hs.H.get id) fun o=>o.mp?
 |_=>none
def eH (T:PT V) (hs:HS) (t:TypeId) (m k:Operand) (ok:Bool):Option (V×HS) :=
 ob (ti P t) fun i=>ob (mapOf i.desc) fun d=>ob (ti P d.1) fun ki=>ob (ti P d.2) fun e=>ob (aG T m) fun mv=>ob (aG T k) fun kv =>
  gd (jk ki.desc kv) (ob (fF hs mv) fun es=>ob (Hw kv es) fun r =>
   ob (kF (Na e) (fun v=>some v) r) fun v=>some (bi ok (.tuple [v,.bool (bU r)]) v,hs))
def cK (T:PT V) (hs:HS) (t:TypeId) (m k x:Operand):Option (V×HS) :=
 ob (ti P t) fun i=>ob (mapOf i.desc) fun d=>ob (ti P d.1) fun ki=>ob (aG T m) fun mv=>ob (aG T k) fun kv=>ob (aG T x) fun v =>
  gd (jk ki.desc kv) (match mv with
   |.map id=>ob (iE v hs) fun r=>ob (r.2.H.get id) fun o=>ob o.mp? fun es=>ob (vJ kv r.1 es) fun es'=>some (iZ,r.2.wr id (.mp es'))
   |_=>none)
def isIface:TypeDesc->Bool
 |.interface _=>true
 |_=>false
def mK(T:PT V)(hs:HS)(t:TypeId)(x:Operand):Option (V×HS) :=
 ob (ti P t) fun i=>gd (nt (isIface i.desc)) (ob (aG T x) fun v=>some (.iface t v,hs))
def GV(T:PT V)(hs:HS)(x:Operand):Option (V×HS):=ob (aG T x) fun v=>some (v,hs)
structure zmK where
 no:Nat
 t:TypeId
 x:Operand
 y:Operand
 z:Operand
 n:Nat
 u:TypeId
 ps:Array (Nat×Operand)
 l:Option Operand
 h:Option Operand
 m:Option Operand
 b:BinOp
 un:UnOp
 ok:Bool
 fn:Fn
 fs:Array Operand
 cs:Array Operand
def pJ:zmK:={ no:=100,t:=0,x:=.func 0,y:=.func 0,z:=.func 0,n:=0,u:=0,ps:=#[],l:=none,h:=none,m:=none,b:=.add,un:=.plus,ok:=false,fn:=.func 0,fs:=#[],cs:=#[] }
def I7(op:Op):zmK :=
 match op with
 |.move x=>{ pJ with no:=0,x:=x }
 |.assign x=>{ pJ with no:=0,x:=x }
 |.load t a=>{ pJ with no:=1,t:=t,x:=a }
 |.binOp op t x y _=>{ pJ with no:=2,t:=t,x:=x,y:=y,b:=op }
 |.fieldAddr t x f=>{ pJ with no:=3,t:=t,x:=x,n:=f }
 |.store t a x=>{ pJ with no:=4,t:=t,x:=a,y:=x }
 |.alloc t=>{ pJ with no:=5,t:=t }
 |.box _ x=>{ pJ with no:=6,x:=x }
 |.indexAddr t x ix=>{ pJ with no:=7,t:=t,x:=x,y:=ix }
 |.pick c a b=>{ pJ with no:=8,x:=c,y:=a,z:=b }
 |.extract x k=>{ pJ with no:=9,x:=x,n:=k }
 |.nilCheck x=>{ pJ with no:=10,x:=x }
 |.unOp op _ x=>{ pJ with no:=11,un:=op,x:=x }
 |.build t parts=>{ pJ with no:=12,t:=t,ps:=parts }
 |.buildSlice t len parts=>{ pJ with no:=13,t:=t,n:=len,ps:=parts }
 |.slice t x lo hi mx=>{ pJ with no:=14,t:=t,x:=x,l:=lo,h:=hi,m:=mx }
 |.index t x ix=>{ pJ with no:=15,t:=t,x:=x,y:=ix }
 |.lookup t m k ok=>{ pJ with no:=16,t:=t,x:=m,y:=k,ok:=ok }
 |.mapUpdate t m k x=>{ pJ with no:=17,t:=t,x:=m,y:=k,z:=x }
 |.convert s d x=>{ pJ with no:=18,t:=s,u:=d,x:=x }
 |.field t x f=>{ pJ with no:=19,t:=t,x:=x,n:=f }
 |.makeSlice t l c=>{ pJ with no:=20,t:=t,x:=l,y:=c }
 |.makeMap _ r=>{ pJ with no:=21,l:=r }
 |.makeFunc fn first qB=>{ pJ with no:=22,fn:=fn,fs:=first,cs:=qB }
 |.makeInterface t x=>{ pJ with no:=23,t:=t,x:=x }
 |_=>pJ
def zQ8(T:PT V)(hs:HS)(id:Nat)(r:zmK):Option (V×HS) :=
 nc (GV T hs r.x) (fun m=>nc (qU P T hs r.t r.x) (fun m=>nc (wh P T hs r.b r.t r.x r.y) (fun _=>jU P T hs r.t r.x r.n) m) m) r.no
def zQ7(T:PT V)(hs:HS)(id:Nat)(r:zmK):Option (V×HS) :=
 nc (iq P T hs r.t r.x r.y) (fun m=>nc (qE P hs id r.t) (fun m=>nc (Ff T hs id r.x) (fun _=>jS P T hs r.t r.x r.y) m) m) (r.no-4)
def opC(T:PT V)(hs:HS)(r:zmK):Option (V×HS) :=
 nc (Bj T hs r.x r.y r.z) (fun m=>nc (nK T hs r.x r.n) (fun m=>nc (kX T hs r.x) (fun _=>AU T hs r.un r.x) m) m) (r.no-8)
def zQ6(dr:Bool)(T:PT V)(hs:HS)(id:Nat)(r:zmK):Option (V×HS) :=
 nc (nO P T hs r.t r.ps) (fun m=>nc (fG P dr T hs id r.t r.n r.ps) (fun m=>nc (nz P T hs r.t r.x r.l r.h r.m) (fun _=>vT P T hs r.t r.x r.y) m) m) (r.no-12)
def zQ5(T:PT V)(hs:HS)(r:zmK):Option (V×HS) :=
 nc (eH P T hs r.t r.x r.y r.ok) (fun m=>nc (cK P T hs r.t r.x r.y r.z) (fun m=>nc (BV P T hs r.t r.u r.x) (fun _=>vV P T hs r.t r.x r.n) m) m) (r.no-16)
def zQ4(T:PT V)(hs:HS)(id:Nat)(r:zmK):Option (V×HS) :=
 nc (gU P T hs id r.t r.x r.y) (fun m=>nc (pK hs id r.l) (fun m=>nc (ry T hs r.fn r.fs r.cs) (fun m=>nc (mK P T hs r.t r.x) (fun _=>none) m) m) m) (r.no-20)
def zQ3(dr:Bool)(T:PT V)(hs:HS)(id:Nat)(r:zmK):Option (V×HS) :=
 bi (Nat.blt r.no 16) (bi (Nat.blt r.no 12) (opC T hs r) (zQ6 P dr T hs id r)) (bi (Nat.blt r.no 20) (zQ5 P T hs r) (zQ4 P T hs id r))
def GA(dr:Bool)(T:PT V)(hs:HS)(id:Nat)(r:zmK):Option (V×HS) :=
 bi (Nat.blt r.no 4) (zQ8 P T hs id r) (bi (Nat.blt r.no 8) (zQ7 P T hs id r) (zQ3 P dr T hs id r))
def LC(l:List V):Option V:=lr none (fun x t _=>lr (some x) (fun _ _ _=>none) t) l
def Jh(l:List V):Option (V×V):=lr none (fun x t _=>ob (LC t) fun y=>some (x,y)) l
def RQ(ts:List TypeId):Option TI:=lr none (fun t _ _=>ti P t) ts
def xC(hs:HS)(ts:List TypeId)(vs:List V):Option (V×HS):=ob (RQ P ts) fun i=>ob (LC vs) fun x=>ob (JC hs i.desc x) fun n=>some (.int .i64 (Int.ofNat n),hs)
def Ik(ts:List TypeId):Option TI:=lr none (fun t _ _=>ob (ti P t) fun i=>ob (kC i.desc) fun el=>ti P el) ts
def lU(ts:List TypeId):Option TypeId :=
 match ts with
 | [_,u]=>some u
 |_=>none
def oP(hs:HS)(id:Nat)(ts:List TypeId)(vs:List V):Option (V×HS) :=
 ob (Jh vs) fun p=>ob (Ik P ts) fun e=>ob (lU ts) fun u=>ob (ti P u) fun j=>ob (kC j.desc) fun _=>qY e hs id p.1 p.2
def vY(hs:HS)(ts:List TypeId)(vs:List V):Option (V×HS) :=
 ob (Jh vs) fun p=>ob (Ik P ts) fun e=>ob (lU ts) fun _=>Iw e hs p.1 p.2
def kY(hs:HS)(less:Bool)(vs:List V):Option (V×HS) :=
 ob (Jh vs) fun p=>ob p.1.int? fun a=>ob p.2.int? fun b=>some (.int a.1 (bi (bi less (Un b.2 a.2) (Un a.2 b.2)) b.2 a.2),hs)
def jF(hs:HS)(id:Nat)(b:Builtin)(ts:List TypeId)(vs:List V):Option (V×HS) :=
 match b with
 |.len=>xC P hs ts vs
 |.append=>oP P hs id ts vs
 |.copy=>vY P hs ts vs
 |.min=>kY hs true vs
 |.max=>kY hs false vs
 |_=>none
end
inductive Ex where
 |normal|ret|exit (id:Nat)
structure Ev where
 code:Bool->Nat->Code->PT V->HS->Option (Ex×PT V×HS)
 call:FuncId->List V->HS->Option (V×HS)
structure Env where
 P:Program
 Rl:FuncId->Nat
 dS:FuncId->List V->HS->Option (V×HS)
def eQ:HS:={ H:=.leaf,n:=0,log:=[] }
def j5(ev:Ev)(f:FuncId)(args:List V)(hs:HS):Option (V×HS) :=
 ob (ev.call f args eQ) fun r=>ob (still r.2 r.1) fun r'=>some (r',hs)
def iB(ev:Ev)(f:FuncId)(args:List V)(hs:HS):Option (V×HS) :=
 ob (ev.call f args eQ) fun r=>gd r.1.CG (some (r.1,hs))
def o8(ev:Ev)(f:FuncId)(args:List V)(hs:HS):Option (V×HS) :=
 ob (ev.call f args hs) fun r=>kF (some r) (fun q=>some q) (Rj r)
def uu (E:Env) (ev:Ev) (f:FuncId) (args:List V) (hs:HS):Option (V×HS) :=
 nc (bi (aR args) (j5 ev f args hs) (ev.call f args hs))
  (fun m=>nc (ev.call f args hs) (fun k=>nc (kF (ev.call f args hs) (fun args'=>iB ev f args' hs) (fD hs args)) (fun _=>o8 ev f args hs) k) m) (E.Rl f)
def uY(E:Env)(ev:Ev)(f:FuncId)(args:List V)(hs:HS):Option (V×HS) :=
 kF (uu E ev f args hs) (fun r=>some r) (E.dS f args hs)
def Obj.gen:Obj->Nat
 |.arr _ g _ _ _ _=>g
 |_=>0
def Obj.fz:Obj->Bool
 |.arr _ _ _ _ f _=>f
 |_=>false
def Obj.lp?:Obj->Option (FuncId×PT V×List Nat×Code×Code×Nat)
 |.lp a b c d e f=>some (a,b,c,d,e,f)
 |_=>none
def zM(sz:Nat)(ps:List Nat):List V->PT V->Option (PT V) :=
 lr (fun vs T=>lr (some T) (fun _ _ _=>none) vs) (fun p _ k vs T=>lr none (fun v t _=>gd (Nat.blt p sz) (k t (T.set p v))) vs) ps
def BD:Ex->Bool
 |.normal=>true
 |_=>false
def zMY:Ex->Nat
 |.normal=>0
 |.ret=>2
 |.exit i=>i+3
def zB4(n:Nat):Option Ex:=nc (some .normal) (fun m=>nc none (fun k=>some (nc .ret (fun i=>.exit i) k)) m) n
def oC (ev:Ev) (id:Nat) (vs:List V) (hs:HS):Option (V×HS) :=
 ob (hs.H.get id) fun o=>ob o.lp? fun l=>gd (Nat.beq l.2.2.2.2.2 0) (ob (zM l.1 l.2.2.1 vs l.2.1) fun T =>
  ob (ev.code true l.1 l.2.2.2.1 T hs) fun r=>gd (BD r.1)
   (ob (r.2.2.H.get id) fun o1=>ob o1.lp? fun l1=>gd (Nat.beq l1.2.2.2.2.2 0)
   (ob (ev.code true l.1 l.2.2.2.2.1 r.2.1 (r.2.2.wr id (.lp l1.1 l1.2.1 l1.2.2.1 l1.2.2.2.1 l1.2.2.2.2.1 1))) fun q =>
     ob (q.2.2.H.get id) fun o2=>ob o2.lp? fun l2=>some (.bool (BD q.1),q.2.2.wr id (.lp l2.1 l2.2.1 l2.2.2.1 l2.2.2.2.1 l2.2.2.2.2.1 (zMY q.1))))))
def zQ(E:Env)(ev:Ev)(v:V)(vs:List V)(hs:HS):Option (V×HS) :=
 match v with
 |.func f qB=>uY E ev f (fC vs qB) hs
 |.yld id=>oC ev id vs hs
 |_=>none
def lM (E:Env) (ev:Ev) (T:PT V) (hs:HS) (id:Nat) (c:Call):Option (V×HS) :=
 ob (fe T c.args.toList) fun vs =>
  match c.callee with
  |.builtin b=>jF E.P hs id b c.argTypes.toList vs
  |.value x=>ob (aG T x) fun v=>zQ E ev v vs hs
  |.invoke _ _=>none
def jE(op:Op):Option Call :=
 match op with
 |.call c=>some c
 |_=>none
def stepJ(E:Env)(ev:Ev)(dr:Bool)(T:PT V)(hs:HS)(id:Nat)(o:Oper):Option (V×HS) :=
 kF (GA E.P dr T hs id (I7 o.op)) (fun c=>lM E ev T hs id c) (jE o.op)
def y7(sz:Nat)(T:PT V)(d:Option Tmp)(v:V):Option (PT V) :=
 kF (some T) (fun d=>gd (Nat.blt d sz) (some (T.set d v))) d
def mP (ops:List Oper) (T:PT V) (o:Oper):Option Bool :=
 kF (some true) (fun g=>ob (mI ops g.1) fun p=>ob p.dst fun d=>ob (T.get d) fun v =>
  match v with
  |.bool b=>some (oN b g.2)
  |.tuple []=>some false
  |_=>none) o.guard
def bE:Op->Nat
 |.alloc _|.box _ _|.buildSlice _ _ _|.makeMap _ _|.makeSlice _ _ _=>1
 | .call c=>match c.callee with
   |.builtin .len|.builtin .min|.builtin .max=>0
   |_=>2
 |.store _ _ _|.mapUpdate _ _ _ _=>2
 |_=>0
def cB(hs:HS)(id:Nat):Bool:=nt (bU (hs.H.get id))
def lI (E:Env) (ev:Ev) (sz:Nat) (ops:List Oper) (o:Oper) (id:Nat) (T:PT V) (hs:HS):Option (PT V×HS) :=
 ob (mP ops T o) fun w=>bi w
  (gd (bi (Nat.beq (bE o.op) 0) true (cB hs id)) (ob (stepJ E ev false T hs id o) fun r=>ob (y7 sz T o.dst r.1) fun T'=>some (T',r.2)))
  (ob (y7 sz T o.dst iZ) fun T'=>some (T',hs))
def kT(E:Env)(ev:Ev)(sz:Nat)(ops:List Oper)(l:List Oper):Nat->PT V->HS->Option (PT V×HS) :=
 lr (fun _ T hs=>some (T,hs)) (fun o _ k id T hs=>ob (lI E ev sz ops o id T hs) fun r=>k (id+1) r.1 r.2) l
def fI(v:V):List Nat :=
 match v with
 |.ptr id _ _=>[id]
 |.map id=>[id]
 |.own id _ _ _ _=>[id]
 |_=>[]
def readsOf (T:PT V) (op:Op):List Nat :=
 match op with
 |.load _ a=>kF [] fI (aG T a)
 |.lookup _ m _ _=>kF [] fI (aG T m)
 |.slice _ x _ _ _=>kF [] fI (aG T x)
 | .call c=>match c.callee with
   |.builtin .len=>lr [] (fun a _ _=>kF [] fI (aG T a)) c.args.toList
   |_=>[]
 |_=>[]
def tb(m i:Nat):Bool:=Nat.beq (m / 2 ^ i % 2) 1
def tmpsOf(l:List Operand):List Nat:=l.filterMap fun|.tmp t=>some t|_=>none
def looks(ops:List Oper)(o:Oper):List Nat :=
 fC (tmpsOf o.op.operands.toList) (kF [] (fun g=>kF [] (fun p=>kF [] (fun d=>[d]) p.dst) (mI ops g.1)) o.guard)
def Il(i:Nat)(acc:List Nat)(l:List Edge):Option Nat :=
 lr (some 0) (fun e _ ih=>ob ih fun m=>bi (Region.binds .any e) (gd (Nat.blt e.on i) (ob (mI acc e.on) fun b=>some (Nat.lor (Nat.lor (2 ^ e.on) b) m))) (some m)) l
def zwA(l:List Oper):Nat->List Nat->Option (List Nat) :=
 lr (fun _ acc=>some acc) (fun o _ k i acc=>ob (Il i acc o.after.toList) fun m=>k (i+1) (fC acc [m])) l
def RS(d:Option Nat)(l:List Nat):Bool:=kF false (fun d=>xy d l) d
def znG(d e:Option Nat):Bool:=kF false (fun d=>kF false (fun e=>Nat.beq d e) e) d
def gK:Op->Bool
 |.store _ _ _=>true
 |_=>false
def zJn(op:Op):Bool:=Nat.beq (bE op) 2
def indep(ops:List Oper)(x y:Oper):Bool :=
 et (nt (RS x.dst (looks ops y))) (et (nt (RS y.dst (looks ops x))) (et (nt (znG x.dst y.dst)) (nt (et (zJn x.op) (et (zJn y.op) (nt (et (gK x.op) (gK y.op))))))))
def IJ(ops:List Oper)(m:Nat)(y:Oper)(l:List Oper):Nat->Nat->Bool :=
 lr (fun _ _=>true) (fun x _ k i j=>bi (Nat.blt i j) (et (bi (tb m i) true (indep ops x y)) (k (i+1) j)) true) l
def IL(ops:List Oper)(l:List Oper):Nat->List Nat->Bool :=
 lr (fun _ _=>true) (fun y _ k j bs=>lr false (fun m bs' _=>et (IJ ops m y ops 0 j) (k (j+1) bs')) bs) l
def Im(ops:List Oper):Option (List Nat):=ob (zwA ops 0 []) fun bs=>gd (IL ops ops 0 bs) (some bs)
def dD{α:Type}(T:PT α)(l:List Nat):PT α:=lr .leaf (fun t _ ih=>kF ih (fun v=>ih.set t v) (T.get t)) l
def JD(l:List V):List Nat:=lr [] (fun c _ ih=>fC (fI c) ih) l
def rowP(hs:HS)(p:V):Bool :=
 match p with
 |.ptr id _ _=>isRow hs id
 |_=>false
def jQ(T:PT V)(hs:HS)(op:Op):List Nat :=
 match op with
 |.store _ a x=>kF [] (fun p=>fC (fI p) (bi (rowP hs p) (kF [] (fun v=>JD v.cells) (aG T x)) [])) (aG T a)
 |_=>[]
def wZ(H:PT Obj)(H2:PT Obj)(X:List Nat):PT Obj:=lr H (fun k _ ih=>kF ih (fun o=>ih.set k o) (H2.get k)) X
def Dk(E:Env)(ev:Ev)(o:Oper)(id:Nat)(T:PT V)(hs:HS):Option (V×HS×List Nat×List Nat) :=
 gd (cB hs id) (ob (stepJ E ev true T { H:=dD hs.H (jQ T hs o.op),n:=0,log:=[] } id o) fun r=>some (r.1,{ H:=wZ hs.H r.2.H (jQ T hs o.op),n:=hs.n,log:=fC r.2.log hs.log },jQ T hs o.op,r.2.log))
def oM (E:Env) (ev:Ev) (o:Oper) (id:Nat) (T:PT V) (hs:HS):Option (V×HS×List Nat×List Nat) :=
 nc (ob (stepJ E ev true T { H:=dD hs.H (readsOf T o.op),n:=0,log:=[] } id o) fun r=>some (r.1,hs,readsOf T o.op,[]))
  (fun m=>nc (gd (cB hs id) (ob (stepJ E ev true T { H:=.leaf,n:=0,log:=[] } id o) fun r=>ob (r.2.H.get id) fun o'=>gd (nt o'.fz) (some (r.1,hs.put id o',[id],[]))))
    (fun _=>gd (cB hs id) (ob (stepJ E ev true T { H:=hs.H,n:=hs.n,log:=[] } id o) fun r=>some (r.1,{ H:=r.2.H,n:=r.2.n,log:=fC r.2.log hs.log },[],r.2.log))) m) (bE o.op)
def o6(E:Env)(ev:Ev)(o:Oper)(id:Nat)(T:PT V)(hs:HS):Option (V×HS×List Nat×List Nat) :=
 bi (gK o.op) (Dk E ev o id T hs) (oM E ev o id T hs)
def gD(E:Env)(ev:Ev)(ops:List Oper)(o:Oper)(id:Nat)(T:PT V)(hs:HS):Option (V×HS×List Nat×List Nat) :=
 ob (mP ops T o) fun w=>bi w (o6 E ev o id T hs) (some (iZ,hs,[],[]))
def lZ (E:Env) (ev:Ev) (sz:Nat) (ops:List Oper) (l:List Oper):Nat->PT V->HS->List (List Nat×List Nat)->Option ((PT V×HS)×List (List Nat×List Nat)) :=
 lr (fun _ T hs acc=>some ((T,hs),acc)) (fun o _ k id T hs acc=>ob (gD E ev ops o id (dD T (looks ops o)) hs) fun r=>ob (y7 sz T o.dst r.1) fun T' =>
  k (id+1) T' r.2.1 (fC acc [r.2.2])) l
def meet(l m:List Nat):Bool:=lr false (fun x _ ih=>bi (xy x m) true ih) l
def uq(m:Nat)(r:List Nat×List Nat)(l:List (List Nat×List Nat)):Nat->Nat->Bool :=
 lr (fun _ _=>true) (fun q _ k i j=>bi (Nat.blt i j) (et (bi (tb m i) true (nt (bi (meet q.1 r.2) true (meet r.1 q.2)))) (k (i+1) j)) true) l
def lV(all:List (List Nat×List Nat))(l:List (List Nat×List Nat)):Nat->List Nat->Bool :=
 lr (fun _ _=>true) (fun r _ k j bs=>lr false (fun m bs' _=>et (uq m r all 0 j) (k (j+1) bs')) bs) l
def Ed (E:Env) (ev:Ev) (sz:Nat) (l:List Oper) (T:PT V) (hs:HS):Option (PT V×HS) :=
 ob (Im l) fun bs=>ob (lZ E ev sz l l hs.n T { H:=hs.H,n:=hs.n+aN l,log:=hs.log } []) fun r =>
  gd (lV r.2 r.2 0 bs) (some r.1)
def Ra(E:Env)(ev:Ev)(sz:Nat)(l:List Oper)(draw:Bool)(T:PT V)(hs:HS):Option (Ex×PT V×HS) :=
 ob (bi draw (Ed E ev sz l T hs) (kT E ev sz l l hs.n T { H:=hs.H,n:=hs.n+aN l,log:=hs.log })) fun r=>some (.normal,r.1,r.2)
def yZ(ev:Ev)(rd:Bool)(sz:Nat)(b:Code)(r:Ex×PT V×HS):Option (Ex×PT V×HS) :=
 match r.1 with
 |.normal=>ev.code rd sz b r.2.1 r.2.2
 |_=>some r
def IB(id:Nat)(r:Ex×PT V×HS):Option (Ex×PT V×HS) :=
 match r.1 with
 |.exit j=>bi (Nat.beq j id) (some (.normal,r.2.1,r.2.2)) (some r)
 |_=>some r
def funcOf(v:V):Option (FuncId×List V) :=
 match v with
 |.func f c=>some (f,c)
 |_=>none
def z8 (ev:Ev) (sz:Nat) (ps:Array Tmp) (assign body:Code) (T:PT V) (hs:HS) (v:V):Option (Ex×PT V×HS) :=
 ob (funcOf v) fun g=>gd (cB hs hs.n) (ob (ev.call g.1 (.yld hs.n::g.2) (HS.put { H:=hs.H,n:=hs.n+1,log:=hs.log } hs.n (.lp sz T ps.toList assign body 0))) fun r =>
  ob (r.2.H.get hs.n) fun o=>ob o.lp? fun l=>ob (zB4 l.2.2.2.2.2) fun ex=>some (ex,T,r.2.wr hs.n (.lp l.1 l.2.1 l.2.2.1 l.2.2.2.1 l.2.2.2.2.1 1)))
def Ei(E:Env)(ev:Ev)(rd:Bool)(sz:Nat)(c:Code)(T:PT V)(hs:HS):Option (Ex×PT V×HS) :=
 match c with
 |.skip=>some (.normal,T,hs)
 |.region _ ops draw=>Ra E ev sz ops.toList draw T hs
 |.seq a b=>ob (ev.code rd sz a T hs) fun r=>yZ ev rd sz b r
 |.cond q a b=>ob (aG T q) fun v=>ob v.bool? fun t=>bi t (ev.code rd sz a T hs) (ev.code rd sz b T hs)
 |.block id body=>ob (ev.code rd sz body T hs) fun r=>IB id r
 |.loop body=>ob (ev.code rd sz body T hs) fun r=>yZ ev rd sz (.loop body) r
 |.exit id=>some (.exit id,T,hs)
 |.ret=>some (.ret,T,hs)
 |.rangeFunc g ps assign body=>gd (nt rd) (ob (aG T g) fun v=>z8 ev sz ps assign body T hs v)
 |_=>none
def Bb (P:Program) (T:PT V) (hs:HS) (l:List ResultVar):Option (List V) :=
 lr (some []) (fun x _ ih=>ob (match x with
  |.tmp t=>T.get t
  |.cell a t=>ob (ti P t) fun i=>ob (T.get a) fun p=>wD i hs p) fun v=>ob ih fun r=>some (v::r)) l
def iI(nt:Nat)(l:List V):Nat->PT V->Option (PT V) :=
 lr (fun _ T=>some T) (fun v _ k i T=>gd (Nat.blt i nt) (k (i+1) (T.set i v))) l
def nu(l:List V):V:=lr (.tuple []) (fun x t _=>lr x (fun _ _ _=>.tuple l) t) l
def G8(P:Program)(fn:Func)(r:Ex×PT V×HS):Option (V×HS) :=
 match r.1 with
 |.exit _=>none
 |_=>ob (Bb P r.2.1 r.2.2 fn.results.toList) fun l=>some (nu l,r.2.2)
def zI(E:Env)(ev:Ev)(f:FuncId)(args:List V)(hs:HS):Option (V×HS) :=
 ob (E.P.funcs[f]?) fun fn=>ob fn.body fun c=>ob (iI fn.ntmps args 0 .leaf) fun T=>ob (ev.code false fn.ntmps c T hs) fun r=>G8 E.P fn r
def jY(E:Env)(n:Nat):Ev :=
 @Nat.rec (fun _=>Ev) { code:=fun _ _ _ _ _=>none,call:=fun _ _ _=>none } (fun _ ev=>{ code:=Ei E ev,call:=zI E ev }) n
def Oa(E:Env)(n:Nat)(f:FuncId)(args:List V):Option V :=
 ob ((jY E n).call f args eQ) fun r=>still r.2 r.1
end Go.J
/- Plain lemmas on the pR words. -/
namespace Go.J
theorem zoe{α β:Type}(f:α->Option β):ob none f=none:=rfl
theorem bP{α β:Type}(a:α)(f:α->Option β):ob (some a) f=f a:=rfl
theorem af{α β:Type}{x:Option α}{f:α->Option β}{b:β}:ob x f=some b↔∃ a,x=some a/\f a=some b:=by
 cases x with
 |none=>simp[zoe]
 |some a=>simp[bP]
theorem jT{β:Type}(x:Option β):gd true x=x:=rfl
theorem Pj{β:Type}(x:Option β):gd false x=none:=rfl
theorem aD{β:Type}{c:Bool}{x:Option β}{b:β}:gd c x=some b↔c=true/\x=some b:=by
 cases c with
 |true=>simp[jT]
 |false=>simp[Pj]
theorem dU{α:Type}(x y:α):bi true x y=x:=rfl
theorem dE{α:Type}(x y:α):bi false x y=y:=rfl
theorem dX{α:Type}(c:Bool)(x y:α):bi c x y=if c=true then x else y:=by cases c<;>rfl
theorem pI{α β:Type}(z:β)(f:α->β):kF z f none=z:=rfl
theorem fT{α β:Type}(z:β)(f:α->β)(a:α):kF z f (some a)=f a:=rfl
theorem zoi{β:Type}(z:β)(s:Nat->β):nc z s 0=z:=rfl
theorem zoj{β:Type}(z:β)(s:Nat->β)(n:Nat):nc z s (n+1)=s n:=rfl
theorem zcT{α β:Type}(z:β)(c:α->List α->β->β):lr z c []=z:=rfl
theorem zoq{α β:Type}(z:β)(c:α->List α->β->β)(x:α)(l:List α):lr z c (x::l)=c x l (lr z c l):=rfl
theorem Kj(a b:Bool):et a b=(a&&b):=by cases a<;>rfl
theorem Bp(a:Bool):nt a=!a:=by cases a<;>rfl
theorem bA{a b:Bool}:et a b=true↔a=true/\b=true:=by rw[Kj];simp
theorem fV{a:Bool}:nt a=true↔a=false:=by rw[Bp];simp
theorem beq_true{a b:Nat}:Nat.beq a b=true↔a=b:=by rw[Nat.beq_eq]
theorem beq_false{a b:Nat}:Nat.beq a b=false↔a≠b:=by
 rw[<- Bool.not_eq_true,Nat.beq_eq]
theorem dI{a b:Nat}:Nat.ble a b=true↔a<=b:=by rw[Nat.ble_eq]
theorem dO{a b:Nat}:Nat.blt a b=true↔a<b:=by
 simp_all
theorem Dp{a b:Nat}:Nat.ble a b=false↔b<a:=by
 rw[<- Bool.not_eq_true,dI];omega
section lists
variable {α:Type}
theorem zcH(n:Nat):mI ([]:List α) n=none:=rfl
theorem Zy(x:α)(l:List α):mI (x::l) 0=some x:=rfl
theorem Zz(x:α)(l:List α)(n:Nat):mI (x::l) (n+1)=mI l n:=rfl
theorem kV(l:List α)(n:Nat):mI l n=l[n]?:=by
 induction l generalizing n with
 |nil=>simp[zcH]
 | cons x l ih=>cases n with
   |zero=>simp[Zy]
   |succ n=>simp[Zz,ih]
theorem Lb(l:List α)(n:Nat)(y:α):Jk l n y=l.set n y:=by
 induction l generalizing n with
 |nil=>rfl
 | cons x l ih=>cases n with
   |zero=>rfl
   |succ n=>show x::Jk l n y=_;rw[ih];rfl
theorem nM(n:Nat)(l:List α):zF n l=l.drop n:=by
 induction l generalizing n with
 |nil=>cases n<;>rfl
 | cons x l ih=>cases n with
   |zero=>rfl
   |succ n=>show zF n l=_;rw[ih];rfl
theorem ny(n:Nat)(l:List α):wu n l=l.take n:=by
 induction l generalizing n with
 |nil=>cases n<;>rfl
 | cons x l ih=>cases n with
   |zero=>rfl
   |succ n=>show x::wu n l=_;rw[ih];rfl
theorem bJ(l:List α):aN l=l.length:=by
 induction l with
 |nil=>rfl
 |cons x l ih=>show aN l+1=_;rw[ih];rfl
theorem iU(l m:List α):fC l m=l++m:=by
 induction l with
 |nil=>rfl
 |cons x l ih=>show x::fC l m=_;rw[ih];rfl
theorem Lc(x:α)(n:Nat):Zd x n=List.replicate n x:=by
 induction n with
 |zero=>rfl
 |succ n ih=>show x::Zd x n=_;rw[ih];rfl
theorem Uk(n:Nat)(l:List Nat):xy n l=true↔n∈l:=by
 induction l with
 |nil=>simp[xy,zcT]
 | cons x l ih =>
   show bi (Nat.beq n x) true (xy n l)=true↔_
   grind [Nat.beq,dU,beq_true,dE,beq_false]
theorem mW(l:List α)(n:Nat)(new:List α):(gy l n new).length=l.length:=by
 induction l generalizing n new with
 |nil=>rfl
 | cons x l ih=>cases n with
   | zero=>cases new with
     |nil=>rfl
     |cons y ys=>show (y::gy l 0 ys).length=_;simp[ih]
   |succ n=>show (x::gy l n new).length=_;simp[ih]
theorem yE (l:List α) (n:Nat) (new:List α) (i:Nat) (hi:i<l.length) :
 (gy l n new)[i]?=if n<=i/\i<n+new.length then new[i-n]? else l[i]?:=by
 induction l generalizing n new i with
 |nil=>simp at hi
 | cons x l ih=>cases n with
   | zero=>cases new with
     |nil=>show (x::l)[i]?=_;simp
     | cons y ys =>
       show (y::gy l 0 ys)[i]?=_
       grind
   | succ n =>
     show (x::gy l n new)[i]?=_
     grind
theorem AA(p:α->Bool)(l:List α):lr true (fun v _ ih=>et (p v) ih) l=true↔∀ v∈l,p v=true:=by
 induction l with
 |nil=>simp[zcT]
 |cons x l ih=>rw[zoq,bA,ih];simp
end lists
theorem MS{l:List V}:Cb l=true↔∀ v∈l,v.aI=true:=AA _ l
theorem SE{l:List V}:aR l=true↔∀ v∈l,v.pure=true:=AA _ l
theorem MU{l:List V}:IK l=true↔∀ v∈l,v.jR=true:=AA _ l
theorem fE{n:Nat}{l:List (List V)}:sizes n l=true↔∀ e∈l,e.length=n:=by
 refine(AA (fun e:List V=>Nat.beq (aN e) n) l).trans ?_;simp[beq_true,bJ]
namespace PT
variable {α:Type}
theorem zds(n:Nat):(leaf:PT α).get n=none:=rfl
theorem uo(l r:PT α)(v:Option α):(node l v r).get 0=v:=rfl
theorem kr(l r:PT α)(v:Option α)(m:Nat):(node l v r).get (m+1)=if m % 2=0 then l.get (m / 2)else r.get (m / 2):=by
 show bi (Nat.beq (m % 2) 0) (l.get (m / 2)) (r.get (m / 2))=_
 grind [beq_true,dU,beq_false,dE]
theorem Zo{t:PT α}:∃ l v r,(∀ (β:Type) (f:PT α->Option α->PT α->β),t.parts f=f l v r)/\(∀ k,t.get k=(node l v r).get k):=by
 cases t with
 | leaf=>exact⟨leaf,none,leaf,fun _ _=>rfl,fun k=>by cases k with
   |zero=>rfl
   |succ m=>rw[kr];simp[zds]⟩
 |node l v r=>exact⟨l,v,r,fun _ _=>rfl,fun _=>rfl⟩
theorem zb2 (d:Nat):∀ (t:PT α) (n:Nat) (x:α) (k:Nat),n<d->(Q0 d t n x).get k=if k=n then some x else t.get k:=by
 induction d with
 |zero=>intro t n x k h;omega
 | succ d ih =>
   intro t n x k h;obtain⟨l,v,r,hp,hg⟩:=Zo (t:=t)
   have hs:Q0 (d+1) t n x=nc (node l (some x) r) (fun m=>bi (Nat.beq (m % 2) 0) (node (Q0 d l (m / 2) x) v r) (node l v (Q0 d r (m / 2) x))) n :=
    hp _ (fun l v r=>nc (node l (some x) r) (fun m=>bi (Nat.beq (m % 2) 0) (node (Q0 d l (m / 2) x) v r) (node l v (Q0 d r (m / 2) x))) n)
   rw[hs,hg k]
   cases n with
   | zero=>rw[zoi];cases k with
     |zero=>simp[uo]
     |succ m=>rw[kr,kr];simp
   | succ m =>
     rw[zoj];have hm:m / 2<d:=by omega
     by_cases h2:m % 2=0
     . rw[beq_true.2 h2,dU]
       cases k with
       |zero=>simp[uo]
       | succ j =>
         grind [kr]
     . rw[beq_false.2 h2,dE]
       cases k with
       |zero=>simp[uo]
       | succ j =>
         grind [kr]
theorem bD(t:PT α)(n:Nat)(x:α)(k:Nat):(t.set n x).get k=if k=n then some x else t.get k:=zb2 (n+1) t n x k (Nat.lt_succ_self n)
end PT
theorem gQ(hs:HS)(id:Nat)(o:Obj)(k:Nat):(hs.put id o).H.get k=if k=id then some o else hs.H.get k:=PT.bD _ _ _ _
theorem tY(hs:HS)(id:Nat)(o:Obj)(k:Nat):(hs.wr id o).H.get k=if k=id then some o else hs.H.get k:=PT.bD _ _ _ _
end Go.J
/- What a value of the gI stands for in a world of the model,and how that is kept. -/
namespace Go.J
structure MI where
 b:Nat
 size:Nat
 total:Nat
section
variable (ρ:Nat->Value)
inductive bY (w:World) (F:Nat->Prop):V->Value->Prop where
 |bool (b:Bool):bY w F (.bool b) (.bool b)
 |int (k:IntKind) (n:Int):bY w F (.int k n) (.int k n)
 |str (s:ByteArray):bY w F (.str (bytesOf s)) (.string s)
 |nilptr:bY w F .nilptr (.pointer none)
 |snil:bY w F .snil (.slice none 0 0)
 |nilmap:bY w F .nilmap (.map none)
 |nilFunc:bY w F .nilFunc .nilFunc
 |nilIface:bY w F .nilIface .nilIface
 |sym (k:Nat):bY w F (.sym k) (ρ k)
 |func (f:FuncId):bY w F (.func f []) (.func (.func f) #[] #[])
 |iface (t:TypeId) (v:V) (y:Value):bY w F v y->bY w F (.iface t v) (.iface t y)
 |ref (cs:List V) (b off:Nat) (ys:Nat->Value):F b->(∀ i v,cs[i]?=some v->w.cell? ⟨b,off+i,none⟩=some (ys i)) ->
  (∀ i v,cs[i]?=some v->bY w F v (ys i))->bY w F (.ref cs) (.pointer (some ⟨b,off,none⟩))
 |slE (a:Option Addr) (c:Nat) (t:Bool):(t=true->c=0)->bY w F (.sl [] t) (.slice a 0 c)
 |slC (es:List (List V)) (b off size c:Nat) (t:Bool) (ys:Nat->Nat->Value):F b->(∀ e∈es,e.length=size) ->
  (∀ i e j v,es[i]?=some e->e[j]?=some v->w.cell? ⟨b,off+i*size+j,none⟩=some (ys i j)) ->
  (∀ i e j v,es[i]?=some e->e[j]?=some v->bY w F v (ys i j))->es.length<=c->(t=true->c=es.length) ->
  bY w F (.sl es t) (.slice (some ⟨b,off,none⟩) es.length c)
 |agg (cs:List V) (ys:Array Value):ys.size=cs.length->(∀ i v,cs[i]?=some v->bY w F v (ys.getD i undef))->bY w F (.agg cs) (.agg ys)
 |tuple (cs:List V) (ys:Array Value):ys.size=cs.length->(∀ i v,cs[i]?=some v->bY w F v (ys.getD i undef))->bY w F (.tuple cs) (.tuple ys)
inductive bR (w:World) (F:Nat->Prop) (μ:Nat->Nat->Option MI):V->Value->Prop where
 |pure {v:V} {x:Value}:bY ρ w F v x->bR w F μ v x
 |ptr (id g off:Nat) (m:MI):μ id g=some m->bR w F μ (.ptr id g off) (.pointer (some ⟨m.b,off,none⟩))
 |own (id g off len:Nat) (cap:Option Nat) (c:Nat) (m:MI):μ id g=some m->len<=c->off+c*m.size<=m.total ->
  (∀ k,cap=some k->c=k)->(cap=none->off+c*m.size=m.total)->bR w F μ (.own id g off len cap) (.slice (some ⟨m.b,off,none⟩) len c)
 |map (id:Nat) (m:MI):μ id 0=some m->bR w F μ (.map id) (.map (some m.b))
 |yld (id:Nat) (m:MI):μ id 0=some m->bR w F μ (.yld id) (.func (.yield m.b) #[] #[])
 |func (f:FuncId) (cs:List V) (ys:Array Value):ys.size=cs.length->(∀ i v,cs[i]?=some v->bR w F μ v (ys.getD i undef))->bR w F μ (.func f cs) (.func (.func f) #[] ys)
 |iface (t:TypeId) (v:V) (y:Value):bR w F μ v y->bR w F μ (.iface t v) (.iface t y)
 |agg (cs:List V) (ys:Array Value):ys.size=cs.length->(∀ i v,cs[i]?=some v->bR w F μ v (ys.getD i undef))->bR w F μ (.agg cs) (.agg ys)
 |tuple (cs:List V) (ys:Array Value):ys.size=cs.length->(∀ i v,cs[i]?=some v->bR w F μ v (ys.getD i undef))->bR w F μ (.tuple cs) (.tuple ys)
theorem cell_of_heap{w w':World}{b:Nat}(h:w'.heap[b]?=w.heap[b]?)(o:Nat):w'.cell? ⟨b,o,none⟩=w.cell? ⟨b,o,none⟩:=by
 simp[World.cell?,h]
theorem bY.mono{w w':World}{F F':Nat->Prop}{v:V}{x:Value}(h:bY ρ w F v x)(hF:∀ b,F b->F' b)(hw:∀ b,F b->w'.heap[b]?=w.heap[b]?) :
 bY ρ w' F' v x:=by
 induction h with
 |bool b=>exact .bool b
 |int k n=>exact .int k n
 |str s=>exact .str s
 |nilptr=>exact .nilptr
 |snil=>exact .snil
 |nilmap=>exact .nilmap
 |nilFunc=>exact .nilFunc
 |nilIface=>exact .nilIface
 |sym k=>exact .sym k
 |func f=>exact .func f
 |iface t v y _ ih=>exact .iface t v y ih
 |ref cs b off ys hb hc _ ih=>exact .ref cs b off ys (hF b hb) (fun i v hi=>by rw[cell_of_heap (hw b hb)];exact hc i v hi) ih
 |slE a c t h=>exact .slE a c t h
 |slC es b off size c t ys hb hl hc _ h1 h2 ih=>exact .slC es b off size c t ys (hF b hb) hl (fun i e j v hi hj=>by rw[cell_of_heap (hw b hb)];exact hc i e j v hi hj) ih h1 h2
 |agg cs ys hs _ ih=>exact .agg cs ys hs ih
 |tuple cs ys hs _ ih=>exact .tuple cs ys hs ih
theorem bR.mono{w w':World}{F F':Nat->Prop}{μ μ':Nat->Nat->Option MI}{v:V}{x:Value}(h:bR ρ w F μ v x)(hF:∀ b,F b->F' b)
 (hw:∀ b,F b->w'.heap[b]?=w.heap[b]?) (hμ:∀ id g m,μ id g=some m->μ' id g=some m):bR ρ w' F' μ' v x:=by
 induction h with
 |pure hp=>exact .pure (hp.mono ρ hF hw)
 |ptr id g off m hm=>exact .ptr id g off m (hμ _ _ _ hm)
 |own id g off len cap c m hm h1 h2 h3 h4=>exact .own id g off len cap c m (hμ _ _ _ hm) h1 h2 h3 h4
 |map id m hm=>exact .map id m (hμ _ _ _ hm)
 |yld id m hm=>exact .yld id m (hμ _ _ _ hm)
 |func f cs ys hs _ ih=>exact .func f cs ys hs ih
 |iface t v y _ ih=>exact .iface t v y ih
 |agg cs ys hs _ ih=>exact .agg cs ys hs ih
 |tuple cs ys hs _ ih=>exact .tuple cs ys hs ih
section inv
variable {w:World}{F:Nat->Prop}{μ:Nat->Nat->Option MI}
theorem bR.kP{b:Bool}{x:Value}(h:bR ρ w F μ (.bool b) x):x=.bool b:=by cases h with|pure h=>cases h;rfl
theorem bR.ic{k:IntKind}{n:Int}{x:Value}(h:bR ρ w F μ (.int k n) x):x=.int k n:=by cases h with|pure h=>cases h;rfl
theorem bR.qO{l:List Nat}{x:Value}(h:bR ρ w F μ (.str l) x):∃ s,x=.string s/\bytesOf s=l:=by
 cases h with|pure h=>cases h with|str s=>exact⟨s,rfl,rfl⟩
theorem bR.nE{id g off:Nat}{x:Value}(h:bR ρ w F μ (.ptr id g off) x):∃ m,μ id g=some m/\x=.pointer (some ⟨m.b,off,none⟩):=by
 cases h with
 |pure h=>cases h
 |ptr _ _ _ m hm=>exact⟨m,hm,rfl⟩
theorem bR.l9{id g off len:Nat}{cap:Option Nat}{x:Value}(h:bR ρ w F μ (.own id g off len cap) x) :
 ∃ m c,μ id g=some m/\x=.slice (some ⟨m.b,off,none⟩) len c/\len<=c/\off+c*m.size<=m.total/\(∀ k,cap=some k->c=k)/\(cap=none->off+c*m.size=m.total):=by
 cases h with
 |pure h=>cases h
 |own _ _ _ _ _ c m hm h1 h2 h3 h4=>exact⟨m,c,hm,rfl,h1,h2,h3,h4⟩
theorem bR.vO{id:Nat}{x:Value}(h:bR ρ w F μ (.map id) x):∃ m,μ id 0=some m/\x=.map (some m.b):=by
 cases h with
 |pure h=>cases h
 |map _ m hm=>exact⟨m,hm,rfl⟩
theorem bR.AJ{id:Nat}{x:Value}(h:bR ρ w F μ (.yld id) x):∃ m,μ id 0=some m/\x=.func (.yield m.b) #[] #[]:=by
 cases h with
 |pure h=>cases h
 |yld _ m hm=>exact⟨m,hm,rfl⟩
theorem bR.q8{cs:List V}{x:Value}(h:bR ρ w F μ (.agg cs) x) :
 ∃ ys:Array Value,x=.agg ys/\ys.size=cs.length/\∀ i v,cs[i]?=some v->bR ρ w F μ v (ys.getD i undef):=by
 cases h with
 |pure h=>cases h with|agg _ ys hs hc=>exact⟨ys,rfl,hs,fun i v hi=>.pure (hc i v hi)⟩
 |agg _ ys hs hc=>exact⟨ys,rfl,hs,hc⟩
theorem bR.jv{cs:List V}{x:Value}(h:bR ρ w F μ (.tuple cs) x) :
 ∃ ys:Array Value,x=.tuple ys/\ys.size=cs.length/\∀ i v,cs[i]?=some v->bR ρ w F μ v (ys.getD i undef):=by
 cases h with
 |pure h=>cases h with|tuple _ ys hs hc=>exact⟨ys,rfl,hs,fun i v hi=>.pure (hc i v hi)⟩
 |tuple _ ys hs hc=>exact⟨ys,rfl,hs,hc⟩
theorem bR.pO{f:FuncId}{cs:List V}{x:Value}(h:bR ρ w F μ (.func f cs) x) :
 ∃ ys:Array Value,x=.func (.func f) #[] ys/\ys.size=cs.length/\∀ i v,cs[i]?=some v->bR ρ w F μ v (ys.getD i undef):=by
 cases h with
 |pure h=>cases h with|func f=>exact⟨#[],rfl,rfl,fun i v hi=>by simp at hi⟩
 |func _ _ ys hs hc=>exact⟨ys,rfl,hs,hc⟩
theorem bR.yJ{t:TypeId}{v:V}{x:Value}(h:bR ρ w F μ (.iface t v) x):∃ y,x=.iface t y/\bR ρ w F μ v y:=by
 cases h with
 |pure h=>cases h with|iface _ _ y hy=>exact⟨y,rfl,.pure hy⟩
 |iface _ _ y hy=>exact⟨y,rfl,hy⟩
theorem bR.vH{cs:List V}{x:Value}(h:bR ρ w F μ (.ref cs) x):bY ρ w F (.ref cs) x:=by cases h with|pure h=>exact h
theorem bR.ug{es:List (List V)}{t:Bool}{x:Value}(h:bR ρ w F μ (.sl es t) x):bY ρ w F (.sl es t) x:=by cases h with|pure h=>exact h
theorem bR.rP{x:Value}(h:bR ρ w F μ .snil x):x=.slice none 0 0:=by cases h with|pure h=>cases h;rfl
theorem bR.Ae{x:Value}(h:bR ρ w F μ .nilmap x):x=.map none:=by cases h with|pure h=>cases h;rfl
theorem bR.Rv{x:Value}(h:bR ρ w F μ .nilptr x):x=.pointer none:=by cases h with|pure h=>cases h;rfl
theorem bR.OB{x:Value}(h:bR ρ w F μ .nilFunc x):x=.nilFunc:=by cases h with|pure h=>cases h;rfl
theorem bR.rW{v:V}{x:Value}(h:bR ρ w F μ v x)(hp:v.rW=true):bY ρ w F v x:=by
 cases h with
 |pure h=>exact h
 |_=>simp[V.rW]at hp
theorem bR.aI{v:V}{x:Value}(h:bR ρ w F μ v x)(hp:v.aI=true):bY ρ w F v x:=by
 cases h with
 |pure h=>exact h
 | func f cs ys hs hc=>cases cs with
   | nil => have:ys=#[]:=by simpa using hs
            subst this;exact .func f
   |cons _ _=>simp[V.aI,V.rW]at hp
 |iface t v y hy=>exact .iface t v y (bR.rW ρ hy (by simpa [V.aI]using hp))
 |_=>simp[V.aI,V.rW]at hp
theorem bR.qQ{v:V}{x:Value}(h:bR ρ w F μ v x)(hp:v.pure=true):bY ρ w F v x:=by
 cases v with
 | agg cs =>
   obtain⟨ys,rfl,hs,hc⟩:=h.q8;have hp':Cb cs=true:=hp;rw[MS]at hp';exact .agg cs ys hs fun i v hi=>bR.aI ρ (hc i v hi) (hp' v (List.mem_of_getElem? hi))
 |_=>exact bR.aI ρ h hp
end inv
end
section
variable (ρ:Nat->Value)(w:World)(F:Nat->Prop)(μ:Nat->Nat->Option MI)
structure M3(m:MI)(size:Nat)(es:List (List V))(exact fz row:Bool):Prop where
 hsize:m.size=size
 hlen:∀ e∈es,e.length=size
 cells:∃ cells el,w.heap[m.b]?=some (.cells cells el (0,0))/\cells.size=m.total/\es.length*size<=m.total/\(exact=true->m.total=es.length*size) /\
  ∀ k e j v,es[k]?=some e->e[j]?=some v->∃ y,cells[k*size+j]?=some y/\bR ρ w F μ v y/\(row=true->bY ρ w F v y)
 hf:fz=true->F m.b
 hn:fz=false->¬ F m.b
structure zlv(m:MI)(es:List (V×V)):Prop where
 entries:∃ (en:Array MapEntry) (clock:Nat),w.heap[m.b]?=some (.map en clock)/\en.size=es.length /\
  ∀ (i:Nat) (k v:V),es[i]?=some (k,v)->∃ e:MapEntry,en[i]?=some e/\bY ρ w F k e.key/\bY ρ w F v e.val
 hn:¬ F m.b
def fZ(T:PT V)(tmps:Array Value):Prop:=∀ t v,T.get t=some v->∃ x,tmps[t]?=some x/\bR ρ w F μ v x
def zNx:Nat->Loop->Prop
 | 0,l=>l.state=.ready/\l.pending=none
 | 1,_=>True
 | 2,l=>l.state=.done/\l.pending=some .ret
 |i+3,l=>l.state=.done/\l.pending=some (.exit i)
structure zpJ(m:MI)(sz:Nat)(T:PT V)(ps:List Nat)(assign body:Code)(st:Nat):Prop where
 zBD:∃ l:Loop,w.heap[m.b]?=some (.loop l)/\zNx st l/\l.params.toList=ps/\l.assign=assign/\l.body=body /\
  fZ ρ w F μ T l.tmps/\sz<=l.tmps.size
 hn:¬ F m.b
def oU(P:Program)(id:Nat):Obj->Prop
 |.arr size gen es exact fz row=>∀ m,μ id gen=some m->M3 ρ w F μ m size es exact fz row
 |.mp es=>∀ m,μ id 0=some m->zlv ρ w F m es
 |.lp fn T ps assign body st=>∀ m,μ id 0=some m->zpJ ρ w F μ m fn T ps assign body st
structure R(P:Program)(hs:HS):Prop where
 lt:∀ id g m,μ id g=some m->m.b<w.heap.size
 sI:∀ b,F b->b<w.heap.size
 obj:∀ id o,hs.H.get id=some o->oU ρ w F μ P id o
 inj:∀ id id' o o' m m',hs.H.get id=some o->hs.H.get id'=some o'->μ id o.gen=some m->μ id' o'.gen=some m'->m.b=m'.b->id=id'
 nU:∀ id o,hs.H.get id=some o->∀ g,o.gen<g->μ id g=none
end
def nV(hs:HS)(μ:Nat->Nat->Option MI)(b:Nat):Prop:=∃ id o m,hs.H.get id=some o/\o.fz=false/\μ id o.gen=some m/\m.b=b
def Io(w w':World):Prop:=w'.os=w.os/\w'.tape=w.tape/\w'.output=w.output
theorem Io.trans{a b c:World}(h:Io a b)(k:Io b c):Io a c:=⟨k.1.trans h.1,k.2.1.trans h.2.1,k.2.2.trans h.2.2⟩
structure Fr(w:World)(F:Nat->Prop)(μ:Nat->Nat->Option MI)(hs:HS)(w':World)(F':Nat->Prop)(μ':Nat->Nat->Option MI)(hs':HS):Prop where
 io:Io w w'
 size:w.heap.size<=w'.heap.size
 keep:∀ b,b<w.heap.size->¬ nV hs μ b->w'.heap[b]?=w.heap[b]?
 fm:∀ b,F b->F' b
 pQ:∀ b,F' b->F b\/w.heap.size<=b\/nV hs μ b
 mm:∀ id g m,μ id g=some m->μ' id g=some m
 own:∀ b,nV hs' μ' b->nV hs μ b\/w.heap.size<=b
 hm:∀ id,hs.H.get id≠none->hs'.H.get id≠none
 sm:∀ id,hs'.H.get id=none->∀ g,μ' id g=μ id g
 dm:∀ id,hs.H.get id≠none->(∀ g,μ id g=none)->∀ g,μ' id g=none
 mn:∀ id g m,μ' id g=some m->w.heap.size<=m.b\/∃ i j m0,μ i j=some m0/\m0.b=m.b
section
variable {ρ:Nat->Value}{P:Program}{w w' w'':World}{F F' zFZ:Nat->Prop}{μ μ' μ'':Nat->Nat->Option MI}{hs hs' zCU:HS}
theorem Fr.refl(w:World)(F:Nat->Prop)(μ:Nat->Nat->Option MI)(hs:HS):Fr w F μ hs w F μ hs :=
 ⟨⟨rfl,rfl,rfl⟩,Nat.le_refl _,fun _ _ _=>rfl,fun _ h=>h,fun _ h=>.inl h,fun _ _ _ h=>h,fun _ h=>.inl h,fun _ h=>h,fun _ _ _=>rfl,fun _ _ h=>h,fun id g m h=>.inr ⟨id,g,m,h,rfl⟩⟩
theorem Fr.trans(h:Fr w F μ hs w' F' μ' hs')(h':Fr w' F' μ' hs' w'' zFZ μ'' zCU):Fr w F μ hs w'' zFZ μ'' zCU where
 io:=h.io.trans h'.io
 size:=Nat.le_trans h.size h'.size
 keep b hb hn:=by
  rw[h'.keep b (Nat.lt_of_lt_of_le hb h.size) (fun ho=>(h.own b ho).elim hn (fun hge=>by omega)),h.keep b hb hn]
 fm b hb:=h'.fm b (h.fm b hb)
 pQ b hb:=by
  rcases h'.pQ b hb with h1|h1|h1
  . exact h.pQ b h1
  . exact .inr (.inl (Nat.le_trans h.size h1))
  . rcases h.own b h1 with h2|h2
    . exact .inr (.inr h2)
    . exact .inr (.inl h2)
 mm id g m hm:=h'.mm _ _ _ (h.mm _ _ _ hm)
 own b hb:=by
  rcases h'.own b hb with h1|h1
  . exact h.own b h1
  . exact .inr (Nat.le_trans h.size h1)
 hm id hi:=h'.hm id (h.hm id hi)
 sm id hi g:=by
  have hi':hs'.H.get id=none:=Classical.byContradiction fun hne=>h'.hm id hne hi
  rw[h'.sm id hi g,h.sm id hi' g]
 dm id hi hg:=h'.dm id (h.hm id hi) (h.dm id hi hg)
 mn id g m hg:=by
  rcases h'.mn id g m hg with h1|⟨i,j,m0,h1,h2⟩
  . exact .inl (Nat.le_trans h.size h1)
  . rcases h.mn i j m0 h1 with h3|⟨i',j',m1,h3,h4⟩
    . exact .inl (h2 ▸ h3)
    . exact .inr ⟨i',j',m1,h3,h4.trans h2⟩
theorem R.kW(h:R ρ w F μ P hs){b:Nat}(hF:F b):¬ nV hs μ b:=by
 rintro ⟨id,o,m,ho,hf,hm,rfl⟩;have:=h.obj id o ho
 cases o with
 |arr size gen es exact fz row=>exact(this m hm).hn hf hF
 |mp es=>exact(this m hm).hn hF
 |lp fn T ps assign body busy=>exact(this m hm).hn hF
theorem Fr.rep(h:Fr w F μ hs w' F' μ' hs')(hR:R ρ w F μ P hs){v:V}{x:Value}(hx:bR ρ w F μ v x):bR ρ w' F' μ' v x :=
 hx.mono ρ h.fm (fun b hb=>h.keep b (hR.sI b hb) (hR.kW hb)) h.mm
theorem Fr.zKe(h:Fr w F μ hs w' F' μ' hs')(hR:R ρ w F μ P hs){v:V}{x:Value}(hx:bY ρ w F v x):bY ρ w' F' v x :=
 hx.mono ρ h.fm (fun b hb=>h.keep b (hR.sI b hb) (hR.kW hb))
theorem Fr.ztf(h:Fr w F μ hs w' F' μ' hs')(hR:R ρ w F μ P hs){T:PT V}{a:Array Value}(hT:fZ ρ w F μ T a):fZ ρ w' F' μ' T a:=by
 intro t v hv;obtain⟨x,hx,hr⟩:=hT t v hv;exact⟨x,hx,h.rep hR hr⟩
theorem oU.mono{id:Nat}{o:Obj}(h:oU ρ w F μ P id o)(hF:∀ b,F b->F' b)(hw:∀ b,F b->w'.heap[b]?=w.heap[b]?)
 (hμ:∀ id g m,μ id g=some m->μ' id g=some m) (zK1:∀ m,μ' id o.gen=some m->μ id o.gen=some m)
 (hb:∀ m,μ id o.gen=some m->w'.heap[m.b]?=w.heap[m.b]?) (hn:∀ m,μ id o.gen=some m->o.fz=false->¬ F m.b->¬ F' m.b):oU ρ w' F' μ' P id o:=by
 cases o with
 | arr size gen es exact fz row =>
   intro m hm;have hm0:=zK1 m hm;obtain⟨h1,h2,⟨cells,el,hc,ht,hl,he,hall⟩,h4,h5⟩:=h m hm0;refine⟨h1,h2,⟨cells,el,(hb m hm0).trans hc,ht,hl,he,fun k e j v hk hj=>?_⟩,fun h=>hF _ (h4 h),fun h=>hn m hm0 h (h5 h)⟩;obtain⟨y,hy,hr,hp⟩:=hall k e j v hk hj;exact⟨y,hy,hr.mono ρ hF hw hμ,fun hr=>(hp hr).mono ρ hF hw⟩
 | mp es =>
   intro m hm;have hm0:=zK1 m hm;obtain⟨⟨en,clock,he,hs,hall⟩,h5⟩:=h m hm0;refine⟨⟨en,clock,(hb m hm0).trans he,hs,fun i k v hi=>?_⟩,hn m hm0 rfl h5⟩;obtain⟨e,h1,h2,h3⟩:=hall i k v hi;exact⟨e,h1,h2.mono ρ hF hw,h3.mono ρ hF hw⟩
 | lp fn T ps assign body busy =>
   intro m hm;have hm0:=zK1 m hm;obtain⟨⟨l,hl,h1,h4,h5,h6,h7,h8⟩,hnn⟩:=h m hm0;refine⟨⟨l,(hb m hm0).trans hl,h1,h4,h5,h6,fun t v hv=>?_,h8⟩,hn m hm0 rfl hnn⟩;obtain⟨x,hx,hr⟩:=h7 t v hv;exact⟨x,hx,hr.mono ρ hF hw hμ⟩
theorem R.grow(h:R ρ w F μ P hs)(hs':w.heap.size<=w'.heap.size)(hw:∀ b,b<w.heap.size->w'.heap[b]?=w.heap[b]?):R ρ w' F μ P hs where
 lt id g m hm:=Nat.lt_of_lt_of_le (h.lt id g m hm) hs'
 sI b hb:=Nat.lt_of_lt_of_le (h.sI b hb) hs'
 obj id o ho:=(h.obj id o ho).mono (fun _ h=>h) (fun b hb=>hw b (h.sI b hb)) (fun _ _ _ h=>h) (fun _ h=>h) (fun m hm=>hw m.b (h.lt _ _ _ hm)) (fun _ _ _ h=>h)
 inj:=h.inj
 nU:=h.nU
end
end Go.J
/- How the relation between the pR heap and the world is kept: a new object,a written row,a frozen row. -/
namespace Go.J
def upd(μ:Nat->Nat->Option MI)(id g:Nat)(m:MI):Nat->Nat->Option MI:=fun i j=>if i=id/\j=g then some m else μ i j
theorem upd_same(μ:Nat->Nat->Option MI)(id g:Nat)(m:MI):upd μ id g m id g=some m:=by simp[upd]
theorem fM{μ:Nat->Nat->Option MI}{id g:Nat}{m:MI}{i j:Nat}(h:¬ (i=id/\j=g)):upd μ id g m i j=μ i j:=by simp[upd,h]
def jK(w:World)(B:_root_.Go.Obj):World:={ w with heap:=w.heap.push B }
theorem iM(w:World)(B:_root_.Go.Obj):(jK w B).heap.size=w.heap.size+1:=by simp[jK]
theorem jr(w:World)(B:_root_.Go.Obj){b:Nat}(h:b<w.heap.size):(jK w B).heap[b]?=w.heap[b]?:=by
 simp[jK,Array.getElem?_push,Nat.ne_of_lt h]
theorem kR(w:World)(B:_root_.Go.Obj):(jK w B).heap[w.heap.size]?=some B:=by simp[jK]
section
variable {ρ:Nat->Value}{P:Program}{w w':World}{F:Nat->Prop}{μ:Nat->Nat->Option MI}{hs hs':HS}
theorem CY{id:Nat}{o:Obj}(hH:∀ k,hs'.H.get k=if k=id then some o else hs.H.get k)(i:Nat)(hi:hs.H.get i≠none):hs'.H.get i≠none:=by
 rw[hH];split
 . simp
 . exact hi
theorem R.alloc (h:R ρ w F μ P hs) {id:Nat} (hnone:hs.H.get id=none) (hfree:∀ g,μ id g=none) {o:Obj} (hg:o.gen=0) (hz:o.fz=false)
 {m:MI} (hsz:w.heap.size<=m.b) (hlt:m.b<w'.heap.size) (hw:∀ b,b<w.heap.size->w'.heap[b]?=w.heap[b]?)
 (hH:∀ k,hs'.H.get k=if k=id then some o else hs.H.get k)
 (ho:oU ρ w' F (upd μ id 0 m) P id o) (zdc:Io w w':=by exact⟨rfl,rfl,rfl⟩):R ρ w' F (upd μ id 0 m) P hs'/\Fr w F μ hs w' F (upd μ id 0 m) hs':=by
 have hmm:∀ i g m',μ i g=some m'->upd μ id 0 m i g=some m':=by
  intro i g m' hm;rw[fM];exact hm;rintro ⟨rfl,rfl⟩;rw[hfree]at hm;cases hm
 have hback:∀ i g m',i≠id->upd μ id 0 m i g=some m'->μ i g=some m':=by
  intro i g m' hne hm
  rwa [fM (fun e=>hne e.1)]at hm
 have hone:∀ g m',upd μ id 0 m id g=some m'->g=0/\m'=m:=by
  intro g m' hm;by_cases e:g=0
  . subst e;rw[upd_same]at hm;exact⟨rfl,(Option.some.inj hm).symm⟩
  . rw[fM (fun x=>e x.2),hfree]at hm;cases hm
 have hsize:w.heap.size<=w'.heap.size:=by omega
 refine⟨⟨?_,?_,?_,?_,?_⟩,⟨zdc,hsize,fun b hb _=>hw b hb,fun _ h=>h,fun _ h=>.inl h,hmm,?_,?_,?_,?_,?_⟩⟩
 . intro i g m' hm;by_cases e:i=id
   . subst e;obtain⟨_,rfl⟩:=hone g m' hm;exact hlt
   . exact Nat.lt_of_lt_of_le (h.lt i g m' (hback i g m' e hm)) hsize
 . intro b hb;exact Nat.lt_of_lt_of_le (h.sI b hb) hsize
 . intro i o' ho';rw[hH]at ho';by_cases e:i=id
   . subst e;rw[if_pos rfl]at ho';cases ho';exact ho
   . rw[if_neg e]at ho';exact(h.obj i o' ho').mono (fun _ h=>h) (fun b hb=>hw b (h.sI b hb)) hmm (fun m' hm=>hback _ _ _ e hm) (fun m' hm=>hw _ (h.lt _ _ _ hm)) (fun _ _ _ h=>h)
 . intro i j o1 o2 m1 m2 h1 h2 hm1 hm2 he;rw[hH]at h1 h2;by_cases ei:i=id
   . subst ei;obtain⟨_,rfl⟩:=hone _ _ hm1;by_cases ej:j=i
     . exact ej.symm
     . have:=h.lt _ _ _ (hback _ _ _ ej hm2);omega
   . by_cases ej:j=id
     . subst ej;obtain⟨_,rfl⟩:=hone _ _ hm2;have:=h.lt _ _ _ (hback _ _ _ ei hm1);omega
     . rw[if_neg ei]at h1;rw[if_neg ej]at h2;exact h.inj i j o1 o2 m1 m2 h1 h2 (hback _ _ _ ei hm1) (hback _ _ _ ej hm2) he
 . intro i o' ho' g hgg;rw[hH]at ho';by_cases e:i=id
   . subst e;rw[if_pos rfl]at ho';cases ho';rw[fM (fun x=>by omega)];exact hfree g
   . rw[if_neg e]at ho';rw[fM (fun x=>e x.1)];exact h.nU i o' ho' g hgg
 . rintro b ⟨i,o',m',ho',hf,hm',rfl⟩;rw[hH]at ho';by_cases e:i=id
   . subst e;obtain⟨_,rfl⟩:=hone _ _ hm';exact .inr hsz
   . rw[if_neg e]at ho';exact .inl ⟨i,o',m',ho',hf,hback _ _ _ e hm',rfl⟩
 . intro i hi;rw[hH];split
   . simp
   . exact hi
 . intro i hi g;rw[hH]at hi;split at hi
   . cases hi
   . rename_i e;exact fM (fun x=>e x.1)
 . intro i hi hg g;rw[fM (fun x=>hi (by rw[x.1];exact hnone))];exact hg g
 . intro i g m' hm';by_cases e:i=id
   . subst e;obtain⟨_,rfl⟩:=hone _ _ hm';exact .inl hsz
   . exact .inr ⟨i,g,m',hback _ _ _ e hm',rfl⟩
theorem R.write(h:R ρ w F μ P hs){id:Nat}{o o':Obj}(hget:hs.H.get id=some o)(hz:o.fz=false){m:MI}(hm:μ id o.gen=some m)(hg:o'.gen=o.gen)(hz':o'.fz=false)
 (hsz:w'.heap.size=w.heap.size) (hw:∀ b,b≠m.b->w'.heap[b]?=w.heap[b]?) (hH:∀ k,hs'.H.get k=if k=id then some o' else hs.H.get k)
 (ho:oU ρ w' F μ P id o') (zdc:Io w w':=by exact⟨rfl,rfl,rfl⟩):R ρ w' F μ P hs'/\Fr w F μ hs w' F μ hs':=by
 have hown:nV hs μ m.b:=⟨id,o,m,hget,hz,hm,rfl⟩;have hnF:¬ F m.b:=fun hF=>h.kW hF hown
 have hF:∀ b,F b->w'.heap[b]?=w.heap[b]?:=fun b hb=>hw b (fun e=>hnF (e ▸ hb))
 refine⟨⟨?_,?_,?_,?_,?_⟩,⟨zdc,by omega,fun b _ hb=>hw b (fun e=>hb (e ▸ hown)),fun _ h=>h,fun _ h=>.inl h,fun _ _ _ h=>h,?_,CY hH,fun _ _ _=>rfl,fun _ _ h=>h,fun i g m1 h1=>.inr ⟨i,g,m1,h1,rfl⟩⟩⟩
 . intro i g m' hm';rw[hsz];exact h.lt i g m' hm'
 . intro b hb;rw[hsz];exact h.sI b hb
 . intro i o1 h1;rw[hH]at h1;by_cases e:i=id
   . grind
   . rw[if_neg e]at h1;exact(h.obj i o1 h1).mono (fun _ h=>h) hF (fun _ _ _ h=>h) (fun _ h=>h) (fun m1 hm1=>hw _ (fun e'=>e (h.inj i id o1 o m1 m h1 hget hm1 hm e'))) (fun _ _ _ h=>h)
 . intro i j o1 o2 m1 m2 h1 h2 hm1 hm2 he;rw[hH]at h1 h2
   have key:∀ k ok mk,(if k=id then some o' else hs.H.get k)=some ok->μ k ok.gen=some mk->∃ ok',hs.H.get k=some ok'/\μ k ok'.gen=some mk:=by
    grind
   obtain⟨a1,ha1,hb1⟩:=key i o1 m1 h1 hm1;obtain⟨a2,ha2,hb2⟩:=key j o2 m2 h2 hm2;exact h.inj i j a1 a2 m1 m2 ha1 ha2 hb1 hb2 he
 . intro i o1 h1 g hgg;rw[hH]at h1;by_cases e:i=id
   . subst e;rw[if_pos rfl]at h1;cases h1;exact h.nU i o hget g (by omega)
   . rw[if_neg e]at h1;exact h.nU i o1 h1 g hgg
 . rintro b ⟨i,o1,m1,h1,hf,hm1,rfl⟩;rw[hH]at h1;by_cases e:i=id
   . subst e;rw[if_pos rfl]at h1;cases h1;rw[hg]at hm1;exact .inl ⟨i,o,m1,hget,hz,hm1,rfl⟩
   . rw[if_neg e]at h1;exact .inl ⟨i,o1,m1,h1,hf,hm1,rfl⟩
theorem R.next (h:R ρ w F μ P hs) {id:Nat} {o o':Obj} (hget:hs.H.get id=some o) (hz:o.fz=false) {m m':MI} (hm:μ id o.gen=some m) (hg:o'.gen=o.gen+1) (hz':o'.fz=false)
 (hsz:w.heap.size<=w'.heap.size) (hlt:m'.b<w'.heap.size) (hb:m'.b=m.b\/w.heap.size<=m'.b) (hw:∀ b,b<w.heap.size->b≠m.b->w'.heap[b]?=w.heap[b]?)
 (hH:∀ k,hs'.H.get k=if k=id then some o' else hs.H.get k)
 (ho:oU ρ w' F (upd μ id (o.gen+1) m') P id o') (zdc:Io w w':=by exact⟨rfl,rfl,rfl⟩):R ρ w' F (upd μ id (o.gen+1) m') P hs'/\Fr w F μ hs w' F (upd μ id (o.gen+1) m') hs':=by
 have hown:nV hs μ m.b:=⟨id,o,m,hget,hz,hm,rfl⟩;have hnF:¬ F m.b:=fun hF=>h.kW hF hown
 have hF:∀ b,F b->w'.heap[b]?=w.heap[b]?:=fun b hb=>hw b (h.sI b hb) (fun e=>hnF (e ▸ hb))
 have hno:μ id (o.gen+1)=none:=h.nU id o hget _ (by omega)
 have hmm:∀ i g m1,μ i g=some m1->upd μ id (o.gen+1) m' i g=some m1:=by
  intro i g m1 hm1;rw[fM];exact hm1;rintro ⟨rfl,rfl⟩;rw[hno]at hm1;cases hm1
 have hback:∀ i g m1,i≠id->upd μ id (o.gen+1) m' i g=some m1->μ i g=some m1:=by
  intro i g m1 hne h1
  rwa [fM (fun e=>hne e.1)]at h1
 have hnew:∀ m1,upd μ id (o.gen+1) m' id o'.gen=some m1->m1=m':=by
  intro m1 h1;rw[hg,upd_same]at h1;exact(Option.some.inj h1).symm
 refine⟨⟨?_,?_,?_,?_,?_⟩,⟨zdc,hsz,fun b hlt hb=>hw b hlt (fun e=>hb (e ▸ hown)),fun _ h=>h,fun _ h=>.inl h,hmm,?_,CY hH,?_,?_,?_⟩⟩
 . intro i g m1 hm1;by_cases e:i=id/\g=o.gen+1
   . obtain⟨rfl,rfl⟩:=e;rw[upd_same]at hm1;cases hm1;exact hlt
   . rw[fM e]at hm1;exact Nat.lt_of_lt_of_le (h.lt i g m1 hm1) hsz
 . intro b hb;exact Nat.lt_of_lt_of_le (h.sI b hb) hsz
 . intro i o1 h1;rw[hH]at h1;by_cases e:i=id
   . subst e;rw[if_pos rfl]at h1;cases h1;exact ho
   . rw[if_neg e]at h1;exact(h.obj i o1 h1).mono (fun _ h=>h) hF hmm (fun m1 hm1=>hback _ _ _ e hm1) (fun m1 hm1=>hw _ (h.lt _ _ _ hm1) (fun e'=>e (h.inj i id o1 o m1 m h1 hget hm1 hm e'))) (fun _ _ _ h=>h)
 . intro i j o1 o2 m1 m2 h1 h2 hm1 hm2 he;rw[hH]at h1 h2;by_cases ei:i=id
   . subst ei;rw[if_pos rfl]at h1;cases h1;have e1:=hnew _ hm1;subst e1;by_cases ej:j=i
     . exact ej.symm
     . rw[if_neg ej]at h2;have h2':=hback _ _ _ ej hm2;have hl:=h.lt _ _ _ h2';rcases hb with hb|hb
       . exact(h.inj j i o2 o m2 m h2 hget h2' hm (by omega)).symm
       . omega
   . by_cases ej:j=id
     . subst ej;rw[if_pos rfl]at h2;cases h2;have e1:=hnew _ hm2;subst e1;rw[if_neg ei]at h1;have h1':=hback _ _ _ ei hm1;have hl:=h.lt _ _ _ h1';rcases hb with hb|hb
       . exact h.inj i j o1 o m1 m h1 hget h1' hm (by omega)
       . omega
     . rw[if_neg ei]at h1;rw[if_neg ej]at h2;exact h.inj i j o1 o2 m1 m2 h1 h2 (hback _ _ _ ei hm1) (hback _ _ _ ej hm2) he
 . intro i o1 h1 g hgg;rw[hH]at h1;by_cases e:i=id
   . subst e;rw[if_pos rfl]at h1;cases h1;rw[fM (fun x=>by omega)];exact h.nU i o hget g (by omega)
   . rw[if_neg e]at h1;rw[fM (fun x=>e x.1)];exact h.nU i o1 h1 g hgg
 . rintro b ⟨i,o1,m1,h1,hf,hm1,rfl⟩;rw[hH]at h1;by_cases e:i=id
   . subst e;rw[if_pos rfl]at h1;cases h1;have e1:=hnew _ hm1;subst e1;rcases hb with hb|hb
     . exact .inl (hb ▸ hown)
     . exact .inr hb
   . rw[if_neg e]at h1;exact .inl ⟨i,o1,m1,h1,hf,hback _ _ _ e hm1,rfl⟩
 . intro i hi g;rw[hH]at hi;split at hi
   . cases hi
   . rename_i e;exact fM (fun x=>e x.1)
 . intro i _ hg g;rw[fM];exact hg g;rintro ⟨rfl,_⟩;rw[hg]at hm;cases hm
 . intro i g m1 hm1;by_cases e:i=id/\g=o.gen+1
   . obtain⟨rfl,rfl⟩:=e;rw[upd_same]at hm1;cases hm1;rcases hb with hb|hb
     . exact .inr ⟨_,_,m,hm,hb.symm⟩
     . exact .inl hb
   . rw[fM e]at hm1;exact .inr ⟨i,g,m1,hm1,rfl⟩
theorem R.freeze(h:R ρ w F μ P hs){id size gen:Nat}{es:List (List V)}{exact fz row:Bool}(hget:hs.H.get id=some (.arr size gen es exact fz row))
 (hH:∀ k,hs'.H.get k=if k=id then some (.arr size gen es exact true row)else hs.H.get k) :
 R ρ w (fun b=>F b\/∃ m,μ id gen=some m/\b=m.b) μ P hs'/\Fr w F μ hs w (fun b=>F b\/∃ m,μ id gen=some m/\b=m.b) μ hs':=by
 have key:∀ k ok mk,(if k=id then some (Obj.arr size gen es exact true row)else hs.H.get k)=some ok->μ k ok.gen=some mk->∃ ok',hs.H.get k=some ok'/\μ k ok'.gen=some mk/\(ok.fz=false->ok'.fz=false/\k≠id):=by
  intro k ok mk hk hmk;by_cases e:k=id
  . subst e;rw[if_pos rfl]at hk;cases hk;exact⟨_,hget,hmk,fun hf=>by cases hf⟩
  grind
 refine⟨⟨?_,?_,?_,?_,?_⟩,⟨⟨rfl,rfl,rfl⟩,Nat.le_refl _,fun _ _ _=>rfl,fun _ h=>.inl h,?_,fun _ _ _ h=>h,?_,CY hH,fun _ _ _=>rfl,fun _ _ h=>h,fun i g m1 h1=>.inr ⟨i,g,m1,h1,rfl⟩⟩⟩
 . exact h.lt
 . intro b hb;rcases hb with hb|⟨m,hm,rfl⟩
   . exact h.sI b hb
   . exact h.lt _ _ _ hm
 . intro i o1 h1;rw[hH]at h1;by_cases e:i=id
   . subst e;rw[if_pos rfl]at h1;cases h1;intro m hm;obtain⟨h1,h2,⟨cells,el,hc,ht,hl,he,hall⟩,h4,h5⟩:=h.obj _ _ hget m hm;refine⟨h1,h2,⟨cells,el,hc,ht,hl,he,fun k e j v hk hj=>?_⟩,fun _=>.inr ⟨m,hm,rfl⟩,fun hf=>by cases hf⟩;obtain⟨y,hy,hr,hp⟩:=hall k e j v hk hj;exact⟨y,hy,hr.mono ρ (fun _ h=>.inl h) (fun _ _=>rfl) (fun _ _ _ h=>h),fun hr=>(hp hr).mono ρ (fun _ h=>.inl h) (fun _ _=>rfl)⟩
   . rw[if_neg e]at h1;refine(h.obj i o1 h1).mono (fun _ h=>.inl h) (fun _ _=>rfl) (fun _ _ _ h=>h) (fun _ h=>h) (fun _ _=>rfl) ?_;rintro m1 hm1 hf hnF (hF|⟨m,hm,hb⟩)
     . exact hnF hF
     . exact e (h.inj i id o1 _ m1 m h1 hget hm1 hm hb)
 . intro i j o1 o2 m1 m2 h1 h2 hm1 hm2 he;rw[hH]at h1 h2;obtain⟨a1,ha1,hb1,_⟩:=key i o1 m1 h1 hm1;obtain⟨a2,ha2,hb2,_⟩:=key j o2 m2 h2 hm2;exact h.inj i j a1 a2 m1 m2 ha1 ha2 hb1 hb2 he
 . intro i o1 h1 g hgg;rw[hH]at h1;by_cases e:i=id
   . subst e;rw[if_pos rfl]at h1;cases h1;exact h.nU i _ hget g hgg
   . rw[if_neg e]at h1;exact h.nU i o1 h1 g hgg
 . rintro b (hF|⟨m,hm,rfl⟩)
   . exact .inl hF
   . cases fz with
     |true=>exact .inl ((h.obj _ _ hget m hm).hf rfl)
     |false=>exact .inr (.inr ⟨id,_,m,hget,rfl,hm,rfl⟩)
 . rintro b ⟨i,o1,m1,h1,hf,hm1,rfl⟩;rw[hH]at h1;obtain⟨a1,ha1,hb1,hc1⟩:=key i o1 m1 h1 hm1;exact .inl ⟨i,a1,m1,ha1,(hc1 hf).1,hb1,rfl⟩
end
end Go.J
