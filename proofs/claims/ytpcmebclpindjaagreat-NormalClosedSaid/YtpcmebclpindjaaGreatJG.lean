import Derived.Test.YtpcmebclpindjaaGreatJF
set_option linter.all false
noncomputable section
/- Rules of rewriting for symbolic runs. -/
namespace Go.J
section
variable {E:Env}{id:Nat}{T:PT V}{hs:HS}{K:V->HS->Prop}{sz:Nat}
@[simp ↓] theorem zN3 {R:PT V->HS->Prop}:Rs E sz [] id T hs R=R T hs:=(rfl)
@[simp ↓] theorem zJQ {d:Option Tmp} {op:Op} {g:Option (Tmp×Bool)} {l:List SOp} {R:PT V->HS->Prop}:Rs E sz (⟨d,op,g⟩::l) id T hs R=wpS E id T hs ⟨d,op,g⟩ fun v hs'=>put sz T d v fun T1=>Rs E sz l (id+1) T1 hs' R:=(rfl)
@[simp ↓] theorem zNE {d:Option Tmp} {op:Op}:wpS E id T hs ⟨d,op,none⟩ K=wpO E id T hs op K:=(rfl)
@[simp ↓] theorem zNF {d:Option Tmp} {op:Op} {t:Tmp} {w:Bool}:wpS E id T hs ⟨d,op,some (t,w)⟩ K=ok (T.get t) fun v=>ok (v.guard? w) fun q=>br (q=w) (wpO E id T hs op K) (K undefV hs):=by
  simp only[z6C];rfl
@[simp ↓] theorem zEI {d:Tmp} {v:V} {R:PT V->Prop}:put sz T (some d) v R=(d<sz/\R (T.set d v)):=(rfl)
@[simp ↓] theorem zEJ {v:V} {R:PT V->Prop}:put sz T none v R=R T:=(rfl)
theorem zjQ{p:Prop}:((0:Nat)≠0->p)=True:=propext ⟨fun _=>trivial,fun _ h=>absurd rfl h⟩
theorem zvx{p:Prop}:((2:Nat)≠0->p)=p:=propext ⟨fun h=>h (by decide),fun h _=>h⟩
theorem zjT{op:Op}(hc:zt op=0)(hd:wpO E id T hs op K=((zt op≠0->hs.H.get id=none)/\ok (opJ E.P false T hs id (opR op)) fun r=>K r.1 r.2)):wpO E id T hs op K=ok (opJ E.P false T hs id (opR op)) fun r=>K r.1 r.2:=by
 grind
@[simp ↓] theorem wp_move {x:Operand}:wpO E id T hs (.move x) K=ok (zk T x) fun v=>K v hs:=by
  rw[zjT rfl rfl];show ok (ob (zk T x) fun v=>some (v,hs)) _=_;simp only[zab,zm]
@[simp ↓] theorem wp_assign {x:Operand}:wpO E id T hs (.assign x) K=ok (zk T x) fun v=>K v hs:=by
  rw[zjT rfl rfl];show ok (ob (zk T x) fun v=>some (v,hs)) _=_;simp only[zab,zm]
@[simp ↓] theorem zGG {c a b:Operand}:wpO E id T hs (.pick c a b) K=ok (zk T c) fun v=>ok v.bool? fun q=>ok (bi q (zk T a) (zk T b)) fun v=>K v hs:=by
  rw[zjT rfl rfl];show ok (zju T hs c a b) _=_;simp only[zju,zab,zm]
@[simp ↓] theorem zGH {t:TypeId} {a:Operand}:wpO E id T hs (.load t a) K=ok (ti E.P t) fun i=>ok (zk T a) fun p=>ok (zgr i hs p) fun v=>K v hs:=by
  rw[zjT rfl rfl];show ok (zdx E.P T hs t a) _=_;simp only[zdx,zab,zm]
@[simp ↓] theorem zDR {b:BinOp} {t u:TypeId} {x y:Operand}:wpO E id T hs (.binOp b t x y u) K=ok (zk T x) fun p=>ok (zk T y) fun q=>ok (z3t E.P b t p q) fun v=>K v hs:=by
  rw[zjT rfl rfl];show ok (zf0 E.P T hs b t x y) _=_;simp only[zf0,zab,zm]
@[simp ↓] theorem zGF {b:UnOp} {t:TypeId} {x:Operand}:wpO E id T hs (.unOp b t x) K=ok (zjh T hs b x) fun r=>K r.1 r.2:=by
  rw[zjT rfl rfl];rfl
@[simp ↓] theorem zyj {t:TypeId} {x:Operand} {f:Nat}:wpO E id T hs (.fieldAddr t x f) K=ok (ti E.P t) fun i=>ok (zi i f) fun fd=>ok (ti E.P fd.type) fun fi=>nt (Nat.beq fi.size 0)=true/\ok (zk T x) fun v=>ok (zaH fd.offset v) fun r=>K r hs:=by
  rw[zjT rfl rfl];show ok (zbj E.P T hs t x f) _=_;simp only[zbj,zab,zct,zm]
@[simp ↓] theorem zDQ {t:TypeId} {x:Operand} {f:Nat}:wpO E id T hs (.field t x f) K=ok (ti E.P t) fun i=>ok (zi i f) fun fd=>ok (ti E.P fd.type) fun fi=>ok (zk T x) fun v=>ok v.agg? fun cs=>ok (zfG fi cs fd.offset) fun v=>K v hs:=by
  rw[zjT rfl rfl];show ok (zfr E.P T hs t x f) _=_;simp only[zfr,zab,zm]
@[simp ↓] theorem zyi {t:TypeId} {x ix:Operand}:wpO E id T hs (.indexAddr t x ix) K=ok (ti E.P t) fun i=>ok (elemOf i.desc) fun el=>ok (ti E.P el.1) fun e=>ok (zk T x) fun v=>ok (zk T ix) fun n=>ok n.nat? fun n=>ok (z8x el.2 e n v) fun r=>K r hs:=by
  rw[zjT rfl rfl];show ok (zbi E.P T hs t x ix) _=_;simp only[zbi,zab,zm]
@[simp ↓] theorem zDP {t:TypeId} {x ix:Operand}:wpO E id T hs (.index t x ix) K=ok (ti E.P t) fun i=>isStr i.desc=true/\ok (zk T x) fun v=>ok v.str? fun s=>ok (zk T ix) fun n=>ok n.nat? fun n=>ok (zeJ s n) fun b=>K (.int .u8 (Int.ofNat b)) hs:=by
  rw[zjT rfl rfl];show ok (zfp E.P T hs t x ix) _=_;simp only[zfp,zab,zct,zm]
@[simp ↓] theorem z7i {x:Operand} {k:Nat}:wpO E id T hs (.extract x k) K=ok (zk T x) fun v=>ok v.tuple? fun vs=>ok (zeJ vs k) fun v=>K v hs:=by
  rw[zjT rfl rfl];show ok (zcu T hs x k) _=_;simp only[zcu,zab,zm]
@[simp ↓] theorem z3F {x:Operand}:wpO E id T hs (.nilCheck x) K=ok (zk T x) fun v=>notNil v=true/\K v hs:=by
  rw[zjT rfl rfl];show ok (zbF T hs x) _=_;simp only[zbF,zab,zct,zm]
@[simp ↓] theorem wp_build {t:TypeId} {ps:Array (Nat×Operand)}:wpO E id T hs (.build t ps) K=ok (ti E.P t) fun i=>ok (bi (zat i.desc) (gd (zaO E.P (fieldsOf i.desc)) (zdA E.P T i ps.toList i.zero)) (ob (zp7 i.desc) fun el=>ob (ti E.P el) fun e=>zcl T e.size ps.toList i.zero)) fun cs=>K (.agg cs) hs:=by
  rw[zjT rfl rfl];show ok (zcx E.P T hs t ps) _=_;unfold zcx;simp only[zab (ti E.P t)];congr 1;funext i;rw[zab];congr 1;funext cs;rw[zm]
@[simp ↓] theorem zDO {t:TypeId} {x:Operand} {lo hi mx:Option Operand}:wpO E id T hs (.slice t x lo hi mx) K=ok (ti E.P t) fun i=>ok (zk T x) fun v=>ok (zkp E.P T hs i v lo hi mx) fun r=>K r hs:=by
  rw[zjT rfl rfl];show ok (zcr E.P T hs t x lo hi mx) _=_;simp only[zcr,zab,zm]
@[simp ↓] theorem z95 {t:TypeId} {m k:Operand} {b:Bool}:wpO E id T hs (.lookup t m k b) K=ok (zcR E.P T hs t m k b) fun r=>K r.1 r.2:=by
  rw[zjT rfl rfl];rfl
@[simp ↓] theorem z7j {s d:TypeId} {x:Operand}:wpO E id T hs (.convert s d x) K=ok (ti E.P s) fun _=>ok (ti E.P d) fun j=>ok (zk T x) fun v=>ok (zmA j.desc v) fun r=>K r hs:=by
  rw[zjT rfl rfl];show ok (zjH E.P T hs s d x) _=_;simp only[zjH,zab,zm]
@[simp ↓] theorem z3G {f:FuncId} {cs:Array Operand}:wpO E id T hs (.makeFunc (.func f) #[] cs) K=ok (za6 T cs.toList) fun l=>K (.func f l) hs:=by
  rw[zjT rfl rfl];show ok (zdf T hs (.func f) #[] cs) _=_;show ok (gd true (ob (za6 T cs.toList) fun l=>some (V.func f l,hs))) _=_;simp only[zbR,zab,zm]
@[simp ↓] theorem zyh {t:TypeId} {x:Operand}:wpO E id T hs (.makeInterface t x) K=ok (ti E.P t) fun i=>nt (isIface i.desc)=true/\ok (zk T x) fun v=>K (.iface t v) hs:=by
  rw[zjT rfl rfl];show ok (zbP E.P T hs t x) _=_;simp only[zbP,zab,zct,zm]
theorem z97{op:Op}(hc:zt op=1)(hd:wpO E id T hs op K=((zt op≠0->hs.H.get id=none)/\ok (opJ E.P false T hs id (opR op)) fun r=>K r.1 r.2)):wpO E id T hs op K=(hs.H.get id=none/\ok (opJ E.P false T hs id (opR op)) fun r=>K r.1 r.2):=by
 grind
theorem zKb{op:Op}(hc:zt op=2)(hd:wpO E id T hs op K=((zt op≠0->hs.H.get id=none)/\ok (opJ E.P false T hs id (opR op)) fun r=>K r.1 r.2)):wpO E id T hs op K=(hs.H.get id=none/\ok (opJ E.P false T hs id (opR op)) fun r=>K r.1 r.2):=by
 grind
@[simp ↓] theorem zDS {t:TypeId}:wpO E id T hs (.alloc t) K=(hs.H.get id=none/\ok (ti E.P t) fun i=>Nat.beq (zC i.zero) i.size=true/\K (.ptr id 0 0) (hs.put id (.arr i.size 0 [i.zero] true false false))):=by
  rw[z97 rfl rfl];show (_/\ok (zdC E.P hs id t) _)=_;simp only[zdC,zab,zct,zm]
@[simp ↓] theorem zKa {t:TypeId} {x:Operand}:wpO E id T hs (.box t x) K=(hs.H.get id=none/\ok (zk T x) fun v=>K (.ptr id 0 0) (hs.put id (.arr (zC v.cells) 0 [v.cells] true false false))):=by
  rw[z97 rfl rfl];show (_/\ok (zpF T hs id x) _)=_;simp only[zpF,zab,zm]
@[simp ↓] theorem wp_buildSlice {t:TypeId} {n:Nat} {ps:Array (Nat×Operand)}:wpO E id T hs (.buildSlice t n ps) K=(hs.H.get id=none/\ok (zY E.P false T hs id t n ps) fun r=>K r.1 r.2):=by
  rw[z97 rfl rfl];rfl
@[simp ↓] theorem zyg {t:TypeId} {l c:Operand}:wpO E id T hs (.makeSlice t l c) K=(hs.H.get id=none/\ok (zar E.P T hs id t l c) fun r=>K r.1 r.2):=by
  rw[z97 rfl rfl];rfl
@[simp ↓] theorem z7h {t:TypeId}:wpO E id T hs (.makeMap t none) K=(hs.H.get id=none/\K (.map id) (hs.put id (.mp []))):=by
  rw[z97 rfl rfl];show (_/\ok (gd true (some (V.map id,hs.put id (.mp [])))) _)=_;simp only[zbR,zm]
@[simp ↓] theorem zDN {t:TypeId} {a x:Operand}:wpO E id T hs (.store t a x) K=(hs.H.get id=none/\ok (ti E.P t) fun i=>ok (zk T a) fun p=>ok (zk T x) fun v=>ok (ze6 i hs p v) fun hs'=>K undefV hs'):=by
  rw[zKb rfl rfl];show (_/\ok (zaB E.P T hs t a x) _)=_;simp only[zaB,zab,zm]
@[simp ↓] theorem zyf {t:TypeId} {m k x:Operand}:wpO E id T hs (.mapUpdate t m k x) K=(hs.H.get id=none/\ok (zbh E.P T hs t m k x) fun r=>K r.1 r.2):=by
  rw[zKb rfl rfl];rfl
@[simp ↓] theorem zGJ {x:Operand} {xs:Array Operand} {ts:Array TypeId}:wpO E id T hs (.call ⟨.value x,xs,ts⟩) K=(hs.H.get id=none/\ok (zk T x) fun v=>ok (funcOf v) fun p=>ok (za6 T xs.toList) fun vs=>ok (E.con p.1 (zbt vs p.2) hs) fun r=>K r.1 r.2):=(rfl)
@[simp ↓] theorem zJZ {xs:Array Operand} {ts:Array TypeId}:wpO E id T hs (.call ⟨.builtin .len,xs,ts⟩) K=ok (za6 T xs.toList) fun vs=>ok (zgc E.P hs ts.toList vs) fun r=>K r.1 r.2:=by
  show ((zt (.call ⟨.builtin .len,xs,ts⟩)≠0->_)/\_)=_;rw[show zt (.call ⟨.builtin .len,xs,ts⟩)=0 from rfl,zjQ,true_and];rfl
@[simp ↓] theorem zJX {xs:Array Operand} {ts:Array TypeId}:wpO E id T hs (.call ⟨.builtin .min,xs,ts⟩) K=ok (za6 T xs.toList) fun vs=>ok (zbN hs true vs) fun r=>K r.1 r.2:=by
  show ((zt (.call ⟨.builtin .min,xs,ts⟩)≠0->_)/\_)=_;rw[show zt (.call ⟨.builtin .min,xs,ts⟩)=0 from rfl,zjQ,true_and];rfl
@[simp ↓] theorem zJY {xs:Array Operand} {ts:Array TypeId}:wpO E id T hs (.call ⟨.builtin .max,xs,ts⟩) K=ok (za6 T xs.toList) fun vs=>ok (zbN hs false vs) fun r=>K r.1 r.2:=by
  show ((zt (.call ⟨.builtin .max,xs,ts⟩)≠0->_)/\_)=_;rw[show zt (.call ⟨.builtin .max,xs,ts⟩)=0 from rfl,zjQ,true_and];rfl
@[simp ↓] theorem z96 {xs:Array Operand} {ts:Array TypeId}:wpO E id T hs (.call ⟨.builtin .append,xs,ts⟩) K=(hs.H.get id=none/\ok (za6 T xs.toList) fun vs=>ok (zcE E.P hs id ts.toList vs) fun r=>K r.1 r.2):=by
  show ((zt (.call ⟨.builtin .append,xs,ts⟩)≠0->_)/\_)=_;rw[show zt (.call ⟨.builtin .append,xs,ts⟩)=2 from rfl,zvx];rfl
@[simp ↓] theorem zGI {xs:Array Operand} {ts:Array TypeId}:wpO E id T hs (.call ⟨.builtin .copy,xs,ts⟩) K=(hs.H.get id=none/\ok (za6 T xs.toList) fun vs=>ok (zeR E.P hs ts.toList vs) fun r=>K r.1 r.2):=by
  show ((zt (.call ⟨.builtin .copy,xs,ts⟩)≠0->_)/\_)=_;rw[show zt (.call ⟨.builtin .copy,xs,ts⟩)=2 from rfl,zvx];rfl
attribute [simp ↓] zvp zou
@[congr] theorem zGt {c c' A B:Prop} (h:c=c'):br c A B=br c' A B:=by rw[h]
@[congr] theorem zFc {α:Type} {x y:Option α} {K:α->Prop} (h:x=y):ok x K=ok y K:=by rw[h]
@[congr] theorem zGC {rd:Bool} {s:SC} {T T':PT V} {hs hs':HS} {Q:Ex->PT V->HS->Prop} (h1:T=T') (h2:hs=hs'):Js E rd sz s T hs Q=Js E rd sz s T' hs' Q:=by rw[h1,h2]
@[congr] theorem z3z {P:Program} {fn:Func} {K:V->HS->Prop} {ex ex':Ex} {T T':PT V} {hs hs':HS} (h0:ex=ex') (h1:T=T') (h2:hs=hs'):Leaves P fn K ex T hs=Leaves P fn K ex' T' hs':=by rw[h0,h1,h2]
@[congr] theorem zFe {α β:Type} {x y:Option α} {f:α->Option β} (h:x=y):ob x f=ob y f:=by rw[h]
@[congr] theorem zFG {β:Type} {c d:Bool} {x:Option β} (h:c=d):gd c x=gd d x:=by rw[h]
@[congr] theorem zAL {α β:Type} {z:β} {f:α->β} {x y:Option α} (h:x=y):orc z f x=orc z f y:=by rw[h]
@[congr] theorem zGy {α:Type} {c d:Bool} {x y:α} (h:c=d):bi c x y=bi d x y:=by rw[h]
@[simp] theorem zNu {α:Type} {p:Prop} [Decidable p] {x y:α}:bi (decide p) x y=if p then x else y:=by rw[zal];simp
@[simp ↓] theorem zAM {α:Type} (a:α) (K:α->Prop):ok (some a) K=K a:=zm a K
@[simp ↓] theorem zHQ {α β:Type} (x:Option α) (f:α->Option β) (K:β->Prop):ok (ob x f) K=ok x fun a=>ok (f a) K:=zab x f K
@[simp ↓] theorem zHR {α:Type} (c:Bool) (x:Option α) (K:α->Prop):ok (gd c x) K=(c=true/\ok x K):=zct c x K
@[simp ↓] theorem zAX {α β:Type} (a:α) (f:α->Option β):ob (some a) f=f a:=(rfl)
@[simp ↓] theorem zB0 {β:Type} (x:Option β):gd true x=x:=(rfl)
@[simp ↓] theorem z7R {α β:Type} (z:β) (f:α->β) (a:α):orc z f (some a)=f a:=(rfl)
@[simp ↓] theorem zDl {α:Type} (x y:α):bi true x y=x:=(rfl)
@[simp ↓] theorem z9p {α:Type} (x y:α):bi false x y=y:=(rfl)
@[simp] theorem zCv {t:Tmp}:zk T (.tmp t)=T.get t:=(rfl)
@[simp] theorem z5V {v:Value}:zk T (.const v)=zc8 v:=(rfl)
@[simp] theorem z8D {f:FuncId}:zk T (.func f)=some (.func f []):=(rfl)
@[simp] theorem zyD {b:Bool}:zc8 (.bool b)=some (.bool b):=(rfl)
@[simp] theorem z4D {k:IntKind} {n:Int}:zc8 (.int k n)=some (.int k n):=(rfl)
@[simp] theorem z4C {s:ByteArray}:zc8 (.string s)=some (.str (bytesOf s)):=(rfl)
@[simp] theorem zvD:zc8 (.pointer none)=some .nilptr:=(rfl)
@[simp] theorem zyC:zc8 (.slice none 0 0)=some .snil:=(rfl)
@[simp] theorem zvE:zc8 (.map none)=some .nilmap:=(rfl)
@[simp] theorem zqK:zc8 .nilFunc=some .nilFunc:=(rfl)
@[simp] theorem z5D {b w:Bool}:(V.bool b).guard? w=some b:=(rfl)
@[simp] theorem zyY {w:Bool}:(V.tuple []).guard? w=some (!w):=(rfl)
@[simp] theorem zyX {w:Bool}:undefV.guard? w=some (!w):=(rfl)
@[simp] theorem z9m {b:Bool}:(V.bool b).bool?=some b:=(rfl)
@[simp] theorem zF2 {k:IntKind} {n:Int}:(V.int k n).int?=some (k,n):=(rfl)
@[simp] theorem zBi {k:IntKind} {n:Nat}:(V.int k (n:Int)).nat?=some n:=(rfl)
@[simp] theorem z8d {k:IntKind} {n:Nat}:(V.int k (Int.ofNat n)).nat?=some n:=(rfl)
@[simp] theorem zBh {k:IntKind}:(V.int k 0).nat?=some 0:=(rfl)
@[simp] theorem zFo {k:IntKind}:(V.int k 1).nat?=some 1:=(rfl)
@[simp] theorem zFp {k:IntKind} {n:Nat}:(V.int k (@OfNat.ofNat Int n instOfNat)).nat?=some n:=(rfl)
@[simp] theorem zEj {s:List Nat}:(V.str s).str?=some s:=(rfl)
@[simp] theorem zG3 {s:List V}:(V.agg s).agg?=some s:=(rfl)
@[simp] theorem zyv {s:List V}:(V.tuple s).tuple?=some s:=(rfl)
@[simp] theorem zCV {s:List V}:(V.agg s).cells=s:=(rfl)
@[simp] theorem zCU {k:IntKind} {n:Int}:(V.int k n).cells=[.int k n]:=(rfl)
@[simp] theorem z8Z {b:Bool}:(V.bool b).cells=[.bool b]:=(rfl)
@[simp] theorem zCQ {b:List Nat}:(V.str b).cells=[.str b]:=(rfl)
@[simp] theorem z8Y:V.snil.cells=[.snil]:=(rfl)
@[simp] theorem zGm {es:List (List V)} {t:Bool}:(V.sl es t).cells=[.sl es t]:=(rfl)
@[simp] theorem zCS {a b c d:Nat} {t:Option Nat}:(V.own a b c d t).cells=[.own a b c d t]:=(rfl)
@[simp] theorem zCT {a:Nat}:(V.map a).cells=[.map a]:=(rfl)
@[simp] theorem z3m:(V.nilmap).cells=[.nilmap]:=(rfl)
@[simp] theorem zCR {a b c:Nat}:(V.ptr a b c).cells=[.ptr a b c]:=(rfl)
@[simp] theorem cells_func {f:Nat} {c:List V}:(V.func f c).cells=[.func f c]:=(rfl)
@[simp] theorem zxE:(V.nilFunc).cells=[.nilFunc]:=(rfl)
@[simp] theorem z5F {f:FuncId} {c:List V}:funcOf (.func f c)=some (f,c):=(rfl)
@[simp] theorem zG2:zvQ []=true:=(rfl)
@[simp] theorem zD1 {v:V} {l:List V}:zvQ (v::l)=et v.isCell (zvQ l):=(rfl)
@[simp] theorem z8n {k:IntKind} {n:Int}:(V.int k n).isCell=true:=(rfl)
@[simp] theorem z5s {b:Bool}:(V.bool b).isCell=true:=(rfl)
@[simp] theorem z8j {b:List Nat}:(V.str b).isCell=true:=(rfl)
@[simp] theorem z5q:V.snil.isCell=true:=(rfl)
@[simp] theorem zBp {es:List (List V)} {t:Bool}:(V.sl es t).isCell=true:=(rfl)
@[simp] theorem z8l {a b c d:Nat} {t:Option Nat}:(V.own a b c d t).isCell=true:=(rfl)
@[simp] theorem z8m {a:Nat}:(V.map a).isCell=true:=(rfl)
@[simp] theorem zxk:(V.nilmap).isCell=true:=(rfl)
@[simp] theorem z8k {a b c:Nat}:(V.ptr a b c).isCell=true:=(rfl)
@[simp] theorem z5r {f:Nat} {c:List V}:(V.func f c).isCell=true:=(rfl)
@[simp] theorem zvH:(V.nilFunc).isCell=true:=(rfl)
@[simp] theorem zBn {i:TI} {a g off:Nat}:zgr i hs (.ptr a g off)=ob (zaF hs a g) fun r=>zj5 i r off:=(rfl)
@[simp] theorem zBm {i:TI} {cs:List V}:zgr i hs (.ref cs)=zfG i cs 0:=(rfl)
@[simp] theorem zxw {n a g off:Nat}:zaH n (.ptr a g off)=some (.ptr a g (off+n)):=(rfl)
@[simp] theorem zxv {n:Nat} {cs:List V}:zaH n (.ref cs)=some (.ref (ziy n cs)):=(rfl)
@[simp] theorem zyT {e:TI} {n:Nat} {es:List (List V)} {t:Bool}:zc1 e n (.sl es t)=gd (sizes e.size es) (ob (zeJ es n) fun c=>some (.ref c)):=(rfl)
@[simp] theorem zxo {e:TI} {n a g off len:Nat} {c:Option Nat}:zc1 e n (.own a g off len c)=gd (Nat.blt n len) (some (.ptr a g (off+n*e.size))):=(rfl)
@[simp] theorem z7r {i:TI} {a g off:Nat} {v:V}:ze6 i hs (.ptr a g off) v=bi (isRow hs a) (ob (zaV v hs) fun r=>zbg i a g off r.1 r.2) (zbg i a g off v hs):=(rfl)
@[simp] theorem zG0 {s g:Nat} {es:List (List V)} {a b c:Bool}:(Obj.arr s g es a b c).arr?=some (s,g,es,a,b,c):=(rfl)
@[simp] theorem zKH {es:List (V×V)}:(Obj.mp es).mp?=some es:=(rfl)
@[simp] theorem zOh {o:Obj} {k:Nat}:(hs.put k o).n=hs.n:=(rfl)
@[simp] theorem wr_n {o:Obj} {k:Nat}:(hs.wr k o).n=hs.n:=(rfl)
@[simp] theorem zJC {n:Nat} {e:TypeId}:zp7 (.array n e)=some e:=(rfl)
@[simp] theorem zxj {n:Nat} {e:TypeId}:zat (.array n e)=false:=(rfl)
@[simp] theorem z8q {n:Nat} {e:TypeId}:zbo (.array n e)=true:=(rfl)
@[simp] theorem zC9 {e:TypeId}:elemOf (.slice e)=some (e,none):=(rfl)
@[simp] theorem z8N {n:Nat} {e:TypeId}:elemOf (.array n e)=some (e,some n):=(rfl)
@[simp] theorem zBw {e:TI} {n:Nat} {v:V}:z8x none e n v=zc1 e n v:=(rfl)
@[simp] theorem zBv {k:Nat} {e:TI} {n:Nat} {v:V}:z8x (some k) e n v=gd (Nat.blt n k) (zaH (n*e.size) v):=(rfl)
@[simp] theorem z7x {e:TypeId}:zb8 (.slice e)=some e:=(rfl)
@[simp] theorem zFv {k e:TypeId}:mapOf (.map k e)=some (k,e):=(rfl)
@[simp] theorem zGx {P:Program} {b:BinOp} {t:TypeId} {k k':IntKind} {m n:Int}:z3t P b t (.int k m) (.int k' n)=bi (zaL b) (zkq b k m n) (gd (zhi k k') (arith b k m n)):=(rfl)
@[simp] theorem z4Z {k:IntKind}:zhi k k=true:=by cases k<;>rfl
@[simp] theorem zGw {P:Program} {b:BinOp} {t:TypeId} {m n:List Nat}:z3t P b t (.str m) (.str n)=zkg b m n:=(rfl)
@[simp] theorem zDj {P:Program} {b:BinOp} {t:TypeId} {m n:Bool}:z3t P b t (.bool m) (.bool n)=zgU P b t (.bool m) (.bool n):=(rfl)
end
@[simp] theorem zAW {α β:Type} (a:α) (f:α->Option β):ob (some a) f=f a:=(rfl)
@[simp] theorem zAY {α β:Type} (f:α->Option β):ob none f=none:=(rfl)
@[simp] theorem zBz {β:Type} (x:Option β):gd true x=x:=(rfl)
@[simp] theorem z88 {β:Type} (x:Option β):gd false x=none:=(rfl)
@[simp] theorem zDk {α:Type} (x y:α):bi true x y=x:=(rfl)
@[simp] theorem z9o {α:Type} (x y:α):bi false x y=y:=(rfl)
@[simp] theorem z7Q {α β:Type} (z:β) (f:α->β) (a:α):orc z f (some a)=f a:=(rfl)
@[simp] theorem z7S {α β:Type} (z:β) (f:α->β):orc z f none=z:=(rfl)
@[simp] theorem z81 {α:Type} (n:Nat):(PT.leaf:PT α).get n=none:=(rfl)
@[simp] theorem zm1 {T:PT V}:za6 T []=some []:=(rfl)
@[simp] theorem zle {T:PT V} (o:Operand) (l:List Operand):za6 T (o::l)=ob (zk T o) fun v=>ob (za6 T l) fun r=>some (v::r):=(rfl)
attribute [simp] zm zab zct PT.set_get za8 ze0 zz zbM zcq zcv zaS zlV zma zei
@[simp] theorem z6G {a b:Nat}:Nat.beq a b=decide (a=b):=by rw[Bool.eq_iff_iff];simp
@[simp] theorem zJ8 {a b:Nat}:Nat.ble a b=decide (a<=b):=by rw[Bool.eq_iff_iff];simp
@[simp] theorem zJ6 {a b:Nat}:Nat.blt a b=decide (a<b):=by rw[Bool.eq_iff_iff,J.blt_true];simp
@[simp ↓] theorem z3U {K:PT V->HS->Prop} {Q:Ex->PT V->HS->Prop} {T:PT V} {hs:HS}:Ex.then K Q .normal T hs=K T hs:=(rfl)
@[simp ↓] theorem zEg {K:PT V->HS->Prop} {Q:Ex->PT V->HS->Prop} {T:PT V} {hs:HS}:Ex.then K Q .ret T hs=Q .ret T hs:=(rfl)
@[simp ↓] theorem z9R {i:Nat} {K:PT V->HS->Prop} {Q:Ex->PT V->HS->Prop} {T:PT V} {hs:HS}:Ex.then K Q (.exit i) T hs=Q (.exit i) T hs:=(rfl)
@[simp ↓] theorem z9n {id:Nat} {Q:Ex->PT V->HS->Prop} {T:PT V} {hs:HS}:Ex.inBlock id Q .normal T hs=Q .normal T hs:=(rfl)
@[simp ↓] theorem zJ7 {id:Nat} {Q:Ex->PT V->HS->Prop} {T:PT V} {hs:HS}:Ex.inBlock id Q .ret T hs=Q .ret T hs:=(rfl)
@[simp ↓] theorem zGv {id i:Nat} {Q:Ex->PT V->HS->Prop} {T:PT V} {hs:HS}:Ex.inBlock id Q (.exit i) T hs=if i=id then Q .normal T hs else Q (.exit i) T hs:=(rfl)
@[simp] theorem zEv {P:Program} {T:PT V} {hs:HS}:zpC P T hs []=some []:=(rfl)
@[simp] theorem zEu {P:Program} {T:PT V} {hs:HS} {t:Tmp} {l:List ResultVar}:zpC P T hs (.tmp t::l)=ob (T.get t) fun v=>ob (zpC P T hs l) fun r=>some (v::r):=(rfl)
@[simp] theorem zAt {P:Program} {T:PT V} {hs:HS} {a:Tmp} {t:TypeId} {l:List ResultVar}:zpC P T hs (.cell a t::l)=ob (ob (ti P t) fun i=>ob (T.get a) fun p=>zgr i hs p) fun v=>ob (zpC P T hs l) fun r=>some (v::r):=(rfl)
@[simp] theorem z7p {v:V}:ze2 [v]=v:=(rfl)
@[simp] theorem z7o {v u:V} {l:List V}:ze2 (v::u::l)=.tuple (v::u::l):=(rfl)
attribute [simp] zjd zf4
attribute [simp] zpm zjy zhe zra zeV
@[simp] theorem zJj {a b:Int}:eqI a b=decide (a=b):=by rw[Bool.eq_iff_iff,eqI_true];simp
@[simp] theorem z5p:zaL .add=false:=(rfl)
@[simp] theorem z5d:zaL .sub=false:=(rfl)
@[simp] theorem z5i:zaL .mul=false:=(rfl)
@[simp] theorem z5g:zaL .quo=false:=(rfl)
@[simp] theorem z5f:zaL .rem=false:=(rfl)
@[simp] theorem z5n:zaL .eql=false:=(rfl)
@[simp] theorem z5h:zaL .neq=false:=(rfl)
@[simp] theorem z5j:zaL .lss=false:=(rfl)
@[simp] theorem z5k:zaL .leq=false:=(rfl)
@[simp] theorem z5l:zaL .gtr=false:=(rfl)
@[simp] theorem z5m:zaL .geq=false:=(rfl)
@[simp] theorem z5o:zaL .and=false:=(rfl)
@[simp] theorem z8i:zaL .or=false:=(rfl)
@[simp] theorem z5c:zaL .xor=false:=(rfl)
section
variable {k:IntKind}{a b:Int}{hs:HS}{P:Program}{T:PT V}
@[simp] theorem zDx:arith .add k a b=some (.int k (zeW k (a+b))):=(rfl)
@[simp] theorem zDm:arith .sub k a b=some (.int k (zeW k (a-b))):=(rfl)
@[simp] theorem zDq:arith .mul k a b=some (.int k (zeW k (a*b))):=(rfl)
@[simp] theorem zDo:arith .quo k a b=gd (nt (eqI b 0)) (some (.int k (zeW k (a.tdiv b)))):=(rfl)
@[simp] theorem zDn:arith .rem k a b=gd (nt (eqI b 0)) (some (.int k (a.tmod b))):=(rfl)
@[simp] theorem zDv:arith .eql k a b=some (.bool (eqI a b)):=(rfl)
@[simp] theorem zDp:arith .neq k a b=some (.bool (nt (eqI a b))):=(rfl)
@[simp] theorem zDr:arith .lss k a b=some (.bool (ltI a b)):=(rfl)
@[simp] theorem zDs:arith .leq k a b=some (.bool (leI a b)):=(rfl)
@[simp] theorem zDt:arith .gtr k a b=some (.bool (ltI b a)):=(rfl)
@[simp] theorem z5e:zaL .shr=true:=(rfl)
@[simp] theorem z7z:zkq .shr k a b=ob (z4R b) fun m=>some (.int k (a.fdiv (2 ^ min m k.bits))):=(rfl)
@[simp] theorem zDw:arith .and k a b=some (.int k (zxW k a b)):=(rfl)
@[simp] theorem zDu:arith .geq k a b=some (.bool (leI b a)):=(rfl)
@[simp] theorem zAd {x y:List Nat}:zkg .eql x y=some (.bool (zop x y)):=(rfl)
@[simp] theorem zAa {x y:List Nat}:zkg .neq x y=some (.bool (nt (zop x y))):=(rfl)
@[simp] theorem zAb {x y:List Nat}:zkg .lss x y=some (.bool (zxc x y)):=(rfl)
@[simp] theorem zAc {x y:List Nat}:zkg .gtr x y=some (.bool (bi (zxc x y) false (nt (zop x y)))):=(rfl)
@[simp] theorem z4A {t:TypeId} {x y:V}:zgU P .eql t x y=ob (eqV P t x y) fun b=>some (.bool b):=(rfl)
@[simp] theorem z4z {t:TypeId} {x y:V}:zgU P .neq t x y=ob (eqV P t x y) fun b=>some (.bool (nt b)):=(rfl)
@[simp] theorem zFP {x y:V}:eqD .bool x y=ob x.bool? fun a=>ob y.bool? fun b=>some (zdm a b):=(rfl)
@[simp] theorem zCz {e:TypeId} {x y:V}:eqD (.slice e) x y=zhy (zwX x) (zwX y):=(rfl)
@[simp] theorem zJk {e f:TypeId} {x y:V}:eqD (.map e f) x y=zhy (zyG x) (zyG y):=(rfl)
@[simp] theorem z5W {e:TypeId} {x y:V}:eqD (.pointer e) x y=zhy (zwY x) (zwY y):=(rfl)
@[simp] theorem zFO {a b:Array TypeId} {c:Bool} {x y:V}:eqD (.func a b c) x y=zhy (zyH x) (zyH y):=(rfl)
@[simp] theorem zBc:zwX .snil=some true:=(rfl)
@[simp] theorem zFf {a b c d:Nat} {e:Option Nat}:zwX (.own a b c d e)=some false:=(rfl)
@[simp] theorem zHX {e:List V} {l:List (List V)} {t:Bool}:zwX (.sl (e::l) t)=some false:=(rfl)
@[simp] theorem zFj:zyG .nilmap=some true:=(rfl)
@[simp] theorem zFk {i:Nat}:zyG (.map i)=some false:=(rfl)
@[simp] theorem zFi:zwY .nilptr=some true:=(rfl)
@[simp] theorem zFh {i g o:Nat}:zwY (.ptr i g o)=some false:=(rfl)
@[simp] theorem zFg {c:List V}:zwY (.ref c)=some false:=(rfl)
@[simp] theorem zFl:zyH .nilFunc=some true:=(rfl)
@[simp] theorem zBd {f:Nat} {c:List V}:zyH (.func f c)=some false:=(rfl)
@[simp] theorem zJi {a b:Option Bool}:zhy a b=ob a fun a=>ob b fun b=>bi a (some b) (bi b (some false) none):=(rfl)
@[simp] theorem zOy {t:TypeId} {x y:V}:eqV P t x y=ob (ti P t) fun i=>eqD i.desc x y:=(rfl)
@[simp] theorem zBy {i g:Nat}:zaF hs i g=ob (hs.H.get i) fun o=>ob o.arr? fun a=>gd (et (Nat.beq g a.2.1) (nt (Nat.beq a.1 0))) (some (a.1,a.2.2)):=(rfl)
@[simp] theorem zF0 {i:Nat}:isRow hs i=orc false (fun o=>orc false (fun a=>a.2.2.2.2.2) o.arr?) (hs.H.get i):=(rfl)
@[simp] theorem zBl {i:TI} {a:Nat×List (List V)×Bool×Bool×Bool} {off:Nat}:zj5 i a off=ob (zeJ a.2.1 (off / a.1)) fun e=>zfG i e (off % a.1):=(rfl)
@[simp] theorem zHN {i:TI} {cs:List V} {off:Nat}:zfG i cs off=bi (zbo i.desc) (zD2 i.size (zgj i.size (ziy off cs))) (zeJ cs off):=(rfl)
@[simp] theorem zNx {n:Nat} {r:List V}:zD2 n r=gd (Nat.beq (zC r) n) (some (.agg r)):=(rfl)
@[simp] theorem z7q {i:TI} {id g off:Nat} {v:V}:zbg i id g off v hs=ob (zaF hs id g) fun a=>gd (nt a.2.2.2.1) (gd (et (zvQ v.cells) (et (Nat.beq (zC v.cells) i.size) (Nat.ble (off % a.1+i.size) a.1)))
 (ob (zeJ a.2.1 (off / a.1)) fun e=>some (hs.wr id (.arr a.1 g (zv8 a.2.1 (off / a.1) (zaI e (off % a.1) v.cells)) a.2.2.1 false a.2.2.2.2)))):=(rfl)
@[simp] theorem zAH {α:Type} (n:Nat) (l:List α):zaI ([]:List α) n l=[]:=(rfl)
@[simp] theorem zvC {α:Type} (x:α) (t:List α):zaI (x::t) 0 []=x::t:=(rfl)
@[simp] theorem zqG {α:Type} (x:α) (t:List α) (y:α) (ys:List α):zaI (x::t) 0 (y::ys)=y::zaI t 0 ys:=(rfl)
@[simp] theorem zoS {α:Type} (x:α) (t:List α) (n:Nat) (l:List α):zaI (x::t) (n+1) l=x::zaI t n l:=(rfl)
@[simp] theorem zIc {ts:List TypeId} {vs:List V}:zgc P hs ts vs=ob (zrg P ts) fun i=>ob (zwN vs) fun x=>ob (zvG hs i.desc x) fun n=>some (.int .i64 (Int.ofNat n),hs):=(rfl)
@[simp] theorem zFs {l:Bool} {vs:List V}:zbN hs l vs=ob (zv7 vs) fun p=>ob p.1.int? fun a=>ob p.2.int? fun b=>some (.int a.1 (bi (bi l (ltI b.2 a.2) (ltI a.2 b.2)) b.2 a.2),hs):=(rfl)
@[simp] theorem z5B {t:TypeId} {l:List TypeId}:zrg P (t::l)=ti P t:=(rfl)
@[simp] theorem zOi {i:Nat} {o:Obj}:(hs.put i o).H=hs.H.set i o:=(rfl)
@[simp] theorem zHA {i:Nat} {o:Obj}:(hs.put i o).log=hs.log:=(rfl)
@[simp] theorem wr_H {i:Nat} {o:Obj}:(hs.wr i o).H=hs.H.set i o:=(rfl)
@[simp] theorem zJW {i:Nat} {o:Obj}:(hs.wr i o).log=i::hs.log:=(rfl)
@[simp] theorem zFb {v:V}:zwN [v]=some v:=(rfl)
@[simp] theorem zEf {v u:V}:zv7 [v,u]=some (v,u):=(rfl)
@[simp] theorem zFx {s:List Nat}:zvG hs .string (.str s)=some (zC s):=(rfl)
@[simp] theorem zBo {e:TypeId}:zvG hs (.slice e) .snil=some 0:=(rfl)
@[simp] theorem zId {e:TypeId} {es:List (List V)} {t:Bool}:zvG hs (.slice e) (.sl es t)=some (zC es):=(rfl)
@[simp] theorem zFy {e:TypeId} {i g o n:Nat} {c:Option Nat}:zvG hs (.slice e) (.own i g o n c)=some n:=(rfl)
@[simp] theorem z4Y {k e:TypeId}:zvG hs (.map k e) .nilmap=some 0:=(rfl)
@[simp] theorem zFz {k e:TypeId} {i:Nat}:zvG hs (.map k e) (.map i)=ob (hs.H.get i) fun o=>ob o.mp? fun es=>some (zC es):=(rfl)
@[simp] theorem zEd {x:Operand}:zjh T hs .not x=ob (zk T x) fun v=>ob v.bool? fun b=>some (.bool (nt b),hs):=(rfl)
@[simp] theorem zEe {x:Operand}:zjh T hs .neg x=ob (zk T x) fun v=>ob v.int? fun p=>some (.int p.1 (zeW p.1 (0-p.2)),hs):=(rfl)
@[simp] theorem zCO {v:V}:zmA (.int k) v=ob v.int? fun p=>some (.int k (zeW k p.2)):=(rfl)
@[simp] theorem zCN {v:V}:zmA .string v=ob v.str? fun s=>some (.str s):=(rfl)
@[simp] theorem z7X {i g o:Nat}:notNil (.ptr i g o)=true:=(rfl)
@[simp] theorem z7W {c:List V}:notNil (.ref c)=true:=(rfl)
@[simp] theorem z4H {f:Nat} {c:List V}:notNil (.func f c)=true:=(rfl)
@[simp] theorem zBs:zbo (.int k)=false:=(rfl)
@[simp] theorem z8p:zbo .bool=false:=(rfl)
@[simp] theorem zBq:zbo .string=false:=(rfl)
@[simp] theorem z5u {e:TypeId}:zbo (.slice e)=false:=(rfl)
@[simp] theorem zBr {e f:TypeId}:zbo (.map e f)=false:=(rfl)
@[simp] theorem zxl {e:TypeId}:zbo (.pointer e)=false:=(rfl)
@[simp] theorem z8o {e f:Array TypeId} {c:Bool}:zbo (.func e f c)=false:=(rfl)
@[simp] theorem zDH {n:Int} {r:V}:Gives r (.int k n) hs=(.int k n=r):=by show (some (V.int k n)=some r)=_;simp
@[simp] theorem z9w {b:Bool} {r:V}:Gives r (.bool b) hs=(.bool b=r):=by show (some (V.bool b)=some r)=_;simp
@[simp] theorem zDF {b:List Nat} {r:V}:Gives r (.str b) hs=(.str b=r):=by show (some (V.str b)=some r)=_;simp
end
section
variable {P:Program}{T:PT V}{hs:HS}{id:Nat}
@[simp] theorem zEq {n b:Nat}:zcJ n b=decide (n*b<=1048576):=by show Nat.ble _ _=_;simp
@[simp] theorem zxb {t:TypeId} {l c:Operand}:zar P T hs id t l c=ob (ti P t) fun i=>ob (zk T l) fun a=>ob (zk T c) fun b=>zbO P i hs id a b:=(rfl)
@[simp] theorem z4W {i:TI} {l c:V}:zbO P i hs id l c=ob (zb8 i.desc) fun el=>ob (ti P el) fun e=>ob l.nat? fun l=>ob c.nat? fun c =>
 gd (et (Nat.ble l c) (et (zcJ c e.bytes) (et (Nat.ble (c*e.size) 1048576) (et (nt (Nat.beq e.size 0)) (et (Nat.beq (zC e.zero) e.size) (zo0 e.zero))))))
  (some (.own id 0 0 l (some c),hs.put id (.arr e.size 0 (z7F e.zero c) true false true))):=(rfl)
@[simp] theorem zxN {n:Nat} {cells:List V}:zcl T n [] cells=some cells:=(rfl)
@[simp] theorem zvN {n k:Nat} {o:Operand} {l:List (Nat×Operand)} {cells:List V}:zcl T n ((k,o)::l) cells=ob (zk T o) fun v=>gd (et (Nat.beq (zC v.cells) n) (Nat.ble (k*n+n) (zC cells))) (zcl T n l (zaI cells (k*n) v.cells)):=(rfl)
@[simp] theorem z3s {i:TI} {cells:List V}:zdA P T i [] cells=some cells:=(rfl)
@[simp] theorem zxM {i:TI} {k:Nat} {o:Operand} {l:List (Nat×Operand)} {cells:List V}:zdA P T i ((k,o)::l) cells=ob (zi i k) fun fd=>ob (ti P fd.type) fun fi=>ob (zk T o) fun v =>
 gd (et (Nat.beq (zC v.cells) fi.size) (Nat.ble (fd.offset+fi.size) (zC cells))) (zdA P T i l (zaI cells fd.offset v.cells)):=(rfl)
@[simp] theorem zy8 {dr:Bool} {e:TI} {len:Nat} {es:List (List V)}:zdc dr T e len [] hs es=some (es,hs):=(rfl)
@[simp] theorem zwI {dr:Bool} {e:TI} {len k:Nat} {o:Operand} {l:List (Nat×Operand)} {es:List (List V)}:zdc dr T e len ((k,o)::l) hs es=ob (zk T o) fun v=>ob (zeg dr v hs) fun r =>
 gd (et (Nat.beq (zC r.1.cells) e.size) (Nat.blt k len)) (zdc dr T e len l r.2 (zv8 es k r.1.cells)):=(rfl)
@[simp] theorem z3l {v:V}:zeg false v hs=zaV v hs:=(rfl)
@[simp] theorem z6s {v:V}:zeg true v hs=gd v.pure (some (v,hs)):=(rfl)
@[simp] theorem zvM {dr:Bool} {t:TypeId} {len:Nat} {ps:Array (Nat×Operand)}:zY P dr T hs id t len ps=ob (ti P t) fun i=>ob (zb8 i.desc) fun el=>ob (ti P el) fun e =>
 gd (et (Nat.ble (len*e.size) 1048576) (et (nt (Nat.beq e.size 0)) (et (Nat.beq (zC e.zero) e.size) (zo0 e.zero))))
  (ob (zdc dr T e len ps.toList hs (z7F e.zero len)) fun r=>some (bi (Nat.beq e.bytes 128) (.own id 0 0 len (some len)) (.sl r.1 true),r.2.put id (bi (Nat.beq e.bytes 128) (.arr e.size 0 r.1 true false true) (.mp [])))):=(rfl)
@[simp] theorem z6c {t:TypeId} {l:List TypeId}:zlk P (t::l)=ob (ti P t) fun i=>ob (zb8 i.desc) fun el=>ti P el:=(rfl)
@[simp] theorem zyQ {t u:TypeId}:zbY [t,u]=some u:=(rfl)
@[simp] theorem z9t {ts:List TypeId} {vs:List V}:zcE P hs id ts vs=ob (zv7 vs) fun p=>ob (zlk P ts) fun e=>ob (zbY ts) fun u=>ob (ti P u) fun j=>ob (zb8 j.desc) fun _=>zd2 e hs id p.1 p.2:=(rfl)
@[simp] theorem append_nil {e:TI} {x:V}:zd2 e hs id .snil x=ob (zcN hs e.size x) fun new=>gd (et (sizes e.size new) (et (zI new) (et (nt (Nat.beq e.size 0)) (et (nt (Nat.beq e.bytes 0)) (Nat.beq (zC e.zero) e.size))))) (zej e hs id new):=(rfl)
@[simp] theorem zDy {e:TI} {es:List (List V)} {t:Bool} {x:V}:zd2 e hs id (.sl es t) x=ob (zcN hs e.size x) fun new=>gd (et (sizes e.size new) (et (zI new) (et (nt (Nat.beq e.size 0)) (et (nt (Nat.beq e.bytes 0)) (Nat.beq (zC e.zero) e.size))))) (zf2 e hs id es t new):=(rfl)
@[simp] theorem z9r {e:TI} {i g o n:Nat} {c:Option Nat} {x:V}:zd2 e hs id (.own i g o n c) x=ob (zcN hs e.size x) fun new=>gd (et (sizes e.size new) (et (zI new) (et (nt (Nat.beq e.size 0)) (et (nt (Nat.beq e.bytes 0)) (Nat.beq (zC e.zero) e.size))))) (zdn e hs id i g o n c new):=(rfl)
@[simp] theorem z6M {e:TI} {new:List (List V)}:zej e hs id new=bi (Nat.beq (zC new) 0) (some (.snil,hs)) (gd (zcJ (zC new) e.bytes) (zdQ e hs id (zC new) new)):=(rfl)
@[simp] theorem z9s {e:TI} {es new:List (List V)} {t:Bool}:zf2 e hs id es t new=bi (Nat.beq (zC new) 0) (some (.sl es t,hs)) (gd (et t (et (zcJ (zC es+zC new) e.bytes) (sizes e.size es))) (zdQ e hs id (zC es+zC new) (zbt es new))):=(rfl)
@[simp] theorem zHY {e:TI} {n:Nat} {es:List (List V)}:zdQ e hs id n es=some (.own id 0 0 n none,hs.put id (.arr e.size 0 es false false true)):=(rfl)
@[simp] theorem zvP {e:TI} {i g o n:Nat} {new:List (List V)}:zdn e hs id i g o n none new=ob (zaF hs i g) fun a=>gd (et a.2.2.2.2 (et (Nat.beq a.1 e.size) (et (Nat.beq (o % a.1) 0) (zcJ (n+zC new) e.bytes))))
 (bi (Nat.ble (o / a.1+n+zC new) (zC a.2.1)) (zcy hs i g o n none a new)
     (gd (et (nt a.2.2.2.1) (et (Nat.beq o 0) (Nat.ble n (zC a.2.1)))) (some (.own i (g+1) 0 (n+zC new) none,hs.wr i (.arr a.1 (g+1) (zbt (zgj n a.2.1) new) false false true))))):=(rfl)
@[simp] theorem zvO {e:TI} {i g o n c:Nat} {new:List (List V)}:zdn e hs id i g o n (some c) new=ob (zaF hs i g) fun a=>gd (et a.2.2.2.2 (et (Nat.beq a.1 e.size) (et (Nat.beq (o % a.1) 0) (zcJ (n+zC new) e.bytes))))
 (bi (Nat.ble (n+zC new) c) (zcy hs i g o n (some c) a new) (ob (zd8 a.1 o n a.2.1) fun old=>zdQ e hs id (n+zC new) (zbt old new))):=(rfl)
@[simp] theorem z9u {i g o n:Nat} {c:Option Nat} {a:Nat×List (List V)×Bool×Bool×Bool} {new:List (List V)}:zcy hs i g o n c a new=gd (et (nt a.2.2.2.1) (Nat.ble (o / a.1+n+zC new) (zC a.2.1)))
 (some (.own i g o (n+zC new) c,hs.wr i (.arr a.1 g (zaI a.2.1 (o / a.1+n) new) a.2.2.1 false a.2.2.2.2))):=(rfl)
@[simp] theorem zGh {size off len:Nat} {es:List (List V)}:zd8 size off len es=gd (et (Nat.beq (off % size) 0) (Nat.ble (off / size+len) (zC es))) (some (zgj len (ziy (off / size) es))):=(rfl)
@[simp] theorem z6b {n:Nat}:zcN hs n .snil=some []:=(rfl)
@[simp] theorem zC8 {n:Nat} {es:List (List V)} {t:Bool}:zcN hs n (.sl es t)=some es:=(rfl)
@[simp] theorem z8M {n i g o k:Nat} {c:Option Nat}:zcN hs n (.own i g o k c)=ob (zaF hs i g) fun a=>gd (et a.2.2.2.2 (Nat.beq a.1 n)) (zd8 a.1 o k a.2.1):=(rfl)
@[simp] theorem zGj {ts:List TypeId} {vs:List V}:zeR P hs ts vs=ob (zv7 vs) fun p=>ob (zlk P ts) fun e=>ob (zbY ts) fun _=>zm9 e hs p.1 p.2:=(rfl)
@[simp] theorem zCM {e:TI} {i g o n:Nat} {c:Option Nat} {x:V}:zm9 e hs (.own i g o n c) x=ob (zcN hs e.size x) fun src=>zhJ e hs i g o n src:=(rfl)
@[simp] theorem zCL {e:TI} {i g o n:Nat} {src:List (List V)}:zhJ e hs i g o n src=ob (zaF hs i g) fun a=>gd (et (nt a.2.2.2.1) (et a.2.2.2.2 (et (Nat.beq a.1 e.size) (et (Nat.beq (o % a.1) 0) (et (sizes e.size src) (et (zI src) (Nat.ble (o / a.1+zvF (zC src) n) (zC a.2.1))))))))
 (some (.int .i64 (Int.ofNat (zvF (zC src) n)),hs.wr i (.arr a.1 g (zaI a.2.1 (o / a.1) (zgj (zvF (zC src) n) src)) a.2.2.1 false true))):=(rfl)
@[simp] theorem zKJ {a b:Nat}:zvF a b=min a b:=by unfold zvF;rw[zal];simp only[ble_true];split<;>omega
@[simp] theorem zEL {v:V}:zaV v hs=ob (zaP hs v) fun v'=>some (v',zaG hs v.cells):=(rfl)
@[simp] theorem z7u {l:List V}:zaP hs (.agg l)=ob (zc5 hs l) fun l=>some (.agg l):=(rfl)
@[simp] theorem zyx:zc5 hs []=some []:=(rfl)
@[simp] theorem zwn {v:V} {l:List V}:zc5 hs (v::l)=ob (zbn hs v) fun v'=>ob (zc5 hs l) fun l'=>some (v'::l'):=(rfl)
@[simp] theorem zy0 {i g o n:Nat} {c:Option Nat}:zbn hs (.own i g o n c)=ob (zaF hs i g) fun a=>gd a.2.2.2.2 (ob (zd8 a.1 o n a.2.1) fun l=>some (.sl l false)):=(rfl)
@[simp] theorem z7w {k:IntKind} {n:Int}:zbn hs (.int k n)=some (.int k n):=(rfl)
@[simp] theorem z4c {b:Bool}:zbn hs (.bool b)=some (.bool b):=(rfl)
@[simp] theorem z7v {b:List Nat}:zbn hs (.str b)=some (.str b):=(rfl)
@[simp] theorem zAf {es:List (List V)} {b:Bool}:zbn hs (.sl es b)=some (.sl es b):=(rfl)
@[simp] theorem z4b:zbn hs .snil=some .snil:=(rfl)
@[simp] theorem zxr:zaG hs []=hs:=(rfl)
@[simp] theorem zvK {v:V} {l:List V}:zaG hs (v::l)=zaN (zaG hs l) v:=(rfl)
@[simp] theorem z5I {i g o n:Nat} {c:Option Nat}:zaN hs (.own i g o n c)=zM hs i:=(rfl)
@[simp] theorem z5J {k:IntKind} {n:Int}:zaN hs (.int k n)=hs:=(rfl)
@[simp] theorem zza {b:Bool}:zaN hs (.bool b)=hs:=(rfl)
@[simp] theorem z5H {b:List Nat}:zaN hs (.str b)=hs:=(rfl)
@[simp] theorem z8B {es:List (List V)} {b:Bool}:zaN hs (.sl es b)=hs:=(rfl)
@[simp] theorem zyZ:zaN hs .snil=hs:=(rfl)
@[simp] theorem z5G {i:Nat}:zM hs i=orc hs (fun o=>orc hs (fun a=>hs.wr i (.arr a.1 a.2.1 a.2.2.1 a.2.2.2.1 true a.2.2.2.2.2)) o.arr?) (hs.H.get i):=(rfl)
theorem zjv {α:Type}:∀ (l:List α) (n:Nat) (m:List α),n<=l.length->n+m.length<=l.length->zaI l n m=l.take n++(m++l.drop (n+m.length)):=by
 intro l
 induction l with
 | nil =>
   simp_all
 | cons x l ih =>
   intro n m hn hm
   cases n with
   | zero =>
     cases m with
     |nil=>simp
     | cons y m =>
       simp_all
   | succ n =>
     grind [zoS,Nat.add_right_comm]
@[simp] theorem zAi {n:Nat}:sizes n []=true:=(rfl)
@[simp] theorem z7y {n:Nat} {x:List V} {l:List (List V)}:sizes n (x::l)=et (Nat.beq (zC x) n) (sizes n l):=(rfl)
@[simp] theorem z3y:zI []=true:=(rfl)
@[simp] theorem zya {x:List V} {l:List (List V)}:zI (x::l)=et (zvQ x) (zI l):=(rfl)
end
section
variable {hs:HS}{r:V}
@[simp] theorem zDG {i g o n:Nat} {c:Option Nat}:Gives r (.own i g o n c) hs=(zbn hs (.own i g o n c)=some r):=(rfl)
@[simp] theorem zDI {l:List V}:Gives r (.agg l) hs=((ob (zc5 hs l) fun l=>some (V.agg l))=some r):=(rfl)
@[simp] theorem z7c {l:List V}:Gives r (.tuple l) hs=((ob (za1 hs l) fun l=>some (V.tuple l))=some r):=(rfl)
@[simp] theorem zGD {es:List (List V)} {t:Bool}:Gives r (.sl es t) hs=(.sl es t=r):=by show (some (V.sl es t)=some r)=_;simp
@[simp] theorem z9v:Gives r .snil hs=(.snil=r):=by show (some V.snil=some r)=_;simp
@[simp] theorem zyy:za1 hs []=some []:=(rfl)
@[simp] theorem zwo {v:V} {l:List V}:za1 hs (v::l)=ob (zaP hs v) fun v'=>ob (za1 hs l) fun l'=>some (v'::l'):=(rfl)
@[simp] theorem zyz {i g o n:Nat} {c:Option Nat}:zaP hs (.own i g o n c)=zbn hs (.own i g o n c):=(rfl)
@[simp] theorem z7t {k:IntKind} {n:Int}:zaP hs (.int k n)=some (.int k n):=(rfl)
@[simp] theorem z4a {b:Bool}:zaP hs (.bool b)=some (.bool b):=(rfl)
@[simp] theorem z7s {b:List Nat}:zaP hs (.str b)=some (.str b):=(rfl)
@[simp] theorem zAe {es:List (List V)} {b:Bool}:zaP hs (.sl es b)=some (.sl es b):=(rfl)
@[simp] theorem z3Z:zaP hs .snil=some .snil:=(rfl)
end
end Go.J
/- Contracts in use. -/
namespace Go.J
abbrev Spec:=List V->HS->Option (V×HS)
def zk3(s:List V->Option V):Spec:=fun vs hs=>gd (zu vs) (ob (s vs) fun v=>some (v,hs))
def zCP(L:List (Nat×Spec))(f:FuncId)(vs:List V)(hs:HS):Option (V×HS):=lr none (fun p _ ih=>bi (Nat.beq f p.1) (p.2 vs hs) ih) L
def z3i(P:Program)(pol:FuncId->Nat)(L:List (Nat×Spec)):Env:={ P:=P,pol:=pol,con:=zCP L }
structure Valid(ρ:Nat->Value)(P:Program)(f:Nat)(s:Spec):Prop where
 fn:zeT P f
 ok:∀ {vs hs v hs'},s vs hs=some (v,hs')->CallOk ρ P f vs hs v hs'
 kept:∀ {vs hs r},s vs hs=some r->Kept hs r.2
theorem zve(p:Nat×Spec)(L:List (Nat×Spec))(f:FuncId):zCP (p::L) f=if f=p.1 then p.2 else zCP L f:=by
 funext vs hs
 show bi (Nat.beq f p.1) (p.2 vs hs) (zCP L f vs hs)=_
 grind [zal,beq_true]
theorem zf{ρ:Nat->Value}{P:Program}{pol:FuncId->Nat}:∀ {L:List (Nat×Spec)},(∀ p∈L,Valid ρ P p.1 p.2)->ConsOk ρ (z3i P pol L):=by
 intro L h
 have key:∀ (M:List (Nat×Spec)),(∀ p∈M,p∈L)->∀ {f vs hs q},zCP M f vs hs=some q->∃ p∈L,p.1=f/\p.2 vs hs=some q:=by
  intro M
  induction M with
  |nil=>intro _ f vs hs q hq;cases hq
  | cons p M ih =>
    intro hM f vs hs q hq;rw[zve]at hq
    grind
 refine⟨?_,?_,?_⟩
 . intro f vs hs v hs' hq;obtain⟨p,hp,rfl,h2⟩:=key L (fun _ h=>h) hq;exact(h p hp).ok h2
 . intro f vs hs q hq;obtain⟨p,hp,rfl,h2⟩:=key L (fun _ h=>h) hq;exact(h p hp).kept h2
 . intro f vs hs q hq;obtain⟨p,hp,rfl,h2⟩:=key L (fun _ h=>h) hq;exact(h p hp).fn
theorem valid_nil{ρ:Nat->Value}{P:Program}:∀ p∈([]:List (Nat×Spec)),Valid ρ P p.1 p.2:=fun p h=>by cases h
theorem za{ρ:Nat->Value}{P:Program}{f:Nat}{s:Spec}{L:List (Nat×Spec)}(h:Valid ρ P f s)(hl:∀ p∈L,Valid ρ P p.1 p.2):∀ p∈(f,s)::L,Valid ρ P p.1 p.2:=by
 grind
theorem Valid.pure{ρ:Nat->Value}(hρ:Good ρ){P:Program}(hP:P.follows .mixedOrders=true)(hN:zeo P){f:Nat}{s:List V->Option V}(hf:zeT P f)
 (h:∀ vs v,zu vs=true->s vs=some v->∃ E n,ConsOk ρ E/\E.P=P/\zw6 E n f vs=some v):Valid ρ P f (zk3 s) where
 fn:=hf
 ok:=by
  intro vs hs v hs' hq;simp only[zk3,zl,zb]at hq;obtain⟨hp,v',hv,hq⟩:=hq;cases hq;obtain⟨E,n,hc,rfl,hr⟩:=h vs v hp hv;exact zdt hρ hc hP hN hr hp
 kept:=by
  intro vs hs q hq;simp only[zk3,zl,zb]at hq;obtain⟨_,v',_,hq⟩:=hq;cases hq;exact .refl _
theorem zeG{hs:HS}{u v:V}(h:zbn hs u=some v)(hs1:v.scal1=true):u=v:=by
 unfold zbn at h;split at h
 . unfold zdr at h;simp only[zb,zl]at h;obtain⟨_,_,_,_,_,h⟩:=h;cases h;cases hs1
 grind [zl,Option.some.inj]
theorem zlP{hs:HS}:∀ {l m:List V},zc5 hs l=some m->z3v m=true->l=m:=by
 intro l
 induction l with
 |nil=>intro m h _;cases h;rfl
 | cons u l ih =>
   intro m h hm;replace h:(ob (zbn hs u) fun v'=>ob (zc5 hs l) fun l'=>some (v'::l'))=some m:=h;simp only[zb]at h;obtain⟨v,hv,r,hr,h⟩:=h;cases h;replace hm:et v.scal1 (z3v r)=true:=hm
   grind [et_true,zeG]
theorem zlS{hs:HS}{u v:V}(h:zaP hs u=some v)(hs1:v.scal1=true):u=v:=by
 unfold zaP at h;split at h
 . simp only[zb]at h;obtain⟨_,_,h⟩:=h;cases h;cases hs1
 . exact zeG h hs1
theorem zlQ{hs:HS}:∀ {l m:List V},za1 hs l=some m->z3v m=true->l=m:=by
 intro l
 induction l with
 |nil=>intro m h _;cases h;rfl
 | cons u l ih =>
   intro m h hm;replace h:(ob (zaP hs u) fun v'=>ob (za1 hs l) fun l'=>some (v'::l'))=some m:=h;simp only[zb]at h;obtain⟨v,hv,r,hr,h⟩:=h;cases h;replace hm:et v.scal1 (z3v r)=true:=hm
   grind [et_true,zlS]
theorem zo9 {hs:HS} {u v:V} (h:still hs u=some v) (hv:v.scal=true):u=v:=by
 unfold still at h;split at h
 . simp only[zb]at h;obtain⟨l,hl,h⟩:=h;cases h;rw[zlQ hl hv]
 . unfold zaP at h;split at h
   . simp only[zb]at h;obtain⟨l,hl,h⟩:=h;cases h;rw[zlP hl hv]
   . refine zeG h ?_;rename_i _ hne1 _ hne2;cases v<;>first|exact hv|skip
     all_goals
      exfalso;unfold zbn at h;split at h
      . unfold zdr at h;simp only[zb,zl]at h;obtain⟨_,_,_,_,_,h⟩:=h;cases h
      . simp only[zl]at h;have e:=Option.some.inj h.2
        first|exact hne1 _ e|exact hne2 _ e
def zqr(s:List V->Option V):Spec:=fun vs hs=>ob (za1 hs vs) fun vs'=>gd (zu vs') (ob (s vs') fun v=>gd v.scal (some (v,hs)))
theorem Valid.scal{ρ:Nat->Value}(hρ:Good ρ){P:Program}(hP:P.follows .mixedOrders=true)(hN:zeo P){f:Nat}{s:List V->Option V}(hf:zeT P f)
 (h:∀ vs v,zu vs=true->s vs=some v->∃ E n,ConsOk ρ E/\E.P=P/\zw6 E n f vs=some v):Valid ρ P f (zqr s) where
 fn:=hf
 ok:=by
  intro vs hs v hs' hq;simp only[zqr,zl,zb]at hq;obtain⟨vs',hst,hp,v',hv,hsc,hq⟩:=hq;cases hq;obtain⟨E,n,hc,rfl,hr⟩:=h vs' v hp hv;simp only[zw6,zb]at hr;obtain⟨⟨v1,hs1⟩,h1,h2⟩:=hr;have e:v1=v:=zo9 h2 hsc;subst e;refine zhO (ev:=evJ E n) hst (fun h=>(zom hρ hc hP hN n).call h) ?_;simp only[zaC,zb,zl];exact⟨(v1,hs1),h1,hsc,rfl⟩
 kept:=by
  intro vs hs q hq;simp only[zqr,zl,zb]at hq;obtain⟨_,_,_,_,_,_,hq⟩:=hq;cases hq;exact .refl _
def zLp(s:List V->Option V):Spec:=fun vs hs=>ob (zas vs hs) fun q=>gd (zu q.1) (ob (s q.1) fun v=>some (v,q.2))
section
variable {vs:List V}{hs:HS}{s:List V->Option V}{K:V×HS->Prop}
@[simp] theorem zEP:ok (zk3 s vs hs) K=(zu vs=true/\ok (s vs) fun v=>K (v,hs)):=by simp only[zk3,zct,zab,zm]
@[simp] theorem zEn:ok (zqr s vs hs) K=ok (za1 hs vs) fun vs'=>zu vs'=true/\ok (s vs') fun v=>v.scal=true/\K (v,hs):=by simp only[zqr,zct,zab,zm]
@[simp] theorem zIK:ok (zLp s vs hs) K=ok (zas vs hs) fun q=>zu q.1=true/\ok (s q.1) fun v=>K (v,q.2):=by simp only[zLp,zct,zab,zm]
@[simp] theorem zwB:zas [] hs=some ([],hs):=(rfl)
@[simp] theorem zvB {v:V} {l:List V}:zas (v::l) hs=ob (zaV v hs) fun r=>ob (zas l r.2) fun q=>some (r.1::q.1,q.2):=(rfl)
@[simp] theorem z6P:zu []=true:=(rfl)
@[simp] theorem z3w {v:V} {l:List V}:zu (v::l)=(v.pure&&zu l):=by rw[<- zpm];rfl
@[simp] theorem zEO {l:List V}:(V.agg l).pure=zo0 l:=(rfl)
@[simp] theorem zG1:zo0 []=true:=(rfl)
@[simp] theorem zD0 {v:V} {l:List V}:zo0 (v::l)=(v.pure2&&zo0 l):=by rw[<- zpm];rfl
@[simp] theorem zEN {k:IntKind} {n:Int}:(V.int k n).pure=true:=(rfl)
@[simp] theorem zA8 {b:Bool}:(V.bool b).pure=true:=(rfl)
@[simp] theorem zEM {b:List Nat}:(V.str b).pure=true:=(rfl)
@[simp] theorem zHB {es:List (List V)} {t:Bool}:(V.sl es t).pure=true:=(rfl)
@[simp] theorem zA7:V.snil.pure=true:=(rfl)
@[simp] theorem zAA {k:IntKind} {n:Int}:(V.int k n).pure2=true:=(rfl)
@[simp] theorem z7K {b:Bool}:(V.bool b).pure2=true:=(rfl)
@[simp] theorem zA9 {b:List Nat}:(V.str b).pure2=true:=(rfl)
@[simp] theorem zEQ {es:List (List V)} {t:Bool}:(V.sl es t).pure2=true:=(rfl)
@[simp] theorem z7J:V.snil.pure2=true:=(rfl)
@[simp] theorem zy7:V.nilmap.pure2=true:=(rfl)
@[simp] theorem zwG:V.nilFunc.pure2=true:=(rfl)
end
end Go.J
