import Derived.Test.YtfgmnebfhemnpaaGreatJF
set_option linter.all false
noncomputable section
/- Rules of rewriting for symbolic runs. -/
namespace Go.J
section
variable {E:Env}{id:Nat}{T:PT V}{hs:HS}{K:V->HS->Prop}{sz:Nat}
@[simp ↓] theorem zSF {R:PT V->HS->Prop}:Rs E sz [] id T hs R=R T hs:=(rfl)
@[simp ↓] theorem zOq {d:Option Tmp} {op:Op} {g:Option (Tmp×Bool)} {l:List SOp} {R:PT V->HS->Prop}:Rs E sz (⟨d,op,g⟩::l) id T hs R=wpS E id T hs ⟨d,op,g⟩ fun v hs'=>put sz T d v fun T1=>Rs E sz l (id+1) T1 hs' R:=(rfl)
@[simp ↓] theorem zST {d:Option Tmp} {op:Op}:wpS E id T hs ⟨d,op,none⟩ K=wpO E id T hs op K:=(rfl)
@[simp ↓] theorem zSU {d:Option Tmp} {op:Op} {t:Tmp} {w:Bool}:wpS E id T hs ⟨d,op,some (t,w)⟩ K=ok (T.get t) fun v=>ok (v.guard? w) fun q=>br (q=w) (wpO E id T hs op K) (K undefV hs):=by
  simp only[zAP];rfl
@[simp ↓] theorem zIX {d:Tmp} {v:V} {R:PT V->Prop}:put sz T (some d) v R=(d<sz/\R (T.set d v)):=(rfl)
@[simp ↓] theorem zIZ {v:V} {R:PT V->Prop}:put sz T none v R=R T:=(rfl)
theorem zgS{p:Prop}:((0:Nat)≠0->p)=True:=propext ⟨fun _=>trivial,fun _ h=>absurd rfl h⟩
theorem and_one{p:Prop}:((1:Nat)≠0->p)=p:=propext ⟨fun h=>h (by decide),fun h _=>h⟩
theorem zn5{p:Prop}:((2:Nat)≠0->p)=p:=propext ⟨fun h=>h (by decide),fun h _=>h⟩
theorem zk2{op:Op}(hc:zM op=0)(hd:wpO E id T hs op K=((zM op≠0->hs.H.get id=none)/\ok (opJ E.P false T hs id (opR op)) fun r=>K r.1 r.2)):wpO E id T hs op K=ok (opJ E.P false T hs id (opR op)) fun r=>K r.1 r.2:=by
 rw[hd,hc,zgS,true_and]
@[simp ↓] theorem wp_move {x:Operand}:wpO E id T hs (.move x) K=ok (zC T x) fun v=>K v hs:=by
  rw[zk2 rfl rfl];show ok (ob (zC T x) fun v=>some (v,hs)) _=_;simp only[zaj,zF]
@[simp ↓] theorem wp_assign {x:Operand}:wpO E id T hs (.assign x) K=ok (zC T x) fun v=>K v hs:=by
  rw[zk2 rfl rfl];show ok (ob (zC T x) fun v=>some (v,hs)) _=_;simp only[zaj,zF]
@[simp ↓] theorem zKW {c a b:Operand}:wpO E id T hs (.pick c a b) K=ok (zC T c) fun v=>ok v.bool? fun q=>ok (bi q (zC T a) (zC T b)) fun v=>K v hs:=by
  rw[zk2 rfl rfl];show ok (zjV T hs c a b) _=_;simp only[zjV,zaj,zF]
@[simp ↓] theorem zKX {t:TypeId} {a:Operand}:wpO E id T hs (.load t a) K=ok (ti E.P t) fun i=>ok (zC T a) fun p=>ok (zgG i hs p) fun v=>K v hs:=by
  rw[zk2 rfl rfl];show ok (zd6 E.P T hs t a) _=_;simp only[zd6,zaj,zF]
@[simp ↓] theorem zHY {b:BinOp} {t u:TypeId} {x y:Operand}:wpO E id T hs (.binOp b t x y u) K=ok (zC T x) fun p=>ok (zC T y) fun q=>ok (zyv E.P b t p q) fun v=>K v hs:=by
  rw[zk2 rfl rfl];show ok (zfK E.P T hs b t x y) _=_;simp only[zfK,zaj,zF]
@[simp ↓] theorem zKV {b:UnOp} {t:TypeId} {x:Operand}:wpO E id T hs (.unOp b t x) K=ok (zjD T hs b x) fun r=>K r.1 r.2:=by
  rw[zk2 rfl rfl];rfl
@[simp ↓] theorem zyG {t:TypeId} {x:Operand} {f:Nat}:wpO E id T hs (.fieldAddr t x f) K=ok (ti E.P t) fun i=>ok (zB i f) fun fd=>ok (ti E.P fd.type) fun fi=>nt (Nat.beq fi.size 0)=true/\ok (zC T x) fun v=>ok (zbd fd.offset v) fun r=>K r hs:=by
  rw[zk2 rfl rfl];show ok (zb2 E.P T hs t x f) _=_;simp only[zb2,zaj,zbV,zF]
@[simp ↓] theorem zHX {t:TypeId} {x:Operand} {f:Nat}:wpO E id T hs (.field t x f) K=ok (ti E.P t) fun i=>ok (zB i f) fun fd=>ok (ti E.P fd.type) fun fi=>ok (zC T x) fun v=>ok v.agg? fun cs=>ok (ze6 fi cs fd.offset) fun v=>K v hs:=by
  rw[zk2 rfl rfl];show ok (zfA E.P T hs t x f) _=_;simp only[zfA,zaj,zF]
@[simp ↓] theorem zyF {t:TypeId} {x ix:Operand}:wpO E id T hs (.indexAddr t x ix) K=ok (ti E.P t) fun i=>ok (elemOf i.desc) fun el=>ok (ti E.P el.1) fun e=>ok (zC T x) fun v=>ok (zC T ix) fun n=>ok n.nat? fun n=>ok (zC1 el.2 e n v) fun r=>K r hs:=by
  rw[zk2 rfl rfl];show ok (zb1 E.P T hs t x ix) _=_;simp only[zb1,zaj,zF]
@[simp ↓] theorem zHW {t:TypeId} {x ix:Operand}:wpO E id T hs (.index t x ix) K=ok (ti E.P t) fun i=>isStr i.desc=true/\ok (zC T x) fun v=>ok v.str? fun s=>ok (zC T ix) fun n=>ok n.nat? fun n=>ok (zeP s n) fun b=>K (.int .u8 (Int.ofNat b)) hs:=by
  rw[zk2 rfl rfl];show ok (zf6 E.P T hs t x ix) _=_;simp only[zf6,zaj,zbV,zF]
@[simp ↓] theorem zBr {x:Operand} {k:Nat}:wpO E id T hs (.extract x k) K=ok (zC T x) fun v=>ok v.tuple? fun vs=>ok (zeP vs k) fun v=>K v hs:=by
  rw[zk2 rfl rfl];show ok (zc5 T hs x k) _=_;simp only[zc5,zaj,zF]
@[simp ↓] theorem z7T {x:Operand}:wpO E id T hs (.nilCheck x) K=ok (zC T x) fun v=>notNil v=true/\K v hs:=by
  rw[zk2 rfl rfl];show ok (zbQ T hs x) _=_;simp only[zbQ,zaj,zbV,zF]
@[simp ↓] theorem wp_build {t:TypeId} {ps:Array (Nat×Operand)}:wpO E id T hs (.build t ps) K=ok (ti E.P t) fun i=>ok (bi (za2 i.desc) (gd (zaQ E.P (fieldsOf i.desc)) (zdI E.P T i ps.toList i.zero)) (ob (zpY i.desc) fun el=>ob (ti E.P el) fun e=>zcv T e.size ps.toList i.zero)) fun cs=>K (.agg cs) hs:=by
  rw[zk2 rfl rfl];show ok (zc8 E.P T hs t ps) _=_;unfold zc8;simp only[zaj (ti E.P t)];congr 1;funext i;rw[zaj];congr 1;funext cs;rw[zF]
@[simp ↓] theorem zHV {t:TypeId} {x:Operand} {lo hi mx:Option Operand}:wpO E id T hs (.slice t x lo hi mx) K=ok (ti E.P t) fun i=>ok (zC T x) fun v=>ok (zbL E.P T hs i v lo hi mx) fun r=>K r hs:=by
  rw[zk2 rfl rfl];show ok (zc1 E.P T hs t x lo hi mx) _=_;simp only[zc1,zaj,zF]
@[simp ↓] theorem zDw {t:TypeId} {m k:Operand} {b:Bool}:wpO E id T hs (.lookup t m k b) K=ok (zam E.P T hs t m k b) fun r=>K r.1 r.2:=by
  rw[zk2 rfl rfl];rfl
@[simp ↓] theorem zBs {s d:TypeId} {x:Operand}:wpO E id T hs (.convert s d x) K=ok (ti E.P s) fun _=>ok (ti E.P d) fun j=>ok (zC T x) fun v=>ok (zns j.desc v) fun r=>K r hs:=by
  rw[zk2 rfl rfl];show ok (zkr E.P T hs s d x) _=_;simp only[zkr,zaj,zF]
@[simp ↓] theorem z7U {f:FuncId} {cs:Array Operand}:wpO E id T hs (.makeFunc (.func f) #[] cs) K=ok (zaL T cs.toList) fun l=>K (.func f l) hs:=by
  rw[zk2 rfl rfl];show ok (zds T hs (.func f) #[] cs) _=_;show ok (gd true (ob (zaL T cs.toList) fun l=>some (V.func f l,hs))) _=_;simp only[zb8,zaj,zF]
@[simp ↓] theorem zyE {t:TypeId} {x:Operand}:wpO E id T hs (.makeInterface t x) K=ok (ti E.P t) fun i=>nt (isIface i.desc)=true/\ok (zC T x) fun v=>K (.iface t v) hs:=by
  rw[zk2 rfl rfl];show ok (zbZ E.P T hs t x) _=_;simp only[zbZ,zaj,zbV,zF]
theorem zDy{op:Op}(hc:zM op=1)(hd:wpO E id T hs op K=((zM op≠0->hs.H.get id=none)/\ok (opJ E.P false T hs id (opR op)) fun r=>K r.1 r.2)):wpO E id T hs op K=(hs.H.get id=none/\ok (opJ E.P false T hs id (opR op)) fun r=>K r.1 r.2):=by
 rw[hd,hc,and_one]
theorem zO1{op:Op}(hc:zM op=2)(hd:wpO E id T hs op K=((zM op≠0->hs.H.get id=none)/\ok (opJ E.P false T hs id (opR op)) fun r=>K r.1 r.2)):wpO E id T hs op K=(hs.H.get id=none/\ok (opJ E.P false T hs id (opR op)) fun r=>K r.1 r.2):=by
 rw[hd,hc,zn5]
@[simp ↓] theorem zHZ {t:TypeId}:wpO E id T hs (.alloc t) K=(hs.H.get id=none/\ok (ti E.P t) fun i=>Nat.beq (zU i.zero) i.size=true/\K (.ptr id 0 0) (hs.put id (.arr i.size 0 [i.zero] true false false))):=by
  rw[zDy rfl rfl];show (_/\ok (zdK E.P hs id t) _)=_;simp only[zdK,zaj,zbV,zF]
@[simp ↓] theorem zO0 {t:TypeId} {x:Operand}:wpO E id T hs (.box t x) K=(hs.H.get id=none/\ok (zC T x) fun v=>K (.ptr id 0 0) (hs.put id (.arr (zU v.cells) 0 [v.cells] true false false))):=by
  rw[zDy rfl rfl];show (_/\ok (zqg T hs id x) _)=_;simp only[zqg,zaj,zF]
@[simp ↓] theorem wp_buildSlice {t:TypeId} {n:Nat} {ps:Array (Nat×Operand)}:wpO E id T hs (.buildSlice t n ps) K=(hs.H.get id=none/\ok (zaq E.P false T hs id t n ps) fun r=>K r.1 r.2):=by
  rw[zDy rfl rfl];rfl
@[simp ↓] theorem zyD {t:TypeId} {l c:Operand}:wpO E id T hs (.makeSlice t l c) K=(hs.H.get id=none/\ok (zaC E.P T hs id t l c) fun r=>K r.1 r.2):=by
  rw[zDy rfl rfl];rfl
@[simp ↓] theorem zBq {t:TypeId}:wpO E id T hs (.makeMap t none) K=(hs.H.get id=none/\K (.map id) (hs.put id (.mp []))):=by
  rw[zDy rfl rfl];show (_/\ok (gd true (some (V.map id,hs.put id (.mp [])))) _)=_;simp only[zb8,zF]
@[simp ↓] theorem zHU {t:TypeId} {a x:Operand}:wpO E id T hs (.store t a x) K=(hs.H.get id=none/\ok (ti E.P t) fun i=>ok (zC T a) fun p=>ok (zC T x) fun v=>ok (zeB i hs p v) fun hs'=>K undefV hs'):=by
  rw[zO1 rfl rfl];show (_/\ok (zaV E.P T hs t a x) _)=_;simp only[zaV,zaj,zF]
@[simp ↓] theorem zyC {t:TypeId} {m k x:Operand}:wpO E id T hs (.mapUpdate t m k x) K=(hs.H.get id=none/\ok (zW E.P T hs t m k x) fun r=>K r.1 r.2):=by
  rw[zO1 rfl rfl];rfl
@[simp ↓] theorem zKZ {x:Operand} {xs:Array Operand} {ts:Array TypeId}:wpO E id T hs (.call ⟨.value x,xs,ts⟩) K=(hs.H.get id=none/\ok (zC T x) fun v=>ok (funcOf v) fun p=>ok (zaL T xs.toList) fun vs=>ok (E.con p.1 (zb9 vs p.2) hs) fun r=>K r.1 r.2):=(rfl)
@[simp ↓] theorem zOz {xs:Array Operand} {ts:Array TypeId}:wpO E id T hs (.call ⟨.builtin .len,xs,ts⟩) K=ok (zaL T xs.toList) fun vs=>ok (zgu E.P hs ts.toList vs) fun r=>K r.1 r.2:=by
  show ((zM (.call ⟨.builtin .len,xs,ts⟩)≠0->_)/\_)=_;rw[show zM (.call ⟨.builtin .len,xs,ts⟩)=0 from rfl,zgS,true_and];rfl
@[simp ↓] theorem zOx {xs:Array Operand} {ts:Array TypeId}:wpO E id T hs (.call ⟨.builtin .min,xs,ts⟩) K=ok (zaL T xs.toList) fun vs=>ok (zbX hs true vs) fun r=>K r.1 r.2:=by
  show ((zM (.call ⟨.builtin .min,xs,ts⟩)≠0->_)/\_)=_;rw[show zM (.call ⟨.builtin .min,xs,ts⟩)=0 from rfl,zgS,true_and];rfl
@[simp ↓] theorem zOy {xs:Array Operand} {ts:Array TypeId}:wpO E id T hs (.call ⟨.builtin .max,xs,ts⟩) K=ok (zaL T xs.toList) fun vs=>ok (zbX hs false vs) fun r=>K r.1 r.2:=by
  show ((zM (.call ⟨.builtin .max,xs,ts⟩)≠0->_)/\_)=_;rw[show zM (.call ⟨.builtin .max,xs,ts⟩)=0 from rfl,zgS,true_and];rfl
@[simp ↓] theorem zDx {xs:Array Operand} {ts:Array TypeId}:wpO E id T hs (.call ⟨.builtin .append,xs,ts⟩) K=(hs.H.get id=none/\ok (zaL T xs.toList) fun vs=>ok (zcO E.P hs id ts.toList vs) fun r=>K r.1 r.2):=by
  show ((zM (.call ⟨.builtin .append,xs,ts⟩)≠0->_)/\_)=_;rw[show zM (.call ⟨.builtin .append,xs,ts⟩)=2 from rfl,zn5];rfl
@[simp ↓] theorem zKY {xs:Array Operand} {ts:Array TypeId}:wpO E id T hs (.call ⟨.builtin .copy,xs,ts⟩) K=(hs.H.get id=none/\ok (zaL T xs.toList) fun vs=>ok (zeZ E.P hs ts.toList vs) fun r=>K r.1 r.2):=by
  show ((zM (.call ⟨.builtin .copy,xs,ts⟩)≠0->_)/\_)=_;rw[show zM (.call ⟨.builtin .copy,xs,ts⟩)=2 from rfl,zn5];rfl
attribute [simp ↓] zvy zoF
@[congr] theorem zKA {c c' A B:Prop} (h:c=c'):br c A B=br c' A B:=by rw[h]
@[congr] theorem zJt {α:Type} {x y:Option α} {K:α->Prop} (h:x=y):ok x K=ok y K:=by rw[h]
@[congr] theorem zKT {rd:Bool} {s:SC} {T T':PT V} {hs hs':HS} {Q:Ex->PT V->HS->Prop} (h1:T=T') (h2:hs=hs'):Js E rd sz s T hs Q=Js E rd sz s T' hs' Q:=by rw[h1,h2]
@[congr] theorem z7O {P:Program} {fn:Func} {K:V->HS->Prop} {ex ex':Ex} {T T':PT V} {hs hs':HS} (h0:ex=ex') (h1:T=T') (h2:hs=hs'):Leaves P fn K ex T hs=Leaves P fn K ex' T' hs':=by rw[h0,h1,h2]
@[congr] theorem zJv {α β:Type} {x y:Option α} {f:α->Option β} (h:x=y):ob x f=ob y f:=by rw[h]
@[congr] theorem zJU {β:Type} {c d:Bool} {x:Option β} (h:c=d):gd c x=gd d x:=by rw[h]
@[congr] theorem zEZ {α β:Type} {z:β} {f:α->β} {x y:Option α} (h:x=y):orc z f x=orc z f y:=by rw[h]
@[congr] theorem zKG {α:Type} {c d:Bool} {x y:α} (h:c=d):bi c x y=bi d x y:=by rw[h]
@[simp] theorem zS5 {α:Type} {p:Prop} [Decidable p] {x y:α}:bi (decide p) x y=if p then x else y:=by rw[zav];simp
@[simp ↓] theorem zFa {α:Type} (a:α) (K:α->Prop):ok (some a) K=K a:=zF a K
@[simp ↓] theorem zMr {α β:Type} (x:Option α) (f:α->Option β) (K:β->Prop):ok (ob x f) K=ok x fun a=>ok (f a) K:=zaj x f K
@[simp ↓] theorem zMs {α:Type} (c:Bool) (x:Option α) (K:α->Prop):ok (gd c x) K=(c=true/\ok x K):=zbV c x K
@[simp ↓] theorem zFk {α β:Type} (a:α) (f:α->Option β):ob (some a) f=f a:=(rfl)
@[simp ↓] theorem zFG {β:Type} (x:Option β):gd true x=x:=(rfl)
@[simp ↓] theorem zBX {α β:Type} (z:β) (f:α->β) (a:α):orc z f (some a)=f a:=(rfl)
@[simp ↓] theorem zHs {α:Type} (x y:α):bi true x y=x:=(rfl)
@[simp ↓] theorem zDk {α:Type} (x y:α):bi false x y=y:=(rfl)
@[simp] theorem zG4 {t:Tmp}:zC T (.tmp t)=T.get t:=(rfl)
@[simp] theorem zAw {v:Value}:zC T (.const v)=zcJ v:=(rfl)
@[simp] theorem zC9 {f:FuncId}:zC T (.func f)=some (.func f []):=(rfl)
@[simp] theorem zzj {b:Bool}:zcJ (.bool b)=some (.bool b):=(rfl)
@[simp] theorem z9m {k:IntKind} {n:Int}:zcJ (.int k n)=some (.int k n):=(rfl)
@[simp] theorem z9l {s:ByteArray}:zcJ (.string s)=some (.str (bytesOf s)):=(rfl)
@[simp] theorem zvR:zcJ (.pointer none)=some .nilptr:=(rfl)
@[simp] theorem zzi:zcJ (.slice none 0 0)=some .snil:=(rfl)
@[simp] theorem zvS:zcJ (.map none)=some .nilmap:=(rfl)
@[simp] theorem zrx:zcJ .nilFunc=some .nilFunc:=(rfl)
@[simp] theorem zAc {b w:Bool}:(V.bool b).guard? w=some b:=(rfl)
@[simp] theorem zz6 {w:Bool}:(V.tuple []).guard? w=some (!w):=(rfl)
@[simp] theorem zz5 {w:Bool}:undefV.guard? w=some (!w):=(rfl)
@[simp] theorem zDh {b:Bool}:(V.bool b).bool?=some b:=(rfl)
@[simp] theorem zJG {k:IntKind} {n:Int}:(V.int k n).int?=some (k,n):=(rfl)
@[simp] theorem zFu {k:IntKind} {n:Nat}:(V.int k (n:Int)).nat?=some n:=(rfl)
@[simp] theorem zCj {k:IntKind} {n:Nat}:(V.int k (Int.ofNat n)).nat?=some n:=(rfl)
@[simp] theorem zFt {k:IntKind}:(V.int k 0).nat?=some 0:=(rfl)
@[simp] theorem zJ3 {k:IntKind}:(V.int k 1).nat?=some 1:=(rfl)
@[simp] theorem zJ4 {k:IntKind} {n:Nat}:(V.int k (@OfNat.ofNat Int n instOfNat)).nat?=some n:=(rfl)
@[simp] theorem zI3 {s:List Nat}:(V.str s).str?=some s:=(rfl)
@[simp] theorem zKL {s:List V}:(V.agg s).agg?=some s:=(rfl)
@[simp] theorem zyR {s:List V}:(V.tuple s).tuple?=some s:=(rfl)
@[simp] theorem zHe {s:List V}:(V.agg s).cells=s:=(rfl)
@[simp] theorem zHd {k:IntKind} {n:Int}:(V.int k n).cells=[.int k n]:=(rfl)
@[simp] theorem zCU {b:Bool}:(V.bool b).cells=[.bool b]:=(rfl)
@[simp] theorem zGZ {b:List Nat}:(V.str b).cells=[.str b]:=(rfl)
@[simp] theorem zCT:V.snil.cells=[.snil]:=(rfl)
@[simp] theorem zK4 {es:List (List V)} {t:Bool}:(V.sl es t).cells=[.sl es t]:=(rfl)
@[simp] theorem zHb {a b c d:Nat} {t:Option Nat}:(V.own a b c d t).cells=[.own a b c d t]:=(rfl)
@[simp] theorem zHc {a:Nat}:(V.map a).cells=[.map a]:=(rfl)
@[simp] theorem z7A:(V.nilmap).cells=[.nilmap]:=(rfl)
@[simp] theorem zHa {a b c:Nat}:(V.ptr a b c).cells=[.ptr a b c]:=(rfl)
@[simp] theorem cells_func {f:Nat} {c:List V}:(V.func f c).cells=[.func f c]:=(rfl)
@[simp] theorem zyh:(V.nilFunc).cells=[.nilFunc]:=(rfl)
@[simp] theorem zAg {f:FuncId} {c:List V}:funcOf (.func f c)=some (f,c):=(rfl)
@[simp] theorem zKK:zvB []=true:=(rfl)
@[simp] theorem zH8 {v:V} {l:List V}:zvB (v::l)=et v.isCell (zvB l):=(rfl)
@[simp] theorem zCr {k:IntKind} {n:Int}:(V.int k n).isCell=true:=(rfl)
@[simp] theorem z9P {b:Bool}:(V.bool b).isCell=true:=(rfl)
@[simp] theorem zCn {b:List Nat}:(V.str b).isCell=true:=(rfl)
@[simp] theorem z9N:V.snil.isCell=true:=(rfl)
@[simp] theorem zF3 {es:List (List V)} {t:Bool}:(V.sl es t).isCell=true:=(rfl)
@[simp] theorem zCp {a b c d:Nat} {t:Option Nat}:(V.own a b c d t).isCell=true:=(rfl)
@[simp] theorem zCq {a:Nat}:(V.map a).isCell=true:=(rfl)
@[simp] theorem zx9:(V.nilmap).isCell=true:=(rfl)
@[simp] theorem zCo {a b c:Nat}:(V.ptr a b c).isCell=true:=(rfl)
@[simp] theorem z9O {f:Nat} {c:List V}:(V.func f c).isCell=true:=(rfl)
@[simp] theorem zvV:(V.nilFunc).isCell=true:=(rfl)
@[simp] theorem zF1 {i:TI} {a g off:Nat}:zgG i hs (.ptr a g off)=ob (zbb hs a g) fun r=>zkl i r off:=(rfl)
@[simp] theorem zF0 {i:TI} {cs:List V}:zgG i hs (.ref cs)=ze6 i cs 0:=(rfl)
@[simp] theorem zxT {n a g off:Nat}:zbd n (.ptr a g off)=some (.ptr a g (off+n)):=(rfl)
@[simp] theorem zxS {n:Nat} {cs:List V}:zbd n (.ref cs)=some (.ref (ziL n cs)):=(rfl)
@[simp] theorem zzz {e:TI} {n:Nat} {es:List (List V)} {t:Bool}:zcD e n (.sl es t)=gd (sizes e.size es) (ob (zeP es n) fun c=>some (.ref c)):=(rfl)
@[simp] theorem zxC {e:TI} {n a g off len:Nat} {c:Option Nat}:zcD e n (.own a g off len c)=gd (Nat.blt n len) (some (.ptr a g (off+n*e.size))):=(rfl)
@[simp] theorem zB6 {i:TI} {a g off:Nat} {v:V}:zeB i hs (.ptr a g off) v=bi (isRow hs a) (ob (zbs v hs) fun r=>zb0 i a g off r.1 r.2) (zb0 i a g off v hs):=(rfl)
@[simp] theorem zKI {s g:Nat} {es:List (List V)} {a b c:Bool}:(Obj.arr s g es a b c).arr?=some (s,g,es,a,b,c):=(rfl)
@[simp] theorem zPp {es:List (V×V)}:(Obj.mp es).mp?=some es:=(rfl)
@[simp] theorem zT9 {o:Obj} {k:Nat}:(hs.put k o).n=hs.n:=(rfl)
@[simp] theorem wr_n {o:Obj} {k:Nat}:(hs.wr k o).n=hs.n:=(rfl)
@[simp] theorem zOe {n:Nat} {e:TypeId}:zpY (.array n e)=some e:=(rfl)
@[simp] theorem zx8 {n:Nat} {e:TypeId}:za2 (.array n e)=false:=(rfl)
@[simp] theorem zCu {n:Nat} {e:TypeId}:zba (.array n e)=true:=(rfl)
@[simp] theorem zGI {e:TypeId}:elemOf (.slice e)=some (e,none):=(rfl)
@[simp] theorem zCJ {n:Nat} {e:TypeId}:elemOf (.array n e)=some (e,some n):=(rfl)
@[simp] theorem zFB {e:TI} {n:Nat} {v:V}:zC1 none e n v=zcD e n v:=(rfl)
@[simp] theorem zFA {k:Nat} {e:TI} {n:Nat} {v:V}:zC1 (some k) e n v=gd (Nat.blt n k) (zbd (n*e.size) v):=(rfl)
@[simp] theorem zBC {e:TypeId}:zbK (.slice e)=some e:=(rfl)
@[simp] theorem zJB {k e:TypeId}:mapOf (.map k e)=some (k,e):=(rfl)
@[simp] theorem zKF {P:Program} {b:BinOp} {t:TypeId} {k k':IntKind} {m n:Int}:zyv P b t (.int k m) (.int k' n)=bi (zbm b) (zkV b k m n) (gd (zeF k k') (arith b k m n)):=(rfl)
@[simp] theorem z96 {k:IntKind}:zeF k k=true:=by cases k<;>rfl
@[simp] theorem zKE {P:Program} {b:BinOp} {t:TypeId} {m n:List Nat}:zyv P b t (.str m) (.str n)=zkP b m n:=(rfl)
@[simp] theorem zHq {P:Program} {b:BinOp} {t:TypeId} {m n:Bool}:zyv P b t (.bool m) (.bool n)=zh8 P b t (.bool m) (.bool n):=(rfl)
end
@[simp] theorem zFj {α β:Type} (a:α) (f:α->Option β):ob (some a) f=f a:=(rfl)
@[simp] theorem zFl {α β:Type} (f:α->Option β):ob none f=none:=(rfl)
@[simp] theorem zFF {β:Type} (x:Option β):gd true x=x:=(rfl)
@[simp] theorem zC5 {β:Type} (x:Option β):gd false x=none:=(rfl)
@[simp] theorem zHr {α:Type} (x y:α):bi true x y=x:=(rfl)
@[simp] theorem zDj {α:Type} (x y:α):bi false x y=y:=(rfl)
@[simp] theorem zBW {α β:Type} (z:β) (f:α->β) (a:α):orc z f (some a)=f a:=(rfl)
@[simp] theorem zBY {α β:Type} (z:β) (f:α->β):orc z f none=z:=(rfl)
@[simp] theorem zC4 {α:Type} (n:Nat):(PT.leaf:PT α).get n=none:=(rfl)
@[simp] theorem znm {T:PT V}:zaL T []=some []:=(rfl)
@[simp] theorem zlP {T:PT V} (o:Operand) (l:List Operand):zaL T (o::l)=ob (zC T o) fun v=>ob (zaL T l) fun r=>some (v::r):=(rfl)
attribute [simp] zF zaj zbV PT.set_get zaS ze8 zO zbW zc0 zc6 zaI zmM zmP zen
@[simp] theorem zv3 {a b:Nat}:Nat.beq a b=decide (a=b):=by rw[Bool.eq_iff_iff];simp
@[simp] theorem zNY {a b:Nat}:Nat.ble a b=decide (a<=b):=by rw[Bool.eq_iff_iff];simp
@[simp] theorem zNW {a b:Nat}:Nat.blt a b=decide (a<b):=by rw[Bool.eq_iff_iff,J.blt_true];simp
@[simp ↓] theorem z88 {K:PT V->HS->Prop} {Q:Ex->PT V->HS->Prop} {T:PT V} {hs:HS}:Ex.then K Q .normal T hs=K T hs:=(rfl)
@[simp ↓] theorem zIz {K:PT V->HS->Prop} {Q:Ex->PT V->HS->Prop} {T:PT V} {hs:HS}:Ex.then K Q .ret T hs=Q .ret T hs:=(rfl)
@[simp ↓] theorem zEa {i:Nat} {K:PT V->HS->Prop} {Q:Ex->PT V->HS->Prop} {T:PT V} {hs:HS}:Ex.then K Q (.exit i) T hs=Q (.exit i) T hs:=(rfl)
@[simp ↓] theorem zDi {id:Nat} {Q:Ex->PT V->HS->Prop} {T:PT V} {hs:HS}:Ex.inBlock id Q .normal T hs=Q .normal T hs:=(rfl)
@[simp ↓] theorem zNX {id:Nat} {Q:Ex->PT V->HS->Prop} {T:PT V} {hs:HS}:Ex.inBlock id Q .ret T hs=Q .ret T hs:=(rfl)
@[simp ↓] theorem zKD {id i:Nat} {Q:Ex->PT V->HS->Prop} {T:PT V} {hs:HS}:Ex.inBlock id Q (.exit i) T hs=if i=id then Q .normal T hs else Q (.exit i) T hs:=(rfl)
@[simp] theorem zIC {P:Program} {T:PT V} {hs:HS}:znV P T hs []=some []:=(rfl)
@[simp] theorem zIB {P:Program} {T:PT V} {hs:HS} {t:Tmp} {l:List ResultVar}:znV P T hs (.tmp t::l)=ob (T.get t) fun v=>ob (znV P T hs l) fun r=>some (v::r):=(rfl)
@[simp] theorem zE8 {P:Program} {T:PT V} {hs:HS} {a:Tmp} {t:TypeId} {l:List ResultVar}:znV P T hs (.cell a t::l)=ob (ob (ti P t) fun i=>ob (T.get a) fun p=>zgG i hs p) fun v=>ob (znV P T hs l) fun r=>some (v::r):=(rfl)
@[simp] theorem zB4 {v:V}:zcR [v]=v:=(rfl)
@[simp] theorem zB3 {v u:V} {l:List V}:zcR (v::u::l)=.tuple (v::u::l):=(rfl)
attribute [simp] zj0 zfO
attribute [simp] zpA zka zhG zrC zfb
@[simp] theorem zNE {a b:Int}:eqI a b=decide (a=b):=by rw[Bool.eq_iff_iff,eqI_true];simp
@[simp] theorem z9M:zbm .add=false:=(rfl)
@[simp] theorem z9A:zbm .sub=false:=(rfl)
@[simp] theorem z9F:zbm .mul=false:=(rfl)
@[simp] theorem z9D:zbm .quo=false:=(rfl)
@[simp] theorem z9C:zbm .rem=false:=(rfl)
@[simp] theorem z9K:zbm .eql=false:=(rfl)
@[simp] theorem z9E:zbm .neq=false:=(rfl)
@[simp] theorem z9G:zbm .lss=false:=(rfl)
@[simp] theorem z9H:zbm .leq=false:=(rfl)
@[simp] theorem z9I:zbm .gtr=false:=(rfl)
@[simp] theorem z9J:zbm .geq=false:=(rfl)
@[simp] theorem z9L:zbm .and=false:=(rfl)
@[simp] theorem zCm:zbm .or=false:=(rfl)
@[simp] theorem z99:zbm .xor=false:=(rfl)
section
variable {k:IntKind}{a b:Int}{hs:HS}{P:Program}{T:PT V}
@[simp] theorem zH5:arith .add k a b=some (.int k (zfc k (a+b))):=(rfl)
@[simp] theorem zHu:arith .sub k a b=some (.int k (zfc k (a-b))):=(rfl)
@[simp] theorem zHy:arith .mul k a b=some (.int k (zfc k (a*b))):=(rfl)
@[simp] theorem zHw:arith .quo k a b=gd (nt (eqI b 0)) (some (.int k (zfc k (a.tdiv b)))):=(rfl)
@[simp] theorem zHv:arith .rem k a b=gd (nt (eqI b 0)) (some (.int k (a.tmod b))):=(rfl)
@[simp] theorem zH3:arith .eql k a b=some (.bool (eqI a b)):=(rfl)
@[simp] theorem zHx:arith .neq k a b=some (.bool (nt (eqI a b))):=(rfl)
@[simp] theorem zHz:arith .lss k a b=some (.bool (ltI a b)):=(rfl)
@[simp] theorem zH0:arith .leq k a b=some (.bool (leI a b)):=(rfl)
@[simp] theorem zH1:arith .gtr k a b=some (.bool (ltI b a)):=(rfl)
@[simp] theorem z9B:zbm .shr=true:=(rfl)
@[simp] theorem zBE:zkV .shr k a b=ob (z9w b) fun m=>some (.int k (a.fdiv (2 ^ min m k.bits))):=(rfl)
@[simp] theorem zH4:arith .and k a b=some (.int k (zyy k a b)):=(rfl)
@[simp] theorem zH2:arith .geq k a b=some (.bool (leI b a)):=(rfl)
@[simp] theorem zEq {x y:List Nat}:zkP .eql x y=some (.bool (zoB x y)):=(rfl)
@[simp] theorem zEn {x y:List Nat}:zkP .neq x y=some (.bool (nt (zoB x y))):=(rfl)
@[simp] theorem zEo {x y:List Nat}:zkP .lss x y=some (.bool (zmx x y)):=(rfl)
@[simp] theorem zEp {x y:List Nat}:zkP .gtr x y=some (.bool (bi (zmx x y) false (nt (zoB x y)))):=(rfl)
@[simp] theorem z9k {t:TypeId} {x y:V}:zh8 P .eql t x y=ob (eqV P t x y) fun b=>some (.bool b):=(rfl)
@[simp] theorem z9j {t:TypeId} {x y:V}:zh8 P .neq t x y=ob (eqV P t x y) fun b=>some (.bool (nt b)):=(rfl)
@[simp] theorem zKi {x y:V}:eqD .bool x y=ob x.bool? fun a=>ob y.bool? fun b=>some (zdy a b):=(rfl)
@[simp] theorem zG8 {e:TypeId} {x y:V}:eqD (.slice e) x y=zhQ (zxv x) (zxv y):=(rfl)
@[simp] theorem zNF {e f:TypeId} {x y:V}:eqD (.map e f) x y=zhQ (zzn x) (zzn y):=(rfl)
@[simp] theorem zAx {e:TypeId} {x y:V}:eqD (.pointer e) x y=zhQ (zxw x) (zxw y):=(rfl)
@[simp] theorem zKh {a b:Array TypeId} {c:Bool} {x y:V}:eqD (.func a b c) x y=zhQ (zzo x) (zzo y):=(rfl)
@[simp] theorem zFp:zxv .snil=some true:=(rfl)
@[simp] theorem zJw {a b c d:Nat} {e:Option Nat}:zxv (.own a b c d e)=some false:=(rfl)
@[simp] theorem zMx {e:List V} {l:List (List V)} {t:Bool}:zxv (.sl (e::l) t)=some false:=(rfl)
@[simp] theorem zJ0:zzn .nilmap=some true:=(rfl)
@[simp] theorem zJ1 {i:Nat}:zzn (.map i)=some false:=(rfl)
@[simp] theorem zJz:zxw .nilptr=some true:=(rfl)
@[simp] theorem zJy {i g o:Nat}:zxw (.ptr i g o)=some false:=(rfl)
@[simp] theorem zJx {c:List V}:zxw (.ref c)=some false:=(rfl)
@[simp] theorem zJ2:zzo .nilFunc=some true:=(rfl)
@[simp] theorem zFq {f:Nat} {c:List V}:zzo (.func f c)=some false:=(rfl)
@[simp] theorem zND {a b:Option Bool}:zhQ a b=ob a fun a=>ob b fun b=>bi a (some b) (bi b (some false) none):=(rfl)
@[simp] theorem zTO {t:TypeId} {x y:V}:eqV P t x y=ob (ti P t) fun i=>eqD i.desc x y:=(rfl)
@[simp] theorem zFE {i g:Nat}:zbb hs i g=ob (hs.H.get i) fun o=>ob o.arr? fun a=>gd (et (Nat.beq g a.2.1) (nt (Nat.beq a.1 0))) (some (a.1,a.2.2)):=(rfl)
@[simp] theorem zJF {i:Nat}:isRow hs i=orc false (fun o=>orc false (fun a=>a.2.2.2.2.2) o.arr?) (hs.H.get i):=(rfl)
@[simp] theorem zFz {i:TI} {a:Nat×List (List V)×Bool×Bool×Bool} {off:Nat}:zkl i a off=ob (zeP a.2.1 (off / a.1)) fun e=>ze6 i e (off % a.1):=(rfl)
@[simp] theorem zMn {i:TI} {cs:List V} {off:Nat}:ze6 i cs off=bi (zba i.desc) (zH9 i.size (zg8 i.size (ziL off cs))) (zeP cs off):=(rfl)
@[simp] theorem zS8 {n:Nat} {r:List V}:zH9 n r=gd (Nat.beq (zU r) n) (some (.agg r)):=(rfl)
@[simp] theorem zB5 {i:TI} {id g off:Nat} {v:V}:zb0 i id g off v hs=ob (zbb hs id g) fun a=>gd (nt a.2.2.2.1) (gd (et (zvB v.cells) (et (Nat.beq (zU v.cells) i.size) (Nat.ble (off % a.1+i.size) a.1)))
 (ob (zeP a.2.1 (off / a.1)) fun e=>some (hs.wr id (.arr a.1 g (zvO a.2.1 (off / a.1) (zbl e (off % a.1) v.cells)) a.2.2.1 false a.2.2.2.2)))):=(rfl)
@[simp] theorem zEW {α:Type} (n:Nat) (l:List α):zbl ([]:List α) n l=[]:=(rfl)
@[simp] theorem zvQ {α:Type} (x:α) (t:List α):zbl (x::t) 0 []=x::t:=(rfl)
@[simp] theorem zh7 {α:Type} (x:α) (t:List α) (y:α) (ys:List α):zbl (x::t) 0 (y::ys)=y::zbl t 0 ys:=(rfl)
@[simp] theorem zjc {α:Type} (x:α) (t:List α) (n:Nat) (l:List α):zbl (x::t) (n+1) l=x::zbl t n l:=(rfl)
@[simp] theorem zM3 {ts:List TypeId} {vs:List V}:zgu P hs ts vs=ob (zrK P ts) fun i=>ob (zxl vs) fun x=>ob (zvU hs i.desc x) fun n=>some (.int .i64 (Int.ofNat n),hs):=(rfl)
@[simp] theorem zJ8 {l:Bool} {vs:List V}:zbX hs l vs=ob (zvN vs) fun p=>ob p.1.int? fun a=>ob p.2.int? fun b=>some (.int a.1 (bi (bi l (ltI b.2 a.2) (ltI a.2 b.2)) b.2 a.2),hs):=(rfl)
@[simp] theorem zAb {t:TypeId} {l:List TypeId}:zrK P (t::l)=ti P t:=(rfl)
@[simp] theorem zTA {i:Nat} {o:Obj}:(hs.put i o).H=hs.H.set i o:=(rfl)
@[simp] theorem zLX {i:Nat} {o:Obj}:(hs.put i o).log=hs.log:=(rfl)
@[simp] theorem wr_H {i:Nat} {o:Obj}:(hs.wr i o).H=hs.H.set i o:=(rfl)
@[simp] theorem zOw {i:Nat} {o:Obj}:(hs.wr i o).log=i::hs.log:=(rfl)
@[simp] theorem zJs {v:V}:zxl [v]=some v:=(rfl)
@[simp] theorem zIw {v u:V}:zvN [v,u]=some (v,u):=(rfl)
@[simp] theorem zJC {s:List Nat}:zvU hs .string (.str s)=some (zU s):=(rfl)
@[simp] theorem zF2 {e:TypeId}:zvU hs (.slice e) .snil=some 0:=(rfl)
@[simp] theorem zM4 {e:TypeId} {es:List (List V)} {t:Bool}:zvU hs (.slice e) (.sl es t)=some (zU es):=(rfl)
@[simp] theorem zJD {e:TypeId} {i g o n:Nat} {c:Option Nat}:zvU hs (.slice e) (.own i g o n c)=some n:=(rfl)
@[simp] theorem z95 {k e:TypeId}:zvU hs (.map k e) .nilmap=some 0:=(rfl)
@[simp] theorem zJE {k e:TypeId} {i:Nat}:zvU hs (.map k e) (.map i)=ob (hs.H.get i) fun o=>ob o.mp? fun es=>some (zU es):=(rfl)
@[simp] theorem zIq {x:Operand}:zjD T hs .not x=ob (zC T x) fun v=>ob v.bool? fun b=>some (.bool (nt b),hs):=(rfl)
@[simp] theorem zIr {x:Operand}:zjD T hs .neg x=ob (zC T x) fun v=>ob v.int? fun p=>some (.int p.1 (zfc p.1 (0-p.2)),hs):=(rfl)
@[simp] theorem zGX {v:V}:zns (.int k) v=ob v.int? fun p=>some (.int k (zfc k p.2)):=(rfl)
@[simp] theorem zGW {v:V}:zns .string v=ob v.str? fun s=>some (.str s):=(rfl)
@[simp] theorem zCd {i g o:Nat}:notNil (.ptr i g o)=true:=(rfl)
@[simp] theorem zCc {c:List V}:notNil (.ref c)=true:=(rfl)
@[simp] theorem z9o {f:Nat} {c:List V}:notNil (.func f c)=true:=(rfl)
@[simp] theorem zF6:zba (.int k)=false:=(rfl)
@[simp] theorem zCt:zba .bool=false:=(rfl)
@[simp] theorem zF4:zba .string=false:=(rfl)
@[simp] theorem z9Q {e:TypeId}:zba (.slice e)=false:=(rfl)
@[simp] theorem zF5 {e f:TypeId}:zba (.map e f)=false:=(rfl)
@[simp] theorem zxA {e:TypeId}:zba (.pointer e)=false:=(rfl)
@[simp] theorem zCs {e f:Array TypeId} {c:Bool}:zba (.func e f c)=false:=(rfl)
@[simp] theorem zHP {n:Int} {r:V}:Gives r (.int k n) hs=(.int k n=r):=by show (some (V.int k n)=some r)=_;simp
@[simp] theorem zDr {b:Bool} {r:V}:Gives r (.bool b) hs=(.bool b=r):=by show (some (V.bool b)=some r)=_;simp
@[simp] theorem zHN {b:List Nat} {r:V}:Gives r (.str b) hs=(.str b=r):=by show (some (V.str b)=some r)=_;simp
end
section
variable {P:Program}{T:PT V}{hs:HS}{id:Nat}
@[simp] theorem zIA {n b:Nat}:zcT n b=decide (n*b<=1048576):=by show Nat.ble _ _=_;simp
@[simp] theorem zx1 {t:TypeId} {l c:Operand}:zaC P T hs id t l c=ob (ti P t) fun i=>ob (zC T l) fun a=>ob (zC T c) fun b=>zbY P i hs id a b:=(rfl)
@[simp] theorem z90 {i:TI} {l c:V}:zbY P i hs id l c=ob (zbK i.desc) fun el=>ob (ti P el) fun e=>ob l.nat? fun l=>ob c.nat? fun c =>
 gd (et (Nat.ble l c) (et (zcT c e.bytes) (et (Nat.ble (c*e.size) 1048576) (et (nt (Nat.beq e.size 0)) (et (Nat.beq (zU e.zero) e.size) (zoI e.zero))))))
  (some (.own id 0 0 l (some c),hs.put id (.arr e.size 0 (zBL e.zero c) true false true))):=(rfl)
@[simp] theorem zyq {n:Nat} {cells:List V}:zcv T n [] cells=some cells:=(rfl)
@[simp] theorem zwb {n k:Nat} {o:Operand} {l:List (Nat×Operand)} {cells:List V}:zcv T n ((k,o)::l) cells=ob (zC T o) fun v=>gd (et (Nat.beq (zU v.cells) n) (Nat.ble (k*n+n) (zU cells))) (zcv T n l (zbl cells (k*n) v.cells)):=(rfl)
@[simp] theorem z7G {i:TI} {cells:List V}:zdI P T i [] cells=some cells:=(rfl)
@[simp] theorem zyp {i:TI} {k:Nat} {o:Operand} {l:List (Nat×Operand)} {cells:List V}:zdI P T i ((k,o)::l) cells=ob (zB i k) fun fd=>ob (ti P fd.type) fun fi=>ob (zC T o) fun v =>
 gd (et (Nat.beq (zU v.cells) fi.size) (Nat.ble (fd.offset+fi.size) (zU cells))) (zdI P T i l (zbl cells fd.offset v.cells)):=(rfl)
@[simp] theorem zze {dr:Bool} {e:TI} {len:Nat} {es:List (List V)}:zdq dr T e len [] hs es=some (es,hs):=(rfl)
@[simp] theorem zxg {dr:Bool} {e:TI} {len k:Nat} {o:Operand} {l:List (Nat×Operand)} {es:List (List V)}:zdq dr T e len ((k,o)::l) hs es=ob (zC T o) fun v=>ob (zel dr v hs) fun r =>
 gd (et (Nat.beq (zU r.1.cells) e.size) (Nat.blt k len)) (zdq dr T e len l r.2 (zvO es k r.1.cells)):=(rfl)
@[simp] theorem z7z {v:V}:zel false v hs=zbs v hs:=(rfl)
@[simp] theorem zAG {v:V}:zel true v hs=gd v.pure (some (v,hs)):=(rfl)
@[simp] theorem zwa {dr:Bool} {t:TypeId} {len:Nat} {ps:Array (Nat×Operand)}:zaq P dr T hs id t len ps=ob (ti P t) fun i=>ob (zbK i.desc) fun el=>ob (ti P el) fun e =>
 gd (et (Nat.ble (len*e.size) 1048576) (et (nt (Nat.beq e.size 0)) (et (Nat.beq (zU e.zero) e.size) (zoI e.zero))))
  (ob (zdq dr T e len ps.toList hs (zBL e.zero len)) fun r=>some (bi (Nat.beq e.bytes 128) (.own id 0 0 len (some len)) (.sl r.1 true),r.2.put id (bi (Nat.beq e.bytes 128) (.arr e.size 0 r.1 true false true) (.mp [])))):=(rfl)
@[simp] theorem zA3 {t:TypeId} {l:List TypeId}:zlT P (t::l)=ob (ti P t) fun i=>ob (zbK i.desc) fun el=>ti P el:=(rfl)
@[simp] theorem zzw {t u:TypeId}:zci [t,u]=some u:=(rfl)
@[simp] theorem zDo {ts:List TypeId} {vs:List V}:zcO P hs id ts vs=ob (zvN vs) fun p=>ob (zlT P ts) fun e=>ob (zci ts) fun u=>ob (ti P u) fun j=>ob (zbK j.desc) fun _=>zdA e hs id p.1 p.2:=(rfl)
@[simp] theorem append_nil {e:TI} {x:V}:zdA e hs id .snil x=ob (zcZ hs e.size x) fun new=>gd (et (sizes e.size new) (et (zY new) (et (nt (Nat.beq e.size 0)) (et (nt (Nat.beq e.bytes 0)) (Nat.beq (zU e.zero) e.size))))) (zeo e hs id new):=(rfl)
@[simp] theorem zH6 {e:TI} {es:List (List V)} {t:Bool} {x:V}:zdA e hs id (.sl es t) x=ob (zcZ hs e.size x) fun new=>gd (et (sizes e.size new) (et (zY new) (et (nt (Nat.beq e.size 0)) (et (nt (Nat.beq e.bytes 0)) (Nat.beq (zU e.zero) e.size))))) (zfM e hs id es t new):=(rfl)
@[simp] theorem zDm {e:TI} {i g o n:Nat} {c:Option Nat} {x:V}:zdA e hs id (.own i g o n c) x=ob (zcZ hs e.size x) fun new=>gd (et (sizes e.size new) (et (zY new) (et (nt (Nat.beq e.size 0)) (et (nt (Nat.beq e.bytes 0)) (Nat.beq (zU e.zero) e.size))))) (zdz e hs id i g o n c new):=(rfl)
@[simp] theorem zAU {e:TI} {new:List (List V)}:zeo e hs id new=bi (Nat.beq (zU new) 0) (some (.snil,hs)) (gd (zcT (zU new) e.bytes) (zdX e hs id (zU new) new)):=(rfl)
@[simp] theorem zDn {e:TI} {es new:List (List V)} {t:Bool}:zfM e hs id es t new=bi (Nat.beq (zU new) 0) (some (.sl es t,hs)) (gd (et t (et (zcT (zU es+zU new) e.bytes) (sizes e.size es))) (zdX e hs id (zU es+zU new) (zb9 es new))):=(rfl)
@[simp] theorem zMy {e:TI} {n:Nat} {es:List (List V)}:zdX e hs id n es=some (.own id 0 0 n none,hs.put id (.arr e.size 0 es false false true)):=(rfl)
@[simp] theorem zwd {e:TI} {i g o n:Nat} {new:List (List V)}:zdz e hs id i g o n none new=ob (zbb hs i g) fun a=>gd (et a.2.2.2.2 (et (Nat.beq a.1 e.size) (et (Nat.beq (o % a.1) 0) (zcT (n+zU new) e.bytes))))
 (bi (Nat.ble (o / a.1+n+zU new) (zU a.2.1)) (zc9 hs i g o n none a new)
     (gd (et (nt a.2.2.2.1) (et (Nat.beq o 0) (Nat.ble n (zU a.2.1)))) (some (.own i (g+1) 0 (n+zU new) none,hs.wr i (.arr a.1 (g+1) (zb9 (zg8 n a.2.1) new) false false true))))):=(rfl)
@[simp] theorem zwc {e:TI} {i g o n c:Nat} {new:List (List V)}:zdz e hs id i g o n (some c) new=ob (zbb hs i g) fun a=>gd (et a.2.2.2.2 (et (Nat.beq a.1 e.size) (et (Nat.beq (o % a.1) 0) (zcT (n+zU new) e.bytes))))
 (bi (Nat.ble (n+zU new) c) (zc9 hs i g o n (some c) a new) (ob (zdG a.1 o n a.2.1) fun old=>zdX e hs id (n+zU new) (zb9 old new))):=(rfl)
@[simp] theorem zDp {i g o n:Nat} {c:Option Nat} {a:Nat×List (List V)×Bool×Bool×Bool} {new:List (List V)}:zc9 hs i g o n c a new=gd (et (nt a.2.2.2.1) (Nat.ble (o / a.1+n+zU new) (zU a.2.1)))
 (some (.own i g o (n+zU new) c,hs.wr i (.arr a.1 g (zbl a.2.1 (o / a.1+n) new) a.2.2.1 false a.2.2.2.2))):=(rfl)
@[simp] theorem zK0 {size off len:Nat} {es:List (List V)}:zdG size off len es=gd (et (Nat.beq (off % size) 0) (Nat.ble (off / size+len) (zU es))) (some (zg8 len (ziL (off / size) es))):=(rfl)
@[simp] theorem zA2 {n:Nat}:zcZ hs n .snil=some []:=(rfl)
@[simp] theorem zGH {n:Nat} {es:List (List V)} {t:Bool}:zcZ hs n (.sl es t)=some es:=(rfl)
@[simp] theorem zCI {n i g o k:Nat} {c:Option Nat}:zcZ hs n (.own i g o k c)=ob (zbb hs i g) fun a=>gd (et a.2.2.2.2 (Nat.beq a.1 n)) (zdG a.1 o k a.2.1):=(rfl)
@[simp] theorem zK1 {ts:List TypeId} {vs:List V}:zeZ P hs ts vs=ob (zvN vs) fun p=>ob (zlT P ts) fun e=>ob (zci ts) fun _=>znr e hs p.1 p.2:=(rfl)
@[simp] theorem zGV {e:TI} {i g o n:Nat} {c:Option Nat} {x:V}:znr e hs (.own i g o n c) x=ob (zcZ hs e.size x) fun src=>zie e hs i g o n src:=(rfl)
@[simp] theorem zGU {e:TI} {i g o n:Nat} {src:List (List V)}:zie e hs i g o n src=ob (zbb hs i g) fun a=>gd (et (nt a.2.2.2.1) (et a.2.2.2.2 (et (Nat.beq a.1 e.size) (et (Nat.beq (o % a.1) 0) (et (sizes e.size src) (et (zY src) (Nat.ble (o / a.1+zvT (zU src) n) (zU a.2.1))))))))
 (some (.int .i64 (Int.ofNat (zvT (zU src) n)),hs.wr i (.arr a.1 g (zbl a.2.1 (o / a.1) (zg8 (zvT (zU src) n) src)) a.2.2.1 false true))):=(rfl)
@[simp] theorem zPs {a b:Nat}:zvT a b=min a b:=by unfold zvT;rw[zav];simp only[ble_true];split<;>omega
@[simp] theorem zJb {v:V}:zbs v hs=ob (zbg hs v) fun v'=>some (v',zbc hs v.cells):=(rfl)
@[simp] theorem zB9 {l:List V}:zbg hs (.agg l)=ob (zcE hs l) fun l=>some (.agg l):=(rfl)
@[simp] theorem zyU:zcE hs []=some []:=(rfl)
@[simp] theorem zw5 {v:V} {l:List V}:zcE hs (v::l)=ob (zb6 hs v) fun v'=>ob (zcE hs l) fun l'=>some (v'::l'):=(rfl)
@[simp] theorem zyX {i g o n:Nat} {c:Option Nat}:zb6 hs (.own i g o n c)=ob (zbb hs i g) fun a=>gd a.2.2.2.2 (ob (zdG a.1 o n a.2.1) fun l=>some (.sl l false)):=(rfl)
@[simp] theorem zBB {k:IntKind} {n:Int}:zb6 hs (.int k n)=some (.int k n):=(rfl)
@[simp] theorem z8G {b:Bool}:zb6 hs (.bool b)=some (.bool b):=(rfl)
@[simp] theorem zBA {b:List Nat}:zb6 hs (.str b)=some (.str b):=(rfl)
@[simp] theorem zEs {es:List (List V)} {b:Bool}:zb6 hs (.sl es b)=some (.sl es b):=(rfl)
@[simp] theorem z8F:zb6 hs .snil=some .snil:=(rfl)
@[simp] theorem zxP:zbc hs []=hs:=(rfl)
@[simp] theorem zvY {v:V} {l:List V}:zbc hs (v::l)=zbo (zbc hs l) v:=(rfl)
@[simp] theorem zAj {i g o n:Nat} {c:Option Nat}:zbo hs (.own i g o n c)=zad hs i:=(rfl)
@[simp] theorem zAk {k:IntKind} {n:Int}:zbo hs (.int k n)=hs:=(rfl)
@[simp] theorem zz9 {b:Bool}:zbo hs (.bool b)=hs:=(rfl)
@[simp] theorem zAi {b:List Nat}:zbo hs (.str b)=hs:=(rfl)
@[simp] theorem zC7 {es:List (List V)} {b:Bool}:zbo hs (.sl es b)=hs:=(rfl)
@[simp] theorem zz8:zbo hs .snil=hs:=(rfl)
@[simp] theorem zAh {i:Nat}:zad hs i=orc hs (fun o=>orc hs (fun a=>hs.wr i (.arr a.1 a.2.1 a.2.2.1 a.2.2.2.1 true a.2.2.2.2.2)) o.arr?) (hs.H.get i):=(rfl)
theorem zjX {α:Type}:∀ (l:List α) (n:Nat) (m:List α),n<=l.length->n+m.length<=l.length->zbl l n m=l.take n++(m++l.drop (n+m.length)):=by
 intro l
 induction l with
 | nil =>
   intro n m hn hm;have h0:m=[]:=List.eq_nil_of_length_eq_zero (by rw[List.length_nil]at hm;omega);subst h0;simp
 | cons x l ih =>
   intro n m hn hm
   cases n with
   | zero =>
     cases m with
     |nil=>simp
     | cons y m =>
       rw[zh7,ih 0 m (by omega) (by simp at hm ⊢;omega)];simp
   | succ n =>
     rw[zjc,ih n m (by simpa using hn) (by simp at hm ⊢;omega)];simp[Nat.add_right_comm]
@[simp] theorem zEw {n:Nat}:sizes n []=true:=(rfl)
@[simp] theorem zBD {n:Nat} {x:List V} {l:List (List V)}:sizes n (x::l)=et (Nat.beq (zU x) n) (sizes n l):=(rfl)
@[simp] theorem z7N:zY []=true:=(rfl)
@[simp] theorem zy2 {x:List V} {l:List (List V)}:zY (x::l)=et (zvB x) (zY l):=(rfl)
end
section
variable {hs:HS}{r:V}
@[simp] theorem zHO {i g o n:Nat} {c:Option Nat}:Gives r (.own i g o n c) hs=(zb6 hs (.own i g o n c)=some r):=(rfl)
@[simp] theorem zHQ {l:List V}:Gives r (.agg l) hs=((ob (zcE hs l) fun l=>some (V.agg l))=some r):=(rfl)
@[simp] theorem zBm {l:List V}:Gives r (.tuple l) hs=((ob (zaB hs l) fun l=>some (V.tuple l))=some r):=(rfl)
@[simp] theorem zKU {es:List (List V)} {t:Bool}:Gives r (.sl es t) hs=(.sl es t=r):=by show (some (V.sl es t)=some r)=_;simp
@[simp] theorem zDq:Gives r .snil hs=(.snil=r):=by show (some V.snil=some r)=_;simp
@[simp] theorem zyV:zaB hs []=some []:=(rfl)
@[simp] theorem zw6 {v:V} {l:List V}:zaB hs (v::l)=ob (zbg hs v) fun v'=>ob (zaB hs l) fun l'=>some (v'::l'):=(rfl)
@[simp] theorem zyW {i g o n:Nat} {c:Option Nat}:zbg hs (.own i g o n c)=zb6 hs (.own i g o n c):=(rfl)
@[simp] theorem zB8 {k:IntKind} {n:Int}:zbg hs (.int k n)=some (.int k n):=(rfl)
@[simp] theorem z8E {b:Bool}:zbg hs (.bool b)=some (.bool b):=(rfl)
@[simp] theorem zB7 {b:List Nat}:zbg hs (.str b)=some (.str b):=(rfl)
@[simp] theorem zEr {es:List (List V)} {b:Bool}:zbg hs (.sl es b)=some (.sl es b):=(rfl)
@[simp] theorem z8D:zbg hs .snil=some .snil:=(rfl)
end
end Go.J
/- Contracts in use. -/
namespace Go.J
abbrev Spec:=List V->HS->Option (V×HS)
def zli(s:List V->Option V):Spec:=fun vs hs=>gd (zD vs) (ob (s vs) fun v=>some (v,hs))
def zGY(L:List (Nat×Spec))(f:FuncId)(vs:List V)(hs:HS):Option (V×HS):=lr none (fun p _ ih=>bi (Nat.beq f p.1) (p.2 vs hs) ih) L
def zG9(P:Program)(pol:FuncId->Nat)(L:List (Nat×Spec)):Env:={ P:=P,pol:=pol,con:=zGY L }
structure Valid(ρ:Nat->Value)(P:Program)(f:Nat)(s:Spec):Prop where
 fn:zeI P f
 ok:∀ {vs hs v hs'},s vs hs=some (v,hs')->CallOk ρ P f vs hs v hs'
 kept:∀ {vs hs r},s vs hs=some r->Kept hs r.2
theorem zvj(p:Nat×Spec)(L:List (Nat×Spec))(f:FuncId):zGY (p::L) f=if f=p.1 then p.2 else zGY L f:=by
 funext vs hs
 show bi (Nat.beq f p.1) (p.2 vs hs) (zGY L f vs hs)=_;rw[zav];by_cases h:f=p.1
 . rw[if_pos (beq_true.2 h),if_pos h]
 . rw[if_neg (fun e=>h (beq_true.1 e)),if_neg h]
theorem zt{ρ:Nat->Value}{P:Program}{pol:FuncId->Nat}:∀ {L:List (Nat×Spec)},(∀ p∈L,Valid ρ P p.1 p.2)->ConsOk ρ (zG9 P pol L):=by
 intro L h
 have key:∀ (M:List (Nat×Spec)),(∀ p∈M,p∈L)->∀ {f vs hs q},zGY M f vs hs=some q->∃ p∈L,p.1=f/\p.2 vs hs=some q:=by
  intro M
  induction M with
  |nil=>intro _ f vs hs q hq;cases hq
  | cons p M ih =>
    intro hM f vs hs q hq;rw[zvj]at hq;split at hq
    . rename_i e;exact⟨p,hM p (List.mem_cons_self ..),e.symm,hq⟩
    . exact ih (fun p hp=>hM p (List.mem_cons_of_mem _ hp)) hq
 refine⟨?_,?_,?_⟩
 . intro f vs hs v hs' hq;obtain⟨p,hp,rfl,h2⟩:=key L (fun _ h=>h) hq;exact(h p hp).ok h2
 . intro f vs hs q hq;obtain⟨p,hp,rfl,h2⟩:=key L (fun _ h=>h) hq;exact(h p hp).kept h2
 . intro f vs hs q hq;obtain⟨p,hp,rfl,h2⟩:=key L (fun _ h=>h) hq;exact(h p hp).fn
theorem valid_nil{ρ:Nat->Value}{P:Program}:∀ p∈([]:List (Nat×Spec)),Valid ρ P p.1 p.2:=fun p h=>by cases h
theorem zq{ρ:Nat->Value}{P:Program}{f:Nat}{s:Spec}{L:List (Nat×Spec)}(h:Valid ρ P f s)(hl:∀ p∈L,Valid ρ P p.1 p.2):∀ p∈(f,s)::L,Valid ρ P p.1 p.2:=by
 intro p hp;rcases List.mem_cons.1 hp with rfl|hp
 . exact h
 . exact hl p hp
theorem Valid.pure{ρ:Nat->Value}(hρ:Good ρ){P:Program}(hP:P.follows .mixedOrders=true)(hN:zdQ P){f:Nat}{s:List V->Option V}(hf:zeI P f)
 (h:∀ vs v,zD vs=true->s vs=some v->∃ E n,ConsOk ρ E/\E.P=P/\zyY E n f vs=some v):Valid ρ P f (zli s) where
 fn:=hf
 ok:=by
  intro vs hs v hs' hq;simp only[zli,z8,zu]at hq;obtain⟨hp,v',hv,hq⟩:=hq;cases hq;obtain⟨E,n,hc,rfl,hr⟩:=h vs v hp hv;exact zeO hρ hc hP hN hr hp
 kept:=by
  intro vs hs q hq;simp only[zli,z8,zu]at hq;obtain⟨_,v',_,hq⟩:=hq;cases hq;exact .refl _
theorem zeK{hs:HS}{u v:V}(h:zb6 hs u=some v)(hs1:v.scal1=true):u=v:=by
 unfold zb6 at h;split at h
 . unfold zd3 at h;simp only[zu,z8]at h;obtain⟨_,_,_,_,_,h⟩:=h;cases h;cases hs1
 . simp only[z8]at h;exact Option.some.inj h.2
theorem zmG{hs:HS}:∀ {l m:List V},zcE hs l=some m->z7K m=true->l=m:=by
 intro l
 induction l with
 |nil=>intro m h _;cases h;rfl
 | cons u l ih =>
   intro m h hm;replace h:(ob (zb6 hs u) fun v'=>ob (zcE hs l) fun l'=>some (v'::l'))=some m:=h;simp only[zu]at h;obtain⟨v,hv,r,hr,h⟩:=h;cases h;replace hm:et v.scal1 (z7K r)=true:=hm;rw[et_true]at hm;rw[zeK hv hm.1,ih hr hm.2]
theorem zmJ{hs:HS}{u v:V}(h:zbg hs u=some v)(hs1:v.scal1=true):u=v:=by
 unfold zbg at h;split at h
 . simp only[zu]at h;obtain⟨_,_,h⟩:=h;cases h;cases hs1
 . exact zeK h hs1
theorem zmH{hs:HS}:∀ {l m:List V},zaB hs l=some m->z7K m=true->l=m:=by
 intro l
 induction l with
 |nil=>intro m h _;cases h;rfl
 | cons u l ih =>
   intro m h hm;replace h:(ob (zbg hs u) fun v'=>ob (zaB hs l) fun l'=>some (v'::l'))=some m:=h;simp only[zu]at h;obtain⟨v,hv,r,hr,h⟩:=h;cases h;replace hm:et v.scal1 (z7K r)=true:=hm;rw[et_true]at hm;rw[zmJ hv hm.1,ih hr hm.2]
theorem zoZ {hs:HS} {u v:V} (h:still hs u=some v) (hv:v.scal=true):u=v:=by
 unfold still at h;split at h
 . simp only[zu]at h;obtain⟨l,hl,h⟩:=h;cases h;rw[zmH hl hv]
 . unfold zbg at h;split at h
   . simp only[zu]at h;obtain⟨l,hl,h⟩:=h;cases h;rw[zmG hl hv]
   . refine zeK h ?_;rename_i _ hne1 _ hne2;cases v<;>first|exact hv|skip
     all_goals
      exfalso;unfold zb6 at h;split at h
      . unfold zd3 at h;simp only[zu,z8]at h;obtain⟨_,_,_,_,_,h⟩:=h;cases h
      . simp only[z8]at h;have e:=Option.some.inj h.2
        first|exact hne1 _ e|exact hne2 _ e
def zqV(s:List V->Option V):Spec:=fun vs hs=>ob (zaB hs vs) fun vs'=>gd (zD vs') (ob (s vs') fun v=>gd v.scal (some (v,hs)))
theorem Valid.scal{ρ:Nat->Value}(hρ:Good ρ){P:Program}(hP:P.follows .mixedOrders=true)(hN:zdQ P){f:Nat}{s:List V->Option V}(hf:zeI P f)
 (h:∀ vs v,zD vs=true->s vs=some v->∃ E n,ConsOk ρ E/\E.P=P/\zyY E n f vs=some v):Valid ρ P f (zqV s) where
 fn:=hf
 ok:=by
  intro vs hs v hs' hq;simp only[zqV,z8,zu]at hq;obtain⟨vs',hst,hp,v',hv,hsc,hq⟩:=hq;cases hq;obtain⟨E,n,hc,rfl,hr⟩:=h vs' v hp hv;simp only[zyY,zu]at hr;obtain⟨⟨v1,hs1⟩,h1,h2⟩:=hr;have e:v1=v:=zoZ h2 hsc;subst e;refine zik (ev:=evJ E n) hst (fun h=>(zo6 hρ hc hP hN n).call h) ?_;simp only[zaX,zu,z8];exact⟨(v1,hs1),h1,hsc,rfl⟩
 kept:=by
  intro vs hs q hq;simp only[zqV,z8,zu]at hq;obtain⟨_,_,_,_,_,_,hq⟩:=hq;cases hq;exact .refl _
def zPR(s:List V->Option V):Spec:=fun vs hs=>ob (zaF vs hs) fun q=>gd (zD q.1) (ob (s q.1) fun v=>some (v,q.2))
section
variable {vs:List V}{hs:HS}{s:List V->Option V}{K:V×HS->Prop}
@[simp] theorem zJf:ok (zli s vs hs) K=(zD vs=true/\ok (s vs) fun v=>K (v,hs)):=by simp only[zli,zbV,zaj,zF]
@[simp] theorem zI7:ok (zqV s vs hs) K=ok (zaB hs vs) fun vs'=>zD vs'=true/\ok (s vs') fun v=>v.scal=true/\K (v,hs):=by simp only[zqV,zbV,zaj,zF]
@[simp] theorem zNl:ok (zPR s vs hs) K=ok (zaF vs hs) fun q=>zD q.1=true/\ok (s q.1) fun v=>K (v,q.2):=by simp only[zPR,zbV,zaj,zF]
@[simp] theorem zxb:zaF [] hs=some ([],hs):=(rfl)
@[simp] theorem zvP {v:V} {l:List V}:zaF (v::l) hs=ob (zbs v hs) fun r=>ob (zaF l r.2) fun q=>some (r.1::q.1,q.2):=(rfl)
@[simp] theorem zAW:zD []=true:=(rfl)
@[simp] theorem z7L {v:V} {l:List V}:zD (v::l)=(v.pure&&zD l):=by rw[<- zpA];rfl
@[simp] theorem zJe {l:List V}:(V.agg l).pure=zoI l:=(rfl)
@[simp] theorem zKJ:zoI []=true:=(rfl)
@[simp] theorem zH7 {v:V} {l:List V}:zoI (v::l)=(v.pure2&&zoI l):=by rw[<- zpA];rfl
@[simp] theorem zJd {k:IntKind} {n:Int}:(V.int k n).pure=true:=(rfl)
@[simp] theorem zEJ {b:Bool}:(V.bool b).pure=true:=(rfl)
@[simp] theorem zJc {b:List Nat}:(V.str b).pure=true:=(rfl)
@[simp] theorem zLY {es:List (List V)} {t:Bool}:(V.sl es t).pure=true:=(rfl)
@[simp] theorem zEI:V.snil.pure=true:=(rfl)
@[simp] theorem zEL {k:IntKind} {n:Int}:(V.int k n).pure2=true:=(rfl)
@[simp] theorem zBQ {b:Bool}:(V.bool b).pure2=true:=(rfl)
@[simp] theorem zEK {b:List Nat}:(V.str b).pure2=true:=(rfl)
@[simp] theorem zJg {es:List (List V)} {t:Bool}:(V.sl es t).pure2=true:=(rfl)
@[simp] theorem zBP:V.snil.pure2=true:=(rfl)
@[simp] theorem zzd:V.nilmap.pure2=true:=(rfl)
@[simp] theorem zxd:V.nilFunc.pure2=true:=(rfl)
end
end Go.J
