import Derived.Test.YtfgmnebfhemnpaaGreatJF
set_option linter.all false
noncomputable section
/- Rules of rewriting for symbolic runs. -/
namespace Go.J
section
variable {E:Env}{id:Nat}{T:PT V}{hs:HS}{K:V->HS->Prop}{sz:Nat}
@[simp ↓] theorem zTa {R:PT V->HS->Prop}:Rs E sz [] id T hs R=R T hs:=(rfl)
@[simp ↓] theorem zOD {d:Option Tmp} {op:Op} {g:Option (Tmp×Bool)} {l:List SOp} {R:PT V->HS->Prop}:Rs E sz (⟨d,op,g⟩::l) id T hs R=wpS E id T hs ⟨d,op,g⟩ fun v hs'=>put sz T d v fun T1=>Rs E sz l (id+1) T1 hs' R:=(rfl)
@[simp ↓] theorem zTo {d:Option Tmp} {op:Op}:wpS E id T hs ⟨d,op,none⟩ K=wpO E id T hs op K:=(rfl)
@[simp ↓] theorem zTp {d:Option Tmp} {op:Op} {t:Tmp} {w:Bool}:wpS E id T hs ⟨d,op,some (t,w)⟩ K=ok (T.get t) fun v=>ok (v.guard? w) fun q=>br (q=w) (wpO E id T hs op K) (K undefV hs):=by
  simp only[zBv];rfl
@[simp ↓] theorem zJy {d:Tmp} {v:V} {R:PT V->Prop}:put sz T (some d) v R=(d<sz/\R (T.set d v)):=(rfl)
@[simp ↓] theorem zJ0 {v:V} {R:PT V->Prop}:put sz T none v R=R T:=(rfl)
theorem zgW{p:Prop}:((0:Nat)≠0->p)=True:=propext ⟨fun _=>trivial,fun _ h=>absurd rfl h⟩
theorem and_one{p:Prop}:((1:Nat)≠0->p)=p:=propext ⟨fun h=>h (by decide),fun h _=>h⟩
theorem zoa{p:Prop}:((2:Nat)≠0->p)=p:=propext ⟨fun h=>h (by decide),fun h _=>h⟩
theorem zkL{op:Op}(hc:zM op=0)(hd:wpO E id T hs op K=((zM op≠0->hs.H.get id=none)/\ok (opJ E.P false T hs id (opR op)) fun r=>K r.1 r.2)):wpO E id T hs op K=ok (opJ E.P false T hs id (opR op)) fun r=>K r.1 r.2:=by
 rw[hd,hc,zgW,true_and]
@[simp ↓] theorem wp_move {x:Operand}:wpO E id T hs (.move x) K=ok (zF T x) fun v=>K v hs:=by
  rw[zkL rfl rfl];show ok (ob (zF T x) fun v=>some (v,hs)) _=_;simp only[zal,zG]
@[simp ↓] theorem wp_assign {x:Operand}:wpO E id T hs (.assign x) K=ok (zF T x) fun v=>K v hs:=by
  rw[zkL rfl rfl];show ok (ob (zF T x) fun v=>some (v,hs)) _=_;simp only[zal,zG]
@[simp ↓] theorem zLz {c a b:Operand}:wpO E id T hs (.pick c a b) K=ok (zF T c) fun v=>ok v.bool? fun q=>ok (bi q (zF T a) (zF T b)) fun v=>K v hs:=by
  rw[zkL rfl rfl];show ok (zkq T hs c a b) _=_;simp only[zkq,zal,zG]
@[simp ↓] theorem zL0 {t:TypeId} {a:Operand}:wpO E id T hs (.load t a) K=ok (ti E.P t) fun i=>ok (zF T a) fun p=>ok (zgJ i hs p) fun v=>K v hs:=by
  rw[zkL rfl rfl];show ok (zdA E.P T hs t a) _=_;simp only[zdA,zal,zG]
@[simp ↓] theorem zIz {b:BinOp} {t u:TypeId} {x y:Operand}:wpO E id T hs (.binOp b t x y u) K=ok (zF T x) fun p=>ok (zF T y) fun q=>ok (zyT E.P b t p q) fun v=>K v hs:=by
  rw[zkL rfl rfl];show ok (zfJ E.P T hs b t x y) _=_;simp only[zfJ,zal,zG]
@[simp ↓] theorem zLy {b:UnOp} {t:TypeId} {x:Operand}:wpO E id T hs (.unOp b t x) K=ok (zka T hs b x) fun r=>K r.1 r.2:=by
  rw[zkL rfl rfl];rfl
@[simp ↓] theorem zzp {t:TypeId} {x:Operand} {f:Nat}:wpO E id T hs (.fieldAddr t x f) K=ok (ti E.P t) fun i=>ok (zC i f) fun fd=>ok (ti E.P fd.type) fun fi=>nt (Nat.beq fi.size 0)=true/\ok (zF T x) fun v=>ok (zbd fd.offset v) fun r=>K r hs:=by
  rw[zkL rfl rfl];show ok (zb3 E.P T hs t x f) _=_;simp only[zb3,zal,zca,zG]
@[simp ↓] theorem zIy {t:TypeId} {x:Operand} {f:Nat}:wpO E id T hs (.field t x f) K=ok (ti E.P t) fun i=>ok (zC i f) fun fd=>ok (ti E.P fd.type) fun fi=>ok (zF T x) fun v=>ok v.agg? fun cs=>ok (zeB fi cs fd.offset) fun v=>K v hs:=by
  rw[zkL rfl rfl];show ok (zfA E.P T hs t x f) _=_;simp only[zfA,zal,zG]
@[simp ↓] theorem zzo {t:TypeId} {x ix:Operand}:wpO E id T hs (.indexAddr t x ix) K=ok (ti E.P t) fun i=>ok (elemOf i.desc) fun el=>ok (ti E.P el.1) fun e=>ok (zF T x) fun v=>ok (zF T ix) fun n=>ok n.nat? fun n=>ok (zCX el.2 e n v) fun r=>K r hs:=by
  rw[zkL rfl rfl];show ok (zb2 E.P T hs t x ix) _=_;simp only[zb2,zal,zG]
@[simp ↓] theorem zIx {t:TypeId} {x ix:Operand}:wpO E id T hs (.index t x ix) K=ok (ti E.P t) fun i=>isStr i.desc=true/\ok (zF T x) fun v=>ok v.str? fun s=>ok (zF T ix) fun n=>ok n.nat? fun n=>ok (zeR s n) fun b=>K (.int .u8 (Int.ofNat b)) hs:=by
  rw[zkL rfl rfl];show ok (zf7 E.P T hs t x ix) _=_;simp only[zf7,zal,zca,zG]
@[simp ↓] theorem zBN {x:Operand} {k:Nat}:wpO E id T hs (.extract x k) K=ok (zF T x) fun v=>ok v.tuple? fun vs=>ok (zeR vs k) fun v=>K v hs:=by
  rw[zkL rfl rfl];show ok (zc7 T hs x k) _=_;simp only[zc7,zal,zG]
@[simp ↓] theorem z8F {x:Operand}:wpO E id T hs (.nilCheck x) K=ok (zF T x) fun v=>notNil v=true/\K v hs:=by
  rw[zkL rfl rfl];show ok (zbV T hs x) _=_;simp only[zbV,zal,zca,zG]
@[simp ↓] theorem wp_build {t:TypeId} {ps:Array (Nat×Operand)}:wpO E id T hs (.build t ps) K=ok (ti E.P t) fun i=>ok (bi (za1 i.desc) (gd (zaP E.P (fieldsOf i.desc)) (zdN E.P T i ps.toList i.zero)) (ob (zqx i.desc) fun el=>ob (ti E.P el) fun e=>zcx T e.size ps.toList i.zero)) fun cs=>K (.agg cs) hs:=by
  rw[zkL rfl rfl];show ok (zcA E.P T hs t ps) _=_;unfold zcA;simp only[zal (ti E.P t)];congr 1;funext i;rw[zal];congr 1;funext cs;rw[zG]
@[simp ↓] theorem zIw {t:TypeId} {x:Operand} {lo hi mx:Option Operand}:wpO E id T hs (.slice t x lo hi mx) K=ok (ti E.P t) fun i=>ok (zF T x) fun v=>ok (zbO E.P T hs i v lo hi mx) fun r=>K r hs:=by
  rw[zkL rfl rfl];show ok (zc4 E.P T hs t x lo hi mx) _=_;simp only[zc4,zal,zG]
@[simp ↓] theorem zDS {t:TypeId} {m k:Operand} {b:Bool}:wpO E id T hs (.lookup t m k b) K=ok (zao E.P T hs t m k b) fun r=>K r.1 r.2:=by
  rw[zkL rfl rfl];rfl
@[simp ↓] theorem zBO {s d:TypeId} {x:Operand}:wpO E id T hs (.convert s d x) K=ok (ti E.P s) fun _=>ok (ti E.P d) fun j=>ok (zF T x) fun v=>ok (znN j.desc v) fun r=>K r hs:=by
  rw[zkL rfl rfl];show ok (zkA E.P T hs s d x) _=_;simp only[zkA,zal,zG]
@[simp ↓] theorem z8G {f:FuncId} {cs:Array Operand}:wpO E id T hs (.makeFunc (.func f) #[] cs) K=ok (zaJ T cs.toList) fun l=>K (.func f l) hs:=by
  rw[zkL rfl rfl];show ok (zdx T hs (.func f) #[] cs) _=_;show ok (gd true (ob (zaJ T cs.toList) fun l=>some (V.func f l,hs))) _=_;simp only[zbA,zal,zG]
@[simp ↓] theorem zzn {t:TypeId} {x:Operand}:wpO E id T hs (.makeInterface t x) K=ok (ti E.P t) fun i=>nt (isIface i.desc)=true/\ok (zF T x) fun v=>K (.iface t v) hs:=by
  rw[zkL rfl rfl];show ok (zcd E.P T hs t x) _=_;simp only[zcd,zal,zca,zG]
theorem zDU{op:Op}(hc:zM op=1)(hd:wpO E id T hs op K=((zM op≠0->hs.H.get id=none)/\ok (opJ E.P false T hs id (opR op)) fun r=>K r.1 r.2)):wpO E id T hs op K=(hs.H.get id=none/\ok (opJ E.P false T hs id (opR op)) fun r=>K r.1 r.2):=by
 rw[hd,hc,and_one]
theorem zOO{op:Op}(hc:zM op=2)(hd:wpO E id T hs op K=((zM op≠0->hs.H.get id=none)/\ok (opJ E.P false T hs id (opR op)) fun r=>K r.1 r.2)):wpO E id T hs op K=(hs.H.get id=none/\ok (opJ E.P false T hs id (opR op)) fun r=>K r.1 r.2):=by
 rw[hd,hc,zoa]
@[simp ↓] theorem zI0 {t:TypeId}:wpO E id T hs (.alloc t) K=(hs.H.get id=none/\ok (ti E.P t) fun i=>Nat.beq (zR i.zero) i.size=true/\K (.ptr id 0 0) (hs.put id (.arr i.size 0 [i.zero] true false false))):=by
  rw[zDU rfl rfl];show (_/\ok (zdO E.P hs id t) _)=_;simp only[zdO,zal,zca,zG]
@[simp ↓] theorem zON {t:TypeId} {x:Operand}:wpO E id T hs (.box t x) K=(hs.H.get id=none/\ok (zF T x) fun v=>K (.ptr id 0 0) (hs.put id (.arr (zR v.cells) 0 [v.cells] true false false))):=by
  rw[zDU rfl rfl];show (_/\ok (zq4 T hs id x) _)=_;simp only[zq4,zal,zG]
@[simp ↓] theorem wp_buildSlice {t:TypeId} {n:Nat} {ps:Array (Nat×Operand)}:wpO E id T hs (.buildSlice t n ps) K=(hs.H.get id=none/\ok (zar E.P false T hs id t n ps) fun r=>K r.1 r.2):=by
  rw[zDU rfl rfl];rfl
@[simp ↓] theorem zzm {t:TypeId} {l c:Operand}:wpO E id T hs (.makeSlice t l c) K=(hs.H.get id=none/\ok (zaC E.P T hs id t l c) fun r=>K r.1 r.2):=by
  rw[zDU rfl rfl];rfl
@[simp ↓] theorem zBM {t:TypeId}:wpO E id T hs (.makeMap t none) K=(hs.H.get id=none/\K (.map id) (hs.put id (.mp []))):=by
  rw[zDU rfl rfl];show (_/\ok (gd true (some (V.map id,hs.put id (.mp [])))) _)=_;simp only[zbA,zG]
@[simp ↓] theorem zIv {t:TypeId} {a x:Operand}:wpO E id T hs (.store t a x) K=(hs.H.get id=none/\ok (ti E.P t) fun i=>ok (zF T a) fun p=>ok (zF T x) fun v=>ok (zeE i hs p v) fun hs'=>K undefV hs'):=by
  rw[zOO rfl rfl];show (_/\ok (zaU E.P T hs t a x) _)=_;simp only[zaU,zal,zG]
@[simp ↓] theorem zzl {t:TypeId} {m k x:Operand}:wpO E id T hs (.mapUpdate t m k x) K=(hs.H.get id=none/\ok (zS E.P T hs t m k x) fun r=>K r.1 r.2):=by
  rw[zOO rfl rfl];rfl
@[simp ↓] theorem zL2 {x:Operand} {xs:Array Operand} {ts:Array TypeId}:wpO E id T hs (.call ⟨.value x,xs,ts⟩) K=(hs.H.get id=none/\ok (zF T x) fun v=>ok (funcOf v) fun p=>ok (zaJ T xs.toList) fun vs=>ok (E.con p.1 (zbB vs p.2) hs) fun r=>K r.1 r.2):=(rfl)
@[simp ↓] theorem zOM {xs:Array Operand} {ts:Array TypeId}:wpO E id T hs (.call ⟨.builtin .len,xs,ts⟩) K=ok (zaJ T xs.toList) fun vs=>ok (zgw E.P hs ts.toList vs) fun r=>K r.1 r.2:=by
  show ((zM (.call ⟨.builtin .len,xs,ts⟩)≠0->_)/\_)=_;rw[show zM (.call ⟨.builtin .len,xs,ts⟩)=0 from rfl,zgW,true_and];rfl
@[simp ↓] theorem zOK {xs:Array Operand} {ts:Array TypeId}:wpO E id T hs (.call ⟨.builtin .min,xs,ts⟩) K=ok (zaJ T xs.toList) fun vs=>ok (zcb hs true vs) fun r=>K r.1 r.2:=by
  show ((zM (.call ⟨.builtin .min,xs,ts⟩)≠0->_)/\_)=_;rw[show zM (.call ⟨.builtin .min,xs,ts⟩)=0 from rfl,zgW,true_and];rfl
@[simp ↓] theorem zOL {xs:Array Operand} {ts:Array TypeId}:wpO E id T hs (.call ⟨.builtin .max,xs,ts⟩) K=ok (zaJ T xs.toList) fun vs=>ok (zcb hs false vs) fun r=>K r.1 r.2:=by
  show ((zM (.call ⟨.builtin .max,xs,ts⟩)≠0->_)/\_)=_;rw[show zM (.call ⟨.builtin .max,xs,ts⟩)=0 from rfl,zgW,true_and];rfl
@[simp ↓] theorem zDT {xs:Array Operand} {ts:Array TypeId}:wpO E id T hs (.call ⟨.builtin .append,xs,ts⟩) K=(hs.H.get id=none/\ok (zaJ T xs.toList) fun vs=>ok (zcO E.P hs id ts.toList vs) fun r=>K r.1 r.2):=by
  show ((zM (.call ⟨.builtin .append,xs,ts⟩)≠0->_)/\_)=_;rw[show zM (.call ⟨.builtin .append,xs,ts⟩)=2 from rfl,zoa];rfl
@[simp ↓] theorem zL1 {xs:Array Operand} {ts:Array TypeId}:wpO E id T hs (.call ⟨.builtin .copy,xs,ts⟩) K=(hs.H.get id=none/\ok (zaJ T xs.toList) fun vs=>ok (zfb E.P hs ts.toList vs) fun r=>K r.1 r.2):=by
  show ((zM (.call ⟨.builtin .copy,xs,ts⟩)≠0->_)/\_)=_;rw[show zM (.call ⟨.builtin .copy,xs,ts⟩)=2 from rfl,zoa];rfl
attribute [simp ↓] zwd zpg
@[congr] theorem zLd {c c' A B:Prop} (h:c=c'):br c A B=br c' A B:=by rw[h]
@[congr] theorem zJK {α:Type} {x y:Option α} {K:α->Prop} (h:x=y):ok x K=ok y K:=by rw[h]
@[congr] theorem zLw {rd:Bool} {s:SC} {T T':PT V} {hs hs':HS} {Q:Ex->PT V->HS->Prop} (h1:T=T') (h2:hs=hs'):Js E rd sz s T hs Q=Js E rd sz s T' hs' Q:=by rw[h1,h2]
@[congr] theorem z8B {P:Program} {fn:Func} {K:V->HS->Prop} {ex ex':Ex} {T T':PT V} {hs hs':HS} (h0:ex=ex') (h1:T=T') (h2:hs=hs'):Leaves P fn K ex T hs=Leaves P fn K ex' T' hs':=by rw[h0,h1,h2]
@[congr] theorem zJM {α β:Type} {x y:Option α} {f:α->Option β} (h:x=y):ob x f=ob y f:=by rw[h]
@[congr] theorem zKv {β:Type} {c d:Bool} {x:Option β} (h:c=d):gd c x=gd d x:=by rw[h]
@[congr] theorem zF4 {α β:Type} {z:β} {f:α->β} {x y:Option α} (h:x=y):orc z f x=orc z f y:=by rw[h]
@[congr] theorem zLj {α:Type} {c d:Bool} {x y:α} (h:c=d):bi c x y=bi d x y:=by rw[h]
@[simp] theorem zSQ {α:Type} {p:Prop} [Decidable p] {x y:α}:bi (decide p) x y=if p then x else y:=by rw[zaz];simp
@[simp ↓] theorem zF5 {α:Type} (a:α) (K:α->Prop):ok (some a) K=K a:=zG a K
@[simp ↓] theorem zMG {α β:Type} (x:Option α) (f:α->Option β) (K:β->Prop):ok (ob x f) K=ok x fun a=>ok (f a) K:=zal x f K
@[simp ↓] theorem zMH {α:Type} (c:Bool) (x:Option α) (K:α->Prop):ok (gd c x) K=(c=true/\ok x K):=zca c x K
@[simp ↓] theorem zFF {α β:Type} (a:α) (f:α->Option β):ob (some a) f=f a:=(rfl)
@[simp ↓] theorem zGl {β:Type} (x:Option β):gd true x=x:=(rfl)
@[simp ↓] theorem zC3 {α β:Type} (z:β) (f:α->β) (a:α):orc z f (some a)=f a:=(rfl)
@[simp ↓] theorem zHJ {α:Type} (x y:α):bi true x y=x:=(rfl)
@[simp ↓] theorem zDF {α:Type} (x y:α):bi false x y=y:=(rfl)
@[simp] theorem zGW {t:Tmp}:zF T (.tmp t)=T.get t:=(rfl)
@[simp] theorem zAS {v:Value}:zF T (.const v)=zcJ v:=(rfl)
@[simp] theorem zDe {f:FuncId}:zF T (.func f)=some (.func f []):=(rfl)
@[simp] theorem zzK {b:Bool}:zcJ (.bool b)=some (.bool b):=(rfl)
@[simp] theorem z9N {k:IntKind} {n:Int}:zcJ (.int k n)=some (.int k n):=(rfl)
@[simp] theorem z9M {s:ByteArray}:zcJ (.string s)=some (.str (bytesOf s)):=(rfl)
@[simp] theorem zw6:zcJ (.pointer none)=some .nilptr:=(rfl)
@[simp] theorem zzJ:zcJ (.slice none 0 0)=some .snil:=(rfl)
@[simp] theorem zw7:zcJ (.map none)=some .nilmap:=(rfl)
@[simp] theorem zrJ:zcJ .nilFunc=some .nilFunc:=(rfl)
@[simp] theorem zAB {b w:Bool}:(V.bool b).guard? w=some b:=(rfl)
@[simp] theorem z0i {w:Bool}:(V.tuple []).guard? w=some (!w):=(rfl)
@[simp] theorem z0h {w:Bool}:undefV.guard? w=some (!w):=(rfl)
@[simp] theorem zDC {b:Bool}:(V.bool b).bool?=some b:=(rfl)
@[simp] theorem zKh {k:IntKind} {n:Int}:(V.int k n).int?=some (k,n):=(rfl)
@[simp] theorem zFP {k:IntKind} {n:Nat}:(V.int k (n:Int)).nat?=some n:=(rfl)
@[simp] theorem zCF {k:IntKind} {n:Nat}:(V.int k (Int.ofNat n)).nat?=some n:=(rfl)
@[simp] theorem zFO {k:IntKind}:(V.int k 0).nat?=some 0:=(rfl)
@[simp] theorem zJU {k:IntKind}:(V.int k 1).nat?=some 1:=(rfl)
@[simp] theorem zJV {k:IntKind} {n:Nat}:(V.int k (@OfNat.ofNat Int n instOfNat)).nat?=some n:=(rfl)
@[simp] theorem zIU {s:List Nat}:(V.str s).str?=some s:=(rfl)
@[simp] theorem zLo {s:List V}:(V.agg s).agg?=some s:=(rfl)
@[simp] theorem zz2 {s:List V}:(V.tuple s).tuple?=some s:=(rfl)
@[simp] theorem zH5 {s:List V}:(V.agg s).cells=s:=(rfl)
@[simp] theorem zH4 {k:IntKind} {n:Int}:(V.int k n).cells=[.int k n]:=(rfl)
@[simp] theorem zDz {b:Bool}:(V.bool b).cells=[.bool b]:=(rfl)
@[simp] theorem zH0 {b:List Nat}:(V.str b).cells=[.str b]:=(rfl)
@[simp] theorem zDy:V.snil.cells=[.snil]:=(rfl)
@[simp] theorem zKX {es:List (List V)} {t:Bool}:(V.sl es t).cells=[.sl es t]:=(rfl)
@[simp] theorem zH2 {a b c d:Nat} {t:Option Nat}:(V.own a b c d t).cells=[.own a b c d t]:=(rfl)
@[simp] theorem zH3 {a:Nat}:(V.map a).cells=[.map a]:=(rfl)
@[simp] theorem z8q:(V.nilmap).cells=[.nilmap]:=(rfl)
@[simp] theorem zH1 {a b c:Nat}:(V.ptr a b c).cells=[.ptr a b c]:=(rfl)
@[simp] theorem cells_func {f:Nat} {c:List V}:(V.func f c).cells=[.func f c]:=(rfl)
@[simp] theorem zyF:(V.nilFunc).cells=[.nilFunc]:=(rfl)
@[simp] theorem zAC {f:FuncId} {c:List V}:funcOf (.func f c)=some (f,c):=(rfl)
@[simp] theorem zLn:zwp []=true:=(rfl)
@[simp] theorem zHZ {v:V} {l:List V}:zwp (v::l)=et v.isCell (zwp l):=(rfl)
@[simp] theorem zCN {k:IntKind} {n:Int}:(V.int k n).isCell=true:=(rfl)
@[simp] theorem zAy {b:Bool}:(V.bool b).isCell=true:=(rfl)
@[simp] theorem zCJ {b:List Nat}:(V.str b).isCell=true:=(rfl)
@[simp] theorem zAw:V.snil.isCell=true:=(rfl)
@[simp] theorem zFZ {es:List (List V)} {t:Bool}:(V.sl es t).isCell=true:=(rfl)
@[simp] theorem zCL {a b c d:Nat} {t:Option Nat}:(V.own a b c d t).isCell=true:=(rfl)
@[simp] theorem zCM {a:Nat}:(V.map a).isCell=true:=(rfl)
@[simp] theorem zyk:(V.nilmap).isCell=true:=(rfl)
@[simp] theorem zCK {a b c:Nat}:(V.ptr a b c).isCell=true:=(rfl)
@[simp] theorem zAx {f:Nat} {c:List V}:(V.func f c).isCell=true:=(rfl)
@[simp] theorem zwA:(V.nilFunc).isCell=true:=(rfl)
@[simp] theorem zFX {i:TI} {a g off:Nat}:zgJ i hs (.ptr a g off)=ob (zbb hs a g) fun r=>zk5 i r off:=(rfl)
@[simp] theorem zFW {i:TI} {cs:List V}:zgJ i hs (.ref cs)=zeB i cs 0:=(rfl)
@[simp] theorem zy2 {n a g off:Nat}:zbd n (.ptr a g off)=some (.ptr a g (off+n)):=(rfl)
@[simp] theorem zy1 {n:Nat} {cs:List V}:zbd n (.ref cs)=some (.ref (zjh n cs)):=(rfl)
@[simp] theorem z0b {e:TI} {n:Nat} {es:List (List V)} {t:Bool}:zcE e n (.sl es t)=gd (sizes e.size es) (ob (zeR es n) fun c=>some (.ref c)):=(rfl)
@[simp] theorem zyn {e:TI} {n a g off len:Nat} {c:Option Nat}:zcE e n (.own a g off len c)=gd (Nat.blt n len) (some (.ptr a g (off+n*e.size))):=(rfl)
@[simp] theorem zCc {i:TI} {a g off:Nat} {v:V}:zeE i hs (.ptr a g off) v=bi (isRow hs a) (ob (zbt v hs) fun r=>zb0 i a g off r.1 r.2) (zb0 i a g off v hs):=(rfl)
@[simp] theorem zLl {s g:Nat} {es:List (List V)} {a b c:Bool}:(Obj.arr s g es a b c).arr?=some (s,g,es,a,b,c):=(rfl)
@[simp] theorem zPB {es:List (V×V)}:(Obj.mp es).mp?=some es:=(rfl)
@[simp] theorem zTV {o:Obj} {k:Nat}:(hs.put k o).n=hs.n:=(rfl)
@[simp] theorem wr_n {o:Obj} {k:Nat}:(hs.wr k o).n=hs.n:=(rfl)
@[simp] theorem zO1 {n:Nat} {e:TypeId}:zqx (.array n e)=some e:=(rfl)
@[simp] theorem zyj {n:Nat} {e:TypeId}:za1 (.array n e)=false:=(rfl)
@[simp] theorem zCQ {n:Nat} {e:TypeId}:zba (.array n e)=true:=(rfl)
@[simp] theorem zHk {e:TypeId}:elemOf (.slice e)=some (e,none):=(rfl)
@[simp] theorem zDo {n:Nat} {e:TypeId}:elemOf (.array n e)=some (e,some n):=(rfl)
@[simp] theorem zGg {e:TI} {n:Nat} {v:V}:zCX none e n v=zcE e n v:=(rfl)
@[simp] theorem zGf {k:Nat} {e:TI} {n:Nat} {v:V}:zCX (some k) e n v=gd (Nat.blt n k) (zbd (n*e.size) v):=(rfl)
@[simp] theorem zCi {e:TypeId}:zbN (.slice e)=some e:=(rfl)
@[simp] theorem zKc {k e:TypeId}:mapOf (.map k e)=some (k,e):=(rfl)
@[simp] theorem zLi {P:Program} {b:BinOp} {t:TypeId} {k k':IntKind} {m n:Int}:zyT P b t (.int k m) (.int k' n)=bi (zbl b) (zlr b k m n) (gd (zeI k k') (arith b k m n)):=(rfl)
@[simp] theorem zAf {k:IntKind}:zeI k k=true:=by cases k<;>rfl
@[simp] theorem zLh {P:Program} {b:BinOp} {t:TypeId} {m n:List Nat}:zyT P b t (.str m) (.str n)=zlk b m n:=(rfl)
@[simp] theorem zHH {P:Program} {b:BinOp} {t:TypeId} {m n:Bool}:zyT P b t (.bool m) (.bool n)=zhH P b t (.bool m) (.bool n):=(rfl)
end
@[simp] theorem zFE {α β:Type} (a:α) (f:α->Option β):ob (some a) f=f a:=(rfl)
@[simp] theorem zFG {α β:Type} (f:α->Option β):ob none f=none:=(rfl)
@[simp] theorem zGk {β:Type} (x:Option β):gd true x=x:=(rfl)
@[simp] theorem zDb {β:Type} (x:Option β):gd false x=none:=(rfl)
@[simp] theorem zHI {α:Type} (x y:α):bi true x y=x:=(rfl)
@[simp] theorem zDE {α:Type} (x y:α):bi false x y=y:=(rfl)
@[simp] theorem zC2 {α β:Type} (z:β) (f:α->β) (a:α):orc z f (some a)=f a:=(rfl)
@[simp] theorem zC4 {α β:Type} (z:β) (f:α->β):orc z f none=z:=(rfl)
@[simp] theorem zDa {α:Type} (n:Nat):(PT.leaf:PT α).get n=none:=(rfl)
@[simp] theorem znH {T:PT V}:zaJ T []=some []:=(rfl)
@[simp] theorem zms {T:PT V} (o:Operand) (l:List Operand):zaJ T (o::l)=ob (zF T o) fun v=>ob (zaJ T l) fun r=>some (v::r):=(rfl)
attribute [simp] zG zal zca PT.set_get zaR zeC zN zbU zc3 zc8 zaH znp znt zer
@[simp] theorem zwi {a b:Nat}:Nat.beq a b=decide (a=b):=by rw[Bool.eq_iff_iff];simp
@[simp] theorem zOv {a b:Nat}:Nat.ble a b=decide (a<=b):=by rw[Bool.eq_iff_iff];simp
@[simp] theorem zOt {a b:Nat}:Nat.blt a b=decide (a<b):=by rw[Bool.eq_iff_iff,J.blt_true];simp
@[simp ↓] theorem z9m {K:PT V->HS->Prop} {Q:Ex->PT V->HS->Prop} {T:PT V} {hs:HS}:Ex.then K Q .normal T hs=K T hs:=(rfl)
@[simp ↓] theorem zIQ {K:PT V->HS->Prop} {Q:Ex->PT V->HS->Prop} {T:PT V} {hs:HS}:Ex.then K Q .ret T hs=Q .ret T hs:=(rfl)
@[simp ↓] theorem zE6 {i:Nat} {K:PT V->HS->Prop} {Q:Ex->PT V->HS->Prop} {T:PT V} {hs:HS}:Ex.then K Q (.exit i) T hs=Q (.exit i) T hs:=(rfl)
@[simp ↓] theorem zDD {id:Nat} {Q:Ex->PT V->HS->Prop} {T:PT V} {hs:HS}:Ex.inBlock id Q .normal T hs=Q .normal T hs:=(rfl)
@[simp ↓] theorem zOu {id:Nat} {Q:Ex->PT V->HS->Prop} {T:PT V} {hs:HS}:Ex.inBlock id Q .ret T hs=Q .ret T hs:=(rfl)
@[simp ↓] theorem zLg {id i:Nat} {Q:Ex->PT V->HS->Prop} {T:PT V} {hs:HS}:Ex.inBlock id Q (.exit i) T hs=if i=id then Q .normal T hs else Q (.exit i) T hs:=(rfl)
@[simp] theorem zJd {P:Program} {T:PT V} {hs:HS}:zo1 P T hs []=some []:=(rfl)
@[simp] theorem zJc {P:Program} {T:PT V} {hs:HS} {t:Tmp} {l:List ResultVar}:zo1 P T hs (.tmp t::l)=ob (T.get t) fun v=>ob (zo1 P T hs l) fun r=>some (v::r):=(rfl)
@[simp] theorem zFd {P:Program} {T:PT V} {hs:HS} {a:Tmp} {t:TypeId} {l:List ResultVar}:zo1 P T hs (.cell a t::l)=ob (ob (ti P t) fun i=>ob (T.get a) fun p=>zgJ i hs p) fun v=>ob (zo1 P T hs l) fun r=>some (v::r):=(rfl)
@[simp] theorem zCa {v:V}:zcR [v]=v:=(rfl)
@[simp] theorem zBZ {v u:V} {l:List V}:zcR (v::u::l)=.tuple (v::u::l):=(rfl)
attribute [simp] zjO zfN
attribute [simp] zqb zkw zhO zrX zfd
@[simp] theorem zOc {a b:Int}:eqI a b=decide (a=b):=by rw[Bool.eq_iff_iff,eqI_true];simp
@[simp] theorem zAv:zbl .add=false:=(rfl)
@[simp] theorem zAj:zbl .sub=false:=(rfl)
@[simp] theorem zAo:zbl .mul=false:=(rfl)
@[simp] theorem zAm:zbl .quo=false:=(rfl)
@[simp] theorem zAl:zbl .rem=false:=(rfl)
@[simp] theorem zAt:zbl .eql=false:=(rfl)
@[simp] theorem zAn:zbl .neq=false:=(rfl)
@[simp] theorem zAp:zbl .lss=false:=(rfl)
@[simp] theorem zAq:zbl .leq=false:=(rfl)
@[simp] theorem zAr:zbl .gtr=false:=(rfl)
@[simp] theorem zAs:zbl .geq=false:=(rfl)
@[simp] theorem zAu:zbl .and=false:=(rfl)
@[simp] theorem zCI:zbl .or=false:=(rfl)
@[simp] theorem zAi:zbl .xor=false:=(rfl)
section
variable {k:IntKind}{a b:Int}{hs:HS}{P:Program}{T:PT V}
@[simp] theorem zHW:arith .add k a b=some (.int k (zfe k (a+b))):=(rfl)
@[simp] theorem zHL:arith .sub k a b=some (.int k (zfe k (a-b))):=(rfl)
@[simp] theorem zHP:arith .mul k a b=some (.int k (zfe k (a*b))):=(rfl)
@[simp] theorem zHN:arith .quo k a b=gd (nt (eqI b 0)) (some (.int k (zfe k (a.tdiv b)))):=(rfl)
@[simp] theorem zHM:arith .rem k a b=gd (nt (eqI b 0)) (some (.int k (a.tmod b))):=(rfl)
@[simp] theorem zHU:arith .eql k a b=some (.bool (eqI a b)):=(rfl)
@[simp] theorem zHO:arith .neq k a b=some (.bool (nt (eqI a b))):=(rfl)
@[simp] theorem zHQ:arith .lss k a b=some (.bool (ltI a b)):=(rfl)
@[simp] theorem zHR:arith .leq k a b=some (.bool (leI a b)):=(rfl)
@[simp] theorem zHS:arith .gtr k a b=some (.bool (ltI b a)):=(rfl)
@[simp] theorem zAk:zbl .shr=true:=(rfl)
@[simp] theorem zCk:zlr .shr k a b=ob (z9X b) fun m=>some (.int k (a.fdiv (2 ^ min m k.bits))):=(rfl)
@[simp] theorem zHV:arith .and k a b=some (.int k (zyX k a b)):=(rfl)
@[simp] theorem zHT:arith .geq k a b=some (.bool (leI b a)):=(rfl)
@[simp] theorem zEM {x y:List Nat}:zlk .eql x y=some (.bool (zpb x y)):=(rfl)
@[simp] theorem zEJ {x y:List Nat}:zlk .neq x y=some (.bool (nt (zpb x y))):=(rfl)
@[simp] theorem zEK {x y:List Nat}:zlk .lss x y=some (.bool (zye x y)):=(rfl)
@[simp] theorem zEL {x y:List Nat}:zlk .gtr x y=some (.bool (bi (zye x y) false (nt (zpb x y)))):=(rfl)
@[simp] theorem z9L {t:TypeId} {x y:V}:zhH P .eql t x y=ob (eqV P t x y) fun b=>some (.bool b):=(rfl)
@[simp] theorem z9K {t:TypeId} {x y:V}:zhH P .neq t x y=ob (eqV P t x y) fun b=>some (.bool (nt b)):=(rfl)
@[simp] theorem zKB {x y:V}:eqD .bool x y=ob x.bool? fun a=>ob y.bool? fun b=>some (zd4 a b):=(rfl)
@[simp] theorem zHa {e:TypeId} {x y:V}:eqD (.slice e) x y=zif (zxX x) (zxX y):=(rfl)
@[simp] theorem zOd {e f:TypeId} {x y:V}:eqD (.map e f) x y=zif (zzO x) (zzO y):=(rfl)
@[simp] theorem zAT {e:TypeId} {x y:V}:eqD (.pointer e) x y=zif (zxY x) (zxY y):=(rfl)
@[simp] theorem zKA {a b:Array TypeId} {c:Bool} {x y:V}:eqD (.func a b c) x y=zif (zzP x) (zzP y):=(rfl)
@[simp] theorem zFK:zxX .snil=some true:=(rfl)
@[simp] theorem zJN {a b c d:Nat} {e:Option Nat}:zxX (.own a b c d e)=some false:=(rfl)
@[simp] theorem zMM {e:List V} {l:List (List V)} {t:Bool}:zxX (.sl (e::l) t)=some false:=(rfl)
@[simp] theorem zJR:zzO .nilmap=some true:=(rfl)
@[simp] theorem zJS {i:Nat}:zzO (.map i)=some false:=(rfl)
@[simp] theorem zJQ:zxY .nilptr=some true:=(rfl)
@[simp] theorem zJP {i g o:Nat}:zxY (.ptr i g o)=some false:=(rfl)
@[simp] theorem zJO {c:List V}:zxY (.ref c)=some false:=(rfl)
@[simp] theorem zJT:zzP .nilFunc=some true:=(rfl)
@[simp] theorem zFL {f:Nat} {c:List V}:zzP (.func f c)=some false:=(rfl)
@[simp] theorem zOb {a b:Option Bool}:zif a b=ob a fun a=>ob b fun b=>bi a (some b) (bi b (some false) none):=(rfl)
@[simp] theorem zUj {t:TypeId} {x y:V}:eqV P t x y=ob (ti P t) fun i=>eqD i.desc x y:=(rfl)
@[simp] theorem zGj {i g:Nat}:zbb hs i g=ob (hs.H.get i) fun o=>ob o.arr? fun a=>gd (et (Nat.beq g a.2.1) (nt (Nat.beq a.1 0))) (some (a.1,a.2.2)):=(rfl)
@[simp] theorem zKg {i:Nat}:isRow hs i=orc false (fun o=>orc false (fun a=>a.2.2.2.2.2) o.arr?) (hs.H.get i):=(rfl)
@[simp] theorem zFV {i:TI} {a:Nat×List (List V)×Bool×Bool×Bool} {off:Nat}:zk5 i a off=ob (zeR a.2.1 (off / a.1)) fun e=>zeB i e (off % a.1):=(rfl)
@[simp] theorem zMC {i:TI} {cs:List V} {off:Nat}:zeB i cs off=bi (zba i.desc) (zIa i.size (zg9 i.size (zjh off cs))) (zeR cs off):=(rfl)
@[simp] theorem zST {n:Nat} {r:List V}:zIa n r=gd (Nat.beq (zR r) n) (some (.agg r)):=(rfl)
@[simp] theorem zCb {i:TI} {id g off:Nat} {v:V}:zb0 i id g off v hs=ob (zbb hs id g) fun a=>gd (nt a.2.2.2.1) (gd (et (zwp v.cells) (et (Nat.beq (zR v.cells) i.size) (Nat.ble (off % a.1+i.size) a.1)))
 (ob (zeR a.2.1 (off / a.1)) fun e=>some (hs.wr id (.arr a.1 g (zw3 a.2.1 (off / a.1) (zbk e (off % a.1) v.cells)) a.2.2.1 false a.2.2.2.2)))):=(rfl)
@[simp] theorem zF1 {α:Type} (n:Nat) (l:List α):zbk ([]:List α) n l=[]:=(rfl)
@[simp] theorem zw5 {α:Type} (x:α) (t:List α):zbk (x::t) 0 []=x::t:=(rfl)
@[simp] theorem zhG {α:Type} (x:α) (t:List α) (y:α) (ys:List α):zbk (x::t) 0 (y::ys)=y::zbk t 0 ys:=(rfl)
@[simp] theorem zjy {α:Type} (x:α) (t:List α) (n:Nat) (l:List α):zbk (x::t) (n+1) l=x::zbk t n l:=(rfl)
@[simp] theorem zMS {ts:List TypeId} {vs:List V}:zgw P hs ts vs=ob (zsf P ts) fun i=>ob (zxO vs) fun x=>ob (zw9 hs i.desc x) fun n=>some (.int .i64 (Int.ofNat n),hs):=(rfl)
@[simp] theorem zJZ {l:Bool} {vs:List V}:zcb hs l vs=ob (zw2 vs) fun p=>ob p.1.int? fun a=>ob p.2.int? fun b=>some (.int a.1 (bi (bi l (ltI b.2 a.2) (ltI a.2 b.2)) b.2 a.2),hs):=(rfl)
@[simp] theorem zAA {t:TypeId} {l:List TypeId}:zsf P (t::l)=ti P t:=(rfl)
@[simp] theorem zTW {i:Nat} {o:Obj}:(hs.put i o).H=hs.H.set i o:=(rfl)
@[simp] theorem zMw {i:Nat} {o:Obj}:(hs.put i o).log=hs.log:=(rfl)
@[simp] theorem wr_H {i:Nat} {o:Obj}:(hs.wr i o).H=hs.H.set i o:=(rfl)
@[simp] theorem zOJ {i:Nat} {o:Obj}:(hs.wr i o).log=i::hs.log:=(rfl)
@[simp] theorem zJJ {v:V}:zxO [v]=some v:=(rfl)
@[simp] theorem zIN {v u:V}:zw2 [v,u]=some (v,u):=(rfl)
@[simp] theorem zKd {s:List Nat}:zw9 hs .string (.str s)=some (zR s):=(rfl)
@[simp] theorem zFY {e:TypeId}:zw9 hs (.slice e) .snil=some 0:=(rfl)
@[simp] theorem zMT {e:TypeId} {es:List (List V)} {t:Bool}:zw9 hs (.slice e) (.sl es t)=some (zR es):=(rfl)
@[simp] theorem zKe {e:TypeId} {i g o n:Nat} {c:Option Nat}:zw9 hs (.slice e) (.own i g o n c)=some n:=(rfl)
@[simp] theorem zAe {k e:TypeId}:zw9 hs (.map k e) .nilmap=some 0:=(rfl)
@[simp] theorem zKf {k e:TypeId} {i:Nat}:zw9 hs (.map k e) (.map i)=ob (hs.H.get i) fun o=>ob o.mp? fun es=>some (zR es):=(rfl)
@[simp] theorem zIH {x:Operand}:zka T hs .not x=ob (zF T x) fun v=>ob v.bool? fun b=>some (.bool (nt b),hs):=(rfl)
@[simp] theorem zII {x:Operand}:zka T hs .neg x=ob (zF T x) fun v=>ob v.int? fun p=>some (.int p.1 (zfe p.1 (0-p.2)),hs):=(rfl)
@[simp] theorem zHy {v:V}:znN (.int k) v=ob v.int? fun p=>some (.int k (zfe k p.2)):=(rfl)
@[simp] theorem zHx {v:V}:znN .string v=ob v.str? fun s=>some (.str s):=(rfl)
@[simp] theorem zC9 {i g o:Nat}:notNil (.ptr i g o)=true:=(rfl)
@[simp] theorem zC8 {c:List V}:notNil (.ref c)=true:=(rfl)
@[simp] theorem z9P {f:Nat} {c:List V}:notNil (.func f c)=true:=(rfl)
@[simp] theorem zGc:zba (.int k)=false:=(rfl)
@[simp] theorem zCP:zba .bool=false:=(rfl)
@[simp] theorem zGa:zba .string=false:=(rfl)
@[simp] theorem zAz {e:TypeId}:zba (.slice e)=false:=(rfl)
@[simp] theorem zGb {e f:TypeId}:zba (.map e f)=false:=(rfl)
@[simp] theorem zyl {e:TypeId}:zba (.pointer e)=false:=(rfl)
@[simp] theorem zCO {e f:Array TypeId} {c:Bool}:zba (.func e f c)=false:=(rfl)
@[simp] theorem zIq {n:Int} {r:V}:Gives r (.int k n) hs=(.int k n=r):=by show (some (V.int k n)=some r)=_;simp
@[simp] theorem zDM {b:Bool} {r:V}:Gives r (.bool b) hs=(.bool b=r):=by show (some (V.bool b)=some r)=_;simp
@[simp] theorem zIo {b:List Nat} {r:V}:Gives r (.str b) hs=(.str b=r):=by show (some (V.str b)=some r)=_;simp
end
section
variable {P:Program}{T:PT V}{hs:HS}{id:Nat}
@[simp] theorem zJb {n b:Nat}:zcT n b=decide (n*b<=1048576):=by show Nat.ble _ _=_;simp
@[simp] theorem zyd {t:TypeId} {l c:Operand}:zaC P T hs id t l c=ob (ti P t) fun i=>ob (zF T l) fun a=>ob (zF T c) fun b=>zcc P i hs id a b:=(rfl)
@[simp] theorem zAb {i:TI} {l c:V}:zcc P i hs id l c=ob (zbN i.desc) fun el=>ob (ti P el) fun e=>ob l.nat? fun l=>ob c.nat? fun c =>
 gd (et (Nat.ble l c) (et (zcT c e.bytes) (et (Nat.ble (c*e.size) 1048576) (et (nt (Nat.beq e.size 0)) (et (Nat.beq (zR e.zero) e.size) (zpj e.zero))))))
  (some (.own id 0 0 l (some c),hs.put id (.arr e.size 0 (zCr e.zero c) true false true))):=(rfl)
@[simp] theorem zyO {n:Nat} {cells:List V}:zcx T n [] cells=some cells:=(rfl)
@[simp] theorem zwF {n k:Nat} {o:Operand} {l:List (Nat×Operand)} {cells:List V}:zcx T n ((k,o)::l) cells=ob (zF T o) fun v=>gd (et (Nat.beq (zR v.cells) n) (Nat.ble (k*n+n) (zR cells))) (zcx T n l (zbk cells (k*n) v.cells)):=(rfl)
@[simp] theorem z8w {i:TI} {cells:List V}:zdN P T i [] cells=some cells:=(rfl)
@[simp] theorem zyN {i:TI} {k:Nat} {o:Operand} {l:List (Nat×Operand)} {cells:List V}:zdN P T i ((k,o)::l) cells=ob (zC i k) fun fd=>ob (ti P fd.type) fun fi=>ob (zF T o) fun v =>
 gd (et (Nat.beq (zR v.cells) fi.size) (Nat.ble (fd.offset+fi.size) (zR cells))) (zdN P T i l (zbk cells fd.offset v.cells)):=(rfl)
@[simp] theorem zzF {dr:Bool} {e:TI} {len:Nat} {es:List (List V)}:zdv dr T e len [] hs es=some (es,hs):=(rfl)
@[simp] theorem zxJ {dr:Bool} {e:TI} {len k:Nat} {o:Operand} {l:List (Nat×Operand)} {es:List (List V)}:zdv dr T e len ((k,o)::l) hs es=ob (zF T o) fun v=>ob (zeo dr v hs) fun r =>
 gd (et (Nat.beq (zR r.1.cells) e.size) (Nat.blt k len)) (zdv dr T e len l r.2 (zw3 es k r.1.cells)):=(rfl)
@[simp] theorem z8p {v:V}:zeo false v hs=zbt v hs:=(rfl)
@[simp] theorem zBm {v:V}:zeo true v hs=gd v.pure (some (v,hs)):=(rfl)
@[simp] theorem zwE {dr:Bool} {t:TypeId} {len:Nat} {ps:Array (Nat×Operand)}:zar P dr T hs id t len ps=ob (ti P t) fun i=>ob (zbN i.desc) fun el=>ob (ti P el) fun e =>
 gd (et (Nat.ble (len*e.size) 1048576) (et (nt (Nat.beq e.size 0)) (et (Nat.beq (zR e.zero) e.size) (zpj e.zero))))
  (ob (zdv dr T e len ps.toList hs (zCr e.zero len)) fun r=>some (bi (Nat.beq e.bytes 128) (.own id 0 0 len (some len)) (.sl r.1 true),r.2.put id (bi (Nat.beq e.bytes 128) (.arr e.size 0 r.1 true false true) (.mp [])))):=(rfl)
@[simp] theorem zAZ {t:TypeId} {l:List TypeId}:zmv P (t::l)=ob (ti P t) fun i=>ob (zbN i.desc) fun el=>ti P el:=(rfl)
@[simp] theorem zzY {t u:TypeId}:zcl [t,u]=some u:=(rfl)
@[simp] theorem zDJ {ts:List TypeId} {vs:List V}:zcO P hs id ts vs=ob (zw2 vs) fun p=>ob (zmv P ts) fun e=>ob (zcl ts) fun u=>ob (ti P u) fun j=>ob (zbN j.desc) fun _=>zdF e hs id p.1 p.2:=(rfl)
@[simp] theorem append_nil {e:TI} {x:V}:zdF e hs id .snil x=ob (zcZ hs e.size x) fun new=>gd (et (sizes e.size new) (et (zY new) (et (nt (Nat.beq e.size 0)) (et (nt (Nat.beq e.bytes 0)) (Nat.beq (zR e.zero) e.size))))) (zes e hs id new):=(rfl)
@[simp] theorem zHX {e:TI} {es:List (List V)} {t:Bool} {x:V}:zdF e hs id (.sl es t) x=ob (zcZ hs e.size x) fun new=>gd (et (sizes e.size new) (et (zY new) (et (nt (Nat.beq e.size 0)) (et (nt (Nat.beq e.bytes 0)) (Nat.beq (zR e.zero) e.size))))) (zfL e hs id es t new):=(rfl)
@[simp] theorem zDH {e:TI} {i g o n:Nat} {c:Option Nat} {x:V}:zdF e hs id (.own i g o n c) x=ob (zcZ hs e.size x) fun new=>gd (et (sizes e.size new) (et (zY new) (et (nt (Nat.beq e.size 0)) (et (nt (Nat.beq e.bytes 0)) (Nat.beq (zR e.zero) e.size))))) (zd5 e hs id i g o n c new):=(rfl)
@[simp] theorem zBz {e:TI} {new:List (List V)}:zes e hs id new=bi (Nat.beq (zR new) 0) (some (.snil,hs)) (gd (zcT (zR new) e.bytes) (zdZ e hs id (zR new) new)):=(rfl)
@[simp] theorem zDI {e:TI} {es new:List (List V)} {t:Bool}:zfL e hs id es t new=bi (Nat.beq (zR new) 0) (some (.sl es t,hs)) (gd (et t (et (zcT (zR es+zR new) e.bytes) (sizes e.size es))) (zdZ e hs id (zR es+zR new) (zbB es new))):=(rfl)
@[simp] theorem zMN {e:TI} {n:Nat} {es:List (List V)}:zdZ e hs id n es=some (.own id 0 0 n none,hs.put id (.arr e.size 0 es false false true)):=(rfl)
@[simp] theorem zwH {e:TI} {i g o n:Nat} {new:List (List V)}:zd5 e hs id i g o n none new=ob (zbb hs i g) fun a=>gd (et a.2.2.2.2 (et (Nat.beq a.1 e.size) (et (Nat.beq (o % a.1) 0) (zcT (n+zR new) e.bytes))))
 (bi (Nat.ble (o / a.1+n+zR new) (zR a.2.1)) (zcB hs i g o n none a new)
     (gd (et (nt a.2.2.2.1) (et (Nat.beq o 0) (Nat.ble n (zR a.2.1)))) (some (.own i (g+1) 0 (n+zR new) none,hs.wr i (.arr a.1 (g+1) (zbB (zg9 n a.2.1) new) false false true))))):=(rfl)
@[simp] theorem zwG {e:TI} {i g o n c:Nat} {new:List (List V)}:zd5 e hs id i g o n (some c) new=ob (zbb hs i g) fun a=>gd (et a.2.2.2.2 (et (Nat.beq a.1 e.size) (et (Nat.beq (o % a.1) 0) (zcT (n+zR new) e.bytes))))
 (bi (Nat.ble (n+zR new) c) (zcB hs i g o n (some c) a new) (ob (zdL a.1 o n a.2.1) fun old=>zdZ e hs id (n+zR new) (zbB old new))):=(rfl)
@[simp] theorem zDK {i g o n:Nat} {c:Option Nat} {a:Nat×List (List V)×Bool×Bool×Bool} {new:List (List V)}:zcB hs i g o n c a new=gd (et (nt a.2.2.2.1) (Nat.ble (o / a.1+n+zR new) (zR a.2.1)))
 (some (.own i g o (n+zR new) c,hs.wr i (.arr a.1 g (zbk a.2.1 (o / a.1+n) new) a.2.2.1 false a.2.2.2.2))):=(rfl)
@[simp] theorem zKT {size off len:Nat} {es:List (List V)}:zdL size off len es=gd (et (Nat.beq (off % size) 0) (Nat.ble (off / size+len) (zR es))) (some (zg9 len (zjh (off / size) es))):=(rfl)
@[simp] theorem zAY {n:Nat}:zcZ hs n .snil=some []:=(rfl)
@[simp] theorem zHj {n:Nat} {es:List (List V)} {t:Bool}:zcZ hs n (.sl es t)=some es:=(rfl)
@[simp] theorem zDn {n i g o k:Nat} {c:Option Nat}:zcZ hs n (.own i g o k c)=ob (zbb hs i g) fun a=>gd (et a.2.2.2.2 (Nat.beq a.1 n)) (zdL a.1 o k a.2.1):=(rfl)
@[simp] theorem zKU {ts:List TypeId} {vs:List V}:zfb P hs ts vs=ob (zw2 vs) fun p=>ob (zmv P ts) fun e=>ob (zcl ts) fun _=>znM e hs p.1 p.2:=(rfl)
@[simp] theorem zHw {e:TI} {i g o n:Nat} {c:Option Nat} {x:V}:znM e hs (.own i g o n c) x=ob (zcZ hs e.size x) fun src=>ziu e hs i g o n src:=(rfl)
@[simp] theorem zHv {e:TI} {i g o n:Nat} {src:List (List V)}:ziu e hs i g o n src=ob (zbb hs i g) fun a=>gd (et (nt a.2.2.2.1) (et a.2.2.2.2 (et (Nat.beq a.1 e.size) (et (Nat.beq (o % a.1) 0) (et (sizes e.size src) (et (zY src) (Nat.ble (o / a.1+zw8 (zR src) n) (zR a.2.1))))))))
 (some (.int .i64 (Int.ofNat (zw8 (zR src) n)),hs.wr i (.arr a.1 g (zbk a.2.1 (o / a.1) (zg9 (zw8 (zR src) n) src)) a.2.2.1 false true))):=(rfl)
@[simp] theorem zPE {a b:Nat}:zw8 a b=min a b:=by unfold zw8;rw[zaz];simp only[ble_true];split<;>omega
@[simp] theorem zJ2 {v:V}:zbt v hs=ob (zbn hs v) fun v'=>some (v',zbc hs v.cells):=(rfl)
@[simp] theorem zCf {l:List V}:zbn hs (.agg l)=ob (zcF hs l) fun l=>some (.agg l):=(rfl)
@[simp] theorem zz5:zcF hs []=some []:=(rfl)
@[simp] theorem zxi {v:V} {l:List V}:zcF hs (v::l)=ob (zb7 hs v) fun v'=>ob (zcF hs l) fun l'=>some (v'::l'):=(rfl)
@[simp] theorem zz8 {i g o n:Nat} {c:Option Nat}:zb7 hs (.own i g o n c)=ob (zbb hs i g) fun a=>gd a.2.2.2.2 (ob (zdL a.1 o n a.2.1) fun l=>some (.sl l false)):=(rfl)
@[simp] theorem zCh {k:IntKind} {n:Int}:zb7 hs (.int k n)=some (.int k n):=(rfl)
@[simp] theorem z9t {b:Bool}:zb7 hs (.bool b)=some (.bool b):=(rfl)
@[simp] theorem zCg {b:List Nat}:zb7 hs (.str b)=some (.str b):=(rfl)
@[simp] theorem zEO {es:List (List V)} {b:Bool}:zb7 hs (.sl es b)=some (.sl es b):=(rfl)
@[simp] theorem z9s:zb7 hs .snil=some .snil:=(rfl)
@[simp] theorem zyy:zbc hs []=hs:=(rfl)
@[simp] theorem zwC {v:V} {l:List V}:zbc hs (v::l)=zbq (zbc hs l) v:=(rfl)
@[simp] theorem zAF {i g o n:Nat} {c:Option Nat}:zbq hs (.own i g o n c)=zaf hs i:=(rfl)
@[simp] theorem zAG {k:IntKind} {n:Int}:zbq hs (.int k n)=hs:=(rfl)
@[simp] theorem z0l {b:Bool}:zbq hs (.bool b)=hs:=(rfl)
@[simp] theorem zAE {b:List Nat}:zbq hs (.str b)=hs:=(rfl)
@[simp] theorem zDc {es:List (List V)} {b:Bool}:zbq hs (.sl es b)=hs:=(rfl)
@[simp] theorem z0k:zbq hs .snil=hs:=(rfl)
@[simp] theorem zAD {i:Nat}:zaf hs i=orc hs (fun o=>orc hs (fun a=>hs.wr i (.arr a.1 a.2.1 a.2.2.1 a.2.2.2.1 true a.2.2.2.2.2)) o.arr?) (hs.H.get i):=(rfl)
theorem zks {α:Type}:∀ (l:List α) (n:Nat) (m:List α),n<=l.length->n+m.length<=l.length->zbk l n m=l.take n++(m++l.drop (n+m.length)):=by
 intro l
 induction l with
 | nil =>
   intro n m hn hm;have h0:m=[]:=List.eq_nil_of_length_eq_zero (by rw[List.length_nil]at hm;omega);subst h0;simp
 | cons x l ih =>
   intro n m hn hm
   cases n with
   | zero =>
     cases m with
     |nil=>simp
     | cons y m =>
       rw[zhG,ih 0 m (by omega) (by simp at hm ⊢;omega)];simp
   | succ n =>
     rw[zjy,ih n m (by simpa using hn) (by simp at hm ⊢;omega)];simp[Nat.add_right_comm]
@[simp] theorem zES {n:Nat}:sizes n []=true:=(rfl)
@[simp] theorem zCj {n:Nat} {x:List V} {l:List (List V)}:sizes n (x::l)=et (Nat.beq (zR x) n) (sizes n l):=(rfl)
@[simp] theorem z8A:zY []=true:=(rfl)
@[simp] theorem zzb {x:List V} {l:List (List V)}:zY (x::l)=et (zwp x) (zY l):=(rfl)
end
section
variable {hs:HS}{r:V}
@[simp] theorem zIp {i g o n:Nat} {c:Option Nat}:Gives r (.own i g o n c) hs=(zb7 hs (.own i g o n c)=some r):=(rfl)
@[simp] theorem zIr {l:List V}:Gives r (.agg l) hs=((ob (zcF hs l) fun l=>some (V.agg l))=some r):=(rfl)
@[simp] theorem zBI {l:List V}:Gives r (.tuple l) hs=((ob (zaB hs l) fun l=>some (V.tuple l))=some r):=(rfl)
@[simp] theorem zLx {es:List (List V)} {t:Bool}:Gives r (.sl es t) hs=(.sl es t=r):=by show (some (V.sl es t)=some r)=_;simp
@[simp] theorem zDL:Gives r .snil hs=(.snil=r):=by show (some V.snil=some r)=_;simp
@[simp] theorem zz6:zaB hs []=some []:=(rfl)
@[simp] theorem zxj {v:V} {l:List V}:zaB hs (v::l)=ob (zbn hs v) fun v'=>ob (zaB hs l) fun l'=>some (v'::l'):=(rfl)
@[simp] theorem zz7 {i g o n:Nat} {c:Option Nat}:zbn hs (.own i g o n c)=zb7 hs (.own i g o n c):=(rfl)
@[simp] theorem zCe {k:IntKind} {n:Int}:zbn hs (.int k n)=some (.int k n):=(rfl)
@[simp] theorem z9r {b:Bool}:zbn hs (.bool b)=some (.bool b):=(rfl)
@[simp] theorem zCd {b:List Nat}:zbn hs (.str b)=some (.str b):=(rfl)
@[simp] theorem zEN {es:List (List V)} {b:Bool}:zbn hs (.sl es b)=some (.sl es b):=(rfl)
@[simp] theorem z9q:zbn hs .snil=some .snil:=(rfl)
end
end Go.J
/- Contracts in use. -/
namespace Go.J
abbrev Spec:=List V->HS->Option (V×HS)
def zl4(s:List V->Option V):Spec:=fun vs hs=>gd (zD vs) (ob (s vs) fun v=>some (v,hs))
def zHz(L:List (Nat×Spec))(f:FuncId)(vs:List V)(hs:HS):Option (V×HS):=lr none (fun p _ ih=>bi (Nat.beq f p.1) (p.2 vs hs) ih) L
def zHb(P:Program)(pol:FuncId->Nat)(L:List (Nat×Spec)):Env:={ P:=P,pol:=pol,con:=zHz L }
structure Valid(ρ:Nat->Value)(P:Program)(f:Nat)(s:Spec):Prop where
 fn:zeA P f
 ok:∀ {vs hs v hs'},s vs hs=some (v,hs')->CallOk ρ P f vs hs v hs'
 kept:∀ {vs hs r},s vs hs=some r->Kept hs r.2
theorem zvS(p:Nat×Spec)(L:List (Nat×Spec))(f:FuncId):zHz (p::L) f=if f=p.1 then p.2 else zHz L f:=by
 funext vs hs
 show bi (Nat.beq f p.1) (p.2 vs hs) (zHz L f vs hs)=_;rw[zaz];by_cases h:f=p.1
 . rw[if_pos (beq_true.2 h),if_pos h]
 . rw[if_neg (fun e=>h (beq_true.1 e)),if_neg h]
theorem zt{ρ:Nat->Value}{P:Program}{pol:FuncId->Nat}:∀ {L:List (Nat×Spec)},(∀ p∈L,Valid ρ P p.1 p.2)->ConsOk ρ (zHb P pol L):=by
 intro L h
 have key:∀ (M:List (Nat×Spec)),(∀ p∈M,p∈L)->∀ {f vs hs q},zHz M f vs hs=some q->∃ p∈L,p.1=f/\p.2 vs hs=some q:=by
  intro M
  induction M with
  |nil=>intro _ f vs hs q hq;cases hq
  | cons p M ih =>
    intro hM f vs hs q hq;rw[zvS]at hq;split at hq
    . rename_i e;exact⟨p,hM p (List.mem_cons_self ..),e.symm,hq⟩
    . exact ih (fun p hp=>hM p (List.mem_cons_of_mem _ hp)) hq
 refine⟨?_,?_,?_⟩
 . intro f vs hs v hs' hq;obtain⟨p,hp,rfl,h2⟩:=key L (fun _ h=>h) hq;exact(h p hp).ok h2
 . intro f vs hs q hq;obtain⟨p,hp,rfl,h2⟩:=key L (fun _ h=>h) hq;exact(h p hp).kept h2
 . intro f vs hs q hq;obtain⟨p,hp,rfl,h2⟩:=key L (fun _ h=>h) hq;exact(h p hp).fn
theorem valid_nil{ρ:Nat->Value}{P:Program}:∀ p∈([]:List (Nat×Spec)),Valid ρ P p.1 p.2:=fun p h=>by cases h
theorem zo{ρ:Nat->Value}{P:Program}{f:Nat}{s:Spec}{L:List (Nat×Spec)}(h:Valid ρ P f s)(hl:∀ p∈L,Valid ρ P p.1 p.2):∀ p∈(f,s)::L,Valid ρ P p.1 p.2:=by
 intro p hp;rcases List.mem_cons.1 hp with rfl|hp
 . exact h
 . exact hl p hp
theorem Valid.pure{ρ:Nat->Value}(hρ:Good ρ){P:Program}(hP:P.follows .mixedOrders=true)(hN:zdG P){f:Nat}{s:List V->Option V}(hf:zeA P f)
 (h:∀ vs v,zD vs=true->s vs=some v->∃ E n,ConsOk ρ E/\E.P=P/\zz9 E n f vs=some v):Valid ρ P f (zl4 s) where
 fn:=hf
 ok:=by
  intro vs hs v hs' hq;simp only[zl4,zA,zq]at hq;obtain⟨hp,v',hv,hq⟩:=hq;cases hq;obtain⟨E,n,hc,rfl,hr⟩:=h vs v hp hv;exact zeQ hρ hc hP hN hr hp
 kept:=by
  intro vs hs q hq;simp only[zl4,zA,zq]at hq;obtain⟨_,v',_,hq⟩:=hq;cases hq;exact .refl _
theorem zeM{hs:HS}{u v:V}(h:zb7 hs u=some v)(hs1:v.scal1=true):u=v:=by
 unfold zb7 at h;split at h
 . unfold zd8 at h;simp only[zq,zA]at h;obtain⟨_,_,_,_,_,h⟩:=h;cases h;cases hs1
 . simp only[zA]at h;exact Option.some.inj h.2
theorem zni{hs:HS}:∀ {l m:List V},zcF hs l=some m->z8z m=true->l=m:=by
 intro l
 induction l with
 |nil=>intro m h _;cases h;rfl
 | cons u l ih =>
   intro m h hm;replace h:(ob (zb7 hs u) fun v'=>ob (zcF hs l) fun l'=>some (v'::l'))=some m:=h;simp only[zq]at h;obtain⟨v,hv,r,hr,h⟩:=h;cases h;replace hm:et v.scal1 (z8z r)=true:=hm;rw[et_true]at hm;rw[zeM hv hm.1,ih hr hm.2]
theorem znl{hs:HS}{u v:V}(h:zbn hs u=some v)(hs1:v.scal1=true):u=v:=by
 unfold zbn at h;split at h
 . simp only[zq]at h;obtain⟨_,_,h⟩:=h;cases h;cases hs1
 . exact zeM h hs1
theorem znj{hs:HS}:∀ {l m:List V},zaB hs l=some m->z8z m=true->l=m:=by
 intro l
 induction l with
 |nil=>intro m h _;cases h;rfl
 | cons u l ih =>
   intro m h hm;replace h:(ob (zbn hs u) fun v'=>ob (zaB hs l) fun l'=>some (v'::l'))=some m:=h;simp only[zq]at h;obtain⟨v,hv,r,hr,h⟩:=h;cases h;replace hm:et v.scal1 (z8z r)=true:=hm;rw[et_true]at hm;rw[znl hv hm.1,ih hr hm.2]
theorem zpz {hs:HS} {u v:V} (h:still hs u=some v) (hv:v.scal=true):u=v:=by
 unfold still at h;split at h
 . simp only[zq]at h;obtain⟨l,hl,h⟩:=h;cases h;rw[znj hl hv]
 . unfold zbn at h;split at h
   . simp only[zq]at h;obtain⟨l,hl,h⟩:=h;cases h;rw[zni hl hv]
   . refine zeM h ?_;rename_i _ hne1 _ hne2;cases v<;>first|exact hv|skip
     all_goals
      exfalso;unfold zb7 at h;split at h
      . unfold zd8 at h;simp only[zq,zA]at h;obtain⟨_,_,_,_,_,h⟩:=h;cases h
      . simp only[zA]at h;have e:=Option.some.inj h.2
        first|exact hne1 _ e|exact hne2 _ e
def zrr(s:List V->Option V):Spec:=fun vs hs=>ob (zaB hs vs) fun vs'=>gd (zD vs') (ob (s vs') fun v=>gd v.scal (some (v,hs)))
theorem Valid.scal{ρ:Nat->Value}(hρ:Good ρ){P:Program}(hP:P.follows .mixedOrders=true)(hN:zdG P){f:Nat}{s:List V->Option V}(hf:zeA P f)
 (h:∀ vs v,zD vs=true->s vs=some v->∃ E n,ConsOk ρ E/\E.P=P/\zz9 E n f vs=some v):Valid ρ P f (zrr s) where
 fn:=hf
 ok:=by
  intro vs hs v hs' hq;simp only[zrr,zA,zq]at hq;obtain⟨vs',hst,hp,v',hv,hsc,hq⟩:=hq;cases hq;obtain⟨E,n,hc,rfl,hr⟩:=h vs' v hp hv;simp only[zz9,zq]at hr;obtain⟨⟨v1,hs1⟩,h1,h2⟩:=hr;have e:v1=v:=zpz h2 hsc;subst e;refine ziy (ev:=evJ E n) hst (fun h=>(zoY hρ hc hP hN n).call h) ?_;simp only[zaW,zq,zA];exact⟨(v1,hs1),h1,hsc,rfl⟩
 kept:=by
  intro vs hs q hq;simp only[zrr,zA,zq]at hq;obtain⟨_,_,_,_,_,_,hq⟩:=hq;cases hq;exact .refl _
def zQn(s:List V->Option V):Spec:=fun vs hs=>ob (zaD vs hs) fun q=>gd (zD q.1) (ob (s q.1) fun v=>some (v,q.2))
section
variable {vs:List V}{hs:HS}{s:List V->Option V}{K:V×HS->Prop}
@[simp] theorem zJ6:ok (zl4 s vs hs) K=(zD vs=true/\ok (s vs) fun v=>K (v,hs)):=by simp only[zl4,zca,zal,zG]
@[simp] theorem zIY:ok (zrr s vs hs) K=ok (zaB hs vs) fun vs'=>zD vs'=true/\ok (s vs') fun v=>v.scal=true/\K (v,hs):=by simp only[zrr,zca,zal,zG]
@[simp] theorem zNA:ok (zQn s vs hs) K=ok (zaD vs hs) fun q=>zD q.1=true/\ok (s q.1) fun v=>K (v,q.2):=by simp only[zQn,zca,zal,zG]
@[simp] theorem zxE:zaD [] hs=some ([],hs):=(rfl)
@[simp] theorem zw4 {v:V} {l:List V}:zaD (v::l) hs=ob (zbt v hs) fun r=>ob (zaD l r.2) fun q=>some (r.1::q.1,q.2):=(rfl)
@[simp] theorem zB1:zD []=true:=(rfl)
@[simp] theorem z81 {v:V} {l:List V}:zD (v::l)=(v.pure&&zD l):=by rw[<- zqb];rfl
@[simp] theorem zJ5 {l:List V}:(V.agg l).pure=zpj l:=(rfl)
@[simp] theorem zLm:zpj []=true:=(rfl)
@[simp] theorem zHY {v:V} {l:List V}:zpj (v::l)=(v.pure2&&zpj l):=by rw[<- zqb];rfl
@[simp] theorem zJ4 {k:IntKind} {n:Int}:(V.int k n).pure=true:=(rfl)
@[simp] theorem zFo {b:Bool}:(V.bool b).pure=true:=(rfl)
@[simp] theorem zJ3 {b:List Nat}:(V.str b).pure=true:=(rfl)
@[simp] theorem zMx {es:List (List V)} {t:Bool}:(V.sl es t).pure=true:=(rfl)
@[simp] theorem zFn:V.snil.pure=true:=(rfl)
@[simp] theorem zFq {k:IntKind} {n:Int}:(V.int k n).pure2=true:=(rfl)
@[simp] theorem zCw {b:Bool}:(V.bool b).pure2=true:=(rfl)
@[simp] theorem zFp {b:List Nat}:(V.str b).pure2=true:=(rfl)
@[simp] theorem zJ7 {es:List (List V)} {t:Bool}:(V.sl es t).pure2=true:=(rfl)
@[simp] theorem zCv:V.snil.pure2=true:=(rfl)
@[simp] theorem zzE:V.nilmap.pure2=true:=(rfl)
@[simp] theorem zxG:V.nilFunc.pure2=true:=(rfl)
end
end Go.J
