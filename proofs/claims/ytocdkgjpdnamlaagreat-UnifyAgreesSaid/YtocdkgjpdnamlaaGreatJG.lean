import Derived.Test.YtocdkgjpdnamlaaGreatJF
set_option linter.all false
noncomputable section
/- zFT of rewriting for symbolic runs. -/
namespace Go.J
section
variable {E:Env}{id:Nat}{T:PT V}{hs:HS}{K:V->HS->Prop}{sz:Nat}
@[simp ↓] theorem zNt {R:PT V->HS->Prop}:Rs E sz [] id T hs R=R T hs:=(rfl)
@[simp ↓] theorem zJc {d:Option Tmp} {op:Op} {g:Option (Tmp×Bool)} {l:List rH} {R:PT V->HS->Prop}:Rs E sz (⟨d,op,g⟩::l) id T hs R=wpS E id T hs ⟨d,op,g⟩ fun v hs'=>put sz T d v fun T1=>Rs E sz l (id+1) T1 hs' R:=(rfl)
@[simp ↓] theorem zNN {d:Option Tmp} {op:Op}:wpS E id T hs ⟨d,op,none⟩ K=qL E id T hs op K:=(rfl)
@[simp ↓] theorem zNO {d:Option Tmp} {op:Op} {t:Tmp} {w:Bool}:wpS E id T hs ⟨d,op,some (t,w)⟩ K=ok (T.get t) fun v=>ok (v.guard? w) fun q=>br (q=w) (qL E id T hs op K) (K iZ hs):=by
  simp only[zk5];rfl
@[simp ↓] theorem zBG {d:Tmp} {v:V} {R:PT V->Prop}:put sz T (some d) v R=(d<sz/\R (T.set d v)):=(rfl)
@[simp ↓] theorem zBI {v:V} {R:PT V->Prop}:put sz T none v R=R T:=(rfl)
theorem and_zero{p:Prop}:((0:Nat)≠0->p)=True:=propext ⟨fun _=>trivial,fun _ h=>absurd rfl h⟩
theorem Yt{p:Prop}:((2:Nat)≠0->p)=p:=propext ⟨fun h=>h (by decide),fun h _=>h⟩
theorem wH{op:Op}(hc:bE op=0)(hd:qL E id T hs op K=((bE op≠0->hs.H.get id=none)/\ok (GA E.P false T hs id (I7 op)) fun r=>K r.1 r.2)):qL E id T hs op K=ok (GA E.P false T hs id (I7 op)) fun r=>K r.1 r.2:=by
 grind
@[simp ↓] theorem wp_move {x:Operand}:qL E id T hs (.move x) K=ok (aG T x) fun v=>K v hs:=by
  rw[wH rfl rfl];show ok (ob (aG T x) fun v=>some (v,hs)) _=_;simp only[dA,aW]
@[simp ↓] theorem wp_assign {x:Operand}:qL E id T hs (.assign x) K=ok (aG T x) fun v=>K v hs:=by
  rw[wH rfl rfl];show ok (ob (aG T x) fun v=>some (v,hs)) _=_;simp only[dA,aW]
@[simp ↓] theorem zF2 {c a b:Operand}:qL E id T hs (.pick c a b) K=ok (aG T c) fun v=>ok v.bool? fun q=>ok (bi q (aG T a) (aG T b)) fun v=>K v hs:=by
  rw[wH rfl rfl];show ok (Bj T hs c a b) _=_;simp only[Bj,dA,aW]
@[simp ↓] theorem zF3 {t:TypeId} {a:Operand}:qL E id T hs (.load t a) K=ok (ti E.P t) fun i=>ok (aG T a) fun p=>ok (wD i hs p) fun v=>K v hs:=by
  rw[wH rfl rfl];show ok (qU E.P T hs t a) _=_;simp only[qU,dA,aW]
@[simp ↓] theorem zAq {b:BinOp} {t u:TypeId} {x y:Operand}:qL E id T hs (.binOp b t x y u) K=ok (aG T x) fun p=>ok (aG T y) fun q=>ok (MM E.P b t p q) fun v=>K v hs:=by
  rw[wH rfl rfl];show ok (wh E.P T hs b t x y) _=_;simp only[wh,dA,aW]
@[simp ↓] theorem zF1 {b:UnOp} {t:TypeId} {x:Operand}:qL E id T hs (.unOp b t x) K=ok (AU T hs b x) fun r=>K r.1 r.2:=by
  rw[wH rfl rfl];rfl
@[simp ↓] theorem zmR {t:TypeId} {x:Operand} {f:Nat}:qL E id T hs (.fieldAddr t x f) K=ok (ti E.P t) fun i=>ok (aO i f) fun fd=>ok (ti E.P fd.type) fun fi=>nt (Nat.beq fi.size 0)=true/\ok (aG T x) fun v=>ok (iT fd.offset v) fun r=>K r hs:=by
  rw[wH rfl rfl];show ok (jU E.P T hs t x f) _=_;simp only[jU,dA,jA,aW]
@[simp ↓] theorem zAp {t:TypeId} {x:Operand} {f:Nat}:qL E id T hs (.field t x f) K=ok (ti E.P t) fun i=>ok (aO i f) fun fd=>ok (ti E.P fd.type) fun fi=>ok (aG T x) fun v=>ok v.agg? fun cs=>ok (qG fi cs fd.offset) fun v=>K v hs:=by
  rw[wH rfl rfl];show ok (vV E.P T hs t x f) _=_;simp only[vV,dA,aW]
@[simp ↓] theorem zmQ {t:TypeId} {x ix:Operand}:qL E id T hs (.indexAddr t x ix) K=ok (ti E.P t) fun i=>ok (elemOf i.desc) fun el=>ok (ti E.P el.1) fun e=>ok (aG T x) fun v=>ok (aG T ix) fun n=>ok n.nat? fun n=>ok (ZJ el.2 e n v) fun r=>K r hs:=by
  rw[wH rfl rfl];show ok (jS E.P T hs t x ix) _=_;simp only[jS,dA,aW]
@[simp ↓] theorem zAo {t:TypeId} {x ix:Operand}:qL E id T hs (.index t x ix) K=ok (ti E.P t) fun i=>isStr i.desc=true/\ok (aG T x) fun v=>ok v.str? fun s=>ok (aG T ix) fun n=>ok n.nat? fun n=>ok (mI s n) fun b=>K (.int .u8 (Int.ofNat b)) hs:=by
  rw[wH rfl rfl];show ok (vT E.P T hs t x ix) _=_;simp only[vT,dA,jA,aW]
@[simp ↓] theorem zsy {x:Operand} {k:Nat}:qL E id T hs (.extract x k) K=ok (aG T x) fun v=>ok v.tuple? fun vs=>ok (mI vs k) fun v=>K v hs:=by
  rw[wH rfl rfl];show ok (nK T hs x k) _=_;simp only[nK,dA,aW]
@[simp ↓] theorem zpV {x:Operand}:qL E id T hs (.nilCheck x) K=ok (aG T x) fun v=>notNil v=true/\K v hs:=by
  rw[wH rfl rfl];show ok (kX T hs x) _=_;simp only[kX,dA,jA,aW]
@[simp ↓] theorem wp_build {t:TypeId} {ps:Array (Nat×Operand)}:qL E id T hs (.build t ps) K=ok (ti E.P t) fun i=>ok (bi (fU i.desc) (gd (gZ E.P (fieldsOf i.desc)) (qC E.P T i ps.toList i.zero)) (ob (KI i.desc) fun el=>ob (ti E.P el) fun e=>mr T e.size ps.toList i.zero)) fun cs=>K (.agg cs) hs:=by
  rw[wH rfl rfl];show ok (nO E.P T hs t ps) _=_;unfold nO;simp only[dA (ti E.P t)];congr 1;funext i;rw[dA];congr 1;funext cs;rw[aW]
@[simp ↓] theorem zAn {t:TypeId} {x:Operand} {lo hi mx:Option Operand}:qL E id T hs (.slice t x lo hi mx) K=ok (ti E.P t) fun i=>ok (aG T x) fun v=>ok (mE E.P T hs i v lo hi mx) fun r=>K r hs:=by
  rw[wH rfl rfl];show ok (nz E.P T hs t x lo hi mx) _=_;simp only[nz,dA,aW]
@[simp ↓] theorem zw0 {t:TypeId} {m k:Operand} {b:Bool}:qL E id T hs (.lookup t m k b) K=ok (eH E.P T hs t m k b) fun r=>K r.1 r.2:=by
  rw[wH rfl rfl];rfl
@[simp ↓] theorem zsz {s d:TypeId} {x:Operand}:qL E id T hs (.convert s d x) K=ok (ti E.P s) fun _=>ok (ti E.P d) fun j=>ok (aG T x) fun v=>ok (Iy j.desc v) fun r=>K r hs:=by
  rw[wH rfl rfl];show ok (BV E.P T hs s d x) _=_;simp only[BV,dA,aW]
@[simp ↓] theorem zpW {f:FuncId} {cs:Array Operand}:qL E id T hs (.makeFunc (.func f) #[] cs) K=ok (fe T cs.toList) fun l=>K (.func f l) hs:=by
  rw[wH rfl rfl];show ok (ry T hs (.func f) #[] cs) _=_;show ok (gd true (ob (fe T cs.toList) fun l=>some (V.func f l,hs))) _=_;simp only[jT,dA,aW]
@[simp ↓] theorem zmP {t:TypeId} {x:Operand}:qL E id T hs (.makeInterface t x) K=ok (ti E.P t) fun i=>nt (isIface i.desc)=true/\ok (aG T x) fun v=>K (.iface t v) hs:=by
  rw[wH rfl rfl];show ok (mK E.P T hs t x) _=_;simp only[mK,dA,jA,aW]
theorem zaZ{op:Op}(hc:bE op=1)(hd:qL E id T hs op K=((bE op≠0->hs.H.get id=none)/\ok (GA E.P false T hs id (I7 op)) fun r=>K r.1 r.2)):qL E id T hs op K=(hs.H.get id=none/\ok (GA E.P false T hs id (I7 op)) fun r=>K r.1 r.2):=by
 grind
theorem zAs{op:Op}(hc:bE op=2)(hd:qL E id T hs op K=((bE op≠0->hs.H.get id=none)/\ok (GA E.P false T hs id (I7 op)) fun r=>K r.1 r.2)):qL E id T hs op K=(hs.H.get id=none/\ok (GA E.P false T hs id (I7 op)) fun r=>K r.1 r.2):=by
 grind
@[simp ↓] theorem zAr {t:TypeId}:qL E id T hs (.alloc t) K=(hs.H.get id=none/\ok (ti E.P t) fun i=>Nat.beq (aN i.zero) i.size=true/\K (.ptr id 0 0) (hs.put id (.arr i.size 0 [i.zero] true false false))):=by
  rw[zaZ rfl rfl];show (_/\ok (qE E.P hs id t) _)=_;simp only[qE,dA,jA,aW]
@[simp ↓] theorem zJr {t:TypeId} {x:Operand}:qL E id T hs (.box t x) K=(hs.H.get id=none/\ok (aG T x) fun v=>K (.ptr id 0 0) (hs.put id (.arr (aN v.cells) 0 [v.cells] true false false))):=by
  rw[zaZ rfl rfl];show (_/\ok (Ff T hs id x) _)=_;simp only[Ff,dA,aW]
@[simp ↓] theorem wp_buildSlice {t:TypeId} {n:Nat} {ps:Array (Nat×Operand)}:qL E id T hs (.buildSlice t n ps) K=(hs.H.get id=none/\ok (fG E.P false T hs id t n ps) fun r=>K r.1 r.2):=by
  rw[zaZ rfl rfl];rfl
@[simp ↓] theorem zmO {t:TypeId} {l c:Operand}:qL E id T hs (.makeSlice t l c) K=(hs.H.get id=none/\ok (gU E.P T hs id t l c) fun r=>K r.1 r.2):=by
  rw[zaZ rfl rfl];rfl
@[simp ↓] theorem zsx {t:TypeId}:qL E id T hs (.makeMap t none) K=(hs.H.get id=none/\K (.map id) (hs.put id (.mp []))):=by
  rw[zaZ rfl rfl];show (_/\ok (gd true (some (V.map id,hs.put id (.mp [])))) _)=_;simp only[jT,aW]
@[simp ↓] theorem zAm {t:TypeId} {a x:Operand}:qL E id T hs (.store t a x) K=(hs.H.get id=none/\ok (ti E.P t) fun i=>ok (aG T a) fun p=>ok (aG T x) fun v=>ok (tZ i hs p v) fun hs'=>K iZ hs'):=by
  rw[zAs rfl rfl];show (_/\ok (iq E.P T hs t a x) _)=_;simp only[iq,dA,aW]
@[simp ↓] theorem zmN {t:TypeId} {m k x:Operand}:qL E id T hs (.mapUpdate t m k x) K=(hs.H.get id=none/\ok (cK E.P T hs t m k x) fun r=>K r.1 r.2):=by
  rw[zAs rfl rfl];rfl
@[simp ↓] theorem zF5 {x:Operand} {xs:Array Operand} {ts:Array TypeId}:qL E id T hs (.call ⟨.value x,xs,ts⟩) K=(hs.H.get id=none/\ok (aG T x) fun v=>ok (funcOf v) fun p=>ok (fe T xs.toList) fun vs=>ok (E.dS p.1 (fC vs p.2) hs) fun r=>K r.1 r.2):=(rfl)
@[simp ↓] theorem zJq {xs:Array Operand} {ts:Array TypeId}:qL E id T hs (.call ⟨.builtin .len,xs,ts⟩) K=ok (fe T xs.toList) fun vs=>ok (xC E.P hs ts.toList vs) fun r=>K r.1 r.2:=by
  show ((bE (.call ⟨.builtin .len,xs,ts⟩)≠0->_)/\_)=_;rw[show bE (.call ⟨.builtin .len,xs,ts⟩)=0 from rfl,and_zero,true_and];rfl
@[simp ↓] theorem zJo {xs:Array Operand} {ts:Array TypeId}:qL E id T hs (.call ⟨.builtin .min,xs,ts⟩) K=ok (fe T xs.toList) fun vs=>ok (kY hs true vs) fun r=>K r.1 r.2:=by
  show ((bE (.call ⟨.builtin .min,xs,ts⟩)≠0->_)/\_)=_;rw[show bE (.call ⟨.builtin .min,xs,ts⟩)=0 from rfl,and_zero,true_and];rfl
@[simp ↓] theorem zJp {xs:Array Operand} {ts:Array TypeId}:qL E id T hs (.call ⟨.builtin .max,xs,ts⟩) K=ok (fe T xs.toList) fun vs=>ok (kY hs false vs) fun r=>K r.1 r.2:=by
  show ((bE (.call ⟨.builtin .max,xs,ts⟩)≠0->_)/\_)=_;rw[show bE (.call ⟨.builtin .max,xs,ts⟩)=0 from rfl,and_zero,true_and];rfl
@[simp ↓] theorem zw1 {xs:Array Operand} {ts:Array TypeId}:qL E id T hs (.call ⟨.builtin .append,xs,ts⟩) K=(hs.H.get id=none/\ok (fe T xs.toList) fun vs=>ok (oP E.P hs id ts.toList vs) fun r=>K r.1 r.2):=by
  show ((bE (.call ⟨.builtin .append,xs,ts⟩)≠0->_)/\_)=_;rw[show bE (.call ⟨.builtin .append,xs,ts⟩)=2 from rfl,Yt];rfl
@[simp ↓] theorem zF4 {xs:Array Operand} {ts:Array TypeId}:qL E id T hs (.call ⟨.builtin .copy,xs,ts⟩) K=(hs.H.get id=none/\ok (fe T xs.toList) fun vs=>ok (vY E.P hs ts.toList vs) fun r=>K r.1 r.2):=by
  show ((bE (.call ⟨.builtin .copy,xs,ts⟩)≠0->_)/\_)=_;rw[show bE (.call ⟨.builtin .copy,xs,ts⟩)=2 from rfl,Yt];rfl
attribute [simp ↓] Yl Qc
@[congr] theorem zFt {c c' A B:Prop} (h:c=c'):br c A B=br c' A B:=by rw[h]
@[congr] theorem zB0 {α:Type} {x y:Option α} {K:α->Prop} (h:x=y):ok x K=ok y K:=by rw[h]
@[congr] theorem zFX {rd:Bool} {s:SC} {T T':PT V} {hs hs':HS} {Q:Ex->PT V->HS->Prop} (h1:T=T') (h2:hs=hs'):Js E rd sz s T hs Q=Js E rd sz s T' hs' Q:=by rw[h1,h2]
@[congr] theorem zpK {P:Program} {fn:Func} {K:V->HS->Prop} {ex zOY:Ex} {T T':PT V} {hs hs':HS} (h0:ex=zOY) (h1:T=T') (h2:hs=hs'):Leaves P fn K ex T hs=Leaves P fn K zOY T' hs':=by rw[h0,h1,h2]
@[congr] theorem zB3 {α β:Type} {x y:Option α} {f:α->Option β} (h:x=y):ob x f=ob y f:=by rw[h]
@[congr] theorem zDl {β:Type} {c d:Bool} {x:Option β} (h:c=d):gd c x=gd d x:=by rw[h]
@[congr] theorem zx8 {α β:Type} {z:β} {f:α->β} {x y:Option α} (h:x=y):kF z f x=kF z f y:=by rw[h]
@[congr] theorem zFy {α:Type} {c d:Bool} {x y:α} (h:c=d):bi c x y=bi d x y:=by rw[h]
@[simp] theorem zNh {α:Type} {p:Prop} [Decidable p] {x y:α}:bi (decide p) x y=if p then x else y:=by rw[dX];simp
@[simp ↓] theorem zx9 {α:Type} (a:α) (K:α->Prop):ok (some a) K=K a:=aW a K
@[simp ↓] theorem zHb {α β:Type} (x:Option α) (f:α->Option β) (K:β->Prop):ok (ob x f) K=ok x fun a=>ok (f a) K:=dA x f K
@[simp ↓] theorem zHc {α:Type} (c:Bool) (x:Option α) (K:α->Prop):ok (gd c x) K=(c=true/\ok x K):=jA c x K
@[simp ↓] theorem zyi {α β:Type} (a:α) (f:α->Option β):ob (some a) f=f a:=(rfl)
@[simp ↓] theorem zyO {β:Type} (x:Option β):gd true x=x:=(rfl)
@[simp ↓] theorem zt2 {α β:Type} (z:β) (f:α->β) (a:α):kF z f (some a)=f a:=(rfl)
@[simp ↓] theorem zzB {α:Type} (x y:α):bi true x y=x:=(rfl)
@[simp ↓] theorem zwz {α:Type} (x y:α):bi false x y=y:=(rfl)
@[simp] theorem zyT {t:Tmp}:aG T (.tmp t)=T.get t:=(rfl)
@[simp] theorem zrT {v:Value}:aG T (.const v)=ofConst v:=(rfl)
@[simp] theorem zvR {f:FuncId}:aG T (.func f)=some (.func f []):=(rfl)
@[simp] theorem zn9 {b:Bool}:ofConst (.bool b)=some (.bool b):=(rfl)
@[simp] theorem zqu {k:IntKind} {n:Int}:ofConst (.int k n)=some (.int k n):=(rfl)
@[simp] theorem zqt {s:ByteArray}:ofConst (.string s)=some (.str (bytesOf s)):=(rfl)
@[simp] theorem zcE:ofConst (.pointer none)=some .nilptr:=(rfl)
@[simp] theorem zn8:ofConst (.slice none 0 0)=some .snil:=(rfl)
@[simp] theorem zcF:ofConst (.map none)=some .nilmap:=(rfl)
@[simp] theorem zaJ:ofConst .nilFunc=some .nilFunc:=(rfl)
@[simp] theorem guard?_bool {b w:Bool}:(V.bool b).guard? w=some b:=(rfl)
@[simp] theorem guard?_tuple {w:Bool}:(V.tuple []).guard? w=some (!w):=(rfl)
@[simp] theorem guard?_undef {w:Bool}:iZ.guard? w=some (!w):=(rfl)
@[simp] theorem bool?_bool {b:Bool}:(V.bool b).bool?=some b:=(rfl)
@[simp] theorem int?_int {k:IntKind} {n:Int}:(V.int k n).int?=some (k,n):=(rfl)
@[simp] theorem nat?_cast {k:IntKind} {n:Nat}:(V.int k (n:Int)).nat?=some n:=(rfl)
@[simp] theorem nat?_ofNat {k:IntKind} {n:Nat}:(V.int k (Int.ofNat n)).nat?=some n:=(rfl)
@[simp] theorem nat?_zero {k:IntKind}:(V.int k 0).nat?=some 0:=(rfl)
@[simp] theorem nat?_one {k:IntKind}:(V.int k 1).nat?=some 1:=(rfl)
@[simp] theorem nat?_lit {k:IntKind} {n:Nat}:(V.int k (@OfNat.ofNat Int n instOfNat)).nat?=some n:=(rfl)
@[simp] theorem str?_str {s:List Nat}:(V.str s).str?=some s:=(rfl)
@[simp] theorem agg?_agg {s:List V}:(V.agg s).agg?=some s:=(rfl)
@[simp] theorem tuple?_tuple {s:List V}:(V.tuple s).tuple?=some s:=(rfl)
@[simp] theorem zzp {s:List V}:(V.agg s).cells=s:=(rfl)
@[simp] theorem zzo {k:IntKind} {n:Int}:(V.int k n).cells=[.int k n]:=(rfl)
@[simp] theorem zwi {b:Bool}:(V.bool b).cells=[.bool b]:=(rfl)
@[simp] theorem zzk {b:List Nat}:(V.str b).cells=[.str b]:=(rfl)
@[simp] theorem zwh:V.snil.cells=[.snil]:=(rfl)
@[simp] theorem zFp {es:List (List V)} {t:Bool}:(V.sl es t).cells=[.sl es t]:=(rfl)
@[simp] theorem zzm {a b c d:Nat} {t:Option Nat}:(V.own a b c d t).cells=[.own a b c d t]:=(rfl)
@[simp] theorem zzn {a:Nat}:(V.map a).cells=[.map a]:=(rfl)
@[simp] theorem zph:(V.nilmap).cells=[.nilmap]:=(rfl)
@[simp] theorem zzl {a b c:Nat}:(V.ptr a b c).cells=[.ptr a b c]:=(rfl)
@[simp] theorem cells_func {f:Nat} {c:List V}:(V.func f c).cells=[.func f c]:=(rfl)
@[simp] theorem zmA:(V.nilFunc).cells=[.nilFunc]:=(rfl)
@[simp] theorem zre {f:FuncId} {c:List V}:funcOf (.func f c)=some (f,c):=(rfl)
@[simp] theorem zFE:IK []=true:=(rfl)
@[simp] theorem zzR {v:V} {l:List V}:IK (v::l)=et v.jR (IK l):=(rfl)
@[simp] theorem zuC {k:IntKind} {n:Int}:(V.int k n).jR=true:=(rfl)
@[simp] theorem zqU {b:Bool}:(V.bool b).jR=true:=(rfl)
@[simp] theorem zuy {b:List Nat}:(V.str b).jR=true:=(rfl)
@[simp] theorem zqS:V.snil.jR=true:=(rfl)
@[simp] theorem zyz {es:List (List V)} {t:Bool}:(V.sl es t).jR=true:=(rfl)
@[simp] theorem zuA {a b c d:Nat} {t:Option Nat}:(V.own a b c d t).jR=true:=(rfl)
@[simp] theorem zuB {a:Nat}:(V.map a).jR=true:=(rfl)
@[simp] theorem zmm:(V.nilmap).jR=true:=(rfl)
@[simp] theorem zuz {a b c:Nat}:(V.ptr a b c).jR=true:=(rfl)
@[simp] theorem zqT {f:Nat} {c:List V}:(V.func f c).jR=true:=(rfl)
@[simp] theorem zc0:(V.nilFunc).jR=true:=(rfl)
@[simp] theorem zyx {i:TI} {a g off:Nat}:wD i hs (.ptr a g off)=ob (gM hs a g) fun r=>FE i r off:=(rfl)
@[simp] theorem zyw {i:TI} {cs:List V}:wD i hs (.ref cs)=qG i cs 0:=(rfl)
@[simp] theorem zmv {n a g off:Nat}:iT n (.ptr a g off)=some (.ptr a g (off+n)):=(rfl)
@[simp] theorem zmu {n:Nat} {cs:List V}:iT n (.ref cs)=some (.ref (zF n cs)):=(rfl)
@[simp] theorem zoy {e:TI} {n:Nat} {es:List (List V)} {t:Bool}:oK e n (.sl es t)=gd (sizes e.size es) (ob (mI es n) fun c=>some (.ref c)):=(rfl)
@[simp] theorem zmo {e:TI} {n a g off len:Nat} {c:Option Nat}:oK e n (.own a g off len c)=gd (Nat.blt n len) (some (.ptr a g (off+n*e.size))):=(rfl)
@[simp] theorem zto {i:TI} {a g off:Nat} {v:V}:tZ i hs (.ptr a g off) v=bi (isRow hs a) (ob (iE v hs) fun r=>jw i a g off r.1 r.2) (jw i a g off v hs):=(rfl)
@[simp] theorem arr?_arr {s g:Nat} {es:List (List V)} {a b c:Bool}:(Obj.arr s g es a b c).arr?=some (s,g,es,a,b,c):=(rfl)
@[simp] theorem mp?_mp {es:List (V×V)}:(Obj.mp es).mp?=some es:=(rfl)
@[simp] theorem zOo {o:Obj} {k:Nat}:(hs.put k o).n=hs.n:=(rfl)
@[simp] theorem zP2 {o:Obj} {k:Nat}:(hs.wr k o).n=hs.n:=(rfl)
@[simp] theorem zIY {n:Nat} {e:TypeId}:KI (.array n e)=some e:=(rfl)
@[simp] theorem zml {n:Nat} {e:TypeId}:fU (.array n e)=false:=(rfl)
@[simp] theorem zuF {n:Nat} {e:TypeId}:gL (.array n e)=true:=(rfl)
@[simp] theorem zy5 {e:TypeId}:elemOf (.slice e)=some (e,none):=(rfl)
@[simp] theorem zv3 {n:Nat} {e:TypeId}:elemOf (.array n e)=some (e,some n):=(rfl)
@[simp] theorem zyE {e:TI} {n:Nat} {v:V}:ZJ none e n v=oK e n v:=(rfl)
@[simp] theorem zyD {k:Nat} {e:TI} {n:Nat} {v:V}:ZJ (some k) e n v=gd (Nat.blt n k) (iT (n*e.size) v):=(rfl)
@[simp] theorem ztv {e:TypeId}:kC (.slice e)=some e:=(rfl)
@[simp] theorem zCk {k e:TypeId}:mapOf (.map k e)=some (k,e):=(rfl)
@[simp] theorem zFx {P:Program} {b:BinOp} {t:TypeId} {k k':IntKind} {m n:Int}:MM P b t (.int k m) (.int k' n)=bi (iF b) (F6 b k m n) (gd (um k k') (arith b k m n)):=(rfl)
@[simp] theorem zqD {k:IntKind}:um k k=true:=by cases k<;>rfl
@[simp] theorem zFw {P:Program} {b:BinOp} {t:TypeId} {m n:List Nat}:MM P b t (.str m) (.str n)=Dz b m n:=(rfl)
@[simp] theorem zzz {P:Program} {b:BinOp} {t:TypeId} {m n:Bool}:MM P b t (.bool m) (.bool n)=Bn P b t (.bool m) (.bool n):=(rfl)
end
@[simp] theorem zyh {α β:Type} (a:α) (f:α->Option β):ob (some a) f=f a:=(rfl)
@[simp] theorem zyj {α β:Type} (f:α->Option β):ob none f=none:=(rfl)
@[simp] theorem zyN {β:Type} (x:Option β):gd true x=x:=(rfl)
@[simp] theorem zvn {β:Type} (x:Option β):gd false x=none:=(rfl)
@[simp] theorem zzA {α:Type} (x y:α):bi true x y=x:=(rfl)
@[simp] theorem zwy {α:Type} (x y:α):bi false x y=y:=(rfl)
@[simp] theorem zt1 {α β:Type} (z:β) (f:α->β) (a:α):kF z f (some a)=f a:=(rfl)
@[simp] theorem zt3 {α β:Type} (z:β) (f:α->β):kF z f none=z:=(rfl)
@[simp] theorem zvm {α:Type} (n:Nat):(PT.leaf:PT α).get n=none:=(rfl)
@[simp] theorem Pz {T:PT V}:fe T []=some []:=(rfl)
@[simp] theorem MC {T:PT V} (o:Operand) (l:List Operand):fe T (o::l)=ob (aG T o) fun v=>ob (fe T l) fun r=>some (v::r):=(rfl)
attribute [simp] aW dA jA PT.bD gQ tY bJ kV ny nM iU Lb Lc u6
@[simp] theorem zpr {a b:Nat}:Nat.beq a b=decide (a=b):=by rw[Bool.eq_iff_iff];simp
@[simp] theorem zIV {a b:Nat}:Nat.ble a b=decide (a<=b):=by rw[Bool.eq_iff_iff];simp
@[simp] theorem zIT {a b:Nat}:Nat.blt a b=decide (a<b):=by rw[Bool.eq_iff_iff,J.dO];simp
@[simp ↓] theorem zp6 {K:PT V->HS->Prop} {Q:Ex->PT V->HS->Prop} {T:PT V} {hs:HS}:Ex.then K Q .normal T hs=K T hs:=(rfl)
@[simp ↓] theorem zA5 {K:PT V->HS->Prop} {Q:Ex->PT V->HS->Prop} {T:PT V} {hs:HS}:Ex.then K Q .ret T hs=Q .ret T hs:=(rfl)
@[simp ↓] theorem zxh {i:Nat} {K:PT V->HS->Prop} {Q:Ex->PT V->HS->Prop} {T:PT V} {hs:HS}:Ex.then K Q (.exit i) T hs=Q (.exit i) T hs:=(rfl)
@[simp ↓] theorem zwx {id:Nat} {Q:Ex->PT V->HS->Prop} {T:PT V} {hs:HS}:Ex.inBlock id Q .normal T hs=Q .normal T hs:=(rfl)
@[simp ↓] theorem zIU {id:Nat} {Q:Ex->PT V->HS->Prop} {T:PT V} {hs:HS}:Ex.inBlock id Q .ret T hs=Q .ret T hs:=(rfl)
@[simp ↓] theorem zFv {id i:Nat} {Q:Ex->PT V->HS->Prop} {T:PT V} {hs:HS}:Ex.inBlock id Q (.exit i) T hs=if i=id then Q .normal T hs else Q (.exit i) T hs:=(rfl)
@[simp] theorem zBi {P:Program} {T:PT V} {hs:HS}:Bb P T hs []=some []:=(rfl)
@[simp] theorem zBh {P:Program} {T:PT V} {hs:HS} {t:Tmp} {l:List ResultVar}:Bb P T hs (.tmp t::l)=ob (T.get t) fun v=>ob (Bb P T hs l) fun r=>some (v::r):=(rfl)
@[simp] theorem zxF {P:Program} {T:PT V} {hs:HS} {a:Tmp} {t:TypeId} {l:List ResultVar}:Bb P T hs (.cell a t::l)=ob (ob (ti P t) fun i=>ob (T.get a) fun p=>wD i hs p) fun v=>ob (Bb P T hs l) fun r=>some (v::r):=(rfl)
@[simp] theorem ztd {v:V}:nu [v]=v:=(rfl)
@[simp] theorem ztc {v u:V} {l:List V}:nu (v::u::l)=.tuple (v::u::l):=(rfl)
attribute [simp] IV zL
attribute [simp] Kj Bp Bw Uq wO
@[simp] theorem zIA {a b:Int}:M8 a b=decide (a=b):=by rw[Bool.eq_iff_iff,BN];simp
@[simp] theorem zqR:iF .add=false:=(rfl)
@[simp] theorem zqF:iF .sub=false:=(rfl)
@[simp] theorem zqK:iF .mul=false:=(rfl)
@[simp] theorem zqI:iF .quo=false:=(rfl)
@[simp] theorem zqH:iF .rem=false:=(rfl)
@[simp] theorem zqP:iF .eql=false:=(rfl)
@[simp] theorem zqJ:iF .neq=false:=(rfl)
@[simp] theorem zqL:iF .lss=false:=(rfl)
@[simp] theorem zqM:iF .leq=false:=(rfl)
@[simp] theorem zqN:iF .gtr=false:=(rfl)
@[simp] theorem zqO:iF .geq=false:=(rfl)
@[simp] theorem zqQ:iF .and=false:=(rfl)
@[simp] theorem zux:iF .or=false:=(rfl)
@[simp] theorem zqE:iF .xor=false:=(rfl)
section
variable {k:IntKind}{a b:Int}{hs:HS}{P:Program}{T:PT V}
@[simp] theorem zzO:arith .add k a b=some (.int k (sM k (a+b))):=(rfl)
@[simp] theorem zzD:arith .sub k a b=some (.int k (sM k (a-b))):=(rfl)
@[simp] theorem zzH:arith .mul k a b=some (.int k (sM k (a*b))):=(rfl)
@[simp] theorem zzF:arith .quo k a b=gd (nt (M8 b 0)) (some (.int k (sM k (a.tdiv b)))):=(rfl)
@[simp] theorem zzE:arith .rem k a b=gd (nt (M8 b 0)) (some (.int k (a.tmod b))):=(rfl)
@[simp] theorem zzM:arith .eql k a b=some (.bool (M8 a b)):=(rfl)
@[simp] theorem zzG:arith .neq k a b=some (.bool (nt (M8 a b))):=(rfl)
@[simp] theorem zzI:arith .lss k a b=some (.bool (Un a b)):=(rfl)
@[simp] theorem zzJ:arith .leq k a b=some (.bool (leI a b)):=(rfl)
@[simp] theorem zzK:arith .gtr k a b=some (.bool (Un b a)):=(rfl)
@[simp] theorem zqG:iF .shr=true:=(rfl)
@[simp] theorem zty:F6 .shr k a b=ob (Rw b) fun m=>some (.int k (a.fdiv (2 ^ min m k.bits))):=(rfl)
@[simp] theorem zzN:arith .and k a b=some (.int k (MR k a b)):=(rfl)
@[simp] theorem zzL:arith .geq k a b=some (.bool (leI b a)):=(rfl)
@[simp] theorem zxq {x y:List Nat}:Dz .eql x y=some (.bool (BM x y)):=(rfl)
@[simp] theorem zxn {x y:List Nat}:Dz .neq x y=some (.bool (nt (BM x y))):=(rfl)
@[simp] theorem zxo {x y:List Nat}:Dz .lss x y=some (.bool (JA x y)):=(rfl)
@[simp] theorem zxp {x y:List Nat}:Dz .gtr x y=some (.bool (bi (JA x y) false (nt (BM x y)))):=(rfl)
@[simp] theorem zqs {t:TypeId} {x y:V}:Bn P .eql t x y=ob (zmw P t x y) fun b=>some (.bool b):=(rfl)
@[simp] theorem zqr {t:TypeId} {x y:V}:Bn P .neq t x y=ob (zmw P t x y) fun b=>some (.bool (nt b)):=(rfl)
@[simp] theorem zEX {x y:V}:zo5 .bool x y=ob x.bool? fun a=>ob y.bool? fun b=>some (oN a b):=(rfl)
@[simp] theorem zyW {e:TypeId} {x y:V}:zo5 (.slice e) x y=xL (LG x) (LG y):=(rfl)
@[simp] theorem zIB {e f:TypeId} {x y:V}:zo5 (.map e f) x y=xL (OA x) (OA y):=(rfl)
@[simp] theorem zrU {e:TypeId} {x y:V}:zo5 (.pointer e) x y=xL (LH x) (LH y):=(rfl)
@[simp] theorem zEW {a b:Array TypeId} {c:Bool} {x y:V}:zo5 (.func a b c) x y=xL (OC x) (OC y):=(rfl)
@[simp] theorem zyo:LG .snil=some true:=(rfl)
@[simp] theorem zB6 {a b c d:Nat} {e:Option Nat}:LG (.own a b c d e)=some false:=(rfl)
@[simp] theorem zHh {e:List V} {l:List (List V)} {t:Bool}:LG (.sl (e::l) t)=some false:=(rfl)
@[simp] theorem zCa:OA .nilmap=some true:=(rfl)
@[simp] theorem zCb {i:Nat}:OA (.map i)=some false:=(rfl)
@[simp] theorem zB9:LH .nilptr=some true:=(rfl)
@[simp] theorem zB8 {i g o:Nat}:LH (.ptr i g o)=some false:=(rfl)
@[simp] theorem zB7 {c:List V}:LH (.ref c)=some false:=(rfl)
@[simp] theorem zCc:OC .nilFunc=some true:=(rfl)
@[simp] theorem zyp {f:Nat} {c:List V}:OC (.func f c)=some false:=(rfl)
@[simp] theorem zIz {a b:Option Bool}:xL a b=ob a fun a=>ob b fun b=>bi a (some b) (bi b (some false) none):=(rfl)
@[simp] theorem zOZ {t:TypeId} {x y:V}:zmw P t x y=ob (ti P t) fun i=>zo5 i.desc x y:=(rfl)
@[simp] theorem zyM {i g:Nat}:gM hs i g=ob (hs.H.get i) fun o=>ob o.arr? fun a=>gd (et (Nat.beq g a.2.1) (nt (Nat.beq a.1 0))) (some (a.1,a.2.2)):=(rfl)
@[simp] theorem zCp {i:Nat}:isRow hs i=kF false (fun o=>kF false (fun a=>a.2.2.2.2.2) o.arr?) (hs.H.get i):=(rfl)
@[simp] theorem zyv {i:TI} {a:Nat×List (List V)×Bool×Bool×Bool} {off:Nat}:FE i a off=ob (mI a.2.1 (off / a.1)) fun e=>qG i e (off % a.1):=(rfl)
@[simp] theorem zG7 {i:TI} {cs:List V} {off:Nat}:qG i cs off=bi (gL i.desc) (zln i.size (wu i.size (zF off cs))) (mI cs off):=(rfl)
@[simp] theorem zNl {n:Nat} {r:List V}:zln n r=gd (Nat.beq (aN r) n) (some (.agg r)):=(rfl)
@[simp] theorem ztn {i:TI} {id g off:Nat} {v:V}:jw i id g off v hs=ob (gM hs id g) fun a=>gd (nt a.2.2.2.1) (gd (et (IK v.cells) (et (Nat.beq (aN v.cells) i.size) (Nat.ble (off % a.1+i.size) a.1)))
 (ob (mI a.2.1 (off / a.1)) fun e=>some (hs.wr id (.arr a.1 g (Jk a.2.1 (off / a.1) (gy e (off % a.1) v.cells)) a.2.2.1 false a.2.2.2.2)))):=(rfl)
@[simp] theorem zx4 {α:Type} (n:Nat) (l:List α):gy ([]:List α) n l=[]:=(rfl)
@[simp] theorem zcw {α:Type} (x:α) (t:List α):gy (x::t) 0 []=x::t:=(rfl)
@[simp] theorem zaI {α:Type} (x:α) (t:List α) (y:α) (ys:List α):gy (x::t) 0 (y::ys)=y::gy t 0 ys:=(rfl)
@[simp] theorem Gx {α:Type} (x:α) (t:List α) (n:Nat) (l:List α):gy (x::t) (n+1) l=x::gy t n l:=(rfl)
@[simp] theorem zHp {ts:List TypeId} {vs:List V}:xC P hs ts vs=ob (RQ P ts) fun i=>ob (LC vs) fun x=>ob (JC hs i.desc x) fun n=>some (.int .i64 (Int.ofNat n),hs):=(rfl)
@[simp] theorem zCg {l:Bool} {vs:List V}:kY hs l vs=ob (Jh vs) fun p=>ob p.1.int? fun a=>ob p.2.int? fun b=>some (.int a.1 (bi (bi l (Un b.2 a.2) (Un a.2 b.2)) b.2 a.2),hs):=(rfl)
@[simp] theorem zq8 {t:TypeId} {l:List TypeId}:RQ P (t::l)=ti P t:=(rfl)
@[simp] theorem zOp {i:Nat} {o:Obj}:(hs.put i o).H=hs.H.set i o:=(rfl)
@[simp] theorem zGP {i:Nat} {o:Obj}:(hs.put i o).log=hs.log:=(rfl)
@[simp] theorem zP3 {i:Nat} {o:Obj}:(hs.wr i o).H=hs.H.set i o:=(rfl)
@[simp] theorem zJm {i:Nat} {o:Obj}:(hs.wr i o).log=i::hs.log:=(rfl)
@[simp] theorem zBZ {v:V}:LC [v]=some v:=(rfl)
@[simp] theorem zAZ {v u:V}:Jh [v,u]=some (v,u):=(rfl)
@[simp] theorem zCl {s:List Nat}:JC hs .string (.str s)=some (aN s):=(rfl)
@[simp] theorem zyy {e:TypeId}:JC hs (.slice e) .snil=some 0:=(rfl)
@[simp] theorem zHq {e:TypeId} {es:List (List V)} {t:Bool}:JC hs (.slice e) (.sl es t)=some (aN es):=(rfl)
@[simp] theorem zCm {e:TypeId} {i g o n:Nat} {c:Option Nat}:JC hs (.slice e) (.own i g o n c)=some n:=(rfl)
@[simp] theorem zqC {k e:TypeId}:JC hs (.map k e) .nilmap=some 0:=(rfl)
@[simp] theorem zCn {k e:TypeId} {i:Nat}:JC hs (.map k e) (.map i)=ob (hs.H.get i) fun o=>ob o.mp? fun es=>some (aN es):=(rfl)
@[simp] theorem zAR {x:Operand}:AU T hs .not x=ob (aG T x) fun v=>ob v.bool? fun b=>some (.bool (nt b),hs):=(rfl)
@[simp] theorem zAS {x:Operand}:AU T hs .neg x=ob (aG T x) fun v=>ob v.int? fun p=>some (.int p.1 (sM p.1 (0-p.2)),hs):=(rfl)
@[simp] theorem zzj {v:V}:Iy (.int k) v=ob v.int? fun p=>some (.int k (sM k p.2)):=(rfl)
@[simp] theorem zzi {v:V}:Iy .string v=ob v.str? fun s=>some (.str s):=(rfl)
@[simp] theorem zuf {i g o:Nat}:notNil (.ptr i g o)=true:=(rfl)
@[simp] theorem zue {c:List V}:notNil (.ref c)=true:=(rfl)
@[simp] theorem zqv {f:Nat} {c:List V}:notNil (.func f c)=true:=(rfl)
@[simp] theorem zyC:gL (.int k)=false:=(rfl)
@[simp] theorem zuE:gL .bool=false:=(rfl)
@[simp] theorem zyA:gL .string=false:=(rfl)
@[simp] theorem zqV {e:TypeId}:gL (.slice e)=false:=(rfl)
@[simp] theorem zyB {e f:TypeId}:gL (.map e f)=false:=(rfl)
@[simp] theorem zmn {e:TypeId}:gL (.pointer e)=false:=(rfl)
@[simp] theorem zuD {e f:Array TypeId} {c:Bool}:gL (.func e f c)=false:=(rfl)
@[simp] theorem zAf {n:Int} {r:V}:Gives r (.int k n) hs=(.int k n=r):=by show (some (V.int k n)=some r)=_;simp
@[simp] theorem zwS {b:Bool} {r:V}:Gives r (.bool b) hs=(.bool b=r):=by show (some (V.bool b)=some r)=_;simp
@[simp] theorem zAd {b:List Nat} {r:V}:Gives r (.str b) hs=(.str b=r):=by show (some (V.str b)=some r)=_;simp
end
section
variable {P:Program}{T:PT V}{hs:HS}{id:Nat}
@[simp] theorem zBg {n b:Nat}:nA n b=decide (n*b<=1048576):=by show Nat.ble _ _=_;simp
@[simp] theorem zmk {t:TypeId} {l c:Operand}:gU P T hs id t l c=ob (ti P t) fun i=>ob (aG T l) fun a=>ob (aG T c) fun b=>mJ P i hs id a b:=(rfl)
@[simp] theorem zqB {i:TI} {l c:V}:mJ P i hs id l c=ob (kC i.desc) fun el=>ob (ti P el) fun e=>ob l.nat? fun l=>ob c.nat? fun c =>
 gd (et (Nat.ble l c) (et (nA c e.bytes) (et (Nat.ble (c*e.size) 1048576) (et (nt (Nat.beq e.size 0)) (et (Nat.beq (aN e.zero) e.size) (Cb e.zero))))))
  (some (.own id 0 0 l (some c),hs.put id (.arr e.size 0 (Zd e.zero c) true false true))):=(rfl)
@[simp] theorem zmF {n:Nat} {cells:List V}:mr T n [] cells=some cells:=(rfl)
@[simp] theorem zk4 {n k:Nat} {o:Operand} {l:List (Nat×Operand)} {cells:List V}:mr T n ((k,o)::l) cells=ob (aG T o) fun v=>gd (et (Nat.beq (aN v.cells) n) (Nat.ble (k*n+n) (aN cells))) (mr T n l (gy cells (k*n) v.cells)):=(rfl)
@[simp] theorem zpo {i:TI} {cells:List V}:qC P T i [] cells=some cells:=(rfl)
@[simp] theorem zmE {i:TI} {k:Nat} {o:Operand} {l:List (Nat×Operand)} {cells:List V}:qC P T i ((k,o)::l) cells=ob (aO i k) fun fd=>ob (ti P fd.type) fun fi=>ob (aG T o) fun v =>
 gd (et (Nat.beq (aN v.cells) fi.size) (Nat.ble (fd.offset+fi.size) (aN cells))) (qC P T i l (gy cells fd.offset v.cells)):=(rfl)
@[simp] theorem zn5 {dr:Bool} {e:TI} {len:Nat} {es:List (List V)}:oG dr T e len [] hs es=some (es,hs):=(rfl)
@[simp] theorem zmg {dr:Bool} {e:TI} {len k:Nat} {o:Operand} {l:List (Nat×Operand)} {es:List (List V)}:oG dr T e len ((k,o)::l) hs es=ob (aG T o) fun v=>ob (sF dr v hs) fun r =>
 gd (et (Nat.beq (aN r.1.cells) e.size) (Nat.blt k len)) (oG dr T e len l r.2 (Jk es k r.1.cells)):=(rfl)
@[simp] theorem zpg {v:V}:sF false v hs=iE v hs:=(rfl)
@[simp] theorem zsa {v:V}:sF true v hs=gd v.pure (some (v,hs)):=(rfl)
@[simp] theorem zk3 {dr:Bool} {t:TypeId} {len:Nat} {ps:Array (Nat×Operand)}:fG P dr T hs id t len ps=ob (ti P t) fun i=>ob (kC i.desc) fun el=>ob (ti P el) fun e =>
 gd (et (Nat.ble (len*e.size) 1048576) (et (nt (Nat.beq e.size 0)) (et (Nat.beq (aN e.zero) e.size) (Cb e.zero))))
  (ob (oG dr T e len ps.toList hs (Zd e.zero len)) fun r=>some (bi (Nat.beq e.bytes 128) (.own id 0 0 len (some len)) (.sl r.1 true),r.2.put id (bi (Nat.beq e.bytes 128) (.arr e.size 0 r.1 true false true) (.mp [])))):=(rfl)
@[simp] theorem zrZ {t:TypeId} {l:List TypeId}:Ik P (t::l)=ob (ti P t) fun i=>ob (kC i.desc) fun el=>ti P el:=(rfl)
@[simp] theorem zox {t u:TypeId}:lU [t,u]=some u:=(rfl)
@[simp] theorem zwE {ts:List TypeId} {vs:List V}:oP P hs id ts vs=ob (Jh vs) fun p=>ob (Ik P ts) fun e=>ob (lU ts) fun u=>ob (ti P u) fun j=>ob (kC j.desc) fun _=>qY e hs id p.1 p.2:=(rfl)
@[simp] theorem append_nil {e:TI} {x:V}:qY e hs id .snil x=ob (nL hs e.size x) fun new=>gd (et (sizes e.size new) (et (dw new) (et (nt (Nat.beq e.size 0)) (et (nt (Nat.beq e.bytes 0)) (Nat.beq (aN e.zero) e.size))))) (vo e hs id new):=(rfl)
@[simp] theorem zzP {e:TI} {es:List (List V)} {t:Bool} {x:V}:qY e hs id (.sl es t) x=ob (nL hs e.size x) fun new=>gd (et (sizes e.size new) (et (dw new) (et (nt (Nat.beq e.size 0)) (et (nt (Nat.beq e.bytes 0)) (Nat.beq (aN e.zero) e.size))))) (xV e hs id es t new):=(rfl)
@[simp] theorem zwC {e:TI} {i g o n:Nat} {c:Option Nat} {x:V}:qY e hs id (.own i g o n c) x=ob (nL hs e.size x) fun new=>gd (et (sizes e.size new) (et (dw new) (et (nt (Nat.beq e.size 0)) (et (nt (Nat.beq e.bytes 0)) (Nat.beq (aN e.zero) e.size))))) (rG e hs id i g o n c new):=(rfl)
@[simp] theorem zsl {e:TI} {new:List (List V)}:vo e hs id new=bi (Nat.beq (aN new) 0) (some (.snil,hs)) (gd (nA (aN new) e.bytes) (rX e hs id (aN new) new)):=(rfl)
@[simp] theorem zwD {e:TI} {es new:List (List V)} {t:Bool}:xV e hs id es t new=bi (Nat.beq (aN new) 0) (some (.sl es t,hs)) (gd (et t (et (nA (aN es+aN new) e.bytes) (sizes e.size es))) (rX e hs id (aN es+aN new) (fC es new))):=(rfl)
@[simp] theorem zHk {e:TI} {n:Nat} {es:List (List V)}:rX e hs id n es=some (.own id 0 0 n none,hs.put id (.arr e.size 0 es false false true)):=(rfl)
@[simp] theorem zlh {e:TI} {i g o n:Nat} {new:List (List V)}:rG e hs id i g o n none new=ob (gM hs i g) fun a=>gd (et a.2.2.2.2 (et (Nat.beq a.1 e.size) (et (Nat.beq (o % a.1) 0) (nA (n+aN new) e.bytes))))
 (bi (Nat.ble (o / a.1+n+aN new) (aN a.2.1)) (nP hs i g o n none a new)
     (gd (et (nt a.2.2.2.1) (et (Nat.beq o 0) (Nat.ble n (aN a.2.1)))) (some (.own i (g+1) 0 (n+aN new) none,hs.wr i (.arr a.1 (g+1) (fC (wu n a.2.1) new) false false true))))):=(rfl)
@[simp] theorem zlg {e:TI} {i g o n c:Nat} {new:List (List V)}:rG e hs id i g o n (some c) new=ob (gM hs i g) fun a=>gd (et a.2.2.2.2 (et (Nat.beq a.1 e.size) (et (Nat.beq (o % a.1) 0) (nA (n+aN new) e.bytes))))
 (bi (Nat.ble (n+aN new) c) (nP hs i g o n (some c) a new) (ob (qz a.1 o n a.2.1) fun old=>rX e hs id (n+aN new) (fC old new))):=(rfl)
@[simp] theorem zwF {i g o n:Nat} {c:Option Nat} {a:Nat×List (List V)×Bool×Bool×Bool} {new:List (List V)}:nP hs i g o n c a new=gd (et (nt a.2.2.2.1) (Nat.ble (o / a.1+n+aN new) (aN a.2.1)))
 (some (.own i g o (n+aN new) c,hs.wr i (.arr a.1 g (gy a.2.1 (o / a.1+n) new) a.2.2.1 false a.2.2.2.2))):=(rfl)
@[simp] theorem zFi {size off len:Nat} {es:List (List V)}:qz size off len es=gd (et (Nat.beq (off % size) 0) (Nat.ble (off / size+len) (aN es))) (some (wu len (zF (off / size) es))):=(rfl)
@[simp] theorem zrY {n:Nat}:nL hs n .snil=some []:=(rfl)
@[simp] theorem zy4 {n:Nat} {es:List (List V)} {t:Bool}:nL hs n (.sl es t)=some es:=(rfl)
@[simp] theorem zv2 {n i g o k:Nat} {c:Option Nat}:nL hs n (.own i g o k c)=ob (gM hs i g) fun a=>gd (et a.2.2.2.2 (Nat.beq a.1 n)) (qz a.1 o k a.2.1):=(rfl)
@[simp] theorem zFj {ts:List TypeId} {vs:List V}:vY P hs ts vs=ob (Jh vs) fun p=>ob (Ik P ts) fun e=>ob (lU ts) fun _=>Iw e hs p.1 p.2:=(rfl)
@[simp] theorem zzh {e:TI} {i g o n:Nat} {c:Option Nat} {x:V}:Iw e hs (.own i g o n c) x=ob (nL hs e.size x) fun src=>BU e hs i g o n src:=(rfl)
@[simp] theorem zzg {e:TI} {i g o n:Nat} {src:List (List V)}:BU e hs i g o n src=ob (gM hs i g) fun a=>gd (et (nt a.2.2.2.1) (et a.2.2.2.2 (et (Nat.beq a.1 e.size) (et (Nat.beq (o % a.1) 0) (et (sizes e.size src) (et (dw src) (Nat.ble (o / a.1+Jy (aN src) n) (aN a.2.1))))))))
 (some (.int .i64 (Int.ofNat (Jy (aN src) n)),hs.wr i (.arr a.1 g (gy a.2.1 (o / a.1) (wu (Jy (aN src) n) src)) a.2.2.1 false true))):=(rfl)
@[simp] theorem zKG {a b:Nat}:Jy a b=min a b:=by unfold Jy;rw[dX];simp only[dI];split<;>omega
@[simp] theorem zBK {v:V}:iE v hs=ob (gV hs v) fun v'=>some (v',ig hs v.cells):=(rfl)
@[simp] theorem ztr {l:List V}:gV hs (.agg l)=ob (mD hs l) fun l=>some (.agg l):=(rfl)
@[simp] theorem znv:mD hs []=some []:=(rfl)
@[simp] theorem zl8 {v:V} {l:List V}:mD hs (v::l)=ob (ja hs v) fun v'=>ob (mD hs l) fun l'=>some (v'::l'):=(rfl)
@[simp] theorem zny {i g o n:Nat} {c:Option Nat}:ja hs (.own i g o n c)=ob (gM hs i g) fun a=>gd a.2.2.2.2 (ob (qz a.1 o n a.2.1) fun l=>some (.sl l false)):=(rfl)
@[simp] theorem ztt {k:IntKind} {n:Int}:ja hs (.int k n)=some (.int k n):=(rfl)
@[simp] theorem zqc {b:Bool}:ja hs (.bool b)=some (.bool b):=(rfl)
@[simp] theorem zts {b:List Nat}:ja hs (.str b)=some (.str b):=(rfl)
@[simp] theorem zxs {es:List (List V)} {b:Bool}:ja hs (.sl es b)=some (.sl es b):=(rfl)
@[simp] theorem zqb:ja hs .snil=some .snil:=(rfl)
@[simp] theorem zmt:ig hs []=hs:=(rfl)
@[simp] theorem zdu {v:V} {l:List V}:ig hs (v::l)=iG (ig hs l) v:=(rfl)
@[simp] theorem zrh {i g o n:Nat} {c:Option Nat}:iG hs (.own i g o n c)=dQ hs i:=(rfl)
@[simp] theorem zri {k:IntKind} {n:Int}:iG hs (.int k n)=hs:=(rfl)
@[simp] theorem zoS {b:Bool}:iG hs (.bool b)=hs:=(rfl)
@[simp] theorem zrg {b:List Nat}:iG hs (.str b)=hs:=(rfl)
@[simp] theorem zvp {es:List (List V)} {b:Bool}:iG hs (.sl es b)=hs:=(rfl)
@[simp] theorem zoR:iG hs .snil=hs:=(rfl)
@[simp] theorem zrf {i:Nat}:dQ hs i=kF hs (fun o=>kF hs (fun a=>hs.wr i (.arr a.1 a.2.1 a.2.2.1 a.2.2.2.1 true a.2.2.2.2.2)) o.arr?) (hs.H.get i):=(rfl)
theorem Gy {α:Type}:∀ (l:List α) (n:Nat) (m:List α),n<=l.length->n+m.length<=l.length->gy l n m=l.take n++(m++l.drop (n+m.length)):=by
 intro l
 induction l with
 | nil =>
   simp_all
 | cons x l ih =>
   intro n m hn hm
   cases n with
   | zero =>
     cases m with
     |nil=>simp
     | cons y m =>
       simp_all
   | succ n =>
     grind [Gx,Nat.add_right_comm]
@[simp] theorem zxv {n:Nat}:sizes n []=true:=(rfl)
@[simp] theorem ztx {n:Nat} {x:List V} {l:List (List V)}:sizes n (x::l)=et (Nat.beq (aN x) n) (sizes n l):=(rfl)
@[simp] theorem zpz:dw []=true:=(rfl)
@[simp] theorem zmI {x:List V} {l:List (List V)}:dw (x::l)=et (IK x) (dw l):=(rfl)
end
section
variable {hs:HS}{r:V}
@[simp] theorem zAe {i g o n:Nat} {c:Option Nat}:Gives r (.own i g o n c) hs=(ja hs (.own i g o n c)=some r):=(rfl)
@[simp] theorem zAg {l:List V}:Gives r (.agg l) hs=((ob (mD hs l) fun l=>some (V.agg l))=some r):=(rfl)
@[simp] theorem zsq {l:List V}:Gives r (.tuple l) hs=((ob (fD hs l) fun l=>some (V.tuple l))=some r):=(rfl)
@[simp] theorem zFY {es:List (List V)} {t:Bool}:Gives r (.sl es t) hs=(.sl es t=r):=by show (some (V.sl es t)=some r)=_;simp
@[simp] theorem zwR:Gives r .snil hs=(.snil=r):=by show (some V.snil=some r)=_;simp
@[simp] theorem znw:fD hs []=some []:=(rfl)
@[simp] theorem zl9 {v:V} {l:List V}:fD hs (v::l)=ob (gV hs v) fun v'=>ob (fD hs l) fun l'=>some (v'::l'):=(rfl)
@[simp] theorem znx {i g o n:Nat} {c:Option Nat}:gV hs (.own i g o n c)=ja hs (.own i g o n c):=(rfl)
@[simp] theorem ztq {k:IntKind} {n:Int}:gV hs (.int k n)=some (.int k n):=(rfl)
@[simp] theorem zqa {b:Bool}:gV hs (.bool b)=some (.bool b):=(rfl)
@[simp] theorem ztp {b:List Nat}:gV hs (.str b)=some (.str b):=(rfl)
@[simp] theorem zxr {es:List (List V)} {b:Bool}:gV hs (.sl es b)=some (.sl es b):=(rfl)
@[simp] theorem zp9:gV hs .snil=some .snil:=(rfl)
end
end Go.J
/- zaC in use. -/
namespace Go.J
abbrev Spec:=List V->HS->Option (V×HS)
def DL(s:List V->Option V):Spec:=fun vs hs=>gd (aR vs) (ob (s vs) fun v=>some (v,hs))
def zkO(L:List (Nat×Spec))(f:FuncId)(vs:List V)(hs:HS):Option (V×HS):=lr none (fun p _ ih=>bi (Nat.beq f p.1) (p.2 vs hs) ih) L
def zkI(P:Program)(Rl:FuncId->Nat)(L:List (Nat×Spec)):Env:={ P:=P,Rl:=Rl,dS:=zkO L }
structure Valid(ρ:Nat->Value)(P:Program)(f:Nat)(s:Spec):Prop where
 fn:lW P f
 ok:∀ {vs hs v hs'},s vs hs=some (v,hs')->aA ρ P f vs hs v hs'
 kept:∀ {vs hs r},s vs hs=some r->Kept hs r.2
theorem zab(p:Nat×Spec)(L:List (Nat×Spec))(f:FuncId):zkO (p::L) f=if f=p.1 then p.2 else zkO L f:=by
 funext vs hs
 show bi (Nat.beq f p.1) (p.2 vs hs) (zkO L f vs hs)=_
 grind [dX,beq_true]
theorem au{ρ:Nat->Value}{P:Program}{Rl:FuncId->Nat}:∀ {L:List (Nat×Spec)},(∀ p∈L,Valid ρ P p.1 p.2)->aZ ρ (zkI P Rl L):=by
 intro L h
 have key:∀ (M:List (Nat×Spec)),(∀ p∈M,p∈L)->∀ {f vs hs q},zkO M f vs hs=some q->∃ p∈L,p.1=f/\p.2 vs hs=some q:=by
  intro M
  induction M with
  |nil=>intro _ f vs hs q hq;cases hq
  | cons p M ih =>
    intro hM f vs hs q hq;rw[zab]at hq
    grind
 refine⟨?_,?_,?_⟩
 . intro f vs hs v hs' hq;obtain⟨p,hp,rfl,h2⟩:=key L (fun _ h=>h) hq;exact(h p hp).ok h2
 . intro f vs hs q hq;obtain⟨p,hp,rfl,h2⟩:=key L (fun _ h=>h) hq;exact(h p hp).kept h2
 . intro f vs hs q hq;obtain⟨p,hp,rfl,h2⟩:=key L (fun _ h=>h) hq;exact(h p hp).fn
theorem az{ρ:Nat->Value}{P:Program}:∀ p∈([]:List (Nat×Spec)),Valid ρ P p.1 p.2:=fun p h=>by cases h
theorem ag{ρ:Nat->Value}{P:Program}{f:Nat}{s:Spec}{L:List (Nat×Spec)}(h:Valid ρ P f s)(hl:∀ p∈L,Valid ρ P p.1 p.2):∀ p∈(f,s)::L,Valid ρ P p.1 p.2:=by
 grind
theorem Valid.pure{ρ:Nat->Value}(hρ:Good ρ){P:Program}(hP:P.follows .mixedOrders=true)(hN:nW P){f:Nat}{s:List V->Option V}(hf:lW P f)
 (h:∀ vs v,aR vs=true->s vs=some v->∃ E n,aZ ρ E/\E.P=P/\Oa E n f vs=some v):Valid ρ P f (DL s) where
 fn:=hf
 ok:=by
  intro vs hs v hs' hq;simp only[DL,aD,af]at hq;obtain⟨hp,v',hv,hq⟩:=hq;cases hq;obtain⟨E,n,hc,rfl,hr⟩:=h vs v hp hv;exact w9 hρ hc hP hN hr hp
 kept:=by
  intro vs hs q hq;simp only[DL,aD,af]at hq;obtain⟨_,v',_,hq⟩:=hq;cases hq;exact .refl _
theorem wR{hs:HS}{u v:V}(h:ja hs u=some v)(hs1:v.rQ=true):u=v:=by
 unfold ja at h;split at h
 . unfold rO at h;simp only[af,aD]at h;obtain⟨_,_,_,_,_,h⟩:=h;cases h;cases hs1
 grind [aD,Option.some.inj]
theorem NJ{hs:HS}:∀ {l m:List V},mD hs l=some m->Qk m=true->l=m:=by
 intro l
 induction l with
 |nil=>intro m h _;cases h;rfl
 | cons u l ih =>
   intro m h hm;replace h:(ob (ja hs u) fun v'=>ob (mD hs l) fun l'=>some (v'::l'))=some m:=h;simp only[af]at h;obtain⟨v,hv,r,hr,h⟩:=h;cases h;replace hm:et v.rQ (Qk r)=true:=hm
   grind [bA,wR]
theorem NM{hs:HS}{u v:V}(h:gV hs u=some v)(hs1:v.rQ=true):u=v:=by
 unfold gV at h;split at h
 . simp only[af]at h;obtain⟨_,_,h⟩:=h;cases h;cases hs1
 . exact wR h hs1
theorem NK{hs:HS}:∀ {l m:List V},fD hs l=some m->Qk m=true->l=m:=by
 intro l
 induction l with
 |nil=>intro m h _;cases h;rfl
 | cons u l ih =>
   intro m h hm;replace h:(ob (gV hs u) fun v'=>ob (fD hs l) fun l'=>some (v'::l'))=some m:=h;simp only[af]at h;obtain⟨v,hv,r,hr,h⟩:=h;cases h;replace hm:et v.rQ (Qk r)=true:=hm
   grind [bA,NM]
theorem QS {hs:HS} {u v:V} (h:still hs u=some v) (hv:v.CG=true):u=v:=by
 unfold still at h;split at h
 . simp only[af]at h;obtain⟨l,hl,h⟩:=h;cases h;rw[NK hl hv]
 . unfold gV at h;split at h
   . simp only[af]at h;obtain⟨l,hl,h⟩:=h;cases h;rw[NJ hl hv]
   . refine wR h ?_;rename_i _ hne1 _ hne2;cases v<;>first|exact hv|skip
     all_goals
      exfalso;unfold ja at h;split at h
      . unfold rO at h;simp only[af,aD]at h;obtain⟨_,_,_,_,_,h⟩:=h;cases h
      . simp only[aD]at h;have e:=Option.some.inj h.2
        first|exact hne1 _ e|exact hne2 _ e
def N8(s:List V->Option V):Spec:=fun vs hs=>ob (fD hs vs) fun vs'=>gd (aR vs') (ob (s vs') fun v=>gd v.CG (some (v,hs)))
theorem Valid.CG{ρ:Nat->Value}(hρ:Good ρ){P:Program}(hP:P.follows .mixedOrders=true)(hN:nW P){f:Nat}{s:List V->Option V}(hf:lW P f)
 (h:∀ vs v,aR vs=true->s vs=some v->∃ E n,aZ ρ E/\E.P=P/\Oa E n f vs=some v):Valid ρ P f (N8 s) where
 fn:=hf
 ok:=by
  intro vs hs v hs' hq;simp only[N8,aD,af]at hq;obtain⟨vs',hst,hp,v',hv,hsc,hq⟩:=hq;cases hq;obtain⟨E,n,hc,rfl,hr⟩:=h vs' v hp hv;simp only[Oa,af]at hr;obtain⟨⟨v1,hs1⟩,h1,h2⟩:=hr;have e:v1=v:=QS h2 hsc;subst e;refine Em (ev:=jY E n) hst (fun h=>(ME hρ hc hP hN n).call h) ?_;simp only[iB,af,aD];exact⟨(v1,hs1),h1,hsc,rfl⟩
 kept:=by
  intro vs hs q hq;simp only[N8,aD,af]at hq;obtain⟨_,_,_,_,_,_,hq⟩:=hq;cases hq;exact .refl _
def zDm(s:List V->Option V):Spec:=fun vs hs=>ob (gq vs hs) fun q=>gd (aR q.1) (ob (s q.1) fun v=>some (v,q.2))
section
variable {vs:List V}{hs:HS}{s:List V->Option V}{K:V×HS->Prop}
@[simp] theorem zBO:ok (DL s vs hs) K=(aR vs=true/\ok (s vs) fun v=>K (v,hs)):=by simp only[DL,jA,dA,aW]
@[simp] theorem zBd:ok (N8 s vs hs) K=ok (fD hs vs) fun vs'=>aR vs'=true/\ok (s vs') fun v=>v.CG=true/\K (v,hs):=by simp only[N8,jA,dA,aW]
@[simp] theorem zIk:ok (zDm s vs hs) K=ok (gq vs hs) fun q=>aR q.1=true/\ok (s q.1) fun v=>K (v,q.2):=by simp only[zDm,jA,dA,aW]
@[simp] theorem zmd:gq [] hs=some ([],hs):=(rfl)
@[simp] theorem zcp {v:V} {l:List V}:gq (v::l) hs=ob (iE v hs) fun r=>ob (gq l r.2) fun q=>some (r.1::q.1,q.2):=(rfl)
@[simp] theorem zsm:aR []=true:=(rfl)
@[simp] theorem zpx {v:V} {l:List V}:aR (v::l)=(v.pure&&aR l):=by rw[<- Kj];rfl
@[simp] theorem zBN {l:List V}:(V.agg l).pure=Cb l:=(rfl)
@[simp] theorem zFD:Cb []=true:=(rfl)
@[simp] theorem zzQ {v:V} {l:List V}:Cb (v::l)=(v.aI&&Cb l):=by rw[<- Kj];rfl
@[simp] theorem zBM {k:IntKind} {n:Int}:(V.int k n).pure=true:=(rfl)
@[simp] theorem zxR {b:Bool}:(V.bool b).pure=true:=(rfl)
@[simp] theorem zBL {b:List Nat}:(V.str b).pure=true:=(rfl)
@[simp] theorem zGQ {es:List (List V)} {t:Bool}:(V.sl es t).pure=true:=(rfl)
@[simp] theorem zxQ:V.snil.pure=true:=(rfl)
@[simp] theorem zxT {k:IntKind} {n:Int}:(V.int k n).aI=true:=(rfl)
@[simp] theorem ztR {b:Bool}:(V.bool b).aI=true:=(rfl)
@[simp] theorem zxS {b:List Nat}:(V.str b).aI=true:=(rfl)
@[simp] theorem zBP {es:List (List V)} {t:Bool}:(V.sl es t).aI=true:=(rfl)
@[simp] theorem ztQ:V.snil.aI=true:=(rfl)
@[simp] theorem zn0:V.nilmap.aI=true:=(rfl)
@[simp] theorem zme:V.nilFunc.aI=true:=(rfl)
end
end Go.J
