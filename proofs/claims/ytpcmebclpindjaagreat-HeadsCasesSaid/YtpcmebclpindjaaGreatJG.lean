import Derived.Test.YtpcmebclpindjaaGreatJF
set_option linter.all false
noncomputable section
/- Rules of rewriting for symbolic runs. -/
namespace Go.J
section
variable {E:Env}{id:Nat}{T:PT V}{hs:HS}{K:V->HS->Prop}{sz:Nat}
@[simp ↓] theorem zDv {R:PT V->HS->Prop}:Rs E sz [] id T hs R=R T hs:=(rfl)
@[simp ↓] theorem zAr {d:Option Tmp} {op:Op} {g:Option (Tmp×Bool)} {l:List SOp} {R:PT V->HS->Prop}:Rs E sz (⟨d,op,g⟩::l) id T hs R=wpS E id T hs ⟨d,op,g⟩ fun v hs'=>put sz T d v fun T1=>Rs E sz l (id+1) T1 hs' R:=(rfl)
@[simp ↓] theorem zD2 {d:Option Tmp} {op:Op}:wpS E id T hs ⟨d,op,none⟩ K=wpO E id T hs op K:=(rfl)
@[simp ↓] theorem zD3 {d:Option Tmp} {op:Op} {t:Tmp} {w:Bool}:wpS E id T hs ⟨d,op,some (t,w)⟩ K=ok (T.get t) fun v=>ok (v.guard? w) fun q=>br (q=w) (wpO E id T hs op K) (K undefV hs):=by
  simp only[zxG];rfl
@[simp ↓] theorem z4W {d:Tmp} {v:V} {R:PT V->Prop}:put sz T (some d) v R=(d<sz/\R (T.set d v)):=(rfl)
@[simp ↓] theorem z4X {v:V} {R:PT V->Prop}:put sz T none v R=R T:=(rfl)
theorem zfm{p:Prop}:((0:Nat)≠0->p)=True:=propext ⟨fun _=>trivial,fun _ h=>absurd rfl h⟩
theorem and_one{p:Prop}:((1:Nat)≠0->p)=p:=propext ⟨fun h=>h (by decide),fun h _=>h⟩
theorem zkv{p:Prop}:((2:Nat)≠0->p)=p:=propext ⟨fun h=>h (by decide),fun h _=>h⟩
theorem zhV{op:Op}(hc:zq op=0)(hd:wpO E id T hs op K=((zq op≠0->hs.H.get id=none)/\ok (opJ E.P false T hs id (opR op)) fun r=>K r.1 r.2)):wpO E id T hs op K=ok (opJ E.P false T hs id (opR op)) fun r=>K r.1 r.2:=by
 rw[hd,hc,zfm,true_and]
@[simp ↓] theorem wp_move {x:Operand}:wpO E id T hs (.move x) K=ok (zi T x) fun v=>K v hs:=by
  rw[zhV rfl rfl];show ok (ob (zi T x) fun v=>some (v,hs)) _=_;simp only[zS,zl]
@[simp ↓] theorem wp_assign {x:Operand}:wpO E id T hs (.assign x) K=ok (zi T x) fun v=>K v hs:=by
  rw[zhV rfl rfl];show ok (ob (zi T x) fun v=>some (v,hs)) _=_;simp only[zS,zl]
@[simp ↓] theorem z7i {c a b:Operand}:wpO E id T hs (.pick c a b) K=ok (zi T c) fun v=>ok v.bool? fun q=>ok (bi q (zi T a) (zi T b)) fun v=>K v hs:=by
  rw[zhV rfl rfl];show ok (zh8 T hs c a b) _=_;simp only[zh8,zS,zl]
@[simp ↓] theorem z7j {t:TypeId} {a:Operand}:wpO E id T hs (.load t a) K=ok (ti E.P t) fun i=>ok (zi T a) fun p=>ok (zfb i hs p) fun v=>K v hs:=by
  rw[zhV rfl rfl];show ok (zcH E.P T hs t a) _=_;simp only[zcH,zS,zl]
@[simp ↓] theorem z3X {b:BinOp} {t u:TypeId} {x y:Operand}:wpO E id T hs (.binOp b t x y u) K=ok (zi T x) fun p=>ok (zi T y) fun q=>ok (zv4 E.P b t p q) fun v=>K v hs:=by
  rw[zhV rfl rfl];show ok (zey E.P T hs b t x y) _=_;simp only[zey,zS,zl]
@[simp ↓] theorem z7h {b:UnOp} {t:TypeId} {x:Operand}:wpO E id T hs (.unOp b t x) K=ok (zhy T hs b x) fun r=>K r.1 r.2:=by
  rw[zhV rfl rfl];rfl
@[simp ↓] theorem zrk {t:TypeId} {x:Operand} {f:Nat}:wpO E id T hs (.fieldAddr t x f) K=ok (ti E.P t) fun i=>ok (zu i f) fun fd=>ok (ti E.P fd.type) fun fi=>nt (Nat.beq fi.size 0)=true/\ok (zi T x) fun v=>ok (zaz fd.offset v) fun r=>K r hs:=by
  rw[zhV rfl rfl];show ok (zaV E.P T hs t x f) _=_;simp only[zaV,zS,zbS,zl]
@[simp ↓] theorem z3W {t:TypeId} {x:Operand} {f:Nat}:wpO E id T hs (.field t x f) K=ok (ti E.P t) fun i=>ok (zu i f) fun fd=>ok (ti E.P fd.type) fun fi=>ok (zi T x) fun v=>ok v.agg? fun cs=>ok (ze8 fi cs fd.offset) fun v=>K v hs:=by
  rw[zhV rfl rfl];show ok (zem E.P T hs t x f) _=_;simp only[zem,zS,zl]
@[simp ↓] theorem zrj {t:TypeId} {x ix:Operand}:wpO E id T hs (.indexAddr t x ix) K=ok (ti E.P t) fun i=>ok (elemOf i.desc) fun el=>ok (ti E.P el.1) fun e=>ok (zi T x) fun v=>ok (zi T ix) fun n=>ok n.nat? fun n=>ok (zzh el.2 e n v) fun r=>K r hs:=by
  rw[zhV rfl rfl];show ok (zaT E.P T hs t x ix) _=_;simp only[zaT,zS,zl]
@[simp ↓] theorem z3V {t:TypeId} {x ix:Operand}:wpO E id T hs (.index t x ix) K=ok (ti E.P t) fun i=>isStr i.desc=true/\ok (zi T x) fun v=>ok v.str? fun s=>ok (zi T ix) fun n=>ok n.nat? fun n=>ok (zdK s n) fun b=>K (.int .u8 (Int.ofNat b)) hs:=by
  rw[zhV rfl rfl];show ok (zel E.P T hs t x ix) _=_;simp only[zel,zS,zbS,zl]
@[simp ↓] theorem zyc {x:Operand} {k:Nat}:wpO E id T hs (.extract x k) K=ok (zi T x) fun v=>ok v.tuple? fun vs=>ok (zdK vs k) fun v=>K v hs:=by
  rw[zhV rfl rfl];show ok (zbT T hs x k) _=_;simp only[zbT,zS,zl]
@[simp ↓] theorem zvF {x:Operand}:wpO E id T hs (.nilCheck x) K=ok (zi T x) fun v=>notNil v=true/\K v hs:=by
  rw[zhV rfl rfl];show ok (zbt T hs x) _=_;simp only[zbt,zS,zbS,zl]
@[simp ↓] theorem wp_build {t:TypeId} {ps:Array (Nat×Operand)}:wpO E id T hs (.build t ps) K=ok (ti E.P t) fun i=>ok (bi (zaw i.desc) (gd (zaU E.P (fieldsOf i.desc)) (zcS E.P T i ps.toList i.zero)) (ob (zmf i.desc) fun el=>ob (ti E.P el) fun e=>zbK T e.size ps.toList i.zero)) fun cs=>K (.agg cs) hs:=by
  rw[zhV rfl rfl];show ok (zbV E.P T hs t ps) _=_;unfold zbV;simp only[zS (ti E.P t)];congr 1;funext i;rw[zS];congr 1;funext cs;rw[zl]
@[simp ↓] theorem z3U {t:TypeId} {x:Operand} {lo hi mx:Option Operand}:wpO E id T hs (.slice t x lo hi mx) K=ok (ti E.P t) fun i=>ok (zi T x) fun v=>ok (zdc E.P T hs i v lo hi mx) fun r=>K r hs:=by
  rw[zhV rfl rfl];show ok (zbQ E.P T hs t x lo hi mx) _=_;simp only[zbQ,zS,zl]
@[simp ↓] theorem z0a {t:TypeId} {m k:Operand} {b:Bool}:wpO E id T hs (.lookup t m k b) K=ok (zcx E.P T hs t m k b) fun r=>K r.1 r.2:=by
  rw[zhV rfl rfl];rfl
@[simp ↓] theorem zyd {s d:TypeId} {x:Operand}:wpO E id T hs (.convert s d x) K=ok (ti E.P s) fun _=>ok (ti E.P d) fun j=>ok (zi T x) fun v=>ok (zkh j.desc v) fun r=>K r hs:=by
  rw[zhV rfl rfl];show ok (zhP E.P T hs s d x) _=_;simp only[zhP,zS,zl]
@[simp ↓] theorem zvG {f:FuncId} {cs:Array Operand}:wpO E id T hs (.makeFunc (.func f) #[] cs) K=ok (zan T cs.toList) fun l=>K (.func f l) hs:=by
  rw[zhV rfl rfl];show ok (zc8 T hs (.func f) #[] cs) _=_;show ok (gd true (ob (zan T cs.toList) fun l=>some (V.func f l,hs))) _=_;simp only[zbu,zS,zl]
@[simp ↓] theorem zri {t:TypeId} {x:Operand}:wpO E id T hs (.makeInterface t x) K=ok (ti E.P t) fun i=>nt (isIface i.desc)=true/\ok (zi T x) fun v=>K (.iface t v) hs:=by
  rw[zhV rfl rfl];show ok (zb3 E.P T hs t x) _=_;simp only[zb3,zS,zbS,zl]
theorem z0c{op:Op}(hc:zq op=1)(hd:wpO E id T hs op K=((zq op≠0->hs.H.get id=none)/\ok (opJ E.P false T hs id (opR op)) fun r=>K r.1 r.2)):wpO E id T hs op K=(hs.H.get id=none/\ok (opJ E.P false T hs id (opR op)) fun r=>K r.1 r.2):=by
 rw[hd,hc,and_one]
theorem zA3{op:Op}(hc:zq op=2)(hd:wpO E id T hs op K=((zq op≠0->hs.H.get id=none)/\ok (opJ E.P false T hs id (opR op)) fun r=>K r.1 r.2)):wpO E id T hs op K=(hs.H.get id=none/\ok (opJ E.P false T hs id (opR op)) fun r=>K r.1 r.2):=by
 rw[hd,hc,zkv]
@[simp ↓] theorem z3Y {t:TypeId}:wpO E id T hs (.alloc t) K=(hs.H.get id=none/\ok (ti E.P t) fun i=>Nat.beq (zC i.zero) i.size=true/\K (.ptr id 0 0) (hs.put id (.arr i.size 0 [i.zero] true false false))):=by
  rw[z0c rfl rfl];show (_/\ok (zcT E.P hs id t) _)=_;simp only[zcT,zS,zbS,zl]
@[simp ↓] theorem zA2 {t:TypeId} {x:Operand}:wpO E id T hs (.box t x) K=(hs.H.get id=none/\ok (zi T x) fun v=>K (.ptr id 0 0) (hs.put id (.arr (zC v.cells) 0 [v.cells] true false false))):=by
  rw[z0c rfl rfl];show (_/\ok (zmk T hs id x) _)=_;simp only[zmk,zS,zl]
@[simp ↓] theorem wp_buildSlice {t:TypeId} {n:Nat} {ps:Array (Nat×Operand)}:wpO E id T hs (.buildSlice t n ps) K=(hs.H.get id=none/\ok (zR E.P false T hs id t n ps) fun r=>K r.1 r.2):=by
  rw[z0c rfl rfl];rfl
@[simp ↓] theorem zrh {t:TypeId} {l c:Operand}:wpO E id T hs (.makeSlice t l c) K=(hs.H.get id=none/\ok (zac E.P T hs id t l c) fun r=>K r.1 r.2):=by
  rw[z0c rfl rfl];rfl
@[simp ↓] theorem zyb {t:TypeId}:wpO E id T hs (.makeMap t none) K=(hs.H.get id=none/\K (.map id) (hs.put id (.mp []))):=by
  rw[z0c rfl rfl];show (_/\ok (gd true (some (V.map id,hs.put id (.mp [])))) _)=_;simp only[zbu,zl]
@[simp ↓] theorem z3T {t:TypeId} {a x:Operand}:wpO E id T hs (.store t a x) K=(hs.H.get id=none/\ok (ti E.P t) fun i=>ok (zi T a) fun p=>ok (zi T x) fun v=>ok (zdA i hs p v) fun hs'=>K undefV hs'):=by
  rw[zA3 rfl rfl];show (_/\ok (zas E.P T hs t a x) _)=_;simp only[zas,zS,zl]
@[simp ↓] theorem zrg {t:TypeId} {m k x:Operand}:wpO E id T hs (.mapUpdate t m k x) K=(hs.H.get id=none/\ok (zaS E.P T hs t m k x) fun r=>K r.1 r.2):=by
  rw[zA3 rfl rfl];rfl
@[simp ↓] theorem z7l {x:Operand} {xs:Array Operand} {ts:Array TypeId}:wpO E id T hs (.call ⟨.value x,xs,ts⟩) K=(hs.H.get id=none/\ok (zi T x) fun v=>ok (funcOf v) fun p=>ok (zan T xs.toList) fun vs=>ok (E.con p.1 (zbd vs p.2) hs) fun r=>K r.1 r.2):=(rfl)
@[simp ↓] theorem zA1 {xs:Array Operand} {ts:Array TypeId}:wpO E id T hs (.call ⟨.builtin .len,xs,ts⟩) K=ok (zan T xs.toList) fun vs=>ok (zeP E.P hs ts.toList vs) fun r=>K r.1 r.2:=by
  show ((zq (.call ⟨.builtin .len,xs,ts⟩)≠0->_)/\_)=_;rw[show zq (.call ⟨.builtin .len,xs,ts⟩)=0 from rfl,zfm,true_and];rfl
@[simp ↓] theorem zAz {xs:Array Operand} {ts:Array TypeId}:wpO E id T hs (.call ⟨.builtin .min,xs,ts⟩) K=ok (zan T xs.toList) fun vs=>ok (zb1 hs true vs) fun r=>K r.1 r.2:=by
  show ((zq (.call ⟨.builtin .min,xs,ts⟩)≠0->_)/\_)=_;rw[show zq (.call ⟨.builtin .min,xs,ts⟩)=0 from rfl,zfm,true_and];rfl
@[simp ↓] theorem zA0 {xs:Array Operand} {ts:Array TypeId}:wpO E id T hs (.call ⟨.builtin .max,xs,ts⟩) K=ok (zan T xs.toList) fun vs=>ok (zb1 hs false vs) fun r=>K r.1 r.2:=by
  show ((zq (.call ⟨.builtin .max,xs,ts⟩)≠0->_)/\_)=_;rw[show zq (.call ⟨.builtin .max,xs,ts⟩)=0 from rfl,zfm,true_and];rfl
@[simp ↓] theorem z0b {xs:Array Operand} {ts:Array TypeId}:wpO E id T hs (.call ⟨.builtin .append,xs,ts⟩) K=(hs.H.get id=none/\ok (zan T xs.toList) fun vs=>ok (zcl E.P hs id ts.toList vs) fun r=>K r.1 r.2):=by
  show ((zq (.call ⟨.builtin .append,xs,ts⟩)≠0->_)/\_)=_;rw[show zq (.call ⟨.builtin .append,xs,ts⟩)=2 from rfl,zkv];rfl
@[simp ↓] theorem z7k {xs:Array Operand} {ts:Array TypeId}:wpO E id T hs (.call ⟨.builtin .copy,xs,ts⟩) K=(hs.H.get id=none/\ok (zan T xs.toList) fun vs=>ok (zdP E.P hs ts.toList vs) fun r=>K r.1 r.2):=by
  show ((zq (.call ⟨.builtin .copy,xs,ts⟩)≠0->_)/\_)=_;rw[show zq (.call ⟨.builtin .copy,xs,ts⟩)=2 from rfl,zkv];rfl
attribute [simp ↓] zoE zld
@[congr] theorem z6N {c c' A B:Prop} (h:c=c'):br c A B=br c' A B:=by rw[h]
@[congr] theorem z5p {α:Type} {x y:Option α} {K:α->Prop} (h:x=y):ok x K=ok y K:=by rw[h]
@[congr] theorem z7f {rd:Bool} {s:SC} {T T':PT V} {hs hs':HS} {Q:Ex->PT V->HS->Prop} (h1:T=T') (h2:hs=hs'):Js E rd sz s T hs Q=Js E rd sz s T' hs' Q:=by rw[h1,h2]
@[congr] theorem zvA {P:Program} {fn:Func} {K:V->HS->Prop} {ex ex':Ex} {T T':PT V} {hs hs':HS} (h0:ex=ex') (h1:T=T') (h2:hs=hs'):Leaves P fn K ex T hs=Leaves P fn K ex' T' hs':=by rw[h0,h1,h2]
@[congr] theorem z5r {α β:Type} {x y:Option α} {f:α->Option β} (h:x=y):ob x f=ob y f:=by rw[h]
@[congr] theorem z6a {β:Type} {c d:Bool} {x:Option β} (h:c=d):gd c x=gd d x:=by rw[h]
@[congr] theorem z1f {α β:Type} {z:β} {f:α->β} {x y:Option α} (h:x=y):orc z f x=orc z f y:=by rw[h]
@[congr] theorem z6S {α:Type} {c d:Bool} {x y:α} (h:c=d):bi c x y=bi d x y:=by rw[h]
@[simp] theorem zDm {α:Type} {p:Prop} [Decidable p] {x y:α}:bi (decide p) x y=if p then x else y:=by rw[zX];simp
@[simp ↓] theorem z1g {α:Type} (a:α) (K:α->Prop):ok (some a) K=K a:=zl a K
@[simp ↓] theorem z8w {α β:Type} (x:Option α) (f:α->Option β) (K:β->Prop):ok (ob x f) K=ok x fun a=>ok (f a) K:=zS x f K
@[simp ↓] theorem z8x {α:Type} (c:Bool) (x:Option α) (K:α->Prop):ok (gd c x) K=(c=true/\ok x K):=zbS c x K
@[simp ↓] theorem z1q {α β:Type} (a:α) (f:α->Option β):ob (some a) f=f a:=(rfl)
@[simp ↓] theorem z1M {β:Type} (x:Option β):gd true x=x:=(rfl)
@[simp ↓] theorem zyB {α β:Type} (z:β) (f:α->β) (a:α):orc z f (some a)=f a:=(rfl)
@[simp ↓] theorem z3j {α:Type} (x y:α):bi true x y=x:=(rfl)
@[simp ↓] theorem zzP {α:Type} (x y:α):bi false x y=y:=(rfl)
@[simp] theorem z2l {t:Tmp}:zi T (.tmp t)=T.get t:=(rfl)
@[simp] theorem zxn {v:Value}:zi T (.const v)=zcf v:=(rfl)
@[simp] theorem zzp {f:FuncId}:zi T (.func f)=some (.func f []):=(rfl)
@[simp] theorem zr8 {b:Bool}:zcf (.bool b)=some (.bool b):=(rfl)
@[simp] theorem zwu {k:IntKind} {n:Int}:zcf (.int k n)=some (.int k n):=(rfl)
@[simp] theorem zwt {s:ByteArray}:zcf (.string s)=some (.str (bytesOf s)):=(rfl)
@[simp] theorem zoZ:zcf (.pointer none)=some .nilptr:=(rfl)
@[simp] theorem zr7:zcf (.slice none 0 0)=some .snil:=(rfl)
@[simp] theorem zpa:zcf (.map none)=some .nilmap:=(rfl)
@[simp] theorem zmH:zcf .nilFunc=some .nilFunc:=(rfl)
@[simp] theorem zxd {b w:Bool}:(V.bool b).guard? w=some b:=(rfl)
@[simp] theorem zrP {w:Bool}:(V.tuple []).guard? w=some (!w):=(rfl)
@[simp] theorem zrO {w:Bool}:undefV.guard? w=some (!w):=(rfl)
@[simp] theorem zzM {b:Bool}:(V.bool b).bool?=some b:=(rfl)
@[simp] theorem z5M {k:IntKind} {n:Int}:(V.int k n).int?=some (k,n):=(rfl)
@[simp] theorem z11 {k:IntKind} {n:Nat}:(V.int k (n:Int)).nat?=some n:=(rfl)
@[simp] theorem zyN {k:IntKind} {n:Nat}:(V.int k (Int.ofNat n)).nat?=some n:=(rfl)
@[simp] theorem z10 {k:IntKind}:(V.int k 0).nat?=some 0:=(rfl)
@[simp] theorem z5A {k:IntKind}:(V.int k 1).nat?=some 1:=(rfl)
@[simp] theorem z5B {k:IntKind} {n:Nat}:(V.int k (@OfNat.ofNat Int n instOfNat)).nat?=some n:=(rfl)
@[simp] theorem z4p {s:List Nat}:(V.str s).str?=some s:=(rfl)
@[simp] theorem z6X {s:List V}:(V.agg s).agg?=some s:=(rfl)
@[simp] theorem zrq {s:List V}:(V.tuple s).tuple?=some s:=(rfl)
@[simp] theorem z2U {s:List V}:(V.agg s).cells=s:=(rfl)
@[simp] theorem z2T {k:IntKind} {n:Int}:(V.int k n).cells=[.int k n]:=(rfl)
@[simp] theorem zz9 {b:Bool}:(V.bool b).cells=[.bool b]:=(rfl)
@[simp] theorem z2P {b:List Nat}:(V.str b).cells=[.str b]:=(rfl)
@[simp] theorem zz8:V.snil.cells=[.snil]:=(rfl)
@[simp] theorem z6F {es:List (List V)} {t:Bool}:(V.sl es t).cells=[.sl es t]:=(rfl)
@[simp] theorem z2R {a b c d:Nat} {t:Option Nat}:(V.own a b c d t).cells=[.own a b c d t]:=(rfl)
@[simp] theorem z2S {a:Nat}:(V.map a).cells=[.map a]:=(rfl)
@[simp] theorem zvx:(V.nilmap).cells=[.nilmap]:=(rfl)
@[simp] theorem z2Q {a b c:Nat}:(V.ptr a b c).cells=[.ptr a b c]:=(rfl)
@[simp] theorem cells_func {f:Nat} {c:List V}:(V.func f c).cells=[.func f c]:=(rfl)
@[simp] theorem zqE:(V.nilFunc).cells=[.nilFunc]:=(rfl)
@[simp] theorem zxe {f:FuncId} {c:List V}:funcOf (.func f c)=some (f,c):=(rfl)
@[simp] theorem z6W:zpm []=true:=(rfl)
@[simp] theorem z3y {v:V} {l:List V}:zpm (v::l)=et v.isCell (zpm l):=(rfl)
@[simp] theorem zyX {k:IntKind} {n:Int}:(V.int k n).isCell=true:=(rfl)
@[simp] theorem zwU {b:Bool}:(V.bool b).isCell=true:=(rfl)
@[simp] theorem zyT {b:List Nat}:(V.str b).isCell=true:=(rfl)
@[simp] theorem zwS:V.snil.isCell=true:=(rfl)
@[simp] theorem z1A {es:List (List V)} {t:Bool}:(V.sl es t).isCell=true:=(rfl)
@[simp] theorem zyV {a b c d:Nat} {t:Option Nat}:(V.own a b c d t).isCell=true:=(rfl)
@[simp] theorem zyW {a:Nat}:(V.map a).isCell=true:=(rfl)
@[simp] theorem zqt:(V.nilmap).isCell=true:=(rfl)
@[simp] theorem zyU {a b c:Nat}:(V.ptr a b c).isCell=true:=(rfl)
@[simp] theorem zwT {f:Nat} {c:List V}:(V.func f c).isCell=true:=(rfl)
@[simp] theorem zpd:(V.nilFunc).isCell=true:=(rfl)
@[simp] theorem z18 {i:TI} {a g off:Nat}:zfb i hs (.ptr a g off)=ob (zax hs a g) fun r=>zhJ i r off:=(rfl)
@[simp] theorem z16 {i:TI} {cs:List V}:zfb i hs (.ref cs)=ze8 i cs 0:=(rfl)
@[simp] theorem zq2 {n a g off:Nat}:zaz n (.ptr a g off)=some (.ptr a g (off+n)):=(rfl)
@[simp] theorem zq1 {n:Nat} {cs:List V}:zaz n (.ref cs)=some (.ref (zgB n cs)):=(rfl)
@[simp] theorem zrK {e:TI} {n:Nat} {es:List (List V)} {t:Bool}:zca e n (.sl es t)=gd (sizes e.size es) (ob (zdK es n) fun c=>some (.ref c)):=(rfl)
@[simp] theorem zqw {e:TI} {n a g off len:Nat} {c:Option Nat}:zca e n (.own a g off len c)=gd (Nat.blt n len) (some (.ptr a g (off+n*e.size))):=(rfl)
@[simp] theorem zyl {i:TI} {a g off:Nat} {v:V}:zdA i hs (.ptr a g off) v=bi (isRow hs a) (ob (zaG v hs) fun r=>zaR i a g off r.1 r.2) (zaR i a g off v hs):=(rfl)
@[simp] theorem z6U {s g:Nat} {es:List (List V)} {a b c:Bool}:(Obj.arr s g es a b c).arr?=some (s,g,es,a,b,c):=(rfl)
@[simp] theorem zBh {es:List (V×V)}:(Obj.mp es).mp?=some es:=(rfl)
@[simp] theorem zDQ {o:Obj} {k:Nat}:(hs.put k o).n=hs.n:=(rfl)
@[simp] theorem wr_n {o:Obj} {k:Nat}:(hs.wr k o).n=hs.n:=(rfl)
@[simp] theorem zAd {n:Nat} {e:TypeId}:zmf (.array n e)=some e:=(rfl)
@[simp] theorem zqs {n:Nat} {e:TypeId}:zaw (.array n e)=false:=(rfl)
@[simp] theorem zza {n:Nat} {e:TypeId}:zbj (.array n e)=true:=(rfl)
@[simp] theorem z2z {e:TypeId}:elemOf (.slice e)=some (e,none):=(rfl)
@[simp] theorem zzz {n:Nat} {e:TypeId}:elemOf (.array n e)=some (e,some n):=(rfl)
@[simp] theorem z1H {e:TI} {n:Nat} {v:V}:zzh none e n v=zca e n v:=(rfl)
@[simp] theorem z1G {k:Nat} {e:TI} {n:Nat} {v:V}:zzh (some k) e n v=gd (Nat.blt n k) (zaz (n*e.size) v):=(rfl)
@[simp] theorem zyr {e:TypeId}:zbm (.slice e)=some e:=(rfl)
@[simp] theorem z5H {k e:TypeId}:mapOf (.map k e)=some (k,e):=(rfl)
@[simp] theorem z6R {P:Program} {b:BinOp} {t:TypeId} {k k':IntKind} {m n:Int}:zv4 P b t (.int k m) (.int k' n)=bi (za2 b) (zil b k m n) (gd (zfI k k') (arith b k m n)):=(rfl)
@[simp] theorem zwC {k:IntKind}:zfI k k=true:=by cases k<;>rfl
@[simp] theorem z6Q {P:Program} {b:BinOp} {t:TypeId} {m n:List Nat}:zv4 P b t (.str m) (.str n)=zie b m n:=(rfl)
@[simp] theorem z3h {P:Program} {b:BinOp} {t:TypeId} {m n:Bool}:zv4 P b t (.bool m) (.bool n)=zfA P b t (.bool m) (.bool n):=(rfl)
end
@[simp] theorem z1p {α β:Type} (a:α) (f:α->Option β):ob (some a) f=f a:=(rfl)
@[simp] theorem z1r {α β:Type} (f:α->Option β):ob none f=none:=(rfl)
@[simp] theorem z1L {β:Type} (x:Option β):gd true x=x:=(rfl)
@[simp] theorem zzl {β:Type} (x:Option β):gd false x=none:=(rfl)
@[simp] theorem z3i {α:Type} (x y:α):bi true x y=x:=(rfl)
@[simp] theorem zzO {α:Type} (x y:α):bi false x y=y:=(rfl)
@[simp] theorem zyA {α β:Type} (z:β) (f:α->β) (a:α):orc z f (some a)=f a:=(rfl)
@[simp] theorem zyC {α β:Type} (z:β) (f:α->β):orc z f none=z:=(rfl)
@[simp] theorem zzk {α:Type} (n:Nat):(PT.leaf:PT α).get n=none:=(rfl)
@[simp] theorem zjZ {T:PT V}:zan T []=some []:=(rfl)
@[simp] theorem ziZ {T:PT V} (o:Operand) (l:List Operand):zan T (o::l)=ob (zi T o) fun v=>ob (zan T l) fun r=>some (v::r):=(rfl)
attribute [simp] zl zS zbS PT.set_get zaq zd7 zx zb0 zbP zbU zaf zjB zjF zdy
@[simp] theorem zoJ {a b:Nat}:Nat.beq a b=decide (a=b):=by rw[Bool.eq_iff_iff];simp
@[simp] theorem z9Z {a b:Nat}:Nat.ble a b=decide (a<=b):=by rw[Bool.eq_iff_iff];simp
@[simp] theorem z9X {a b:Nat}:Nat.blt a b=decide (a<b):=by rw[Bool.eq_iff_iff,J.blt_true];simp
@[simp ↓] theorem zvQ {K:PT V->HS->Prop} {Q:Ex->PT V->HS->Prop} {T:PT V} {hs:HS}:Ex.then K Q .normal T hs=K T hs:=(rfl)
@[simp ↓] theorem z4m {K:PT V->HS->Prop} {Q:Ex->PT V->HS->Prop} {T:PT V} {hs:HS}:Ex.then K Q .ret T hs=Q .ret T hs:=(rfl)
@[simp ↓] theorem z0w {i:Nat} {K:PT V->HS->Prop} {Q:Ex->PT V->HS->Prop} {T:PT V} {hs:HS}:Ex.then K Q (.exit i) T hs=Q (.exit i) T hs:=(rfl)
@[simp ↓] theorem zzN {id:Nat} {Q:Ex->PT V->HS->Prop} {T:PT V} {hs:HS}:Ex.inBlock id Q .normal T hs=Q .normal T hs:=(rfl)
@[simp ↓] theorem z9Y {id:Nat} {Q:Ex->PT V->HS->Prop} {T:PT V} {hs:HS}:Ex.inBlock id Q .ret T hs=Q .ret T hs:=(rfl)
@[simp ↓] theorem z6P {id i:Nat} {Q:Ex->PT V->HS->Prop} {T:PT V} {hs:HS}:Ex.inBlock id Q (.exit i) T hs=if i=id then Q .normal T hs else Q (.exit i) T hs:=(rfl)
@[simp] theorem z4z {P:Program} {T:PT V} {hs:HS}:zlv P T hs []=some []:=(rfl)
@[simp] theorem z4y {P:Program} {T:PT V} {hs:HS} {t:Tmp} {l:List ResultVar}:zlv P T hs (.tmp t::l)=ob (T.get t) fun v=>ob (zlv P T hs l) fun r=>some (v::r):=(rfl)
@[simp] theorem z0J {P:Program} {T:PT V} {hs:HS} {a:Tmp} {t:TypeId} {l:List ResultVar}:zlv P T hs (.cell a t::l)=ob (ob (ti P t) fun i=>ob (T.get a) fun p=>zfb i hs p) fun v=>ob (zlv P T hs l) fun r=>some (v::r):=(rfl)
@[simp] theorem zyj {v:V}:zcN [v]=v:=(rfl)
@[simp] theorem zyi {v u:V} {l:List V}:zcN (v::u::l)=.tuple (v::u::l):=(rfl)
attribute [simp] zhu ze2
attribute [simp] zlN zhB zfF zmW zdS
@[simp] theorem z9A {a b:Int}:eqI a b=decide (a=b):=by rw[Bool.eq_iff_iff,eqI_true];simp
@[simp] theorem zwR:za2 .add=false:=(rfl)
@[simp] theorem zwF:za2 .sub=false:=(rfl)
@[simp] theorem zwK:za2 .mul=false:=(rfl)
@[simp] theorem zwI:za2 .quo=false:=(rfl)
@[simp] theorem zwH:za2 .rem=false:=(rfl)
@[simp] theorem zwP:za2 .eql=false:=(rfl)
@[simp] theorem zwJ:za2 .neq=false:=(rfl)
@[simp] theorem zwL:za2 .lss=false:=(rfl)
@[simp] theorem zwM:za2 .leq=false:=(rfl)
@[simp] theorem zwN:za2 .gtr=false:=(rfl)
@[simp] theorem zwO:za2 .geq=false:=(rfl)
@[simp] theorem zwQ:za2 .and=false:=(rfl)
@[simp] theorem zyS:za2 .or=false:=(rfl)
@[simp] theorem zwE:za2 .xor=false:=(rfl)
section
variable {k:IntKind}{a b:Int}{hs:HS}{P:Program}{T:PT V}
@[simp] theorem z3v:arith .add k a b=some (.int k (zdT k (a+b))):=(rfl)
@[simp] theorem z3k:arith .sub k a b=some (.int k (zdT k (a-b))):=(rfl)
@[simp] theorem z3o:arith .mul k a b=some (.int k (zdT k (a*b))):=(rfl)
@[simp] theorem z3m:arith .quo k a b=gd (nt (eqI b 0)) (some (.int k (zdT k (a.tdiv b)))):=(rfl)
@[simp] theorem z3l:arith .rem k a b=gd (nt (eqI b 0)) (some (.int k (a.tmod b))):=(rfl)
@[simp] theorem z3t:arith .eql k a b=some (.bool (eqI a b)):=(rfl)
@[simp] theorem z3n:arith .neq k a b=some (.bool (nt (eqI a b))):=(rfl)
@[simp] theorem z3p:arith .lss k a b=some (.bool (ltI a b)):=(rfl)
@[simp] theorem z3q:arith .leq k a b=some (.bool (leI a b)):=(rfl)
@[simp] theorem z3r:arith .gtr k a b=some (.bool (ltI b a)):=(rfl)
@[simp] theorem zwG:za2 .shr=true:=(rfl)
@[simp] theorem zyt:zil .shr k a b=ob (zw4 b) fun m=>some (.int k (a.fdiv (2 ^ min m k.bits))):=(rfl)
@[simp] theorem z3u:arith .and k a b=some (.int k (zqX k a b)):=(rfl)
@[simp] theorem z3s:arith .geq k a b=some (.bool (leI b a)):=(rfl)
@[simp] theorem z07 {x y:List Nat}:zie .eql x y=some (.bool (zkZ x y)):=(rfl)
@[simp] theorem z04 {x y:List Nat}:zie .neq x y=some (.bool (nt (zkZ x y))):=(rfl)
@[simp] theorem z05 {x y:List Nat}:zie .lss x y=some (.bool (zql x y)):=(rfl)
@[simp] theorem z06 {x y:List Nat}:zie .gtr x y=some (.bool (bi (zql x y) false (nt (zkZ x y)))):=(rfl)
@[simp] theorem zwr {t:TypeId} {x y:V}:zfA P .eql t x y=ob (eqV P t x y) fun b=>some (.bool b):=(rfl)
@[simp] theorem zwq {t:TypeId} {x y:V}:zfA P .neq t x y=ob (eqV P t x y) fun b=>some (.bool (nt b)):=(rfl)
@[simp] theorem z6k {x y:V}:eqD .bool x y=ob x.bool? fun a=>ob y.bool? fun b=>some (zcC a b):=(rfl)
@[simp] theorem z2p {e:TypeId} {x y:V}:eqD (.slice e) x y=zfV (zqg x) (zqg y):=(rfl)
@[simp] theorem z9B {e f:TypeId} {x y:V}:eqD (.map e f) x y=zfV (zrB x) (zrB y):=(rfl)
@[simp] theorem zxo {e:TypeId} {x y:V}:eqD (.pointer e) x y=zfV (zqh x) (zqh y):=(rfl)
@[simp] theorem z6j {a b:Array TypeId} {c:Bool} {x y:V}:eqD (.func a b c) x y=zfV (zrC x) (zrC y):=(rfl)
@[simp] theorem z1v:zqg .snil=some true:=(rfl)
@[simp] theorem z5s {a b c d:Nat} {e:Option Nat}:zqg (.own a b c d e)=some false:=(rfl)
@[simp] theorem z8B {e:List V} {l:List (List V)} {t:Bool}:zqg (.sl (e::l) t)=some false:=(rfl)
@[simp] theorem z5w:zrB .nilmap=some true:=(rfl)
@[simp] theorem z5x {i:Nat}:zrB (.map i)=some false:=(rfl)
@[simp] theorem z5v:zqh .nilptr=some true:=(rfl)
@[simp] theorem z5u {i g o:Nat}:zqh (.ptr i g o)=some false:=(rfl)
@[simp] theorem z5t {c:List V}:zqh (.ref c)=some false:=(rfl)
@[simp] theorem z5y:zrC .nilFunc=some true:=(rfl)
@[simp] theorem z1w {f:Nat} {c:List V}:zrC (.func f c)=some false:=(rfl)
@[simp] theorem z99 {a b:Option Bool}:zfV a b=ob a fun a=>ob b fun b=>bi a (some b) (bi b (some false) none):=(rfl)
@[simp] theorem zEg {t:TypeId} {x y:V}:eqV P t x y=ob (ti P t) fun i=>eqD i.desc x y:=(rfl)
@[simp] theorem z1K {i g:Nat}:zax hs i g=ob (hs.H.get i) fun o=>ob o.arr? fun a=>gd (et (Nat.beq g a.2.1) (nt (Nat.beq a.1 0))) (some (a.1,a.2.2)):=(rfl)
@[simp] theorem z5L {i:Nat}:isRow hs i=orc false (fun o=>orc false (fun a=>a.2.2.2.2.2) o.arr?) (hs.H.get i):=(rfl)
@[simp] theorem z15 {i:TI} {a:Nat×List (List V)×Bool×Bool×Bool} {off:Nat}:zhJ i a off=ob (zdK a.2.1 (off / a.1)) fun e=>ze8 i e (off % a.1):=(rfl)
@[simp] theorem z8t {i:TI} {cs:List V} {off:Nat}:ze8 i cs off=bi (zbj i.desc) (z3z i.size (zeX i.size (zgB off cs))) (zdK cs off):=(rfl)
@[simp] theorem zDp {n:Nat} {r:List V}:z3z n r=gd (Nat.beq (zC r) n) (some (.agg r)):=(rfl)
@[simp] theorem zyk {i:TI} {id g off:Nat} {v:V}:zaR i id g off v hs=ob (zax hs id g) fun a=>gd (nt a.2.2.2.1) (gd (et (zpm v.cells) (et (Nat.beq (zC v.cells) i.size) (Nat.ble (off % a.1+i.size) a.1)))
 (ob (zdK a.2.1 (off / a.1)) fun e=>some (hs.wr id (.arr a.1 g (zoU a.2.1 (off / a.1) (zaC e (off % a.1) v.cells)) a.2.2.1 false a.2.2.2.2)))):=(rfl)
@[simp] theorem z1c {α:Type} (n:Nat) (l:List α):zaC ([]:List α) n l=[]:=(rfl)
@[simp] theorem zoX {α:Type} (x:α) (t:List α):zaC (x::t) 0 []=x::t:=(rfl)
@[simp] theorem zf9 {α:Type} (x:α) (t:List α) (y:α) (ys:List α):zaC (x::t) 0 (y::ys)=y::zaC t 0 ys:=(rfl)
@[simp] theorem zl5 {α:Type} (x:α) (t:List α) (n:Nat) (l:List α):zaC (x::t) (n+1) l=x::zaC t n l:=(rfl)
@[simp] theorem z8F {ts:List TypeId} {vs:List V}:zeP P hs ts vs=ob (zna P ts) fun i=>ob (zpX vs) fun x=>ob (zpc hs i.desc x) fun n=>some (.int .i64 (Int.ofNat n),hs):=(rfl)
@[simp] theorem z5E {l:Bool} {vs:List V}:zb1 hs l vs=ob (zoT vs) fun p=>ob p.1.int? fun a=>ob p.2.int? fun b=>some (.int a.1 (bi (bi l (ltI b.2 a.2) (ltI a.2 b.2)) b.2 a.2),hs):=(rfl)
@[simp] theorem zxb {t:TypeId} {l:List TypeId}:zna P (t::l)=ti P t:=(rfl)
@[simp] theorem zDR {i:Nat} {o:Obj}:(hs.put i o).H=hs.H.set i o:=(rfl)
@[simp] theorem z8g {i:Nat} {o:Obj}:(hs.put i o).log=hs.log:=(rfl)
@[simp] theorem wr_H {i:Nat} {o:Obj}:(hs.wr i o).H=hs.H.set i o:=(rfl)
@[simp] theorem zAy {i:Nat} {o:Obj}:(hs.wr i o).log=i::hs.log:=(rfl)
@[simp] theorem z5o {v:V}:zpX [v]=some v:=(rfl)
@[simp] theorem z4l {v u:V}:zoT [v,u]=some (v,u):=(rfl)
@[simp] theorem z5I {s:List Nat}:zpc hs .string (.str s)=some (zC s):=(rfl)
@[simp] theorem z19 {e:TypeId}:zpc hs (.slice e) .snil=some 0:=(rfl)
@[simp] theorem z8G {e:TypeId} {es:List (List V)} {t:Bool}:zpc hs (.slice e) (.sl es t)=some (zC es):=(rfl)
@[simp] theorem z5J {e:TypeId} {i g o n:Nat} {c:Option Nat}:zpc hs (.slice e) (.own i g o n c)=some n:=(rfl)
@[simp] theorem zwA {k e:TypeId}:zpc hs (.map k e) .nilmap=some 0:=(rfl)
@[simp] theorem z5K {k e:TypeId} {i:Nat}:zpc hs (.map k e) (.map i)=ob (hs.H.get i) fun o=>ob o.mp? fun es=>some (zC es):=(rfl)
@[simp] theorem z4j {x:Operand}:zhy T hs .not x=ob (zi T x) fun v=>ob v.bool? fun b=>some (.bool (nt b),hs):=(rfl)
@[simp] theorem z4k {x:Operand}:zhy T hs .neg x=ob (zi T x) fun v=>ob v.int? fun p=>some (.int p.1 (zdT p.1 (0-p.2)),hs):=(rfl)
@[simp] theorem z2N {v:V}:zkh (.int k) v=ob v.int? fun p=>some (.int k (zdT k p.2)):=(rfl)
@[simp] theorem z2M {v:V}:zkh .string v=ob v.str? fun s=>some (.str s):=(rfl)
@[simp] theorem zyH {i g o:Nat}:notNil (.ptr i g o)=true:=(rfl)
@[simp] theorem zyG {c:List V}:notNil (.ref c)=true:=(rfl)
@[simp] theorem zwx {f:Nat} {c:List V}:notNil (.func f c)=true:=(rfl)
@[simp] theorem z1D:zbj (.int k)=false:=(rfl)
@[simp] theorem zyZ:zbj .bool=false:=(rfl)
@[simp] theorem z1B:zbj .string=false:=(rfl)
@[simp] theorem zwV {e:TypeId}:zbj (.slice e)=false:=(rfl)
@[simp] theorem z1C {e f:TypeId}:zbj (.map e f)=false:=(rfl)
@[simp] theorem zqu {e:TypeId}:zbj (.pointer e)=false:=(rfl)
@[simp] theorem zyY {e f:Array TypeId} {c:Bool}:zbj (.func e f c)=false:=(rfl)
@[simp] theorem z3N {n:Int} {r:V}:Gives r (.int k n) hs=(.int k n=r):=by show (some (V.int k n)=some r)=_;simp
@[simp] theorem zzV {b:Bool} {r:V}:Gives r (.bool b) hs=(.bool b=r):=by show (some (V.bool b)=some r)=_;simp
@[simp] theorem z3L {b:List Nat} {r:V}:Gives r (.str b) hs=(.str b=r):=by show (some (V.str b)=some r)=_;simp
end
section
variable {P:Program}{T:PT V}{hs:HS}{id:Nat}
@[simp] theorem z4x {n b:Nat}:zco n b=decide (n*b<=1048576):=by show Nat.ble _ _=_;simp
@[simp] theorem zqk {t:TypeId} {l c:Operand}:zac P T hs id t l c=ob (ti P t) fun i=>ob (zi T l) fun a=>ob (zi T c) fun b=>zb2 P i hs id a b:=(rfl)
@[simp] theorem zw8 {i:TI} {l c:V}:zb2 P i hs id l c=ob (zbm i.desc) fun el=>ob (ti P el) fun e=>ob l.nat? fun l=>ob c.nat? fun c =>
 gd (et (Nat.ble l c) (et (zco c e.bytes) (et (Nat.ble (c*e.size) 1048576) (et (nt (Nat.beq e.size 0)) (et (Nat.beq (zC e.zero) e.size) (zlg e.zero))))))
  (some (.own id 0 0 l (some c),hs.put id (.arr e.size 0 (zyz e.zero c) true false true))):=(rfl)
@[simp] theorem zqN {n:Nat} {cells:List V}:zbK T n [] cells=some cells:=(rfl)
@[simp] theorem zpj {n k:Nat} {o:Operand} {l:List (Nat×Operand)} {cells:List V}:zbK T n ((k,o)::l) cells=ob (zi T o) fun v=>gd (et (Nat.beq (zC v.cells) n) (Nat.ble (k*n+n) (zC cells))) (zbK T n l (zaC cells (k*n) v.cells)):=(rfl)
@[simp] theorem zv3 {i:TI} {cells:List V}:zcS P T i [] cells=some cells:=(rfl)
@[simp] theorem zqM {i:TI} {k:Nat} {o:Operand} {l:List (Nat×Operand)} {cells:List V}:zcS P T i ((k,o)::l) cells=ob (zu i k) fun fd=>ob (ti P fd.type) fun fi=>ob (zi T o) fun v =>
 gd (et (Nat.beq (zC v.cells) fi.size) (Nat.ble (fd.offset+fi.size) (zC cells))) (zcS P T i l (zaC cells fd.offset v.cells)):=(rfl)
@[simp] theorem zr3 {dr:Bool} {e:TI} {len:Nat} {es:List (List V)}:zc6 dr T e len [] hs es=some (es,hs):=(rfl)
@[simp] theorem zpS {dr:Bool} {e:TI} {len k:Nat} {o:Operand} {l:List (Nat×Operand)} {es:List (List V)}:zc6 dr T e len ((k,o)::l) hs es=ob (zi T o) fun v=>ob (zdw dr v hs) fun r =>
 gd (et (Nat.beq (zC r.1.cells) e.size) (Nat.blt k len)) (zc6 dr T e len l r.2 (zoU es k r.1.cells)):=(rfl)
@[simp] theorem zvw {v:V}:zdw false v hs=zaG v hs:=(rfl)
@[simp] theorem zx7 {v:V}:zdw true v hs=gd v.pure (some (v,hs)):=(rfl)
@[simp] theorem zpi {dr:Bool} {t:TypeId} {len:Nat} {ps:Array (Nat×Operand)}:zR P dr T hs id t len ps=ob (ti P t) fun i=>ob (zbm i.desc) fun el=>ob (ti P el) fun e =>
 gd (et (Nat.ble (len*e.size) 1048576) (et (nt (Nat.beq e.size 0)) (et (Nat.beq (zC e.zero) e.size) (zlg e.zero))))
  (ob (zc6 dr T e len ps.toList hs (zyz e.zero len)) fun r=>some (bi (Nat.beq e.bytes 128) (.own id 0 0 len (some len)) (.sl r.1 true),r.2.put id (bi (Nat.beq e.bytes 128) (.arr e.size 0 r.1 true false true) (.mp [])))):=(rfl)
@[simp] theorem zxu {t:TypeId} {l:List TypeId}:zje P (t::l)=ob (ti P t) fun i=>ob (zbm i.desc) fun el=>ti P el:=(rfl)
@[simp] theorem zrI {t u:TypeId}:zbA [t,u]=some u:=(rfl)
@[simp] theorem zzS {ts:List TypeId} {vs:List V}:zcl P hs id ts vs=ob (zoT vs) fun p=>ob (zje P ts) fun e=>ob (zbA ts) fun u=>ob (ti P u) fun j=>ob (zbm j.desc) fun _=>zcL e hs id p.1 p.2:=(rfl)
@[simp] theorem append_nil {e:TI} {x:V}:zcL e hs id .snil x=ob (zcu hs e.size x) fun new=>gd (et (sizes e.size new) (et (zD new) (et (nt (Nat.beq e.size 0)) (et (nt (Nat.beq e.bytes 0)) (Nat.beq (zC e.zero) e.size))))) (zdz e hs id new):=(rfl)
@[simp] theorem z3w {e:TI} {es:List (List V)} {t:Bool} {x:V}:zcL e hs id (.sl es t) x=ob (zcu hs e.size x) fun new=>gd (et (sizes e.size new) (et (zD new) (et (nt (Nat.beq e.size 0)) (et (nt (Nat.beq e.bytes 0)) (Nat.beq (zC e.zero) e.size))))) (ze0 e hs id es t new):=(rfl)
@[simp] theorem zzQ {e:TI} {i g o n:Nat} {c:Option Nat} {x:V}:zcL e hs id (.own i g o n c) x=ob (zcu hs e.size x) fun new=>gd (et (sizes e.size new) (et (zD new) (et (nt (Nat.beq e.size 0)) (et (nt (Nat.beq e.bytes 0)) (Nat.beq (zC e.zero) e.size))))) (zcD e hs id i g o n c new):=(rfl)
@[simp] theorem zxK {e:TI} {new:List (List V)}:zdz e hs id new=bi (Nat.beq (zC new) 0) (some (.snil,hs)) (gd (zco (zC new) e.bytes) (zdg e hs id (zC new) new)):=(rfl)
@[simp] theorem zzR {e:TI} {es new:List (List V)} {t:Bool}:ze0 e hs id es t new=bi (Nat.beq (zC new) 0) (some (.sl es t,hs)) (gd (et t (et (zco (zC es+zC new) e.bytes) (sizes e.size es))) (zdg e hs id (zC es+zC new) (zbd es new))):=(rfl)
@[simp] theorem z8C {e:TI} {n:Nat} {es:List (List V)}:zdg e hs id n es=some (.own id 0 0 n none,hs.put id (.arr e.size 0 es false false true)):=(rfl)
@[simp] theorem zpl {e:TI} {i g o n:Nat} {new:List (List V)}:zcD e hs id i g o n none new=ob (zax hs i g) fun a=>gd (et a.2.2.2.2 (et (Nat.beq a.1 e.size) (et (Nat.beq (o % a.1) 0) (zco (n+zC new) e.bytes))))
 (bi (Nat.ble (o / a.1+n+zC new) (zC a.2.1)) (zbW hs i g o n none a new)
     (gd (et (nt a.2.2.2.1) (et (Nat.beq o 0) (Nat.ble n (zC a.2.1)))) (some (.own i (g+1) 0 (n+zC new) none,hs.wr i (.arr a.1 (g+1) (zbd (zeX n a.2.1) new) false false true))))):=(rfl)
@[simp] theorem zpk {e:TI} {i g o n c:Nat} {new:List (List V)}:zcD e hs id i g o n (some c) new=ob (zax hs i g) fun a=>gd (et a.2.2.2.2 (et (Nat.beq a.1 e.size) (et (Nat.beq (o % a.1) 0) (zco (n+zC new) e.bytes))))
 (bi (Nat.ble (n+zC new) c) (zbW hs i g o n (some c) a new) (ob (zcQ a.1 o n a.2.1) fun old=>zdg e hs id (n+zC new) (zbd old new))):=(rfl)
@[simp] theorem zzT {i g o n:Nat} {c:Option Nat} {a:Nat×List (List V)×Bool×Bool×Bool} {new:List (List V)}:zbW hs i g o n c a new=gd (et (nt a.2.2.2.1) (Nat.ble (o / a.1+n+zC new) (zC a.2.1)))
 (some (.own i g o (n+zC new) c,hs.wr i (.arr a.1 g (zaC a.2.1 (o / a.1+n) new) a.2.2.1 false a.2.2.2.2))):=(rfl)
@[simp] theorem z6C {size off len:Nat} {es:List (List V)}:zcQ size off len es=gd (et (Nat.beq (off % size) 0) (Nat.ble (off / size+len) (zC es))) (some (zeX len (zgB (off / size) es))):=(rfl)
@[simp] theorem zxt {n:Nat}:zcu hs n .snil=some []:=(rfl)
@[simp] theorem z2y {n:Nat} {es:List (List V)} {t:Bool}:zcu hs n (.sl es t)=some es:=(rfl)
@[simp] theorem zzy {n i g o k:Nat} {c:Option Nat}:zcu hs n (.own i g o k c)=ob (zax hs i g) fun a=>gd (et a.2.2.2.2 (Nat.beq a.1 n)) (zcQ a.1 o k a.2.1):=(rfl)
@[simp] theorem z6D {ts:List TypeId} {vs:List V}:zdP P hs ts vs=ob (zoT vs) fun p=>ob (zje P ts) fun e=>ob (zbA ts) fun _=>zkg e hs p.1 p.2:=(rfl)
@[simp] theorem z2L {e:TI} {i g o n:Nat} {c:Option Nat} {x:V}:zkg e hs (.own i g o n c) x=ob (zcu hs e.size x) fun src=>zgl e hs i g o n src:=(rfl)
@[simp] theorem z2K {e:TI} {i g o n:Nat} {src:List (List V)}:zgl e hs i g o n src=ob (zax hs i g) fun a=>gd (et (nt a.2.2.2.1) (et a.2.2.2.2 (et (Nat.beq a.1 e.size) (et (Nat.beq (o % a.1) 0) (et (sizes e.size src) (et (zD src) (Nat.ble (o / a.1+zpb (zC src) n) (zC a.2.1))))))))
 (some (.int .i64 (Int.ofNat (zpb (zC src) n)),hs.wr i (.arr a.1 g (zaC a.2.1 (o / a.1) (zeX (zpb (zC src) n) src)) a.2.2.1 false true))):=(rfl)
@[simp] theorem zBk {a b:Nat}:zpb a b=min a b:=by unfold zpb;rw[zX];simp only[ble_true];split<;>omega
@[simp] theorem z4Z {v:V}:zaG v hs=ob (za7 hs v) fun v'=>some (v',zay hs v.cells):=(rfl)
@[simp] theorem zyo {l:List V}:za7 hs (.agg l)=ob (zcc hs l) fun l=>some (.agg l):=(rfl)
@[simp] theorem zrs:zcc hs []=some []:=(rfl)
@[simp] theorem zpx {v:V} {l:List V}:zcc hs (v::l)=ob (zaZ hs v) fun v'=>ob (zcc hs l) fun l'=>some (v'::l'):=(rfl)
@[simp] theorem zrv {i g o n:Nat} {c:Option Nat}:zaZ hs (.own i g o n c)=ob (zax hs i g) fun a=>gd a.2.2.2.2 (ob (zcQ a.1 o n a.2.1) fun l=>some (.sl l false)):=(rfl)
@[simp] theorem zyq {k:IntKind} {n:Int}:zaZ hs (.int k n)=some (.int k n):=(rfl)
@[simp] theorem zvX {b:Bool}:zaZ hs (.bool b)=some (.bool b):=(rfl)
@[simp] theorem zyp {b:List Nat}:zaZ hs (.str b)=some (.str b):=(rfl)
@[simp] theorem z09 {es:List (List V)} {b:Bool}:zaZ hs (.sl es b)=some (.sl es b):=(rfl)
@[simp] theorem zvW:zaZ hs .snil=some .snil:=(rfl)
@[simp] theorem zqy:zay hs []=hs:=(rfl)
@[simp] theorem zpg {v:V} {l:List V}:zay hs (v::l)=zaD (zay hs l) v:=(rfl)
@[simp] theorem zxh {i g o n:Nat} {c:Option Nat}:zaD hs (.own i g o n c)=zG hs i:=(rfl)
@[simp] theorem zxi {k:IntKind} {n:Int}:zaD hs (.int k n)=hs:=(rfl)
@[simp] theorem zrR {b:Bool}:zaD hs (.bool b)=hs:=(rfl)
@[simp] theorem zxg {b:List Nat}:zaD hs (.str b)=hs:=(rfl)
@[simp] theorem zzm {es:List (List V)} {b:Bool}:zaD hs (.sl es b)=hs:=(rfl)
@[simp] theorem zrQ:zaD hs .snil=hs:=(rfl)
@[simp] theorem zxf {i:Nat}:zG hs i=orc hs (fun o=>orc hs (fun a=>hs.wr i (.arr a.1 a.2.1 a.2.2.1 a.2.2.2.1 true a.2.2.2.2.2)) o.arr?) (hs.H.get i):=(rfl)
theorem zh9 {α:Type}:∀ (l:List α) (n:Nat) (m:List α),n<=l.length->n+m.length<=l.length->zaC l n m=l.take n++(m++l.drop (n+m.length)):=by
 intro l
 induction l with
 | nil =>
   intro n m hn hm;have h0:m=[]:=List.eq_nil_of_length_eq_zero (by rw[List.length_nil]at hm;omega);subst h0;simp
 | cons x l ih =>
   intro n m hn hm
   cases n with
   | zero =>
     cases m with
     |nil=>simp
     | cons y m =>
       rw[zf9,ih 0 m (by omega) (by simp at hm ⊢;omega)];simp
   | succ n =>
     rw[zl5,ih n m (by simpa using hn) (by simp at hm ⊢;omega)];simp[Nat.add_right_comm]
@[simp] theorem z0B {n:Nat}:sizes n []=true:=(rfl)
@[simp] theorem zys {n:Nat} {x:List V} {l:List (List V)}:sizes n (x::l)=et (Nat.beq (zC x) n) (sizes n l):=(rfl)
@[simp] theorem zv9:zD []=true:=(rfl)
@[simp] theorem zrb {x:List V} {l:List (List V)}:zD (x::l)=et (zpm x) (zD l):=(rfl)
end
section
variable {hs:HS}{r:V}
@[simp] theorem z3M {i g o n:Nat} {c:Option Nat}:Gives r (.own i g o n c) hs=(zaZ hs (.own i g o n c)=some r):=(rfl)
@[simp] theorem z3O {l:List V}:Gives r (.agg l) hs=((ob (zcc hs l) fun l=>some (V.agg l))=some r):=(rfl)
@[simp] theorem zxX {l:List V}:Gives r (.tuple l) hs=((ob (zak hs l) fun l=>some (V.tuple l))=some r):=(rfl)
@[simp] theorem z7g {es:List (List V)} {t:Bool}:Gives r (.sl es t) hs=(.sl es t=r):=by show (some (V.sl es t)=some r)=_;simp
@[simp] theorem zzU:Gives r .snil hs=(.snil=r):=by show (some V.snil=some r)=_;simp
@[simp] theorem zrt:zak hs []=some []:=(rfl)
@[simp] theorem zpy {v:V} {l:List V}:zak hs (v::l)=ob (za7 hs v) fun v'=>ob (zak hs l) fun l'=>some (v'::l'):=(rfl)
@[simp] theorem zru {i g o n:Nat} {c:Option Nat}:za7 hs (.own i g o n c)=zaZ hs (.own i g o n c):=(rfl)
@[simp] theorem zyn {k:IntKind} {n:Int}:za7 hs (.int k n)=some (.int k n):=(rfl)
@[simp] theorem zvV {b:Bool}:za7 hs (.bool b)=some (.bool b):=(rfl)
@[simp] theorem zym {b:List Nat}:za7 hs (.str b)=some (.str b):=(rfl)
@[simp] theorem z08 {es:List (List V)} {b:Bool}:za7 hs (.sl es b)=some (.sl es b):=(rfl)
@[simp] theorem zvU:za7 hs .snil=some .snil:=(rfl)
end
end Go.J
/- Contracts in use. -/
namespace Go.J
abbrev Spec:=List V->HS->Option (V×HS)
def zi0(s:List V->Option V):Spec:=fun vs hs=>gd (zt vs) (ob (s vs) fun v=>some (v,hs))
def z2O(L:List (Nat×Spec))(f:FuncId)(vs:List V)(hs:HS):Option (V×HS):=lr none (fun p _ ih=>bi (Nat.beq f p.1) (p.2 vs hs) ih) L
def zvs(P:Program)(pol:FuncId->Nat)(L:List (Nat×Spec)):Env:={ P:=P,pol:=pol,con:=z2O L }
structure Valid(ρ:Nat->Value)(P:Program)(f:Nat)(s:Spec):Prop where
 fn:zdR P f
 ok:∀ {vs hs v hs'},s vs hs=some (v,hs')->CallOk ρ P f vs hs v hs'
 kept:∀ {vs hs r},s vs hs=some r->Kept hs r.2
theorem zo3(p:Nat×Spec)(L:List (Nat×Spec))(f:FuncId):z2O (p::L) f=if f=p.1 then p.2 else z2O L f:=by
 funext vs hs
 show bi (Nat.beq f p.1) (p.2 vs hs) (z2O L f vs hs)=_;rw[zX];by_cases h:f=p.1
 . rw[if_pos (beq_true.2 h),if_pos h]
 . rw[if_neg (fun e=>h (beq_true.1 e)),if_neg h]
theorem zg{ρ:Nat->Value}{P:Program}{pol:FuncId->Nat}:∀ {L:List (Nat×Spec)},(∀ p∈L,Valid ρ P p.1 p.2)->ConsOk ρ (zvs P pol L):=by
 intro L h
 have key:∀ (M:List (Nat×Spec)),(∀ p∈M,p∈L)->∀ {f vs hs q},z2O M f vs hs=some q->∃ p∈L,p.1=f/\p.2 vs hs=some q:=by
  intro M
  induction M with
  |nil=>intro _ f vs hs q hq;cases hq
  | cons p M ih =>
    intro hM f vs hs q hq;rw[zo3]at hq;split at hq
    . rename_i e;exact⟨p,hM p (List.mem_cons_self ..),e.symm,hq⟩
    . exact ih (fun p hp=>hM p (List.mem_cons_of_mem _ hp)) hq
 refine⟨?_,?_,?_⟩
 . intro f vs hs v hs' hq;obtain⟨p,hp,rfl,h2⟩:=key L (fun _ h=>h) hq;exact(h p hp).ok h2
 . intro f vs hs q hq;obtain⟨p,hp,rfl,h2⟩:=key L (fun _ h=>h) hq;exact(h p hp).kept h2
 . intro f vs hs q hq;obtain⟨p,hp,rfl,h2⟩:=key L (fun _ h=>h) hq;exact(h p hp).fn
theorem valid_nil{ρ:Nat->Value}{P:Program}:∀ p∈([]:List (Nat×Spec)),Valid ρ P p.1 p.2:=fun p h=>by cases h
theorem zf{ρ:Nat->Value}{P:Program}{f:Nat}{s:Spec}{L:List (Nat×Spec)}(h:Valid ρ P f s)(hl:∀ p∈L,Valid ρ P p.1 p.2):∀ p∈(f,s)::L,Valid ρ P p.1 p.2:=by
 intro p hp;rcases List.mem_cons.1 hp with rfl|hp
 . exact h
 . exact hl p hp
theorem Valid.pure{ρ:Nat->Value}(hρ:Good ρ){P:Program}(hP:P.follows .mixedOrders=true)(hN:zcZ P){f:Nat}{s:List V->Option V}(hf:zdR P f)
 (h:∀ vs v,zt vs=true->s vs=some v->∃ E n,ConsOk ρ E/\E.P=P/\zrw E n f vs=some v):Valid ρ P f (zi0 s) where
 fn:=hf
 ok:=by
  intro vs hs v hs' hq;simp only[zi0,zk,za]at hq;obtain⟨hp,v',hv,hq⟩:=hq;cases hq;obtain⟨E,n,hc,rfl,hr⟩:=h vs v hp hv;exact zdJ hρ hc hP hN hr hp
 kept:=by
  intro vs hs q hq;simp only[zi0,zk,za]at hq;obtain⟨_,v',_,hq⟩:=hq;cases hq;exact .refl _
theorem zdH{hs:HS}{u v:V}(h:zaZ hs u=some v)(hs1:v.scal1=true):u=v:=by
 unfold zaZ at h;split at h
 . unfold zcG at h;simp only[za,zk]at h;obtain⟨_,_,_,_,_,h⟩:=h;cases h;cases hs1
 . simp only[zk]at h;exact Option.some.inj h.2
theorem zj7{hs:HS}:∀ {l m:List V},zcc hs l=some m->zv6 m=true->l=m:=by
 intro l
 induction l with
 |nil=>intro m h _;cases h;rfl
 | cons u l ih =>
   intro m h hm;replace h:(ob (zaZ hs u) fun v'=>ob (zcc hs l) fun l'=>some (v'::l'))=some m:=h;simp only[za]at h;obtain⟨v,hv,r,hr,h⟩:=h;cases h;replace hm:et v.scal1 (zv6 r)=true:=hm;rw[et_true]at hm;rw[zdH hv hm.1,ih hr hm.2]
theorem zjA{hs:HS}{u v:V}(h:za7 hs u=some v)(hs1:v.scal1=true):u=v:=by
 unfold za7 at h;split at h
 . simp only[za]at h;obtain⟨_,_,h⟩:=h;cases h;cases hs1
 . exact zdH h hs1
theorem zj8{hs:HS}:∀ {l m:List V},zak hs l=some m->zv6 m=true->l=m:=by
 intro l
 induction l with
 |nil=>intro m h _;cases h;rfl
 | cons u l ih =>
   intro m h hm;replace h:(ob (za7 hs u) fun v'=>ob (zak hs l) fun l'=>some (v'::l'))=some m:=h;simp only[za]at h;obtain⟨v,hv,r,hr,h⟩:=h;cases h;replace hm:et v.scal1 (zv6 r)=true:=hm;rw[et_true]at hm;rw[zjA hv hm.1,ih hr hm.2]
theorem zlo {hs:HS} {u v:V} (h:still hs u=some v) (hv:v.scal=true):u=v:=by
 unfold still at h;split at h
 . simp only[za]at h;obtain⟨l,hl,h⟩:=h;cases h;rw[zj8 hl hv]
 . unfold za7 at h;split at h
   . simp only[za]at h;obtain⟨l,hl,h⟩:=h;cases h;rw[zj7 hl hv]
   . refine zdH h ?_;rename_i _ hne1 _ hne2;cases v<;>first|exact hv|skip
     all_goals
      exfalso;unfold zaZ at h;split at h
      . unfold zcG at h;simp only[za,zk]at h;obtain⟨_,_,_,_,_,h⟩:=h;cases h
      . simp only[zk]at h;have e:=Option.some.inj h.2
        first|exact hne1 _ e|exact hne2 _ e
def zm0(s:List V->Option V):Spec:=fun vs hs=>ob (zak hs vs) fun vs'=>gd (zt vs') (ob (s vs') fun v=>gd v.scal (some (v,hs)))
theorem Valid.scal{ρ:Nat->Value}(hρ:Good ρ){P:Program}(hP:P.follows .mixedOrders=true)(hN:zcZ P){f:Nat}{s:List V->Option V}(hf:zdR P f)
 (h:∀ vs v,zt vs=true->s vs=some v->∃ E n,ConsOk ρ E/\E.P=P/\zrw E n f vs=some v):Valid ρ P f (zm0 s) where
 fn:=hf
 ok:=by
  intro vs hs v hs' hq;simp only[zm0,zk,za]at hq;obtain⟨vs',hst,hp,v',hv,hsc,hq⟩:=hq;cases hq;obtain⟨E,n,hc,rfl,hr⟩:=h vs' v hp hv;simp only[zrw,za]at hr;obtain⟨⟨v1,hs1⟩,h1,h2⟩:=hr;have e:v1=v:=zlo h2 hsc;subst e;refine zgq (ev:=evJ E n) hst (fun h=>(zhc hρ hc hP hN n).call h) ?_;simp only[zat,za,zk];exact⟨(v1,hs1),h1,hsc,rfl⟩
 kept:=by
  intro vs hs q hq;simp only[zm0,zk,za]at hq;obtain⟨_,_,_,_,_,_,hq⟩:=hq;cases hq;exact .refl _
def zB9(s:List V->Option V):Spec:=fun vs hs=>ob (zad vs hs) fun q=>gd (zt q.1) (ob (s q.1) fun v=>some (v,q.2))
section
variable {vs:List V}{hs:HS}{s:List V->Option V}{K:V×HS->Prop}
@[simp] theorem z5d:ok (zi0 s vs hs) K=(zt vs=true/\ok (s vs) fun v=>K (v,hs)):=by simp only[zi0,zbS,zS,zl]
@[simp] theorem z4u:ok (zm0 s vs hs) K=ok (zak hs vs) fun vs'=>zt vs'=true/\ok (s vs') fun v=>v.scal=true/\K (v,hs):=by simp only[zm0,zbS,zS,zl]
@[simp] theorem z9u:ok (zB9 s vs hs) K=ok (zad vs hs) fun q=>zt q.1=true/\ok (s q.1) fun v=>K (v,q.2):=by simp only[zB9,zbS,zS,zl]
@[simp] theorem zpL:zad [] hs=some ([],hs):=(rfl)
@[simp] theorem zoW {v:V} {l:List V}:zad (v::l) hs=ob (zaG v hs) fun r=>ob (zad l r.2) fun q=>some (r.1::q.1,q.2):=(rfl)
@[simp] theorem zxM:zt []=true:=(rfl)
@[simp] theorem zv7 {v:V} {l:List V}:zt (v::l)=(v.pure&&zt l):=by rw[<- zlN];rfl
@[simp] theorem z5c {l:List V}:(V.agg l).pure=zlg l:=(rfl)
@[simp] theorem z6V:zlg []=true:=(rfl)
@[simp] theorem z3x {v:V} {l:List V}:zlg (v::l)=(v.pure2&&zlg l):=by rw[<- zlN];rfl
@[simp] theorem z5b {k:IntKind} {n:Int}:(V.int k n).pure=true:=(rfl)
@[simp] theorem z0U {b:Bool}:(V.bool b).pure=true:=(rfl)
@[simp] theorem z5a {b:List Nat}:(V.str b).pure=true:=(rfl)
@[simp] theorem z8h {es:List (List V)} {t:Bool}:(V.sl es t).pure=true:=(rfl)
@[simp] theorem z0T:V.snil.pure=true:=(rfl)
@[simp] theorem z0W {k:IntKind} {n:Int}:(V.int k n).pure2=true:=(rfl)
@[simp] theorem zy4 {b:Bool}:(V.bool b).pure2=true:=(rfl)
@[simp] theorem z0V {b:List Nat}:(V.str b).pure2=true:=(rfl)
@[simp] theorem z5e {es:List (List V)} {t:Bool}:(V.sl es t).pure2=true:=(rfl)
@[simp] theorem zy3:V.snil.pure2=true:=(rfl)
@[simp] theorem zr2:V.nilmap.pure2=true:=(rfl)
@[simp] theorem zpQ:V.nilFunc.pure2=true:=(rfl)
end
end Go.J
