import Derived.Test.YtpcmebclpindjaaGreatJF
set_option linter.all false
noncomputable section
/- Rules of rewriting for symbolic runs. -/
namespace Go.J
section
variable {E:Env}{id:Nat}{T:PT V}{hs:HS}{K:V->HS->Prop}{sz:Nat}
@[simp ↓] theorem zHp {R:PT V->HS->Prop}:Rs E sz [] id T hs R=R T hs:=(rfl)
@[simp ↓] theorem zDH {d:Option Tmp} {op:Op} {g:Option (Tmp×Bool)} {l:List SOp} {R:PT V->HS->Prop}:Rs E sz (⟨d,op,g⟩::l) id T hs R=wpS E id T hs ⟨d,op,g⟩ fun v hs'=>put sz T d v fun T1=>Rs E sz l (id+1) T1 hs' R:=(rfl)
@[simp ↓] theorem zHz {d:Option Tmp} {op:Op}:wpS E id T hs ⟨d,op,none⟩ K=wpO E id T hs op K:=(rfl)
@[simp ↓] theorem zH0 {d:Option Tmp} {op:Op} {t:Tmp} {w:Bool}:wpS E id T hs ⟨d,op,some (t,w)⟩ K=ok (T.get t) fun v=>ok (v.guard? w) fun q=>br (q=w) (wpO E id T hs op K) (K undefV hs):=by
  simp only[z0F];rfl
@[simp ↓] theorem z8L {d:Tmp} {v:V} {R:PT V->Prop}:put sz T (some d) v R=(d<sz/\R (T.set d v)):=(rfl)
@[simp ↓] theorem z8M {v:V} {R:PT V->Prop}:put sz T none v R=R T:=(rfl)
theorem zfF{p:Prop}:((0:Nat)≠0->p)=True:=propext ⟨fun _=>trivial,fun _ h=>absurd rfl h⟩
theorem and_one{p:Prop}:((1:Nat)≠0->p)=p:=propext ⟨fun h=>h (by decide),fun h _=>h⟩
theorem zlo{p:Prop}:((2:Nat)≠0->p)=p:=propext ⟨fun h=>h (by decide),fun h _=>h⟩
theorem ziB{op:Op}(hc:zu op=0)(hd:wpO E id T hs op K=((zu op≠0->hs.H.get id=none)/\ok (opJ E.P false T hs id (opR op)) fun r=>K r.1 r.2)):wpO E id T hs op K=ok (opJ E.P false T hs id (opR op)) fun r=>K r.1 r.2:=by
 rw[hd,hc,zfF,true_and]
@[simp ↓] theorem wp_move {x:Operand}:wpO E id T hs (.move x) K=ok (zi T x) fun v=>K v hs:=by
  rw[ziB rfl rfl];show ok (ob (zi T x) fun v=>some (v,hs)) _=_;simp only[zZ,zm]
@[simp ↓] theorem wp_assign {x:Operand}:wpO E id T hs (.assign x) K=ok (zi T x) fun v=>K v hs:=by
  rw[ziB rfl rfl];show ok (ob (zi T x) fun v=>some (v,hs)) _=_;simp only[zZ,zm]
@[simp ↓] theorem zAK {c a b:Operand}:wpO E id T hs (.pick c a b) K=ok (zi T c) fun v=>ok v.bool? fun q=>ok (bi q (zi T a) (zi T b)) fun v=>K v hs:=by
  rw[ziB rfl rfl];show ok (zii T hs c a b) _=_;simp only[zii,zZ,zm]
@[simp ↓] theorem zAL {t:TypeId} {a:Operand}:wpO E id T hs (.load t a) K=ok (ti E.P t) fun i=>ok (zi T a) fun p=>ok (zf5 i hs p) fun v=>K v hs:=by
  rw[ziB rfl rfl];show ok (zcV E.P T hs t a) _=_;simp only[zcV,zZ,zm]
@[simp ↓] theorem z7N {b:BinOp} {t u:TypeId} {x y:Operand}:wpO E id T hs (.binOp b t x y u) K=ok (zi T x) fun p=>ok (zi T y) fun q=>ok (zyx E.P b t p q) fun v=>K v hs:=by
  rw[ziB rfl rfl];show ok (zeM E.P T hs b t x y) _=_;simp only[zeM,zZ,zm]
@[simp ↓] theorem zAJ {b:UnOp} {t:TypeId} {x:Operand}:wpO E id T hs (.unOp b t x) K=ok (zhX T hs b x) fun r=>K r.1 r.2:=by
  rw[ziB rfl rfl];rfl
@[simp ↓] theorem ztG {t:TypeId} {x:Operand} {f:Nat}:wpO E id T hs (.fieldAddr t x f) K=ok (ti E.P t) fun i=>ok (zh i f) fun fd=>ok (ti E.P fd.type) fun fi=>nt (Nat.beq fi.size 0)=true/\ok (zi T x) fun v=>ok (zaC fd.offset v) fun r=>K r hs:=by
  rw[ziB rfl rfl];show ok (zbb E.P T hs t x f) _=_;simp only[zbb,zZ,zcd,zm]
@[simp ↓] theorem z7M {t:TypeId} {x:Operand} {f:Nat}:wpO E id T hs (.field t x f) K=ok (ti E.P t) fun i=>ok (zh i f) fun fd=>ok (ti E.P fd.type) fun fi=>ok (zi T x) fun v=>ok v.agg? fun cs=>ok (zeZ fi cs fd.offset) fun v=>K v hs:=by
  rw[ziB rfl rfl];show ok (zeC E.P T hs t x f) _=_;simp only[zeC,zZ,zm]
@[simp ↓] theorem ztF {t:TypeId} {x ix:Operand}:wpO E id T hs (.indexAddr t x ix) K=ok (ti E.P t) fun i=>ok (elemOf i.desc) fun el=>ok (ti E.P el.1) fun e=>ok (zi T x) fun v=>ok (zi T ix) fun n=>ok n.nat? fun n=>ok (z2l el.2 e n v) fun r=>K r hs:=by
  rw[ziB rfl rfl];show ok (zba E.P T hs t x ix) _=_;simp only[zba,zZ,zm]
@[simp ↓] theorem z7L {t:TypeId} {x ix:Operand}:wpO E id T hs (.index t x ix) K=ok (ti E.P t) fun i=>isStr i.desc=true/\ok (zi T x) fun v=>ok v.str? fun s=>ok (zi T ix) fun n=>ok n.nat? fun n=>ok (zeh s n) fun b=>K (.int .u8 (Int.ofNat b)) hs:=by
  rw[ziB rfl rfl];show ok (zeA E.P T hs t x ix) _=_;simp only[zeA,zZ,zcd,zm]
@[simp ↓] theorem z1d {x:Operand} {k:Nat}:wpO E id T hs (.extract x k) K=ok (zi T x) fun v=>ok v.tuple? fun vs=>ok (zeh vs k) fun v=>K v hs:=by
  rw[ziB rfl rfl];show ok (zce T hs x k) _=_;simp only[zce,zZ,zm]
@[simp ↓] theorem zy8 {x:Operand}:wpO E id T hs (.nilCheck x) K=ok (zi T x) fun v=>notNil v=true/\K v hs:=by
  rw[ziB rfl rfl];show ok (zb2 T hs x) _=_;simp only[zb2,zZ,zcd,zm]
@[simp ↓] theorem wp_build {t:TypeId} {ps:Array (Nat×Operand)}:wpO E id T hs (.build t ps) K=ok (ti E.P t) fun i=>ok (bi (zar i.desc) (gd (zaO E.P (fieldsOf i.desc)) (zdh E.P T i ps.toList i.zero)) (ob (znc i.desc) fun el=>ob (ti E.P el) fun e=>zbV T e.size ps.toList i.zero)) fun cs=>K (.agg cs) hs:=by
  rw[ziB rfl rfl];show ok (zcg E.P T hs t ps) _=_;unfold zcg;simp only[zZ (ti E.P t)];congr 1;funext i;rw[zZ];congr 1;funext cs;rw[zm]
@[simp ↓] theorem z7K {t:TypeId} {x:Operand} {lo hi mx:Option Operand}:wpO E id T hs (.slice t x lo hi mx) K=ok (ti E.P t) fun i=>ok (zi T x) fun v=>ok (ziQ E.P T hs i v lo hi mx) fun r=>K r hs:=by
  rw[ziB rfl rfl];show ok (zcb E.P T hs t x lo hi mx) _=_;simp only[zcb,zZ,zm]
@[simp ↓] theorem z3u {t:TypeId} {m k:Operand} {b:Bool}:wpO E id T hs (.lookup t m k b) K=ok (zc9 E.P T hs t m k b) fun r=>K r.1 r.2:=by
  rw[ziB rfl rfl];rfl
@[simp ↓] theorem z1e {s d:TypeId} {x:Operand}:wpO E id T hs (.convert s d x) K=ok (ti E.P s) fun _=>ok (ti E.P d) fun j=>ok (zi T x) fun v=>ok (zkZ j.desc v) fun r=>K r hs:=by
  rw[ziB rfl rfl];show ok (zi3 E.P T hs s d x) _=_;simp only[zi3,zZ,zm]
@[simp ↓] theorem zy9 {f:FuncId} {cs:Array Operand}:wpO E id T hs (.makeFunc (.func f) #[] cs) K=ok (zay T cs.toList) fun l=>K (.func f l) hs:=by
  rw[ziB rfl rfl];show ok (zcL T hs (.func f) #[] cs) _=_;show ok (gd true (ob (zay T cs.toList) fun l=>some (V.func f l,hs))) _=_;simp only[zb3,zZ,zm]
@[simp ↓] theorem ztE {t:TypeId} {x:Operand}:wpO E id T hs (.makeInterface t x) K=ok (ti E.P t) fun i=>nt (isIface i.desc)=true/\ok (zi T x) fun v=>K (.iface t v) hs:=by
  rw[ziB rfl rfl];show ok (zbF E.P T hs t x) _=_;simp only[zbF,zZ,zcd,zm]
theorem z3w{op:Op}(hc:zu op=1)(hd:wpO E id T hs op K=((zu op≠0->hs.H.get id=none)/\ok (opJ E.P false T hs id (opR op)) fun r=>K r.1 r.2)):wpO E id T hs op K=(hs.H.get id=none/\ok (opJ E.P false T hs id (opR op)) fun r=>K r.1 r.2):=by
 rw[hd,hc,and_one]
theorem zDV{op:Op}(hc:zu op=2)(hd:wpO E id T hs op K=((zu op≠0->hs.H.get id=none)/\ok (opJ E.P false T hs id (opR op)) fun r=>K r.1 r.2)):wpO E id T hs op K=(hs.H.get id=none/\ok (opJ E.P false T hs id (opR op)) fun r=>K r.1 r.2):=by
 rw[hd,hc,zlo]
@[simp ↓] theorem z7O {t:TypeId}:wpO E id T hs (.alloc t) K=(hs.H.get id=none/\ok (ti E.P t) fun i=>Nat.beq (zG i.zero) i.size=true/\K (.ptr id 0 0) (hs.put id (.arr i.size 0 [i.zero] true false false))):=by
  rw[z3w rfl rfl];show (_/\ok (zdi E.P hs id t) _)=_;simp only[zdi,zZ,zcd,zm]
@[simp ↓] theorem zDU {t:TypeId} {x:Operand}:wpO E id T hs (.box t x) K=(hs.H.get id=none/\ok (zi T x) fun v=>K (.ptr id 0 0) (hs.put id (.arr (zG v.cells) 0 [v.cells] true false false))):=by
  rw[z3w rfl rfl];show (_/\ok (znj T hs id x) _)=_;simp only[znj,zZ,zm]
@[simp ↓] theorem wp_buildSlice {t:TypeId} {n:Nat} {ps:Array (Nat×Operand)}:wpO E id T hs (.buildSlice t n ps) K=(hs.H.get id=none/\ok (zY E.P false T hs id t n ps) fun r=>K r.1 r.2):=by
  rw[z3w rfl rfl];rfl
@[simp ↓] theorem ztD {t:TypeId} {l c:Operand}:wpO E id T hs (.makeSlice t l c) K=(hs.H.get id=none/\ok (zao E.P T hs id t l c) fun r=>K r.1 r.2):=by
  rw[z3w rfl rfl];rfl
@[simp ↓] theorem z1c {t:TypeId}:wpO E id T hs (.makeMap t none) K=(hs.H.get id=none/\K (.map id) (hs.put id (.mp []))):=by
  rw[z3w rfl rfl];show (_/\ok (gd true (some (V.map id,hs.put id (.mp [])))) _)=_;simp only[zb3,zm]
@[simp ↓] theorem z7J {t:TypeId} {a x:Operand}:wpO E id T hs (.store t a x) K=(hs.H.get id=none/\ok (ti E.P t) fun i=>ok (zi T a) fun p=>ok (zi T x) fun v=>ok (zdV i hs p v) fun hs'=>K undefV hs'):=by
  rw[zDV rfl rfl];show (_/\ok (za2 E.P T hs t a x) _)=_;simp only[za2,zZ,zm]
@[simp ↓] theorem ztC {t:TypeId} {m k x:Operand}:wpO E id T hs (.mapUpdate t m k x) K=(hs.H.get id=none/\ok (zaZ E.P T hs t m k x) fun r=>K r.1 r.2):=by
  rw[zDV rfl rfl];rfl
@[simp ↓] theorem zAN {x:Operand} {xs:Array Operand} {ts:Array TypeId}:wpO E id T hs (.call ⟨.value x,xs,ts⟩) K=(hs.H.get id=none/\ok (zi T x) fun v=>ok (funcOf v) fun p=>ok (zay T xs.toList) fun vs=>ok (E.con p.1 (zbh vs p.2) hs) fun r=>K r.1 r.2):=(rfl)
@[simp ↓] theorem zDT {xs:Array Operand} {ts:Array TypeId}:wpO E id T hs (.call ⟨.builtin .len,xs,ts⟩) K=ok (zay T xs.toList) fun vs=>ok (zfr E.P hs ts.toList vs) fun r=>K r.1 r.2:=by
  show ((zu (.call ⟨.builtin .len,xs,ts⟩)≠0->_)/\_)=_;rw[show zu (.call ⟨.builtin .len,xs,ts⟩)=0 from rfl,zfF,true_and];rfl
@[simp ↓] theorem zDR {xs:Array Operand} {ts:Array TypeId}:wpO E id T hs (.call ⟨.builtin .min,xs,ts⟩) K=ok (zay T xs.toList) fun vs=>ok (zbD hs true vs) fun r=>K r.1 r.2:=by
  show ((zu (.call ⟨.builtin .min,xs,ts⟩)≠0->_)/\_)=_;rw[show zu (.call ⟨.builtin .min,xs,ts⟩)=0 from rfl,zfF,true_and];rfl
@[simp ↓] theorem zDS {xs:Array Operand} {ts:Array TypeId}:wpO E id T hs (.call ⟨.builtin .max,xs,ts⟩) K=ok (zay T xs.toList) fun vs=>ok (zbD hs false vs) fun r=>K r.1 r.2:=by
  show ((zu (.call ⟨.builtin .max,xs,ts⟩)≠0->_)/\_)=_;rw[show zu (.call ⟨.builtin .max,xs,ts⟩)=0 from rfl,zfF,true_and];rfl
@[simp ↓] theorem z3v {xs:Array Operand} {ts:Array TypeId}:wpO E id T hs (.call ⟨.builtin .append,xs,ts⟩) K=(hs.H.get id=none/\ok (zay T xs.toList) fun vs=>ok (zcz E.P hs id ts.toList vs) fun r=>K r.1 r.2):=by
  show ((zu (.call ⟨.builtin .append,xs,ts⟩)≠0->_)/\_)=_;rw[show zu (.call ⟨.builtin .append,xs,ts⟩)=2 from rfl,zlo];rfl
@[simp ↓] theorem zAM {xs:Array Operand} {ts:Array TypeId}:wpO E id T hs (.call ⟨.builtin .copy,xs,ts⟩) K=(hs.H.get id=none/\ok (zay T xs.toList) fun vs=>ok (zem E.P hs ts.toList vs) fun r=>K r.1 r.2):=by
  show ((zu (.call ⟨.builtin .copy,xs,ts⟩)≠0->_)/\_)=_;rw[show zu (.call ⟨.builtin .copy,xs,ts⟩)=2 from rfl,zlo];rfl
attribute [simp ↓] zrj zma
@[congr] theorem zAy {c c' A B:Prop} (h:c=c'):br c A B=br c' A B:=by rw[h]
@[congr] theorem z9g {α:Type} {x y:Option α} {K:α->Prop} (h:x=y):ok x K=ok y K:=by rw[h]
@[congr] theorem zAH {rd:Bool} {s:SC} {T T':PT V} {hs hs':HS} {Q:Ex->PT V->HS->Prop} (h1:T=T') (h2:hs=hs'):Js E rd sz s T hs Q=Js E rd sz s T' hs' Q:=by rw[h1,h2]
@[congr] theorem zy3 {P:Program} {fn:Func} {K:V->HS->Prop} {ex ex':Ex} {T T':PT V} {hs hs':HS} (h0:ex=ex') (h1:T=T') (h2:hs=hs'):Leaves P fn K ex T hs=Leaves P fn K ex' T' hs':=by rw[h0,h1,h2]
@[congr] theorem z9i {α β:Type} {x y:Option α} {f:α->Option β} (h:x=y):ob x f=ob y f:=by rw[h]
@[congr] theorem z9K {β:Type} {c d:Bool} {x:Option β} (h:c=d):gd c x=gd d x:=by rw[h]
@[congr] theorem z4R {α β:Type} {z:β} {f:α->β} {x y:Option α} (h:x=y):orc z f x=orc z f y:=by rw[h]
@[congr] theorem zA4 {α:Type} {c d:Bool} {x y:α} (h:c=d):bi c x y=bi d x y:=by rw[h]
@[simp] theorem zHg {α:Type} {p:Prop} [Decidable p] {x y:α}:bi (decide p) x y=if p then x else y:=by rw[zaf];simp
@[simp ↓] theorem z4S {α:Type} (a:α) (K:α->Prop):ok (some a) K=K a:=zm a K
@[simp ↓] theorem zBM {α β:Type} (x:Option α) (f:α->Option β) (K:β->Prop):ok (ob x f) K=ok x fun a=>ok (f a) K:=zZ x f K
@[simp ↓] theorem zBN {α:Type} (c:Bool) (x:Option α) (K:α->Prop):ok (gd c x) K=(c=true/\ok x K):=zcd c x K
@[simp ↓] theorem z5c {α β:Type} (a:α) (f:α->Option β):ob (some a) f=f a:=(rfl)
@[simp ↓] theorem z5F {β:Type} (x:Option β):gd true x=x:=(rfl)
@[simp ↓] theorem z1E {α β:Type} (z:β) (f:α->β) (a:α):orc z f (some a)=f a:=(rfl)
@[simp ↓] theorem z7a {α:Type} (x y:α):bi true x y=x:=(rfl)
@[simp ↓] theorem z3h {α:Type} (x y:α):bi false x y=y:=(rfl)
@[simp] theorem z6b {t:Tmp}:zi T (.tmp t)=T.get t:=(rfl)
@[simp] theorem z0j {v:Value}:zi T (.const v)=zcr v:=(rfl)
@[simp] theorem z2u {f:FuncId}:zi T (.func f)=some (.func f []):=(rfl)
@[simp] theorem zuh {b:Bool}:zcr (.bool b)=some (.bool b):=(rfl)
@[simp] theorem zzn {k:IntKind} {n:Int}:zcr (.int k n)=some (.int k n):=(rfl)
@[simp] theorem zzm {s:ByteArray}:zcr (.string s)=some (.str (bytesOf s)):=(rfl)
@[simp] theorem zr6:zcr (.pointer none)=some .nilptr:=(rfl)
@[simp] theorem zug:zcr (.slice none 0 0)=some .snil:=(rfl)
@[simp] theorem zr7:zcr (.map none)=some .nilmap:=(rfl)
@[simp] theorem znV:zcr .nilFunc=some .nilFunc:=(rfl)
@[simp] theorem zzX {b w:Bool}:(V.bool b).guard? w=some b:=(rfl)
@[simp] theorem zuy {w:Bool}:(V.tuple []).guard? w=some (!w):=(rfl)
@[simp] theorem zux {w:Bool}:undefV.guard? w=some (!w):=(rfl)
@[simp] theorem z3e {b:Bool}:(V.bool b).bool?=some b:=(rfl)
@[simp] theorem z96 {k:IntKind} {n:Int}:(V.int k n).int?=some (k,n):=(rfl)
@[simp] theorem z5n {k:IntKind} {n:Nat}:(V.int k (n:Int)).nat?=some n:=(rfl)
@[simp] theorem z1Q {k:IntKind} {n:Nat}:(V.int k (Int.ofNat n)).nat?=some n:=(rfl)
@[simp] theorem z5m {k:IntKind}:(V.int k 0).nat?=some 0:=(rfl)
@[simp] theorem z9s {k:IntKind}:(V.int k 1).nat?=some 1:=(rfl)
@[simp] theorem z9t {k:IntKind} {n:Nat}:(V.int k (@OfNat.ofNat Int n instOfNat)).nat?=some n:=(rfl)
@[simp] theorem z8f {s:List Nat}:(V.str s).str?=some s:=(rfl)
@[simp] theorem zA9 {s:List V}:(V.agg s).agg?=some s:=(rfl)
@[simp] theorem ztM {s:List V}:(V.tuple s).tuple?=some s:=(rfl)
@[simp] theorem z6K {s:List V}:(V.agg s).cells=s:=(rfl)
@[simp] theorem z6J {k:IntKind} {n:Int}:(V.int k n).cells=[.int k n]:=(rfl)
@[simp] theorem z2R {b:Bool}:(V.bool b).cells=[.bool b]:=(rfl)
@[simp] theorem z6F {b:List Nat}:(V.str b).cells=[.str b]:=(rfl)
@[simp] theorem z2Q:V.snil.cells=[.snil]:=(rfl)
@[simp] theorem zAq {es:List (List V)} {t:Bool}:(V.sl es t).cells=[.sl es t]:=(rfl)
@[simp] theorem z6H {a b c d:Nat} {t:Option Nat}:(V.own a b c d t).cells=[.own a b c d t]:=(rfl)
@[simp] theorem z6I {a:Nat}:(V.map a).cells=[.map a]:=(rfl)
@[simp] theorem zyq:(V.nilmap).cells=[.nilmap]:=(rfl)
@[simp] theorem z6G {a b c:Nat}:(V.ptr a b c).cells=[.ptr a b c]:=(rfl)
@[simp] theorem cells_func {f:Nat} {c:List V}:(V.func f c).cells=[.func f c]:=(rfl)
@[simp] theorem ztn:(V.nilFunc).cells=[.nilFunc]:=(rfl)
@[simp] theorem zzZ {f:FuncId} {c:List V}:funcOf (.func f c)=some (f,c):=(rfl)
@[simp] theorem zA8:zrK []=true:=(rfl)
@[simp] theorem z7p {v:V} {l:List V}:zrK (v::l)=et v.isCell (zrK l):=(rfl)
@[simp] theorem z2a {k:IntKind} {n:Int}:(V.int k n).isCell=true:=(rfl)
@[simp] theorem zzP {b:Bool}:(V.bool b).isCell=true:=(rfl)
@[simp] theorem z1W {b:List Nat}:(V.str b).isCell=true:=(rfl)
@[simp] theorem zzN:V.snil.isCell=true:=(rfl)
@[simp] theorem z5u {es:List (List V)} {t:Bool}:(V.sl es t).isCell=true:=(rfl)
@[simp] theorem z1Y {a b c d:Nat} {t:Option Nat}:(V.own a b c d t).isCell=true:=(rfl)
@[simp] theorem z1Z {a:Nat}:(V.map a).isCell=true:=(rfl)
@[simp] theorem zsU:(V.nilmap).isCell=true:=(rfl)
@[simp] theorem z1X {a b c:Nat}:(V.ptr a b c).isCell=true:=(rfl)
@[simp] theorem zzO {f:Nat} {c:List V}:(V.func f c).isCell=true:=(rfl)
@[simp] theorem zrA:(V.nilFunc).isCell=true:=(rfl)
@[simp] theorem z5s {i:TI} {a g off:Nat}:zf5 i hs (.ptr a g off)=ob (zaA hs a g) fun r=>zit i r off:=(rfl)
@[simp] theorem z5r {i:TI} {cs:List V}:zf5 i hs (.ref cs)=zeZ i cs 0:=(rfl)
@[simp] theorem ztd {n a g off:Nat}:zaC n (.ptr a g off)=some (.ptr a g (off+n)):=(rfl)
@[simp] theorem ztc {n:Nat} {cs:List V}:zaC n (.ref cs)=some (.ref (zhn n cs)):=(rfl)
@[simp] theorem zut {e:TI} {n:Nat} {es:List (List V)} {t:Bool}:zcl e n (.sl es t)=gd (sizes e.size es) (ob (zeh es n) fun c=>some (.ref c)):=(rfl)
@[simp] theorem zsX {e:TI} {n a g off len:Nat} {c:Option Nat}:zcl e n (.own a g off len c)=gd (Nat.blt n len) (some (.ptr a g (off+n*e.size))):=(rfl)
@[simp] theorem z1m {i:TI} {a g off:Nat} {v:V}:zdV i hs (.ptr a g off) v=bi (isRow hs a) (ob (zaT v hs) fun r=>zaY i a g off r.1 r.2) (zaY i a g off v hs):=(rfl)
@[simp] theorem zA6 {s g:Nat} {es:List (List V)} {a b c:Bool}:(Obj.arr s g es a b c).arr?=some (s,g,es,a,b,c):=(rfl)
@[simp] theorem zE8 {es:List (V×V)}:(Obj.mp es).mp?=some es:=(rfl)
@[simp] theorem zHW {o:Obj} {k:Nat}:(hs.put k o).n=hs.n:=(rfl)
@[simp] theorem wr_n {o:Obj} {k:Nat}:(hs.wr k o).n=hs.n:=(rfl)
@[simp] theorem zD3 {n:Nat} {e:TypeId}:znc (.array n e)=some e:=(rfl)
@[simp] theorem zsS {n:Nat} {e:TypeId}:zar (.array n e)=false:=(rfl)
@[simp] theorem z2e {n:Nat} {e:TypeId}:zbf (.array n e)=true:=(rfl)
@[simp] theorem z6p {e:TypeId}:elemOf (.slice e)=some (e,none):=(rfl)
@[simp] theorem z2F {n:Nat} {e:TypeId}:elemOf (.array n e)=some (e,some n):=(rfl)
@[simp] theorem z5B {e:TI} {n:Nat} {v:V}:z2l none e n v=zcl e n v:=(rfl)
@[simp] theorem z5A {k:Nat} {e:TI} {n:Nat} {v:V}:z2l (some k) e n v=gd (Nat.blt n k) (zaC (n*e.size) v):=(rfl)
@[simp] theorem z1s {e:TypeId}:zbv (.slice e)=some e:=(rfl)
@[simp] theorem z9z {k e:TypeId}:mapOf (.map k e)=some (k,e):=(rfl)
@[simp] theorem zA3 {P:Program} {b:BinOp} {t:TypeId} {k k':IntKind} {m n:Int}:zyx P b t (.int k m) (.int k' n)=bi (zaL b) (ziR b k m n) (gd (zgo k k') (arith b k m n)):=(rfl)
@[simp] theorem zz5 {k:IntKind}:zgo k k=true:=by cases k<;>rfl
@[simp] theorem zA2 {P:Program} {b:BinOp} {t:TypeId} {m n:List Nat}:zyx P b t (.str m) (.str n)=ziK b m n:=(rfl)
@[simp] theorem z6Y {P:Program} {b:BinOp} {t:TypeId} {m n:Bool}:zyx P b t (.bool m) (.bool n)=zgg P b t (.bool m) (.bool n):=(rfl)
end
@[simp] theorem z5b {α β:Type} (a:α) (f:α->Option β):ob (some a) f=f a:=(rfl)
@[simp] theorem z5d {α β:Type} (f:α->Option β):ob none f=none:=(rfl)
@[simp] theorem z5E {β:Type} (x:Option β):gd true x=x:=(rfl)
@[simp] theorem z2p {β:Type} (x:Option β):gd false x=none:=(rfl)
@[simp] theorem z6Z {α:Type} (x y:α):bi true x y=x:=(rfl)
@[simp] theorem z3g {α:Type} (x y:α):bi false x y=y:=(rfl)
@[simp] theorem z1D {α β:Type} (z:β) (f:α->β) (a:α):orc z f (some a)=f a:=(rfl)
@[simp] theorem z1F {α β:Type} (z:β) (f:α->β):orc z f none=z:=(rfl)
@[simp] theorem z2o {α:Type} (n:Nat):(PT.leaf:PT α).get n=none:=(rfl)
@[simp] theorem zkS {T:PT V}:zay T []=some []:=(rfl)
@[simp] theorem zjH {T:PT V} (o:Operand) (l:List Operand):zay T (o::l)=ob (zi T o) fun v=>ob (zay T l) fun r=>some (v::r):=(rfl)
attribute [simp] zm zZ zcd PT.set_get zaz zdR zz zbC zca zcf zat zk5 zk8 zdD
@[simp] theorem zrn {a b:Nat}:Nat.beq a b=decide (a=b):=by rw[Bool.eq_iff_iff];simp
@[simp] theorem zDz {a b:Nat}:Nat.ble a b=decide (a<=b):=by rw[Bool.eq_iff_iff];simp
@[simp] theorem zDx {a b:Nat}:Nat.blt a b=decide (a<b):=by rw[Bool.eq_iff_iff,J.blt_true];simp
@[simp ↓] theorem zyK {K:PT V->HS->Prop} {Q:Ex->PT V->HS->Prop} {T:PT V} {hs:HS}:Ex.then K Q .normal T hs=K T hs:=(rfl)
@[simp ↓] theorem z8c {K:PT V->HS->Prop} {Q:Ex->PT V->HS->Prop} {T:PT V} {hs:HS}:Ex.then K Q .ret T hs=Q .ret T hs:=(rfl)
@[simp ↓] theorem z3P {i:Nat} {K:PT V->HS->Prop} {Q:Ex->PT V->HS->Prop} {T:PT V} {hs:HS}:Ex.then K Q (.exit i) T hs=Q (.exit i) T hs:=(rfl)
@[simp ↓] theorem z3f {id:Nat} {Q:Ex->PT V->HS->Prop} {T:PT V} {hs:HS}:Ex.inBlock id Q .normal T hs=Q .normal T hs:=(rfl)
@[simp ↓] theorem zDy {id:Nat} {Q:Ex->PT V->HS->Prop} {T:PT V} {hs:HS}:Ex.inBlock id Q .ret T hs=Q .ret T hs:=(rfl)
@[simp ↓] theorem zA1 {id i:Nat} {Q:Ex->PT V->HS->Prop} {T:PT V} {hs:HS}:Ex.inBlock id Q (.exit i) T hs=if i=id then Q .normal T hs else Q (.exit i) T hs:=(rfl)
@[simp] theorem z8q {P:Program} {T:PT V} {hs:HS}:zni P T hs []=some []:=(rfl)
@[simp] theorem z8p {P:Program} {T:PT V} {hs:HS} {t:Tmp} {l:List ResultVar}:zni P T hs (.tmp t::l)=ob (T.get t) fun v=>ob (zni P T hs l) fun r=>some (v::r):=(rfl)
@[simp] theorem z4s {P:Program} {T:PT V} {hs:HS} {a:Tmp} {t:TypeId} {l:List ResultVar}:zni P T hs (.cell a t::l)=ob (ob (ti P t) fun i=>ob (T.get a) fun p=>zf5 i hs p) fun v=>ob (zni P T hs l) fun r=>some (v::r):=(rfl)
@[simp] theorem z1k {v:V}:zdT [v]=v:=(rfl)
@[simp] theorem z1j {v u:V} {l:List V}:zdT (v::u::l)=.tuple (v::u::l):=(rfl)
attribute [simp] zhU zeQ
attribute [simp] zmK zim zgl zol zep
@[simp] theorem zDc {a b:Int}:eqI a b=decide (a=b):=by rw[Bool.eq_iff_iff,eqI_true];simp
@[simp] theorem zzM:zaL .add=false:=(rfl)
@[simp] theorem zzA:zaL .sub=false:=(rfl)
@[simp] theorem zzF:zaL .mul=false:=(rfl)
@[simp] theorem zzD:zaL .quo=false:=(rfl)
@[simp] theorem zzC:zaL .rem=false:=(rfl)
@[simp] theorem zzK:zaL .eql=false:=(rfl)
@[simp] theorem zzE:zaL .neq=false:=(rfl)
@[simp] theorem zzG:zaL .lss=false:=(rfl)
@[simp] theorem zzH:zaL .leq=false:=(rfl)
@[simp] theorem zzI:zaL .gtr=false:=(rfl)
@[simp] theorem zzJ:zaL .geq=false:=(rfl)
@[simp] theorem zzL:zaL .and=false:=(rfl)
@[simp] theorem z1V:zaL .or=false:=(rfl)
@[simp] theorem zz9:zaL .xor=false:=(rfl)
section
variable {k:IntKind}{a b:Int}{hs:HS}{P:Program}{T:PT V}
@[simp] theorem z7m:arith .add k a b=some (.int k (zeq k (a+b))):=(rfl)
@[simp] theorem z7b:arith .sub k a b=some (.int k (zeq k (a-b))):=(rfl)
@[simp] theorem z7f:arith .mul k a b=some (.int k (zeq k (a*b))):=(rfl)
@[simp] theorem z7d:arith .quo k a b=gd (nt (eqI b 0)) (some (.int k (zeq k (a.tdiv b)))):=(rfl)
@[simp] theorem z7c:arith .rem k a b=gd (nt (eqI b 0)) (some (.int k (a.tmod b))):=(rfl)
@[simp] theorem z7k:arith .eql k a b=some (.bool (eqI a b)):=(rfl)
@[simp] theorem z7e:arith .neq k a b=some (.bool (nt (eqI a b))):=(rfl)
@[simp] theorem z7g:arith .lss k a b=some (.bool (ltI a b)):=(rfl)
@[simp] theorem z7h:arith .leq k a b=some (.bool (leI a b)):=(rfl)
@[simp] theorem z7i:arith .gtr k a b=some (.bool (ltI b a)):=(rfl)
@[simp] theorem zzB:zaL .shr=true:=(rfl)
@[simp] theorem z1u:ziR .shr k a b=ob (zzy b) fun m=>some (.int k (a.fdiv (2 ^ min m k.bits))):=(rfl)
@[simp] theorem z7l:arith .and k a b=some (.int k (zt3 k a b)):=(rfl)
@[simp] theorem z7j:arith .geq k a b=some (.bool (leI b a)):=(rfl)
@[simp] theorem z4a {x y:List Nat}:ziK .eql x y=some (.bool (zlW x y)):=(rfl)
@[simp] theorem z3X {x y:List Nat}:ziK .neq x y=some (.bool (nt (zlW x y))):=(rfl)
@[simp] theorem z3Y {x y:List Nat}:ziK .lss x y=some (.bool (zsN x y)):=(rfl)
@[simp] theorem z3Z {x y:List Nat}:ziK .gtr x y=some (.bool (bi (zsN x y) false (nt (zlW x y)))):=(rfl)
@[simp] theorem zzk {t:TypeId} {x y:V}:zgg P .eql t x y=ob (eqV P t x y) fun b=>some (.bool b):=(rfl)
@[simp] theorem zzj {t:TypeId} {x y:V}:zgg P .neq t x y=ob (eqV P t x y) fun b=>some (.bool (nt b)):=(rfl)
@[simp] theorem z9U {x y:V}:eqD .bool x y=ob x.bool? fun a=>ob y.bool? fun b=>some (zcP a b):=(rfl)
@[simp] theorem z6f {e:TypeId} {x y:V}:eqD (.slice e) x y=zgz (zsI x) (zsI y):=(rfl)
@[simp] theorem zDd {e f:TypeId} {x y:V}:eqD (.map e f) x y=zgz (zuk x) (zuk y):=(rfl)
@[simp] theorem z0k {e:TypeId} {x y:V}:eqD (.pointer e) x y=zgz (zsJ x) (zsJ y):=(rfl)
@[simp] theorem z9T {a b:Array TypeId} {c:Bool} {x y:V}:eqD (.func a b c) x y=zgz (zul x) (zul y):=(rfl)
@[simp] theorem z5h:zsI .snil=some true:=(rfl)
@[simp] theorem z9j {a b c d:Nat} {e:Option Nat}:zsI (.own a b c d e)=some false:=(rfl)
@[simp] theorem zBR {e:List V} {l:List (List V)} {t:Bool}:zsI (.sl (e::l) t)=some false:=(rfl)
@[simp] theorem z9n:zuk .nilmap=some true:=(rfl)
@[simp] theorem z9o {i:Nat}:zuk (.map i)=some false:=(rfl)
@[simp] theorem z9m:zsJ .nilptr=some true:=(rfl)
@[simp] theorem z9l {i g o:Nat}:zsJ (.ptr i g o)=some false:=(rfl)
@[simp] theorem z9k {c:List V}:zsJ (.ref c)=some false:=(rfl)
@[simp] theorem z9p:zul .nilFunc=some true:=(rfl)
@[simp] theorem z5i {f:Nat} {c:List V}:zul (.func f c)=some false:=(rfl)
@[simp] theorem zDb {a b:Option Bool}:zgz a b=ob a fun a=>ob b fun b=>bi a (some b) (bi b (some false) none):=(rfl)
@[simp] theorem zIn {t:TypeId} {x y:V}:eqV P t x y=ob (ti P t) fun i=>eqD i.desc x y:=(rfl)
@[simp] theorem z5D {i g:Nat}:zaA hs i g=ob (hs.H.get i) fun o=>ob o.arr? fun a=>gd (et (Nat.beq g a.2.1) (nt (Nat.beq a.1 0))) (some (a.1,a.2.2)):=(rfl)
@[simp] theorem z95 {i:Nat}:isRow hs i=orc false (fun o=>orc false (fun a=>a.2.2.2.2.2) o.arr?) (hs.H.get i):=(rfl)
@[simp] theorem z5q {i:TI} {a:Nat×List (List V)×Bool×Bool×Bool} {off:Nat}:zit i a off=ob (zeh a.2.1 (off / a.1)) fun e=>zeZ i e (off % a.1):=(rfl)
@[simp] theorem zBJ {i:TI} {cs:List V} {off:Nat}:zeZ i cs off=bi (zbf i.desc) (z7q i.size (zf0 i.size (zhn off cs))) (zeh cs off):=(rfl)
@[simp] theorem zHj {n:Nat} {r:List V}:z7q n r=gd (Nat.beq (zG r) n) (some (.agg r)):=(rfl)
@[simp] theorem z1l {i:TI} {id g off:Nat} {v:V}:zaY i id g off v hs=ob (zaA hs id g) fun a=>gd (nt a.2.2.2.1) (gd (et (zrK v.cells) (et (Nat.beq (zG v.cells) i.size) (Nat.ble (off % a.1+i.size) a.1)))
 (ob (zeh a.2.1 (off / a.1)) fun e=>some (hs.wr id (.arr a.1 g (zr2 a.2.1 (off / a.1) (zaE e (off % a.1) v.cells)) a.2.2.1 false a.2.2.2.2)))):=(rfl)
@[simp] theorem z4N {α:Type} (n:Nat) (l:List α):zaE ([]:List α) n l=[]:=(rfl)
@[simp] theorem zr5 {α:Type} (x:α) (t:List α):zaE (x::t) 0 []=x::t:=(rfl)
@[simp] theorem zgf {α:Type} (x:α) (t:List α) (y:α) (ys:List α):zaE (x::t) 0 (y::ys)=y::zaE t 0 ys:=(rfl)
@[simp] theorem zm6 {α:Type} (x:α) (t:List α) (n:Nat) (l:List α):zaE (x::t) (n+1) l=x::zaE t n l:=(rfl)
@[simp] theorem zBV {ts:List TypeId} {vs:List V}:zfr P hs ts vs=ob (zoq P ts) fun i=>ob (zsA vs) fun x=>ob (zr9 hs i.desc x) fun n=>some (.int .i64 (Int.ofNat n),hs):=(rfl)
@[simp] theorem z9w {l:Bool} {vs:List V}:zbD hs l vs=ob (zr0 vs) fun p=>ob p.1.int? fun a=>ob p.2.int? fun b=>some (.int a.1 (bi (bi l (ltI b.2 a.2) (ltI a.2 b.2)) b.2 a.2),hs):=(rfl)
@[simp] theorem zzW {t:TypeId} {l:List TypeId}:zoq P (t::l)=ti P t:=(rfl)
@[simp] theorem zHX {i:Nat} {o:Obj}:(hs.put i o).H=hs.H.set i o:=(rfl)
@[simp] theorem zB6 {i:Nat} {o:Obj}:(hs.put i o).log=hs.log:=(rfl)
@[simp] theorem wr_H {i:Nat} {o:Obj}:(hs.wr i o).H=hs.H.set i o:=(rfl)
@[simp] theorem zDQ {i:Nat} {o:Obj}:(hs.wr i o).log=i::hs.log:=(rfl)
@[simp] theorem z9f {v:V}:zsA [v]=some v:=(rfl)
@[simp] theorem z8b {v u:V}:zr0 [v,u]=some (v,u):=(rfl)
@[simp] theorem z90 {s:List Nat}:zr9 hs .string (.str s)=some (zG s):=(rfl)
@[simp] theorem z5t {e:TypeId}:zr9 hs (.slice e) .snil=some 0:=(rfl)
@[simp] theorem zBW {e:TypeId} {es:List (List V)} {t:Bool}:zr9 hs (.slice e) (.sl es t)=some (zG es):=(rfl)
@[simp] theorem z92 {e:TypeId} {i g o n:Nat} {c:Option Nat}:zr9 hs (.slice e) (.own i g o n c)=some n:=(rfl)
@[simp] theorem zz4 {k e:TypeId}:zr9 hs (.map k e) .nilmap=some 0:=(rfl)
@[simp] theorem z94 {k e:TypeId} {i:Nat}:zr9 hs (.map k e) (.map i)=ob (hs.H.get i) fun o=>ob o.mp? fun es=>some (zG es):=(rfl)
@[simp] theorem z7Z {x:Operand}:zhX T hs .not x=ob (zi T x) fun v=>ob v.bool? fun b=>some (.bool (nt b),hs):=(rfl)
@[simp] theorem z8a {x:Operand}:zhX T hs .neg x=ob (zi T x) fun v=>ob v.int? fun p=>some (.int p.1 (zeq p.1 (0-p.2)),hs):=(rfl)
@[simp] theorem z6D {v:V}:zkZ (.int k) v=ob v.int? fun p=>some (.int k (zeq k p.2)):=(rfl)
@[simp] theorem z6C {v:V}:zkZ .string v=ob v.str? fun s=>some (.str s):=(rfl)
@[simp] theorem z1K {i g o:Nat}:notNil (.ptr i g o)=true:=(rfl)
@[simp] theorem z1J {c:List V}:notNil (.ref c)=true:=(rfl)
@[simp] theorem zzq {f:Nat} {c:List V}:notNil (.func f c)=true:=(rfl)
@[simp] theorem z5x:zbf (.int k)=false:=(rfl)
@[simp] theorem z2d:zbf .bool=false:=(rfl)
@[simp] theorem z5v:zbf .string=false:=(rfl)
@[simp] theorem zzQ {e:TypeId}:zbf (.slice e)=false:=(rfl)
@[simp] theorem z5w {e f:TypeId}:zbf (.map e f)=false:=(rfl)
@[simp] theorem zsV {e:TypeId}:zbf (.pointer e)=false:=(rfl)
@[simp] theorem z2c {e f:Array TypeId} {c:Bool}:zbf (.func e f c)=false:=(rfl)
@[simp] theorem z7F {n:Int} {r:V}:Gives r (.int k n) hs=(.int k n=r):=by show (some (V.int k n)=some r)=_;simp
@[simp] theorem z3n {b:Bool} {r:V}:Gives r (.bool b) hs=(.bool b=r):=by show (some (V.bool b)=some r)=_;simp
@[simp] theorem z7D {b:List Nat} {r:V}:Gives r (.str b) hs=(.str b=r):=by show (some (V.str b)=some r)=_;simp
end
section
variable {P:Program}{T:PT V}{hs:HS}{id:Nat}
@[simp] theorem z8l {n b:Nat}:zc0 n b=decide (n*b<=1048576):=by show Nat.ble _ _=_;simp
@[simp] theorem zsM {t:TypeId} {l c:Operand}:zao P T hs id t l c=ob (ti P t) fun i=>ob (zi T l) fun a=>ob (zi T c) fun b=>zbE P i hs id a b:=(rfl)
@[simp] theorem zz2 {i:TI} {l c:V}:zbE P i hs id l c=ob (zbv i.desc) fun el=>ob (ti P el) fun e=>ob l.nat? fun l=>ob c.nat? fun c =>
 gd (et (Nat.ble l c) (et (zc0 c e.bytes) (et (Nat.ble (c*e.size) 1048576) (et (nt (Nat.beq e.size 0)) (et (Nat.beq (zG e.zero) e.size) (zme e.zero))))))
  (some (.own id 0 0 l (some c),hs.put id (.arr e.size 0 (z10 e.zero c) true false true))):=(rfl)
@[simp] theorem ztw {n:Nat} {cells:List V}:zbV T n [] cells=some cells:=(rfl)
@[simp] theorem zrH {n k:Nat} {o:Operand} {l:List (Nat×Operand)} {cells:List V}:zbV T n ((k,o)::l) cells=ob (zi T o) fun v=>gd (et (Nat.beq (zG v.cells) n) (Nat.ble (k*n+n) (zG cells))) (zbV T n l (zaE cells (k*n) v.cells)):=(rfl)
@[simp] theorem zyw {i:TI} {cells:List V}:zdh P T i [] cells=some cells:=(rfl)
@[simp] theorem ztv {i:TI} {k:Nat} {o:Operand} {l:List (Nat×Operand)} {cells:List V}:zdh P T i ((k,o)::l) cells=ob (zh i k) fun fd=>ob (ti P fd.type) fun fi=>ob (zi T o) fun v =>
 gd (et (Nat.beq (zG v.cells) fi.size) (Nat.ble (fd.offset+fi.size) (zG cells))) (zdh P T i l (zaE cells fd.offset v.cells)):=(rfl)
@[simp] theorem ztZ {dr:Bool} {e:TI} {len:Nat} {es:List (List V)}:zcI dr T e len [] hs es=some (es,hs):=(rfl)
@[simp] theorem zs5 {dr:Bool} {e:TI} {len k:Nat} {o:Operand} {l:List (Nat×Operand)} {es:List (List V)}:zcI dr T e len ((k,o)::l) hs es=ob (zi T o) fun v=>ob (zdB dr v hs) fun r =>
 gd (et (Nat.beq (zG r.1.cells) e.size) (Nat.blt k len)) (zcI dr T e len l r.2 (zr2 es k r.1.cells)):=(rfl)
@[simp] theorem zyp {v:V}:zdB false v hs=zaT v hs:=(rfl)
@[simp] theorem z06 {v:V}:zdB true v hs=gd v.pure (some (v,hs)):=(rfl)
@[simp] theorem zrG {dr:Bool} {t:TypeId} {len:Nat} {ps:Array (Nat×Operand)}:zY P dr T hs id t len ps=ob (ti P t) fun i=>ob (zbv i.desc) fun el=>ob (ti P el) fun e =>
 gd (et (Nat.ble (len*e.size) 1048576) (et (nt (Nat.beq e.size 0)) (et (Nat.beq (zG e.zero) e.size) (zme e.zero))))
  (ob (zcI dr T e len ps.toList hs (z10 e.zero len)) fun r=>some (bi (Nat.beq e.bytes 128) (.own id 0 0 len (some len)) (.sl r.1 true),r.2.put id (bi (Nat.beq e.bytes 128) (.arr e.size 0 r.1 true false true) (.mp [])))):=(rfl)
@[simp] theorem z0q {t:TypeId} {l:List TypeId}:zjO P (t::l)=ob (ti P t) fun i=>ob (zbv i.desc) fun el=>ti P el:=(rfl)
@[simp] theorem zur {t u:TypeId}:zbM [t,u]=some u:=(rfl)
@[simp] theorem z3k {ts:List TypeId} {vs:List V}:zcz P hs id ts vs=ob (zr0 vs) fun p=>ob (zjO P ts) fun e=>ob (zbM ts) fun u=>ob (ti P u) fun j=>ob (zbv j.desc) fun _=>zda e hs id p.1 p.2:=(rfl)
@[simp] theorem append_nil {e:TI} {x:V}:zda e hs id .snil x=ob (zc5 hs e.size x) fun new=>gd (et (sizes e.size new) (et (zL new) (et (nt (Nat.beq e.size 0)) (et (nt (Nat.beq e.bytes 0)) (Nat.beq (zG e.zero) e.size))))) (zdE e hs id new):=(rfl)
@[simp] theorem z7n {e:TI} {es:List (List V)} {t:Bool} {x:V}:zda e hs id (.sl es t) x=ob (zc5 hs e.size x) fun new=>gd (et (sizes e.size new) (et (zL new) (et (nt (Nat.beq e.size 0)) (et (nt (Nat.beq e.bytes 0)) (Nat.beq (zG e.zero) e.size))))) (zeO e hs id es t new):=(rfl)
@[simp] theorem z3i {e:TI} {i g o n:Nat} {c:Option Nat} {x:V}:zda e hs id (.own i g o n c) x=ob (zc5 hs e.size x) fun new=>gd (et (sizes e.size new) (et (zL new) (et (nt (Nat.beq e.size 0)) (et (nt (Nat.beq e.bytes 0)) (Nat.beq (zG e.zero) e.size))))) (zcQ e hs id i g o n c new):=(rfl)
@[simp] theorem z0J {e:TI} {new:List (List V)}:zdE e hs id new=bi (Nat.beq (zG new) 0) (some (.snil,hs)) (gd (zc0 (zG new) e.bytes) (zdv e hs id (zG new) new)):=(rfl)
@[simp] theorem z3j {e:TI} {es new:List (List V)} {t:Bool}:zeO e hs id es t new=bi (Nat.beq (zG new) 0) (some (.sl es t,hs)) (gd (et t (et (zc0 (zG es+zG new) e.bytes) (sizes e.size es))) (zdv e hs id (zG es+zG new) (zbh es new))):=(rfl)
@[simp] theorem zBS {e:TI} {n:Nat} {es:List (List V)}:zdv e hs id n es=some (.own id 0 0 n none,hs.put id (.arr e.size 0 es false false true)):=(rfl)
@[simp] theorem zrJ {e:TI} {i g o n:Nat} {new:List (List V)}:zcQ e hs id i g o n none new=ob (zaA hs i g) fun a=>gd (et a.2.2.2.2 (et (Nat.beq a.1 e.size) (et (Nat.beq (o % a.1) 0) (zc0 (n+zG new) e.bytes))))
 (bi (Nat.ble (o / a.1+n+zG new) (zG a.2.1)) (zch hs i g o n none a new)
     (gd (et (nt a.2.2.2.1) (et (Nat.beq o 0) (Nat.ble n (zG a.2.1)))) (some (.own i (g+1) 0 (n+zG new) none,hs.wr i (.arr a.1 (g+1) (zbh (zf0 n a.2.1) new) false false true))))):=(rfl)
@[simp] theorem zrI {e:TI} {i g o n c:Nat} {new:List (List V)}:zcQ e hs id i g o n (some c) new=ob (zaA hs i g) fun a=>gd (et a.2.2.2.2 (et (Nat.beq a.1 e.size) (et (Nat.beq (o % a.1) 0) (zc0 (n+zG new) e.bytes))))
 (bi (Nat.ble (n+zG new) c) (zch hs i g o n (some c) a new) (ob (zdf a.1 o n a.2.1) fun old=>zdv e hs id (n+zG new) (zbh old new))):=(rfl)
@[simp] theorem z3l {i g o n:Nat} {c:Option Nat} {a:Nat×List (List V)×Bool×Bool×Bool} {new:List (List V)}:zch hs i g o n c a new=gd (et (nt a.2.2.2.1) (Nat.ble (o / a.1+n+zG new) (zG a.2.1)))
 (some (.own i g o (n+zG new) c,hs.wr i (.arr a.1 g (zaE a.2.1 (o / a.1+n) new) a.2.2.1 false a.2.2.2.2))):=(rfl)
@[simp] theorem zAm {size off len:Nat} {es:List (List V)}:zdf size off len es=gd (et (Nat.beq (off % size) 0) (Nat.ble (off / size+len) (zG es))) (some (zf0 len (zhn (off / size) es))):=(rfl)
@[simp] theorem z0p {n:Nat}:zc5 hs n .snil=some []:=(rfl)
@[simp] theorem z6o {n:Nat} {es:List (List V)} {t:Bool}:zc5 hs n (.sl es t)=some es:=(rfl)
@[simp] theorem z2E {n i g o k:Nat} {c:Option Nat}:zc5 hs n (.own i g o k c)=ob (zaA hs i g) fun a=>gd (et a.2.2.2.2 (Nat.beq a.1 n)) (zdf a.1 o k a.2.1):=(rfl)
@[simp] theorem zAo {ts:List TypeId} {vs:List V}:zem P hs ts vs=ob (zr0 vs) fun p=>ob (zjO P ts) fun e=>ob (zbM ts) fun _=>zkY e hs p.1 p.2:=(rfl)
@[simp] theorem z6B {e:TI} {i g o n:Nat} {c:Option Nat} {x:V}:zkY e hs (.own i g o n c) x=ob (zc5 hs e.size x) fun src=>zgJ e hs i g o n src:=(rfl)
@[simp] theorem z6A {e:TI} {i g o n:Nat} {src:List (List V)}:zgJ e hs i g o n src=ob (zaA hs i g) fun a=>gd (et (nt a.2.2.2.1) (et a.2.2.2.2 (et (Nat.beq a.1 e.size) (et (Nat.beq (o % a.1) 0) (et (sizes e.size src) (et (zL src) (Nat.ble (o / a.1+zr8 (zG src) n) (zG a.2.1))))))))
 (some (.int .i64 (Int.ofNat (zr8 (zG src) n)),hs.wr i (.arr a.1 g (zaE a.2.1 (o / a.1) (zf0 (zr8 (zG src) n) src)) a.2.2.1 false true))):=(rfl)
@[simp] theorem zEB {a b:Nat}:zr8 a b=min a b:=by unfold zr8;rw[zaf];simp only[ble_true];split<;>omega
@[simp] theorem z8O {v:V}:zaT v hs=ob (zaF hs v) fun v'=>some (v',zaB hs v.cells):=(rfl)
@[simp] theorem z1p {l:List V}:zaF hs (.agg l)=ob (zcn hs l) fun l=>some (.agg l):=(rfl)
@[simp] theorem ztO:zcn hs []=some []:=(rfl)
@[simp] theorem zrX {v:V} {l:List V}:zcn hs (v::l)=ob (zbe hs v) fun v'=>ob (zcn hs l) fun l'=>some (v'::l'):=(rfl)
@[simp] theorem ztR {i g o n:Nat} {c:Option Nat}:zbe hs (.own i g o n c)=ob (zaA hs i g) fun a=>gd a.2.2.2.2 (ob (zdf a.1 o n a.2.1) fun l=>some (.sl l false)):=(rfl)
@[simp] theorem z1r {k:IntKind} {n:Int}:zbe hs (.int k n)=some (.int k n):=(rfl)
@[simp] theorem zyR {b:Bool}:zbe hs (.bool b)=some (.bool b):=(rfl)
@[simp] theorem z1q {b:List Nat}:zbe hs (.str b)=some (.str b):=(rfl)
@[simp] theorem z4c {es:List (List V)} {b:Bool}:zbe hs (.sl es b)=some (.sl es b):=(rfl)
@[simp] theorem zyQ:zbe hs .snil=some .snil:=(rfl)
@[simp] theorem zsZ:zaB hs []=hs:=(rfl)
@[simp] theorem zrD {v:V} {l:List V}:zaB hs (v::l)=zaN (zaB hs l) v:=(rfl)
@[simp] theorem z0c {i g o n:Nat} {c:Option Nat}:zaN hs (.own i g o n c)=zQ hs i:=(rfl)
@[simp] theorem z0d {k:IntKind} {n:Int}:zaN hs (.int k n)=hs:=(rfl)
@[simp] theorem zu0 {b:Bool}:zaN hs (.bool b)=hs:=(rfl)
@[simp] theorem z0b {b:List Nat}:zaN hs (.str b)=hs:=(rfl)
@[simp] theorem z2r {es:List (List V)} {b:Bool}:zaN hs (.sl es b)=hs:=(rfl)
@[simp] theorem zuz:zaN hs .snil=hs:=(rfl)
@[simp] theorem z0a {i:Nat}:zQ hs i=orc hs (fun o=>orc hs (fun a=>hs.wr i (.arr a.1 a.2.1 a.2.2.1 a.2.2.2.1 true a.2.2.2.2.2)) o.arr?) (hs.H.get i):=(rfl)
theorem zij {α:Type}:∀ (l:List α) (n:Nat) (m:List α),n<=l.length->n+m.length<=l.length->zaE l n m=l.take n++(m++l.drop (n+m.length)):=by
 intro l
 induction l with
 | nil =>
   intro n m hn hm;have h0:m=[]:=List.eq_nil_of_length_eq_zero (by rw[List.length_nil]at hm;omega);subst h0;simp
 | cons x l ih =>
   intro n m hn hm
   cases n with
   | zero =>
     cases m with
     |nil=>simp
     | cons y m =>
       rw[zgf,ih 0 m (by omega) (by simp at hm ⊢;omega)];simp
   | succ n =>
     rw[zm6,ih n m (by simpa using hn) (by simp at hm ⊢;omega)];simp[Nat.add_right_comm]
@[simp] theorem z4f {n:Nat}:sizes n []=true:=(rfl)
@[simp] theorem z1t {n:Nat} {x:List V} {l:List (List V)}:sizes n (x::l)=et (Nat.beq (zG x) n) (sizes n l):=(rfl)
@[simp] theorem zy2:zL []=true:=(rfl)
@[simp] theorem zt7 {x:List V} {l:List (List V)}:zL (x::l)=et (zrK x) (zL l):=(rfl)
end
section
variable {hs:HS}{r:V}
@[simp] theorem z7E {i g o n:Nat} {c:Option Nat}:Gives r (.own i g o n c) hs=(zbe hs (.own i g o n c)=some r):=(rfl)
@[simp] theorem z7G {l:List V}:Gives r (.agg l) hs=((ob (zcn hs l) fun l=>some (V.agg l))=some r):=(rfl)
@[simp] theorem z0W {l:List V}:Gives r (.tuple l) hs=((ob (zaw hs l) fun l=>some (V.tuple l))=some r):=(rfl)
@[simp] theorem zAI {es:List (List V)} {t:Bool}:Gives r (.sl es t) hs=(.sl es t=r):=by show (some (V.sl es t)=some r)=_;simp
@[simp] theorem z3m:Gives r .snil hs=(.snil=r):=by show (some V.snil=some r)=_;simp
@[simp] theorem ztP:zaw hs []=some []:=(rfl)
@[simp] theorem zrY {v:V} {l:List V}:zaw hs (v::l)=ob (zaF hs v) fun v'=>ob (zaw hs l) fun l'=>some (v'::l'):=(rfl)
@[simp] theorem ztQ {i g o n:Nat} {c:Option Nat}:zaF hs (.own i g o n c)=zbe hs (.own i g o n c):=(rfl)
@[simp] theorem z1o {k:IntKind} {n:Int}:zaF hs (.int k n)=some (.int k n):=(rfl)
@[simp] theorem zyP {b:Bool}:zaF hs (.bool b)=some (.bool b):=(rfl)
@[simp] theorem z1n {b:List Nat}:zaF hs (.str b)=some (.str b):=(rfl)
@[simp] theorem z4b {es:List (List V)} {b:Bool}:zaF hs (.sl es b)=some (.sl es b):=(rfl)
@[simp] theorem zyO:zaF hs .snil=some .snil:=(rfl)
end
end Go.J
/- Contracts in use. -/
namespace Go.J
abbrev Spec:=List V->HS->Option (V×HS)
def zjf(s:List V->Option V):Spec:=fun vs hs=>gd (zw vs) (ob (s vs) fun v=>some (v,hs))
def z6E(L:List (Nat×Spec))(f:FuncId)(vs:List V)(hs:HS):Option (V×HS):=lr none (fun p _ ih=>bi (Nat.beq f p.1) (p.2 vs hs) ih) L
def z2y(P:Program)(pol:FuncId->Nat)(L:List (Nat×Spec)):Env:={ P:=P,pol:=pol,con:=z6E L }
structure Valid(ρ:Nat->Value)(P:Program)(f:Nat)(s:Spec):Prop where
 fn:zeo P f
 ok:∀ {vs hs v hs'},s vs hs=some (v,hs')->CallOk ρ P f vs hs v hs'
 kept:∀ {vs hs r},s vs hs=some r->Kept hs r.2
theorem zqZ(p:Nat×Spec)(L:List (Nat×Spec))(f:FuncId):z6E (p::L) f=if f=p.1 then p.2 else z6E L f:=by
 funext vs hs
 show bi (Nat.beq f p.1) (p.2 vs hs) (z6E L f vs hs)=_;rw[zaf];by_cases h:f=p.1
 . rw[if_pos (beq_true.2 h),if_pos h]
 . rw[if_neg (fun e=>h (beq_true.1 e)),if_neg h]
theorem zf{ρ:Nat->Value}{P:Program}{pol:FuncId->Nat}:∀ {L:List (Nat×Spec)},(∀ p∈L,Valid ρ P p.1 p.2)->ConsOk ρ (z2y P pol L):=by
 intro L h
 have key:∀ (M:List (Nat×Spec)),(∀ p∈M,p∈L)->∀ {f vs hs q},z6E M f vs hs=some q->∃ p∈L,p.1=f/\p.2 vs hs=some q:=by
  intro M
  induction M with
  |nil=>intro _ f vs hs q hq;cases hq
  | cons p M ih =>
    intro hM f vs hs q hq;rw[zqZ]at hq;split at hq
    . rename_i e;exact⟨p,hM p (List.mem_cons_self ..),e.symm,hq⟩
    . exact ih (fun p hp=>hM p (List.mem_cons_of_mem _ hp)) hq
 refine⟨?_,?_,?_⟩
 . intro f vs hs v hs' hq;obtain⟨p,hp,rfl,h2⟩:=key L (fun _ h=>h) hq;exact(h p hp).ok h2
 . intro f vs hs q hq;obtain⟨p,hp,rfl,h2⟩:=key L (fun _ h=>h) hq;exact(h p hp).kept h2
 . intro f vs hs q hq;obtain⟨p,hp,rfl,h2⟩:=key L (fun _ h=>h) hq;exact(h p hp).fn
theorem valid_nil{ρ:Nat->Value}{P:Program}:∀ p∈([]:List (Nat×Spec)),Valid ρ P p.1 p.2:=fun p h=>by cases h
theorem zb{ρ:Nat->Value}{P:Program}{f:Nat}{s:Spec}{L:List (Nat×Spec)}(h:Valid ρ P f s)(hl:∀ p∈L,Valid ρ P p.1 p.2):∀ p∈(f,s)::L,Valid ρ P p.1 p.2:=by
 intro p hp;rcases List.mem_cons.1 hp with rfl|hp
 . exact h
 . exact hl p hp
theorem Valid.pure{ρ:Nat->Value}(hρ:Good ρ){P:Program}(hP:P.follows .mixedOrders=true)(hN:zen P){f:Nat}{s:List V->Option V}(hf:zeo P f)
 (h:∀ vs v,zw vs=true->s vs=some v->∃ E n,ConsOk ρ E/\E.P=P/\ztS E n f vs=some v):Valid ρ P f (zjf s) where
 fn:=hf
 ok:=by
  intro vs hs v hs' hq;simp only[zjf,zk,za]at hq;obtain⟨hp,v',hv,hq⟩:=hq;cases hq;obtain⟨E,n,hc,rfl,hr⟩:=h vs v hp hv;exact zeg hρ hc hP hN hr hp
 kept:=by
  intro vs hs q hq;simp only[zjf,zk,za]at hq;obtain⟨_,v',_,hq⟩:=hq;cases hq;exact .refl _
theorem zee{hs:HS}{u v:V}(h:zbe hs u=some v)(hs1:v.scal1=true):u=v:=by
 unfold zbe at h;split at h
 . unfold zcU at h;simp only[za,zk]at h;obtain⟨_,_,_,_,_,h⟩:=h;cases h;cases hs1
 . simp only[zk]at h;exact Option.some.inj h.2
theorem zkx{hs:HS}:∀ {l m:List V},zcn hs l=some m->zyz m=true->l=m:=by
 intro l
 induction l with
 |nil=>intro m h _;cases h;rfl
 | cons u l ih =>
   intro m h hm;replace h:(ob (zbe hs u) fun v'=>ob (zcn hs l) fun l'=>some (v'::l'))=some m:=h;simp only[za]at h;obtain⟨v,hv,r,hr,h⟩:=h;cases h;replace hm:et v.scal1 (zyz r)=true:=hm;rw[et_true]at hm;rw[zee hv hm.1,ih hr hm.2]
theorem zk0{hs:HS}{u v:V}(h:zaF hs u=some v)(hs1:v.scal1=true):u=v:=by
 unfold zaF at h;split at h
 . simp only[za]at h;obtain⟨_,_,h⟩:=h;cases h;cases hs1
 . exact zee h hs1
theorem zky{hs:HS}:∀ {l m:List V},zaw hs l=some m->zyz m=true->l=m:=by
 intro l
 induction l with
 |nil=>intro m h _;cases h;rfl
 | cons u l ih =>
   intro m h hm;replace h:(ob (zaF hs u) fun v'=>ob (zaw hs l) fun l'=>some (v'::l'))=some m:=h;simp only[za]at h;obtain⟨v,hv,r,hr,h⟩:=h;cases h;replace hm:et v.scal1 (zyz r)=true:=hm;rw[et_true]at hm;rw[zk0 hv hm.1,ih hr hm.2]
theorem zmn {hs:HS} {u v:V} (h:still hs u=some v) (hv:v.scal=true):u=v:=by
 unfold still at h;split at h
 . simp only[za]at h;obtain⟨l,hl,h⟩:=h;cases h;rw[zky hl hv]
 . unfold zaF at h;split at h
   . simp only[za]at h;obtain⟨l,hl,h⟩:=h;cases h;rw[zkx hl hv]
   . refine zee h ?_;rename_i _ hne1 _ hne2;cases v<;>first|exact hv|skip
     all_goals
      exfalso;unfold zbe at h;split at h
      . unfold zcU at h;simp only[za,zk]at h;obtain⟨_,_,_,_,_,h⟩:=h;cases h
      . simp only[zk]at h;have e:=Option.some.inj h.2
        first|exact hne1 _ e|exact hne2 _ e
def zn8(s:List V->Option V):Spec:=fun vs hs=>ob (zaw hs vs) fun vs'=>gd (zw vs') (ob (s vs') fun v=>gd v.scal (some (v,hs)))
theorem Valid.scal{ρ:Nat->Value}(hρ:Good ρ){P:Program}(hP:P.follows .mixedOrders=true)(hN:zen P){f:Nat}{s:List V->Option V}(hf:zeo P f)
 (h:∀ vs v,zw vs=true->s vs=some v->∃ E n,ConsOk ρ E/\E.P=P/\ztS E n f vs=some v):Valid ρ P f (zn8 s) where
 fn:=hf
 ok:=by
  intro vs hs v hs' hq;simp only[zn8,zk,za]at hq;obtain⟨vs',hst,hp,v',hv,hsc,hq⟩:=hq;cases hq;obtain⟨E,n,hc,rfl,hr⟩:=h vs' v hp hv;simp only[ztS,za]at hr;obtain⟨⟨v1,hs1⟩,h1,h2⟩:=hr;have e:v1=v:=zmn h2 hsc;subst e;refine zgO (ev:=evJ E n) hst (fun h=>(zqL hρ hc hP hN n).call h) ?_;simp only[za6,za,zk];exact⟨(v1,hs1),h1,hsc,rfl⟩
 kept:=by
  intro vs hs q hq;simp only[zn8,zk,za]at hq;obtain⟨_,_,_,_,_,_,hq⟩:=hq;cases hq;exact .refl _
def zFh(s:List V->Option V):Spec:=fun vs hs=>ob (zaq vs hs) fun q=>gd (zw q.1) (ob (s q.1) fun v=>some (v,q.2))
section
variable {vs:List V}{hs:HS}{s:List V->Option V}{K:V×HS->Prop}
@[simp] theorem z8S:ok (zjf s vs hs) K=(zw vs=true/\ok (s vs) fun v=>K (v,hs)):=by simp only[zjf,zcd,zZ,zm]
@[simp] theorem z8i:ok (zn8 s vs hs) K=ok (zaw hs vs) fun vs'=>zw vs'=true/\ok (s vs') fun v=>v.scal=true/\K (v,hs):=by simp only[zn8,zcd,zZ,zm]
@[simp] theorem zCE:ok (zFh s vs hs) K=ok (zaq vs hs) fun q=>zw q.1=true/\ok (s q.1) fun v=>K (v,q.2):=by simp only[zFh,zcd,zZ,zm]
@[simp] theorem zsx:zaq [] hs=some ([],hs):=(rfl)
@[simp] theorem zr4 {v:V} {l:List V}:zaq (v::l) hs=ob (zaT v hs) fun r=>ob (zaq l r.2) fun q=>some (r.1::q.1,q.2):=(rfl)
@[simp] theorem z0L:zw []=true:=(rfl)
@[simp] theorem zy0 {v:V} {l:List V}:zw (v::l)=(v.pure&&zw l):=by rw[<- zmK];rfl
@[simp] theorem z8R {l:List V}:(V.agg l).pure=zme l:=(rfl)
@[simp] theorem zA7:zme []=true:=(rfl)
@[simp] theorem z7o {v:V} {l:List V}:zme (v::l)=(v.pure2&&zme l):=by rw[<- zmK];rfl
@[simp] theorem z8Q {k:IntKind} {n:Int}:(V.int k n).pure=true:=(rfl)
@[simp] theorem z4E {b:Bool}:(V.bool b).pure=true:=(rfl)
@[simp] theorem z8P {b:List Nat}:(V.str b).pure=true:=(rfl)
@[simp] theorem zB7 {es:List (List V)} {t:Bool}:(V.sl es t).pure=true:=(rfl)
@[simp] theorem z4D:V.snil.pure=true:=(rfl)
@[simp] theorem z4G {k:IntKind} {n:Int}:(V.int k n).pure2=true:=(rfl)
@[simp] theorem z16 {b:Bool}:(V.bool b).pure2=true:=(rfl)
@[simp] theorem z4F {b:List Nat}:(V.str b).pure2=true:=(rfl)
@[simp] theorem z8T {es:List (List V)} {t:Bool}:(V.sl es t).pure2=true:=(rfl)
@[simp] theorem z15:V.snil.pure2=true:=(rfl)
@[simp] theorem ztY:V.nilmap.pure2=true:=(rfl)
@[simp] theorem zs3:V.nilFunc.pure2=true:=(rfl)
end
end Go.J
