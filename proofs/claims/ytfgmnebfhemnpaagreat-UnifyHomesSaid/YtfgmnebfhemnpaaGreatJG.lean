import Derived.Test.YtfgmnebfhemnpaaGreatJF
set_option linter.all false
noncomputable section
/- Rules of rewriting for symbolic runs. -/
namespace Go.J
section
variable {E:Env}{id:Nat}{T:PT V}{hs:HS}{K:V→HS→Prop}{sz:Nat}
@[simp ↓] theorem zPI {R:PT V→HS→Prop}:Rs E sz [] id T hs R=R T hs:=(rfl)
@[simp ↓] theorem zLD {d:Option Tmp} {op:Op} {g:Option (Tmp×Bool)} {l:List SOp} {R:PT V→HS→Prop}:Rs E sz (⟨d,op,g⟩::l) id T hs R=wpS E id T hs ⟨d,op,g⟩ fun v hs'=>put sz T d v fun T1=>Rs E sz l (id+1) T1 hs' R:=(rfl)
@[simp ↓] theorem zPW {d:Option Tmp} {op:Op}:wpS E id T hs ⟨d,op,none⟩ K=wpO E id T hs op K:=(rfl)
@[simp ↓] theorem zPX {d:Option Tmp} {op:Op} {t:Tmp} {w:Bool}:wpS E id T hs ⟨d,op,some (t,w)⟩ K=ok (T.get t) fun v=>ok (v.guard? w) fun q=>br (q=w) (wpO E id T hs op K) (K undefV hs):=by
  simp only[z8k];rfl
@[simp ↓] theorem zG1 {d:Tmp} {v:V} {R:PT V→Prop}:put sz T (some d) v R=(d<sz∧R (T.set d v)):=(rfl)
@[simp ↓] theorem zG3 {v:V} {R:PT V→Prop}:put sz T none v R=R T:=(rfl)
theorem zgG{p:Prop}:((0:Nat)≠0→p)=True:=propext ⟨fun _=>trivial,fun _ h=>absurd rfl h⟩
theorem and_one{p:Prop}:((1:Nat)≠0→p)=p:=propext ⟨fun h=>h (by decide),fun h _=>h⟩
theorem znr{p:Prop}:((2:Nat)≠0→p)=p:=propext ⟨fun h=>h (by decide),fun h _=>h⟩
theorem zkg{op:Op}(hc:zK op=0)(hd:wpO E id T hs op K=((zK op≠0→hs.H.get id=none)∧ok (opJ E.P false T hs id (opR op)) fun r=>K r.1 r.2)):wpO E id T hs op K=ok (opJ E.P false T hs id (opR op)) fun r=>K r.1 r.2:=by
 rw[hd,hc,zgG,true_and]
@[simp ↓] theorem wp_move {x:Operand}:wpO E id T hs (.move x) K=ok (zB T x) fun v=>K v hs:=by
  rw[zkg rfl rfl];show ok (ob (zB T x) fun v=>some (v,hs)) _=_;simp only[zaj,zF]
@[simp ↓] theorem wp_assign {x:Operand}:wpO E id T hs (.assign x) K=ok (zB T x) fun v=>K v hs:=by
  rw[zkg rfl rfl];show ok (ob (zB T x) fun v=>some (v,hs)) _=_;simp only[zaj,zF]
@[simp ↓] theorem zI1 {c a b:Operand}:wpO E id T hs (.pick c a b) K=ok (zB T c) fun v=>ok v.bool? fun q=>ok (bi q (zB T a) (zB T b)) fun v=>K v hs:=by
  rw[zkg rfl rfl];show ok (zjC T hs c a b) _=_;simp only[zjC,zaj,zF]
@[simp ↓] theorem zI2 {t:TypeId} {a:Operand}:wpO E id T hs (.load t a) K=ok (ti E.P t) fun i=>ok (zB T a) fun p=>ok (zg5 i hs p) fun v=>K v hs:=by
  rw[zkg rfl rfl];show ok (zd5 E.P T hs t a) _=_;simp only[zd5,zaj,zF]
@[simp ↓] theorem zF2 {b:BinOp} {t u:TypeId} {x y:Operand}:wpO E id T hs (.binOp b t x y u) K=ok (zB T x) fun p=>ok (zB T y) fun q=>ok (zxt E.P b t p q) fun v=>K v hs:=by
  rw[zkg rfl rfl];show ok (zfD E.P T hs b t x y) _=_;simp only[zfD,zaj,zF]
@[simp ↓] theorem zI0 {b:UnOp} {t:TypeId} {x:Operand}:wpO E id T hs (.unOp b t x) K=ok (zjy T hs b x) fun r=>K r.1 r.2:=by
  rw[zkg rfl rfl];rfl
@[simp ↓] theorem zxE {t:TypeId} {x:Operand} {f:Nat}:wpO E id T hs (.fieldAddr t x f) K=ok (ti E.P t) fun i=>ok (zA i f) fun fd=>ok (ti E.P fd.type) fun fi=>nt (Nat.beq fi.size 0)=true∧ok (zB T x) fun v=>ok (zbe fd.offset v) fun r=>K r hs:=by
  rw[zkg rfl rfl];show ok (zb4 E.P T hs t x f) _=_;simp only[zb4,zaj,zbY,zF]
@[simp ↓] theorem zF1 {t:TypeId} {x:Operand} {f:Nat}:wpO E id T hs (.field t x f) K=ok (ti E.P t) fun i=>ok (zA i f) fun fd=>ok (ti E.P fd.type) fun fi=>ok (zB T x) fun v=>ok v.agg? fun cs=>ok (ze1 fi cs fd.offset) fun v=>K v hs:=by
  rw[zkg rfl rfl];show ok (zf4 E.P T hs t x f) _=_;simp only[zf4,zaj,zF]
@[simp ↓] theorem zxD {t:TypeId} {x ix:Operand}:wpO E id T hs (.indexAddr t x ix) K=ok (ti E.P t) fun i=>ok (elemOf i.desc) fun el=>ok (ti E.P el.1) fun e=>ok (zB T x) fun v=>ok (zB T ix) fun n=>ok n.nat? fun n=>ok (z9W el.2 e n v) fun r=>K r hs:=by
  rw[zkg rfl rfl];show ok (zb3 E.P T hs t x ix) _=_;simp only[zb3,zaj,zF]
@[simp ↓] theorem zF0 {t:TypeId} {x ix:Operand}:wpO E id T hs (.index t x ix) K=ok (ti E.P t) fun i=>isStr i.desc=true∧ok (zB T x) fun v=>ok v.str? fun s=>ok (zB T ix) fun n=>ok n.nat? fun n=>ok (zeM s n) fun b=>K (.int .u8 (Int.ofNat b)) hs:=by
  rw[zkg rfl rfl];show ok (zf0 E.P T hs t x ix) _=_;simp only[zf0,zaj,zbY,zF]
@[simp ↓] theorem z8K {x:Operand} {k:Nat}:wpO E id T hs (.extract x k) K=ok (zB T x) fun v=>ok v.tuple? fun vs=>ok (zeM vs k) fun v=>K v hs:=by
  rw[zkg rfl rfl];show ok (zc6 T hs x k) _=_;simp only[zc6,zaj,zF]
@[simp ↓] theorem z5f {x:Operand}:wpO E id T hs (.nilCheck x) K=ok (zB T x) fun v=>notNil v=true∧K v hs:=by
  rw[zkg rfl rfl];show ok (zbT T hs x) _=_;simp only[zbT,zaj,zbY,zF]
@[simp ↓] theorem wp_build {t:TypeId} {ps:Array (Nat×Operand)}:wpO E id T hs (.build t ps) K=ok (ti E.P t) fun i=>ok (bi (za1 i.desc) (gd (zaP E.P (fieldsOf i.desc)) (zdH E.P T i ps.toList i.zero)) (ob (zpE i.desc) fun el=>ob (ti E.P el) fun e=>zcw T e.size ps.toList i.zero)) fun cs=>K (.agg cs) hs:=by
  rw[zkg rfl rfl];show ok (zc9 E.P T hs t ps) _=_;unfold zc9;simp only[zaj (ti E.P t)];congr 1;funext i;rw[zaj];congr 1;funext cs;rw[zF]
@[simp ↓] theorem zFz {t:TypeId} {x:Operand} {lo hi mx:Option Operand}:wpO E id T hs (.slice t x lo hi mx) K=ok (ti E.P t) fun i=>ok (zB T x) fun v=>ok (zbO E.P T hs i v lo hi mx) fun r=>K r hs:=by
  rw[zkg rfl rfl];show ok (zc2 E.P T hs t x lo hi mx) _=_;simp only[zc2,zaj,zF]
@[simp ↓] theorem zAR {t:TypeId} {m k:Operand} {b:Bool}:wpO E id T hs (.lookup t m k b) K=ok (zam E.P T hs t m k b) fun r=>K r.1 r.2:=by
  rw[zkg rfl rfl];rfl
@[simp ↓] theorem z8L {s d:TypeId} {x:Operand}:wpO E id T hs (.convert s d x) K=ok (ti E.P s) fun _=>ok (ti E.P d) fun j=>ok (zB T x) fun v=>ok (znf j.desc v) fun r=>K r hs:=by
  rw[zkg rfl rfl];show ok (zjW E.P T hs s d x) _=_;simp only[zjW,zaj,zF]
@[simp ↓] theorem z5g {f:FuncId} {cs:Array Operand}:wpO E id T hs (.makeFunc (.func f) #[] cs) K=ok (zaK T cs.toList) fun l=>K (.func f l) hs:=by
  rw[zkg rfl rfl];show ok (zds T hs (.func f) #[] cs) _=_
  show ok (gd true (ob (zaK T cs.toList) fun l=>some (V.func f l,hs))) _=_
  simp only[zbA,zaj,zF]
@[simp ↓] theorem zxC {t:TypeId} {x:Operand}:wpO E id T hs (.makeInterface t x) K=ok (ti E.P t) fun i=>nt (isIface i.desc)=true∧ok (zB T x) fun v=>K (.iface t v) hs:=by
  rw[zkg rfl rfl];show ok (zcc E.P T hs t x) _=_;simp only[zcc,zaj,zbY,zF]
theorem zAT{op:Op}(hc:zK op=1)(hd:wpO E id T hs op K=((zK op≠0→hs.H.get id=none)∧ok (opJ E.P false T hs id (opR op)) fun r=>K r.1 r.2)):wpO E id T hs op K=(hs.H.get id=none∧ok (opJ E.P false T hs id (opR op)) fun r=>K r.1 r.2):=by
 rw[hd,hc,and_one]
theorem zLO{op:Op}(hc:zK op=2)(hd:wpO E id T hs op K=((zK op≠0→hs.H.get id=none)∧ok (opJ E.P false T hs id (opR op)) fun r=>K r.1 r.2)):wpO E id T hs op K=(hs.H.get id=none∧ok (opJ E.P false T hs id (opR op)) fun r=>K r.1 r.2):=by
 rw[hd,hc,znr]
@[simp ↓] theorem zF3 {t:TypeId}:wpO E id T hs (.alloc t) K=(hs.H.get id=none∧ok (ti E.P t) fun i=>Nat.beq (zR i.zero) i.size=true∧K (.ptr id 0 0) (hs.put id (.arr i.size 0 [i.zero] true false false))):=by
  rw[zAT rfl rfl];show (_∧ok (zdJ E.P hs id t) _)=_;simp only[zdJ,zaj,zbY,zF]
@[simp ↓] theorem zLN {t:TypeId} {x:Operand}:wpO E id T hs (.box t x) K=(hs.H.get id=none∧ok (zB T x) fun v=>K (.ptr id 0 0) (hs.put id (.arr (zR v.cells) 0 [v.cells] true false false))):=by
  rw[zAT rfl rfl];show (_∧ok (zpL T hs id x) _)=_;simp only[zpL,zaj,zF]
@[simp ↓] theorem wp_buildSlice {t:TypeId} {n:Nat} {ps:Array (Nat×Operand)}:wpO E id T hs (.buildSlice t n ps) K=(hs.H.get id=none∧ok (zaq E.P false T hs id t n ps) fun r=>K r.1 r.2):=by
  rw[zAT rfl rfl];rfl
@[simp ↓] theorem zxB {t:TypeId} {l c:Operand}:wpO E id T hs (.makeSlice t l c) K=(hs.H.get id=none∧ok (zaC E.P T hs id t l c) fun r=>K r.1 r.2):=by
  rw[zAT rfl rfl];rfl
@[simp ↓] theorem z8J {t:TypeId}:wpO E id T hs (.makeMap t none) K=(hs.H.get id=none∧K (.map id) (hs.put id (.mp []))):=by
  rw[zAT rfl rfl];show (_∧ok (gd true (some (V.map id,hs.put id (.mp [])))) _)=_;simp only[zbA,zF]
@[simp ↓] theorem zFy {t:TypeId} {a x:Operand}:wpO E id T hs (.store t a x) K=(hs.H.get id=none∧ok (ti E.P t) fun i=>ok (zB T a) fun p=>ok (zB T x) fun v=>ok (ze7 i hs p v) fun hs'=>K undefV hs'):=by
  rw[zLO rfl rfl];show (_∧ok (zaW E.P T hs t a x) _)=_;simp only[zaW,zaj,zF]
@[simp ↓] theorem zxA {t:TypeId} {m k x:Operand}:wpO E id T hs (.mapUpdate t m k x) K=(hs.H.get id=none∧ok (zS E.P T hs t m k x) fun r=>K r.1 r.2):=by
  rw[zLO rfl rfl];rfl
@[simp ↓] theorem zI4 {x:Operand} {xs:Array Operand} {ts:Array TypeId}:wpO E id T hs (.call ⟨.value x,xs,ts⟩) K=(hs.H.get id=none∧ok (zB T x) fun v=>ok (funcOf v) fun p=>ok (zaK T xs.toList) fun vs=>ok (E.con p.1 (zbB vs p.2) hs) fun r=>K r.1 r.2):=(rfl)
@[simp ↓] theorem zLM {xs:Array Operand} {ts:Array TypeId}:wpO E id T hs (.call ⟨.builtin .len,xs,ts⟩) K=ok (zaK T xs.toList) fun vs=>ok (zgk E.P hs ts.toList vs) fun r=>K r.1 r.2:=by
  show ((zK (.call ⟨.builtin .len,xs,ts⟩)≠0→_)∧_)=_
  rw[show zK (.call ⟨.builtin .len,xs,ts⟩)=0 from rfl,zgG,true_and];rfl
@[simp ↓] theorem zLK {xs:Array Operand} {ts:Array TypeId}:wpO E id T hs (.call ⟨.builtin .min,xs,ts⟩) K=ok (zaK T xs.toList) fun vs=>ok (zca hs true vs) fun r=>K r.1 r.2:=by
  show ((zK (.call ⟨.builtin .min,xs,ts⟩)≠0→_)∧_)=_
  rw[show zK (.call ⟨.builtin .min,xs,ts⟩)=0 from rfl,zgG,true_and];rfl
@[simp ↓] theorem zLL {xs:Array Operand} {ts:Array TypeId}:wpO E id T hs (.call ⟨.builtin .max,xs,ts⟩) K=ok (zaK T xs.toList) fun vs=>ok (zca hs false vs) fun r=>K r.1 r.2:=by
  show ((zK (.call ⟨.builtin .max,xs,ts⟩)≠0→_)∧_)=_
  rw[show zK (.call ⟨.builtin .max,xs,ts⟩)=0 from rfl,zgG,true_and];rfl
@[simp ↓] theorem zAS {xs:Array Operand} {ts:Array TypeId}:wpO E id T hs (.call ⟨.builtin .append,xs,ts⟩) K=(hs.H.get id=none∧ok (zaK T xs.toList) fun vs=>ok (zcO E.P hs id ts.toList vs) fun r=>K r.1 r.2):=by
  show ((zK (.call ⟨.builtin .append,xs,ts⟩)≠0→_)∧_)=_
  rw[show zK (.call ⟨.builtin .append,xs,ts⟩)=2 from rfl,znr];rfl
@[simp ↓] theorem zI3 {xs:Array Operand} {ts:Array TypeId}:wpO E id T hs (.call ⟨.builtin .copy,xs,ts⟩) K=(hs.H.get id=none∧ok (zaK T xs.toList) fun vs=>ok (zeV E.P hs ts.toList vs) fun r=>K r.1 r.2):=by
  show ((zK (.call ⟨.builtin .copy,xs,ts⟩)≠0→_)∧_)=_
  rw[show zK (.call ⟨.builtin .copy,xs,ts⟩)=2 from rfl,znr];rfl
attribute [simp ↓] zu3 zoy
@[congr] theorem zIf {c c' A B:Prop} (h:c=c'):br c A B=br c' A B:=by rw[h]
@[congr] theorem zGN {α:Type} {x y:Option α} {K:α→Prop} (h:x=y):ok x K=ok y K:=by rw[h]
@[congr] theorem zIy {rd:Bool} {s:SC} {T T':PT V} {hs hs':HS} {Q:Ex→PT V→HS→Prop} (h1:T=T') (h2:hs=hs'):Js E rd sz s T hs Q=Js E rd sz s T' hs' Q:=by rw[h1,h2]
@[congr] theorem z5b {P:Program} {fn:Func} {K:V→HS→Prop} {ex ex':Ex} {T T':PT V} {hs hs':HS} (h0:ex=ex') (h1:T=T') (h2:hs=hs'):Leaves P fn K ex T hs=Leaves P fn K ex' T' hs':=by rw[h0,h1,h2]
@[congr] theorem zGP {α β:Type} {x y:Option α} {f:α→Option β} (h:x=y):ob x f=ob y f:=by rw[h]
@[congr] theorem zHy {β:Type} {c d:Bool} {x:Option β} (h:c=d):gd c x=gd d x:=by rw[h]
@[congr] theorem zC4 {α β:Type} {z:β} {f:α→β} {x y:Option α} (h:x=y):orc z f x=orc z f y:=by rw[h]
@[congr] theorem zIl {α:Type} {c d:Bool} {x y:α} (h:c=d):bi c x y=bi d x y:=by rw[h]
@[simp] theorem zP8 {α:Type} {p:Prop} [Decidable p] {x y:α}:bi (decide p) x y=if p then x else y:=by rw[zaz];simp
@[simp ↓] theorem zC5 {α:Type} (a:α) (K:α→Prop):ok (some a) K=K a:=zF a K
@[simp ↓] theorem zJG {α β:Type} (x:Option α) (f:α→Option β) (K:β→Prop):ok (ob x f) K=ok x fun a=>ok (f a) K:=zaj x f K
@[simp ↓] theorem zJH {α:Type} (c:Bool) (x:Option α) (K:α→Prop):ok (gd c x) K=(c=true∧ok x K):=zbY c x K
@[simp ↓] theorem zCF {α β:Type} (a:α) (f:α→Option β):ob (some a) f=f a:=(rfl)
@[simp ↓] theorem zDm {β:Type} (x:Option β):gd true x=x:=(rfl)
@[simp ↓] theorem z90 {α β:Type} (z:β) (f:α→β) (a:α):orc z f (some a)=f a:=(rfl)
@[simp ↓] theorem zEM {α:Type} (x y:α):bi true x y=x:=(rfl)
@[simp ↓] theorem zAE {α:Type} (x y:α):bi false x y=y:=(rfl)
@[simp] theorem zDY {t:Tmp}:zB T (.tmp t)=T.get t:=(rfl)
@[simp] theorem z7J {v:Value}:zB T (.const v)=zcI v:=(rfl)
@[simp] theorem zAd {f:FuncId}:zB T (.func f)=some (.func f []):=(rfl)
@[simp] theorem zyg {b:Bool}:zcI (.bool b)=some (.bool b):=(rfl)
@[simp] theorem z6q {k:IntKind} {n:Int}:zcI (.int k n)=some (.int k n):=(rfl)
@[simp] theorem z6p {s:ByteArray}:zcI (.string s)=some (.str (bytesOf s)):=(rfl)
@[simp] theorem zuW:zcI (.pointer none)=some .nilptr:=(rfl)
@[simp] theorem zyf:zcI (.slice none 0 0)=some .snil:=(rfl)
@[simp] theorem zuX:zcI (.map none)=some .nilmap:=(rfl)
@[simp] theorem zqU:zcI .nilFunc=some .nilFunc:=(rfl)
@[simp] theorem z7t {b w:Bool}:(V.bool b).guard? w=some b:=(rfl)
@[simp] theorem zy3 {w:Bool}:(V.tuple []).guard? w=some (!w):=(rfl)
@[simp] theorem zy2 {w:Bool}:undefV.guard? w=some (!w):=(rfl)
@[simp] theorem zAB {b:Bool}:(V.bool b).bool?=some b:=(rfl)
@[simp] theorem zHk {k:IntKind} {n:Int}:(V.int k n).int?=some (k,n):=(rfl)
@[simp] theorem zCP {k:IntKind} {n:Nat}:(V.int k (n:Int)).nat?=some n:=(rfl)
@[simp] theorem z9E {k:IntKind} {n:Nat}:(V.int k (Int.ofNat n)).nat?=some n:=(rfl)
@[simp] theorem zCO {k:IntKind}:(V.int k 0).nat?=some 0:=(rfl)
@[simp] theorem zGX {k:IntKind}:(V.int k 1).nat?=some 1:=(rfl)
@[simp] theorem zGY {k:IntKind} {n:Nat}:(V.int k (@OfNat.ofNat Int n instOfNat)).nat?=some n:=(rfl)
@[simp] theorem zFX {s:List Nat}:(V.str s).str?=some s:=(rfl)
@[simp] theorem zIq {s:List V}:(V.agg s).agg?=some s:=(rfl)
@[simp] theorem zxO {s:List V}:(V.tuple s).tuple?=some s:=(rfl)
@[simp] theorem zE8 {s:List V}:(V.agg s).cells=s:=(rfl)
@[simp] theorem zE7 {k:IntKind} {n:Int}:(V.int k n).cells=[.int k n]:=(rfl)
@[simp] theorem zAy {b:Bool}:(V.bool b).cells=[.bool b]:=(rfl)
@[simp] theorem zE3 {b:List Nat}:(V.str b).cells=[.str b]:=(rfl)
@[simp] theorem zAx:V.snil.cells=[.snil]:=(rfl)
@[simp] theorem zHZ {es:List (List V)} {t:Bool}:(V.sl es t).cells=[.sl es t]:=(rfl)
@[simp] theorem zE5 {a b c d:Nat} {t:Option Nat}:(V.own a b c d t).cells=[.own a b c d t]:=(rfl)
@[simp] theorem zE6 {a:Nat}:(V.map a).cells=[.map a]:=(rfl)
@[simp] theorem z4O:(V.nilmap).cells=[.nilmap]:=(rfl)
@[simp] theorem zE4 {a b c:Nat}:(V.ptr a b c).cells=[.ptr a b c]:=(rfl)
@[simp] theorem cells_func {f:Nat} {c:List V}:(V.func f c).cells=[.func f c]:=(rfl)
@[simp] theorem zxf:(V.nilFunc).cells=[.nilFunc]:=(rfl)
@[simp] theorem z7u {f:FuncId} {c:List V}:funcOf (.func f c)=some (f,c):=(rfl)
@[simp] theorem zIp:zuG []=true:=(rfl)
@[simp] theorem zFc {v:V} {l:List V}:zuG (v::l)=et v.isCell (zuG l):=(rfl)
@[simp] theorem z9M {k:IntKind} {n:Int}:(V.int k n).isCell=true:=(rfl)
@[simp] theorem z7e {b:Bool}:(V.bool b).isCell=true:=(rfl)
@[simp] theorem z9I {b:List Nat}:(V.str b).isCell=true:=(rfl)
@[simp] theorem z7c:V.snil.isCell=true:=(rfl)
@[simp] theorem zCY {es:List (List V)} {t:Bool}:(V.sl es t).isCell=true:=(rfl)
@[simp] theorem z9K {a b c d:Nat} {t:Option Nat}:(V.own a b c d t).isCell=true:=(rfl)
@[simp] theorem z9L {a:Nat}:(V.map a).isCell=true:=(rfl)
@[simp] theorem zw8:(V.nilmap).isCell=true:=(rfl)
@[simp] theorem z9J {a b c:Nat}:(V.ptr a b c).isCell=true:=(rfl)
@[simp] theorem z7d {f:Nat} {c:List V}:(V.func f c).isCell=true:=(rfl)
@[simp] theorem zva:(V.nilFunc).isCell=true:=(rfl)
@[simp] theorem zCW {i:TI} {a g off:Nat}:zg5 i hs (.ptr a g off)=ob (zbc hs a g) fun r=>zjR i r off:=(rfl)
@[simp] theorem zCV {i:TI} {cs:List V}:zg5 i hs (.ref cs)=ze1 i cs 0:=(rfl)
@[simp] theorem zwT {n a g off:Nat}:zbe n (.ptr a g off)=some (.ptr a g (off+n)):=(rfl)
@[simp] theorem zwS {n:Nat} {cs:List V}:zbe n (.ref cs)=some (.ref (zi5 n cs)):=(rfl)
@[simp] theorem zyw {e:TI} {n:Nat} {es:List (List V)} {t:Bool}:zcD e n (.sl es t)=gd (sizes e.size es) (ob (zeM es n) fun c=>some (.ref c)):=(rfl)
@[simp] theorem zwB {e:TI} {n a g off len:Nat} {c:Option Nat}:zcD e n (.own a g off len c)=gd (Nat.blt n len) (some (.ptr a g (off+n*e.size))):=(rfl)
@[simp] theorem z8Z {i:TI} {a g off:Nat} {v:V}:ze7 i hs (.ptr a g off) v=bi (isRow hs a) (ob (zbu v hs) fun r=>zb2 i a g off r.1 r.2) (zb2 i a g off v hs):=(rfl)
@[simp] theorem zIn {s g:Nat} {es:List (List V)} {a b c:Bool}:(Obj.arr s g es a b c).arr?=some (s,g,es,a,b,c):=(rfl)
@[simp] theorem zMC {es:List (V×V)}:(Obj.mp es).mp?=some es:=(rfl)
@[simp] theorem zQB {o:Obj} {k:Nat}:(hs.put k o).n=hs.n:=(rfl)
@[simp] theorem wr_n {o:Obj} {k:Nat}:(hs.wr k o).n=hs.n:=(rfl)
@[simp] theorem zL1 {n:Nat} {e:TypeId}:zpE (.array n e)=some e:=(rfl)
@[simp] theorem zw7 {n:Nat} {e:TypeId}:za1 (.array n e)=false:=(rfl)
@[simp] theorem z9P {n:Nat} {e:TypeId}:zbb (.array n e)=true:=(rfl)
@[simp] theorem zEm {e:TypeId}:elemOf (.slice e)=some (e,none):=(rfl)
@[simp] theorem zAn {n:Nat} {e:TypeId}:elemOf (.array n e)=some (e,some n):=(rfl)
@[simp] theorem zDg {e:TI} {n:Nat} {v:V}:z9W none e n v=zcD e n v:=(rfl)
@[simp] theorem zDf {k:Nat} {e:TI} {n:Nat} {v:V}:z9W (some k) e n v=gd (Nat.blt n k) (zbe (n*e.size) v):=(rfl)
@[simp] theorem z9f {e:TypeId}:zbN (.slice e)=some e:=(rfl)
@[simp] theorem zHf {k e:TypeId}:mapOf (.map k e)=some (k,e):=(rfl)
@[simp] theorem zIk {P:Program} {b:BinOp} {t:TypeId} {k k':IntKind} {m n:Int}:zxt P b t (.int k m) (.int k' n)=bi (zbm b) (zkC b k m n) (gd (zeC k k') (arith b k m n)):=(rfl)
@[simp] theorem z6L {k:IntKind}:zeC k k=true:=by cases k<;>rfl
@[simp] theorem zIj {P:Program} {b:BinOp} {t:TypeId} {m n:List Nat}:zxt P b t (.str m) (.str n)=zk4 b m n:=(rfl)
@[simp] theorem zEK {P:Program} {b:BinOp} {t:TypeId} {m n:Bool}:zxt P b t (.bool m) (.bool n)=zhv P b t (.bool m) (.bool n):=(rfl)
end
@[simp] theorem zCE {α β:Type} (a:α) (f:α→Option β):ob (some a) f=f a:=(rfl)
@[simp] theorem zCG {α β:Type} (f:α→Option β):ob none f=none:=(rfl)
@[simp] theorem zDl {β:Type} (x:Option β):gd true x=x:=(rfl)
@[simp] theorem zAa {β:Type} (x:Option β):gd false x=none:=(rfl)
@[simp] theorem zEL {α:Type} (x y:α):bi true x y=x:=(rfl)
@[simp] theorem zAD {α:Type} (x y:α):bi false x y=y:=(rfl)
@[simp] theorem z9z {α β:Type} (z:β) (f:α→β) (a:α):orc z f (some a)=f a:=(rfl)
@[simp] theorem z92 {α β:Type} (z:β) (f:α→β):orc z f none=z:=(rfl)
@[simp] theorem z9Z {α:Type} (n:Nat):(PT.leaf:PT α).get n=none:=(rfl)
@[simp] theorem zmZ {T:PT V}:zaK T []=some []:=(rfl)
@[simp] theorem zl7 {T:PT V} (o:Operand) (l:List Operand):zaK T (o::l)=ob (zB T o) fun v=>ob (zaK T l) fun r=>some (v::r):=(rfl)
attribute [simp] zF zaj zbY PT.set_get zaR ze2 zM zbZ zc1 zc7 zaI zm4 zm7 zel
@[simp] theorem zu8 {a b:Nat}:Nat.beq a b=decide (a=b):=by rw[Bool.eq_iff_iff];simp
@[simp] theorem zLv {a b:Nat}:Nat.ble a b=decide (a≤b):=by rw[Bool.eq_iff_iff];simp
@[simp] theorem zLt {a b:Nat}:Nat.blt a b=decide (a<b):=by rw[Bool.eq_iff_iff,J.blt_true];simp
@[simp ↓] theorem z5H {K:PT V→HS→Prop} {Q:Ex→PT V→HS→Prop} {T:PT V} {hs:HS}:Ex.then K Q .normal T hs=K T hs:=(rfl)
@[simp ↓] theorem zFT {K:PT V→HS→Prop} {Q:Ex→PT V→HS→Prop} {T:PT V} {hs:HS}:Ex.then K Q .ret T hs=Q .ret T hs:=(rfl)
@[simp ↓] theorem zB7 {i:Nat} {K:PT V→HS→Prop} {Q:Ex→PT V→HS→Prop} {T:PT V} {hs:HS}:Ex.then K Q (.exit i) T hs=Q (.exit i) T hs:=(rfl)
@[simp ↓] theorem zAC {id:Nat} {Q:Ex→PT V→HS→Prop} {T:PT V} {hs:HS}:Ex.inBlock id Q .normal T hs=Q .normal T hs:=(rfl)
@[simp ↓] theorem zLu {id:Nat} {Q:Ex→PT V→HS→Prop} {T:PT V} {hs:HS}:Ex.inBlock id Q .ret T hs=Q .ret T hs:=(rfl)
@[simp ↓] theorem zIi {id i:Nat} {Q:Ex→PT V→HS→Prop} {T:PT V} {hs:HS}:Ex.inBlock id Q (.exit i) T hs=if i=id then Q .normal T hs else Q (.exit i) T hs:=(rfl)
@[simp] theorem zGg {P:Program} {T:PT V} {hs:HS}:znI P T hs []=some []:=(rfl)
@[simp] theorem zGf {P:Program} {T:PT V} {hs:HS} {t:Tmp} {l:List ResultVar}:znI P T hs (.tmp t::l)=ob (T.get t) fun v=>ob (znI P T hs l) fun r=>some (v::r):=(rfl)
@[simp] theorem zCd {P:Program} {T:PT V} {hs:HS} {a:Tmp} {t:TypeId} {l:List ResultVar}:znI P T hs (.cell a t::l)=ob (ob (ti P t) fun i=>ob (T.get a) fun p=>zg5 i hs p) fun v=>ob (znI P T hs l) fun r=>some (v::r):=(rfl)
@[simp] theorem z8X {v:V}:zcR [v]=v:=(rfl)
@[simp] theorem z8W {v u:V} {l:List V}:zcR (v::u::l)=.tuple (v::u::l):=(rfl)
attribute [simp] zjl zfH
attribute [simp] zpt zjH zh3 zrh zeW
@[simp] theorem zLb {a b:Int}:eqI a b=decide (a=b):=by rw[Bool.eq_iff_iff,eqI_true];simp
@[simp] theorem z7b:zbm .add=false:=(rfl)
@[simp] theorem z6P:zbm .sub=false:=(rfl)
@[simp] theorem z6U:zbm .mul=false:=(rfl)
@[simp] theorem z6S:zbm .quo=false:=(rfl)
@[simp] theorem z6R:zbm .rem=false:=(rfl)
@[simp] theorem z6Z:zbm .eql=false:=(rfl)
@[simp] theorem z6T:zbm .neq=false:=(rfl)
@[simp] theorem z6V:zbm .lss=false:=(rfl)
@[simp] theorem z6W:zbm .leq=false:=(rfl)
@[simp] theorem z6X:zbm .gtr=false:=(rfl)
@[simp] theorem z6Y:zbm .geq=false:=(rfl)
@[simp] theorem z7a:zbm .and=false:=(rfl)
@[simp] theorem z9H:zbm .or=false:=(rfl)
@[simp] theorem z6O:zbm .xor=false:=(rfl)
section
variable {k:IntKind}{a b:Int}{hs:HS}{P:Program}{T:PT V}
@[simp] theorem zEZ:arith .add k a b=some (.int k (zeX k (a+b))):=(rfl)
@[simp] theorem zEO:arith .sub k a b=some (.int k (zeX k (a-b))):=(rfl)
@[simp] theorem zES:arith .mul k a b=some (.int k (zeX k (a*b))):=(rfl)
@[simp] theorem zEQ:arith .quo k a b=gd (nt (eqI b 0)) (some (.int k (zeX k (a.tdiv b)))):=(rfl)
@[simp] theorem zEP:arith .rem k a b=gd (nt (eqI b 0)) (some (.int k (a.tmod b))):=(rfl)
@[simp] theorem zEX:arith .eql k a b=some (.bool (eqI a b)):=(rfl)
@[simp] theorem zER:arith .neq k a b=some (.bool (nt (eqI a b))):=(rfl)
@[simp] theorem zET:arith .lss k a b=some (.bool (ltI a b)):=(rfl)
@[simp] theorem zEU:arith .leq k a b=some (.bool (leI a b)):=(rfl)
@[simp] theorem zEV:arith .gtr k a b=some (.bool (ltI b a)):=(rfl)
@[simp] theorem z6Q:zbm .shr=true:=(rfl)
@[simp] theorem z9h:zkC .shr k a b=ob (z6D b) fun m=>some (.int k (a.fdiv (2 ^ min m k.bits))):=(rfl)
@[simp] theorem zEY:arith .and k a b=some (.int k (zxw k a b)):=(rfl)
@[simp] theorem zEW:arith .geq k a b=some (.bool (leI b a)):=(rfl)
@[simp] theorem zBN {x y:List Nat}:zk4 .eql x y=some (.bool (zov x y)):=(rfl)
@[simp] theorem zBK {x y:List Nat}:zk4 .neq x y=some (.bool (nt (zov x y))):=(rfl)
@[simp] theorem zBL {x y:List Nat}:zk4 .lss x y=some (.bool (zw1 x y)):=(rfl)
@[simp] theorem zBM {x y:List Nat}:zk4 .gtr x y=some (.bool (bi (zw1 x y) false (nt (zov x y)))):=(rfl)
@[simp] theorem z6o {t:TypeId} {x y:V}:zhv P .eql t x y=ob (eqV P t x y) fun b=>some (.bool b):=(rfl)
@[simp] theorem z6n {t:TypeId} {x y:V}:zhv P .neq t x y=ob (eqV P t x y) fun b=>some (.bool (nt b)):=(rfl)
@[simp] theorem zHD {x y:V}:eqD .bool x y=ob x.bool? fun a=>ob y.bool? fun b=>some (zdz a b):=(rfl)
@[simp] theorem zEc {e:TypeId} {x y:V}:eqD (.slice e) x y=zhE (zwt x) (zwt y):=(rfl)
@[simp] theorem zLc {e f:TypeId} {x y:V}:eqD (.map e f) x y=zhE (zyk x) (zyk y):=(rfl)
@[simp] theorem z7K {e:TypeId} {x y:V}:eqD (.pointer e) x y=zhE (zwu x) (zwu y):=(rfl)
@[simp] theorem zHC {a b:Array TypeId} {c:Bool} {x y:V}:eqD (.func a b c) x y=zhE (zyl x) (zyl y):=(rfl)
@[simp] theorem zCK:zwt .snil=some true:=(rfl)
@[simp] theorem zGQ {a b c d:Nat} {e:Option Nat}:zwt (.own a b c d e)=some false:=(rfl)
@[simp] theorem zJM {e:List V} {l:List (List V)} {t:Bool}:zwt (.sl (e::l) t)=some false:=(rfl)
@[simp] theorem zGU:zyk .nilmap=some true:=(rfl)
@[simp] theorem zGV {i:Nat}:zyk (.map i)=some false:=(rfl)
@[simp] theorem zGT:zwu .nilptr=some true:=(rfl)
@[simp] theorem zGS {i g o:Nat}:zwu (.ptr i g o)=some false:=(rfl)
@[simp] theorem zGR {c:List V}:zwu (.ref c)=some false:=(rfl)
@[simp] theorem zGW:zyl .nilFunc=some true:=(rfl)
@[simp] theorem zCL {f:Nat} {c:List V}:zyl (.func f c)=some false:=(rfl)
@[simp] theorem zLa {a b:Option Bool}:zhE a b=ob a fun a=>ob b fun b=>bi a (some b) (bi b (some false) none):=(rfl)
@[simp] theorem zQQ {t:TypeId} {x y:V}:eqV P t x y=ob (ti P t) fun i=>eqD i.desc x y:=(rfl)
@[simp] theorem zDk {i g:Nat}:zbc hs i g=ob (hs.H.get i) fun o=>ob o.arr? fun a=>gd (et (Nat.beq g a.2.1) (nt (Nat.beq a.1 0))) (some (a.1,a.2.2)):=(rfl)
@[simp] theorem zHj {i:Nat}:isRow hs i=orc false (fun o=>orc false (fun a=>a.2.2.2.2.2) o.arr?) (hs.H.get i):=(rfl)
@[simp] theorem zCU {i:TI} {a:Nat×List (List V)×Bool×Bool×Bool} {off:Nat}:zjR i a off=ob (zeM a.2.1 (off / a.1)) fun e=>ze1 i e (off % a.1):=(rfl)
@[simp] theorem zJC {i:TI} {cs:List V} {off:Nat}:ze1 i cs off=bi (zbb i.desc) (zFd i.size (zgx i.size (zi5 off cs))) (zeM cs off):=(rfl)
@[simp] theorem zPB {n:Nat} {r:List V}:zFd n r=gd (Nat.beq (zR r) n) (some (.agg r)):=(rfl)
@[simp] theorem z8Y {i:TI} {id g off:Nat} {v:V}:zb2 i id g off v hs=ob (zbc hs id g) fun a=>gd (nt a.2.2.2.1) (gd (et (zuG v.cells) (et (Nat.beq (zR v.cells) i.size) (Nat.ble (off % a.1+i.size) a.1)))
 (ob (zeM a.2.1 (off / a.1)) fun e=>some (hs.wr id (.arr a.1 g (zuT a.2.1 (off / a.1) (zbl e (off % a.1) v.cells)) a.2.2.1 false a.2.2.2.2)))):=(rfl)
@[simp] theorem zC1 {α:Type} (n:Nat) (l:List α):zbl ([]:List α) n l=[]:=(rfl)
@[simp] theorem zuV {α:Type} (x:α) (t:List α):zbl (x::t) 0 []=x::t:=(rfl)
@[simp] theorem zhu {α:Type} (x:α) (t:List α) (y:α) (ys:List α):zbl (x::t) 0 (y::ys)=y::zbl t 0 ys:=(rfl)
@[simp] theorem ziN {α:Type} (x:α) (t:List α) (n:Nat) (l:List α):zbl (x::t) (n+1) l=x::zbl t n l:=(rfl)
@[simp] theorem zJS {ts:List TypeId} {vs:List V}:zgk P hs ts vs=ob (zrq P ts) fun i=>ob (zwk vs) fun x=>ob (zuZ hs i.desc x) fun n=>some (.int .i64 (Int.ofNat n),hs):=(rfl)
@[simp] theorem zHc {l:Bool} {vs:List V}:zca hs l vs=ob (zuS vs) fun p=>ob p.1.int? fun a=>ob p.2.int? fun b=>some (.int a.1 (bi (bi l (ltI b.2 a.2) (ltI a.2 b.2)) b.2 a.2),hs):=(rfl)
@[simp] theorem z7s {t:TypeId} {l:List TypeId}:zrq P (t::l)=ti P t:=(rfl)
@[simp] theorem zQC {i:Nat} {o:Obj}:(hs.put i o).H=hs.H.set i o:=(rfl)
@[simp] theorem zJw {i:Nat} {o:Obj}:(hs.put i o).log=hs.log:=(rfl)
@[simp] theorem wr_H {i:Nat} {o:Obj}:(hs.wr i o).H=hs.H.set i o:=(rfl)
@[simp] theorem zLJ {i:Nat} {o:Obj}:(hs.wr i o).log=i::hs.log:=(rfl)
@[simp] theorem zGM {v:V}:zwk [v]=some v:=(rfl)
@[simp] theorem zFQ {v u:V}:zuS [v,u]=some (v,u):=(rfl)
@[simp] theorem zHg {s:List Nat}:zuZ hs .string (.str s)=some (zR s):=(rfl)
@[simp] theorem zCX {e:TypeId}:zuZ hs (.slice e) .snil=some 0:=(rfl)
@[simp] theorem zJT {e:TypeId} {es:List (List V)} {t:Bool}:zuZ hs (.slice e) (.sl es t)=some (zR es):=(rfl)
@[simp] theorem zHh {e:TypeId} {i g o n:Nat} {c:Option Nat}:zuZ hs (.slice e) (.own i g o n c)=some n:=(rfl)
@[simp] theorem z6K {k e:TypeId}:zuZ hs (.map k e) .nilmap=some 0:=(rfl)
@[simp] theorem zHi {k e:TypeId} {i:Nat}:zuZ hs (.map k e) (.map i)=ob (hs.H.get i) fun o=>ob o.mp? fun es=>some (zR es):=(rfl)
@[simp] theorem zFK {x:Operand}:zjy T hs .not x=ob (zB T x) fun v=>ob v.bool? fun b=>some (.bool (nt b),hs):=(rfl)
@[simp] theorem zFL {x:Operand}:zjy T hs .neg x=ob (zB T x) fun v=>ob v.int? fun p=>some (.int p.1 (zeX p.1 (0-p.2)),hs):=(rfl)
@[simp] theorem zE1 {v:V}:znf (.int k) v=ob v.int? fun p=>some (.int k (zeX k p.2)):=(rfl)
@[simp] theorem zE0 {v:V}:znf .string v=ob v.str? fun s=>some (.str s):=(rfl)
@[simp] theorem z98 {i g o:Nat}:notNil (.ptr i g o)=true:=(rfl)
@[simp] theorem z97 {c:List V}:notNil (.ref c)=true:=(rfl)
@[simp] theorem z6s {f:Nat} {c:List V}:notNil (.func f c)=true:=(rfl)
@[simp] theorem zDb:zbb (.int k)=false:=(rfl)
@[simp] theorem z9O:zbb .bool=false:=(rfl)
@[simp] theorem zCZ:zbb .string=false:=(rfl)
@[simp] theorem z7f {e:TypeId}:zbb (.slice e)=false:=(rfl)
@[simp] theorem zDa {e f:TypeId}:zbb (.map e f)=false:=(rfl)
@[simp] theorem zw9 {e:TypeId}:zbb (.pointer e)=false:=(rfl)
@[simp] theorem z9N {e f:Array TypeId} {c:Bool}:zbb (.func e f c)=false:=(rfl)
@[simp] theorem zFt {n:Int} {r:V}:Gives r (.int k n) hs=(.int k n=r):=by show (some (V.int k n)=some r)=_;simp
@[simp] theorem zAL {b:Bool} {r:V}:Gives r (.bool b) hs=(.bool b=r):=by show (some (V.bool b)=some r)=_;simp
@[simp] theorem zFr {b:List Nat} {r:V}:Gives r (.str b) hs=(.str b=r):=by show (some (V.str b)=some r)=_;simp
end
section
variable {P:Program}{T:PT V}{hs:HS}{id:Nat}
@[simp] theorem zGe {n b:Nat}:zcT n b=decide (n*b≤1048576):=by show Nat.ble _ _=_;simp
@[simp] theorem zw0 {t:TypeId} {l c:Operand}:zaC P T hs id t l c=ob (ti P t) fun i=>ob (zB T l) fun a=>ob (zB T c) fun b=>zcb P i hs id a b:=(rfl)
@[simp] theorem z6H {i:TI} {l c:V}:zcb P i hs id l c=ob (zbN i.desc) fun el=>ob (ti P el) fun e=>ob l.nat? fun l=>ob c.nat? fun c =>
 gd (et (Nat.ble l c) (et (zcT c e.bytes) (et (Nat.ble (c*e.size) 1048576) (et (nt (Nat.beq e.size 0)) (et (Nat.beq (zR e.zero) e.size) (zo1 e.zero))))))
  (some (.own id 0 0 l (some c),hs.put id (.arr e.size 0 (z9o e.zero c) true false true))):=(rfl)
@[simp] theorem zxo {n:Nat} {cells:List V}:zcw T n [] cells=some cells:=(rfl)
@[simp] theorem zvg {n k:Nat} {o:Operand} {l:List (Nat×Operand)} {cells:List V}:zcw T n ((k,o)::l) cells=ob (zB T o) fun v=>gd (et (Nat.beq (zR v.cells) n) (Nat.ble (k*n+n) (zR cells))) (zcw T n l (zbl cells (k*n) v.cells)):=(rfl)
@[simp] theorem z4U {i:TI} {cells:List V}:zdH P T i [] cells=some cells:=(rfl)
@[simp] theorem zxn {i:TI} {k:Nat} {o:Operand} {l:List (Nat×Operand)} {cells:List V}:zdH P T i ((k,o)::l) cells=ob (zA i k) fun fd=>ob (ti P fd.type) fun fi=>ob (zB T o) fun v =>
 gd (et (Nat.beq (zR v.cells) fi.size) (Nat.ble (fd.offset+fi.size) (zR cells))) (zdH P T i l (zbl cells fd.offset v.cells)):=(rfl)
@[simp] theorem zyb {dr:Bool} {e:TI} {len:Nat} {es:List (List V)}:zdq dr T e len [] hs es=some (es,hs):=(rfl)
@[simp] theorem zwf {dr:Bool} {e:TI} {len k:Nat} {o:Operand} {l:List (Nat×Operand)} {es:List (List V)}:zdq dr T e len ((k,o)::l) hs es=ob (zB T o) fun v=>ob (zej dr v hs) fun r =>
 gd (et (Nat.beq (zR r.1.cells) e.size) (Nat.blt k len)) (zdq dr T e len l r.2 (zuT es k r.1.cells)):=(rfl)
@[simp] theorem z4N {v:V}:zej false v hs=zbu v hs:=(rfl)
@[simp] theorem z8b {v:V}:zej true v hs=gd v.pure (some (v,hs)):=(rfl)
@[simp] theorem zvf {dr:Bool} {t:TypeId} {len:Nat} {ps:Array (Nat×Operand)}:zaq P dr T hs id t len ps=ob (ti P t) fun i=>ob (zbN i.desc) fun el=>ob (ti P el) fun e =>
 gd (et (Nat.ble (len*e.size) 1048576) (et (nt (Nat.beq e.size 0)) (et (Nat.beq (zR e.zero) e.size) (zo1 e.zero))))
  (ob (zdq dr T e len ps.toList hs (z9o e.zero len)) fun r=>some (bi (Nat.beq e.bytes 128) (.own id 0 0 len (some len)) (.sl r.1 true),r.2.put id (bi (Nat.beq e.bytes 128) (.arr e.size 0 r.1 true false true) (.mp [])))):=(rfl)
@[simp] theorem z7Q {t:TypeId} {l:List TypeId}:zlA P (t::l)=ob (ti P t) fun i=>ob (zbN i.desc) fun el=>ti P el:=(rfl)
@[simp] theorem zyt {t u:TypeId}:zck [t,u]=some u:=(rfl)
@[simp] theorem zAI {ts:List TypeId} {vs:List V}:zcO P hs id ts vs=ob (zuS vs) fun p=>ob (zlA P ts) fun e=>ob (zck ts) fun u=>ob (ti P u) fun j=>ob (zbN j.desc) fun _=>zd9 e hs id p.1 p.2:=(rfl)
@[simp] theorem append_nil {e:TI} {x:V}:zd9 e hs id .snil x=ob (zcZ hs e.size x) fun new=>gd (et (sizes e.size new) (et (zW new) (et (nt (Nat.beq e.size 0)) (et (nt (Nat.beq e.bytes 0)) (Nat.beq (zR e.zero) e.size))))) (zem e hs id new):=(rfl)
@[simp] theorem zFa {e:TI} {es:List (List V)} {t:Bool} {x:V}:zd9 e hs id (.sl es t) x=ob (zcZ hs e.size x) fun new=>gd (et (sizes e.size new) (et (zW new) (et (nt (Nat.beq e.size 0)) (et (nt (Nat.beq e.bytes 0)) (Nat.beq (zR e.zero) e.size))))) (zfF e hs id es t new):=(rfl)
@[simp] theorem zAG {e:TI} {i g o n:Nat} {c:Option Nat} {x:V}:zd9 e hs id (.own i g o n c) x=ob (zcZ hs e.size x) fun new=>gd (et (sizes e.size new) (et (zW new) (et (nt (Nat.beq e.size 0)) (et (nt (Nat.beq e.bytes 0)) (Nat.beq (zR e.zero) e.size))))) (zd0 e hs id i g o n c new):=(rfl)
@[simp] theorem z8p {e:TI} {new:List (List V)}:zem e hs id new=bi (Nat.beq (zR new) 0) (some (.snil,hs)) (gd (zcT (zR new) e.bytes) (zdW e hs id (zR new) new)):=(rfl)
@[simp] theorem zAH {e:TI} {es new:List (List V)} {t:Bool}:zfF e hs id es t new=bi (Nat.beq (zR new) 0) (some (.sl es t,hs)) (gd (et t (et (zcT (zR es+zR new) e.bytes) (sizes e.size es))) (zdW e hs id (zR es+zR new) (zbB es new))):=(rfl)
@[simp] theorem zJN {e:TI} {n:Nat} {es:List (List V)}:zdW e hs id n es=some (.own id 0 0 n none,hs.put id (.arr e.size 0 es false false true)):=(rfl)
@[simp] theorem zvi {e:TI} {i g o n:Nat} {new:List (List V)}:zd0 e hs id i g o n none new=ob (zbc hs i g) fun a=>gd (et a.2.2.2.2 (et (Nat.beq a.1 e.size) (et (Nat.beq (o % a.1) 0) (zcT (n+zR new) e.bytes))))
 (bi (Nat.ble (o / a.1+n+zR new) (zR a.2.1)) (zcA hs i g o n none a new)
     (gd (et (nt a.2.2.2.1) (et (Nat.beq o 0) (Nat.ble n (zR a.2.1)))) (some (.own i (g+1) 0 (n+zR new) none,hs.wr i (.arr a.1 (g+1) (zbB (zgx n a.2.1) new) false false true))))):=(rfl)
@[simp] theorem zvh {e:TI} {i g o n c:Nat} {new:List (List V)}:zd0 e hs id i g o n (some c) new=ob (zbc hs i g) fun a=>gd (et a.2.2.2.2 (et (Nat.beq a.1 e.size) (et (Nat.beq (o % a.1) 0) (zcT (n+zR new) e.bytes))))
 (bi (Nat.ble (n+zR new) c) (zcA hs i g o n (some c) a new) (ob (zdF a.1 o n a.2.1) fun old=>zdW e hs id (n+zR new) (zbB old new))):=(rfl)
@[simp] theorem zAJ {i g o n:Nat} {c:Option Nat} {a:Nat×List (List V)×Bool×Bool×Bool} {new:List (List V)}:zcA hs i g o n c a new=gd (et (nt a.2.2.2.1) (Nat.ble (o / a.1+n+zR new) (zR a.2.1)))
 (some (.own i g o (n+zR new) c,hs.wr i (.arr a.1 g (zbl a.2.1 (o / a.1+n) new) a.2.2.1 false a.2.2.2.2))):=(rfl)
@[simp] theorem zHV {size off len:Nat} {es:List (List V)}:zdF size off len es=gd (et (Nat.beq (off % size) 0) (Nat.ble (off / size+len) (zR es))) (some (zgx len (zi5 (off / size) es))):=(rfl)
@[simp] theorem z7P {n:Nat}:zcZ hs n .snil=some []:=(rfl)
@[simp] theorem zEl {n:Nat} {es:List (List V)} {t:Bool}:zcZ hs n (.sl es t)=some es:=(rfl)
@[simp] theorem zAm {n i g o k:Nat} {c:Option Nat}:zcZ hs n (.own i g o k c)=ob (zbc hs i g) fun a=>gd (et a.2.2.2.2 (Nat.beq a.1 n)) (zdF a.1 o k a.2.1):=(rfl)
@[simp] theorem zHW {ts:List TypeId} {vs:List V}:zeV P hs ts vs=ob (zuS vs) fun p=>ob (zlA P ts) fun e=>ob (zck ts) fun _=>zne e hs p.1 p.2:=(rfl)
@[simp] theorem zEz {e:TI} {i g o n:Nat} {c:Option Nat} {x:V}:zne e hs (.own i g o n c) x=ob (zcZ hs e.size x) fun src=>zhS e hs i g o n src:=(rfl)
@[simp] theorem zEy {e:TI} {i g o n:Nat} {src:List (List V)}:zhS e hs i g o n src=ob (zbc hs i g) fun a=>gd (et (nt a.2.2.2.1) (et a.2.2.2.2 (et (Nat.beq a.1 e.size) (et (Nat.beq (o % a.1) 0) (et (sizes e.size src) (et (zW src) (Nat.ble (o / a.1+zuY (zR src) n) (zR a.2.1))))))))
 (some (.int .i64 (Int.ofNat (zuY (zR src) n)),hs.wr i (.arr a.1 g (zbl a.2.1 (o / a.1) (zgx (zuY (zR src) n) src)) a.2.2.1 false true))):=(rfl)
@[simp] theorem zMF {a b:Nat}:zuY a b=min a b:=by unfold zuY;rw[zaz];simp only[ble_true];split<;>omega
@[simp] theorem zG5 {v:V}:zbu v hs=ob (zbp hs v) fun v'=>some (v',zbd hs v.cells):=(rfl)
@[simp] theorem z9c {l:List V}:zbp hs (.agg l)=ob (zcE hs l) fun l=>some (.agg l):=(rfl)
@[simp] theorem zxR:zcE hs []=some []:=(rfl)
@[simp] theorem zv5 {v:V} {l:List V}:zcE hs (v::l)=ob (zb8 hs v) fun v'=>ob (zcE hs l) fun l'=>some (v'::l'):=(rfl)
@[simp] theorem zxU {i g o n:Nat} {c:Option Nat}:zb8 hs (.own i g o n c)=ob (zbc hs i g) fun a=>gd a.2.2.2.2 (ob (zdF a.1 o n a.2.1) fun l=>some (.sl l false)):=(rfl)
@[simp] theorem z9e {k:IntKind} {n:Int}:zb8 hs (.int k n)=some (.int k n):=(rfl)
@[simp] theorem z5O {b:Bool}:zb8 hs (.bool b)=some (.bool b):=(rfl)
@[simp] theorem z9d {b:List Nat}:zb8 hs (.str b)=some (.str b):=(rfl)
@[simp] theorem zBP {es:List (List V)} {b:Bool}:zb8 hs (.sl es b)=some (.sl es b):=(rfl)
@[simp] theorem z5N:zb8 hs .snil=some .snil:=(rfl)
@[simp] theorem zwP:zbd hs []=hs:=(rfl)
@[simp] theorem zvd {v:V} {l:List V}:zbd hs (v::l)=zbr (zbd hs l) v:=(rfl)
@[simp] theorem z7x {i g o n:Nat} {c:Option Nat}:zbr hs (.own i g o n c)=zad hs i:=(rfl)
@[simp] theorem z7y {k:IntKind} {n:Int}:zbr hs (.int k n)=hs:=(rfl)
@[simp] theorem zy6 {b:Bool}:zbr hs (.bool b)=hs:=(rfl)
@[simp] theorem z7w {b:List Nat}:zbr hs (.str b)=hs:=(rfl)
@[simp] theorem zAb {es:List (List V)} {b:Bool}:zbr hs (.sl es b)=hs:=(rfl)
@[simp] theorem zy5:zbr hs .snil=hs:=(rfl)
@[simp] theorem z7v {i:Nat}:zad hs i=orc hs (fun o=>orc hs (fun a=>hs.wr i (.arr a.1 a.2.1 a.2.2.1 a.2.2.2.1 true a.2.2.2.2.2)) o.arr?) (hs.H.get i):=(rfl)
theorem zjE {α:Type}:∀ (l:List α) (n:Nat) (m:List α),n≤l.length→n+m.length≤l.length→zbl l n m=l.take n++(m++l.drop (n+m.length)):=by
 intro l
 induction l with
 | nil =>
   intro n m hn hm
   have h0:m=[]:=List.eq_nil_of_length_eq_zero (by rw[List.length_nil]at hm;omega)
   subst h0
   simp
 | cons x l ih =>
   intro n m hn hm
   cases n with
   | zero =>
     cases m with
     |nil=>simp
     | cons y m =>
       rw[zhu,ih 0 m (by omega) (by simp at hm ⊢;omega)]
       simp
   | succ n =>
     rw[ziN,ih n m (by simpa using hn) (by simp at hm ⊢;omega)]
     simp[Nat.add_right_comm]
@[simp] theorem zBT {n:Nat}:sizes n []=true:=(rfl)
@[simp] theorem z9g {n:Nat} {x:List V} {l:List (List V)}:sizes n (x::l)=et (Nat.beq (zR x) n) (sizes n l):=(rfl)
@[simp] theorem z5a:zW []=true:=(rfl)
@[simp] theorem zx0 {x:List V} {l:List (List V)}:zW (x::l)=et (zuG x) (zW l):=(rfl)
end
section
variable {hs:HS}{r:V}
@[simp] theorem zFs {i g o n:Nat} {c:Option Nat}:Gives r (.own i g o n c) hs=(zb8 hs (.own i g o n c)=some r):=(rfl)
@[simp] theorem zFu {l:List V}:Gives r (.agg l) hs=((ob (zcE hs l) fun l=>some (V.agg l))=some r):=(rfl)
@[simp] theorem z8F {l:List V}:Gives r (.tuple l) hs=((ob (zaB hs l) fun l=>some (V.tuple l))=some r):=(rfl)
@[simp] theorem zIz {es:List (List V)} {t:Bool}:Gives r (.sl es t) hs=(.sl es t=r):=by show (some (V.sl es t)=some r)=_;simp
@[simp] theorem zAK:Gives r .snil hs=(.snil=r):=by show (some V.snil=some r)=_;simp
@[simp] theorem zxS:zaB hs []=some []:=(rfl)
@[simp] theorem zv6 {v:V} {l:List V}:zaB hs (v::l)=ob (zbp hs v) fun v'=>ob (zaB hs l) fun l'=>some (v'::l'):=(rfl)
@[simp] theorem zxT {i g o n:Nat} {c:Option Nat}:zbp hs (.own i g o n c)=zb8 hs (.own i g o n c):=(rfl)
@[simp] theorem z9b {k:IntKind} {n:Int}:zbp hs (.int k n)=some (.int k n):=(rfl)
@[simp] theorem z5M {b:Bool}:zbp hs (.bool b)=some (.bool b):=(rfl)
@[simp] theorem z9a {b:List Nat}:zbp hs (.str b)=some (.str b):=(rfl)
@[simp] theorem zBO {es:List (List V)} {b:Bool}:zbp hs (.sl es b)=some (.sl es b):=(rfl)
@[simp] theorem z5L:zbp hs .snil=some .snil:=(rfl)
end
end Go.J
/- Contracts in use. -/
namespace Go.J
abbrev Spec:=List V→HS→Option (V×HS)
def zkP(s:List V→Option V):Spec:=fun vs hs=>gd (zC vs) (ob (s vs) fun v=>some (v,hs))
def zE2(L:List (Nat×Spec))(f:FuncId)(vs:List V)(hs:HS):Option (V×HS):=lr none (fun p _ ih=>bi (Nat.beq f p.1) (p.2 vs hs) ih) L
def zEd(P:Program)(pol:FuncId→Nat)(L:List (Nat×Spec)):Env:={ P:=P,pol:=pol,con:=zE2 L }
structure Valid(ρ:Nat→Value)(P:Program)(f:Nat)(s:Spec):Prop where
 fn:zeF P f
 ok:∀ {vs hs v hs'},s vs hs=some (v,hs')→CallOk ρ P f vs hs v hs'
 kept:∀ {vs hs r},s vs hs=some r→Kept hs r.2
theorem zus(p:Nat×Spec)(L:List (Nat×Spec))(f:FuncId):zE2 (p::L) f=if f=p.1 then p.2 else zE2 L f:=by
 funext vs hs
 show bi (Nat.beq f p.1) (p.2 vs hs) (zE2 L f vs hs)=_
 rw[zaz]
 by_cases h:f=p.1
 · rw[if_pos (beq_true.2 h),if_pos h]
 · rw[if_neg (fun e=>h (beq_true.1 e)),if_neg h]
theorem zt{ρ:Nat→Value}{P:Program}{pol:FuncId→Nat}:∀ {L:List (Nat×Spec)},(∀ p∈L,Valid ρ P p.1 p.2)→ConsOk ρ (zEd P pol L):=by
 intro L h
 have key:∀ (M:List (Nat×Spec)),(∀ p∈M,p∈L)→∀ {f vs hs q},zE2 M f vs hs=some q→∃ p∈L,p.1=f∧p.2 vs hs=some q:=by
  intro M
  induction M with
  |nil=>intro _ f vs hs q hq;cases hq
  | cons p M ih =>
    intro hM f vs hs q hq
    rw[zus]at hq
    split at hq
    · rename_i e;exact⟨p,hM p (List.mem_cons_self ..),e.symm,hq⟩
    · exact ih (fun p hp=>hM p (List.mem_cons_of_mem _ hp)) hq
 refine⟨?_,?_,?_⟩
 · intro f vs hs v hs' hq
   obtain⟨p,hp,rfl,h2⟩:=key L (fun _ h=>h) hq
   exact(h p hp).ok h2
 · intro f vs hs q hq
   obtain⟨p,hp,rfl,h2⟩:=key L (fun _ h=>h) hq
   exact(h p hp).kept h2
 · intro f vs hs q hq
   obtain⟨p,hp,rfl,h2⟩:=key L (fun _ h=>h) hq
   exact(h p hp).fn
theorem valid_nil{ρ:Nat→Value}{P:Program}:∀ p∈([]:List (Nat×Spec)),Valid ρ P p.1 p.2:=fun p h=>by cases h
theorem zo{ρ:Nat→Value}{P:Program}{f:Nat}{s:Spec}{L:List (Nat×Spec)}(h:Valid ρ P f s)(hl:∀ p∈L,Valid ρ P p.1 p.2):∀ p∈(f,s)::L,Valid ρ P p.1 p.2:=by
 intro p hp
 rcases List.mem_cons.1 hp with rfl|hp
 · exact h
 · exact hl p hp
theorem Valid.pure{ρ:Nat→Value}(hρ:Good ρ){P:Program}(hP:P.follows .mixedOrders=true)(hN:zdN P){f:Nat}{s:List V→Option V}(hf:zeF P f)
 (h:∀ vs v,zC vs=true→s vs=some v→∃ E n,ConsOk ρ E∧E.P=P∧zxV E n f vs=some v):Valid ρ P f (zkP s) where
 fn:=hf
 ok:=by
  intro vs hs v hs' hq
  simp only[zkP,zz,zq]at hq
  obtain⟨hp,v',hv,hq⟩:=hq
  cases hq
  obtain⟨E,n,hc,rfl,hr⟩:=h vs v hp hv
  exact zeL hρ hc hP hN hr hp
 kept:=by
  intro vs hs q hq
  simp only[zkP,zz,zq]at hq
  obtain⟨_,v',_,hq⟩:=hq
  cases hq
  exact .refl _
theorem zeH{hs:HS}{u v:V}(h:zb8 hs u=some v)(hs1:v.scal1=true):u=v:=by
 unfold zb8 at h
 split at h
 · unfold zd3 at h
   simp only[zq,zz]at h
   obtain⟨_,_,_,_,_,h⟩:=h
   cases h;cases hs1
 · simp only[zz]at h
   exact Option.some.inj h.2
theorem zmx{hs:HS}:∀ {l m:List V},zcE hs l=some m→z4X m=true→l=m:=by
 intro l
 induction l with
 |nil=>intro m h _;cases h;rfl
 | cons u l ih =>
   intro m h hm
   replace h:(ob (zb8 hs u) fun v'=>ob (zcE hs l) fun l'=>some (v'::l'))=some m:=h
   simp only[zq]at h
   obtain⟨v,hv,r,hr,h⟩:=h
   cases h
   replace hm:et v.scal1 (z4X r)=true:=hm
   rw[et_true]at hm
   rw[zeH hv hm.1,ih hr hm.2]
theorem zm0{hs:HS}{u v:V}(h:zbp hs u=some v)(hs1:v.scal1=true):u=v:=by
 unfold zbp at h
 split at h
 · simp only[zq]at h
   obtain⟨_,_,h⟩:=h
   cases h;cases hs1
 · exact zeH h hs1
theorem zmy{hs:HS}:∀ {l m:List V},zaB hs l=some m→z4X m=true→l=m:=by
 intro l
 induction l with
 |nil=>intro m h _;cases h;rfl
 | cons u l ih =>
   intro m h hm
   replace h:(ob (zbp hs u) fun v'=>ob (zaB hs l) fun l'=>some (v'::l'))=some m:=h
   simp only[zq]at h
   obtain⟨v,hv,r,hr,h⟩:=h
   cases h
   replace hm:et v.scal1 (z4X r)=true:=hm
   rw[et_true]at hm
   rw[zm0 hv hm.1,ih hr hm.2]
theorem zoI {hs:HS} {u v:V} (h:still hs u=some v) (hv:v.scal=true):u=v:=by
 unfold still at h
 split at h
 · simp only[zq]at h
   obtain⟨l,hl,h⟩:=h
   cases h
   rw[zmy hl hv]
 · unfold zbp at h
   split at h
   · simp only[zq]at h
     obtain⟨l,hl,h⟩:=h
     cases h
     rw[zmx hl hv]
   · refine zeH h ?_
     rename_i _ hne1 _ hne2
     cases v<;>first|exact hv|skip
     all_goals
      exfalso
      unfold zb8 at h
      split at h
      · unfold zd3 at h
        simp only[zq,zz]at h
        obtain⟨_,_,_,_,_,h⟩:=h
        cases h
      · simp only[zz]at h
        have e:=Option.some.inj h.2
        first|exact hne1 _ e|exact hne2 _ e
def zq3(s:List V→Option V):Spec:=fun vs hs=>ob (zaB hs vs) fun vs'=>gd (zC vs') (ob (s vs') fun v=>gd v.scal (some (v,hs)))
theorem Valid.scal{ρ:Nat→Value}(hρ:Good ρ){P:Program}(hP:P.follows .mixedOrders=true)(hN:zdN P){f:Nat}{s:List V→Option V}(hf:zeF P f)
 (h:∀ vs v,zC vs=true→s vs=some v→∃ E n,ConsOk ρ E∧E.P=P∧zxV E n f vs=some v):Valid ρ P f (zq3 s) where
 fn:=hf
 ok:=by
  intro vs hs v hs' hq
  simp only[zq3,zz,zq]at hq
  obtain⟨vs',hst,hp,v',hv,hsc,hq⟩:=hq
  cases hq
  obtain⟨E,n,hc,rfl,hr⟩:=h vs' v hp hv
  simp only[zxV,zq]at hr
  obtain⟨⟨v1,hs1⟩,h1,h2⟩:=hr
  have e:v1=v:=zoI h2 hsc
  subst e
  refine zhX (ev:=evJ E n) hst (fun h=>(zos hρ hc hP hN n).call h) ?_
  simp only[zaY,zq,zz]
  exact⟨(v1,hs1),h1,hsc,rfl⟩
 kept:=by
  intro vs hs q hq
  simp only[zq3,zz,zq]at hq
  obtain⟨_,_,_,_,_,_,hq⟩:=hq
  cases hq
  exact .refl _
def zNo(s:List V→Option V):Spec:=fun vs hs=>ob (zaF vs hs) fun q=>gd (zC q.1) (ob (s q.1) fun v=>some (v,q.2))
section
variable {vs:List V}{hs:HS}{s:List V→Option V}{K:V×HS→Prop}
@[simp] theorem zG9:ok (zkP s vs hs) K=(zC vs=true∧ok (s vs) fun v=>K (v,hs)):=by simp only[zkP,zbY,zaj,zF]
@[simp] theorem zGb:ok (zq3 s vs hs) K=ok (zaB hs vs) fun vs'=>zC vs'=true∧ok (s vs') fun v=>v.scal=true∧K (v,hs):=by simp only[zq3,zbY,zaj,zF]
@[simp] theorem zKA:ok (zNo s vs hs) K=ok (zaF vs hs) fun q=>zC q.1=true∧ok (s q.1) fun v=>K (v,q.2):=by simp only[zNo,zbY,zaj,zF]
@[simp] theorem zwa:zaF [] hs=some ([],hs):=(rfl)
@[simp] theorem zuU {v:V} {l:List V}:zaF (v::l) hs=ob (zbu v hs) fun r=>ob (zaF l r.2) fun q=>some (r.1::q.1,q.2):=(rfl)
@[simp] theorem z8r:zC []=true:=(rfl)
@[simp] theorem z4Y {v:V} {l:List V}:zC (v::l)=(v.pure&&zC l):=by rw[← zpt];rfl
@[simp] theorem zG8 {l:List V}:(V.agg l).pure=zo1 l:=(rfl)
@[simp] theorem zIo:zo1 []=true:=(rfl)
@[simp] theorem zFb {v:V} {l:List V}:zo1 (v::l)=(v.pure2&&zo1 l):=by rw[← zpt];rfl
@[simp] theorem zG7 {k:IntKind} {n:Int}:(V.int k n).pure=true:=(rfl)
@[simp] theorem zCo {b:Bool}:(V.bool b).pure=true:=(rfl)
@[simp] theorem zG6 {b:List Nat}:(V.str b).pure=true:=(rfl)
@[simp] theorem zJx {es:List (List V)} {t:Bool}:(V.sl es t).pure=true:=(rfl)
@[simp] theorem zCn:V.snil.pure=true:=(rfl)
@[simp] theorem zCq {k:IntKind} {n:Int}:(V.int k n).pure2=true:=(rfl)
@[simp] theorem z9t {b:Bool}:(V.bool b).pure2=true:=(rfl)
@[simp] theorem zCp {b:List Nat}:(V.str b).pure2=true:=(rfl)
@[simp] theorem zGA {es:List (List V)} {t:Bool}:(V.sl es t).pure2=true:=(rfl)
@[simp] theorem z9s:V.snil.pure2=true:=(rfl)
@[simp] theorem zya:V.nilmap.pure2=true:=(rfl)
@[simp] theorem zwc:V.nilFunc.pure2=true:=(rfl)
end
end Go.J
