import Derived.Test.YtfgmnebfhemnpaaGreatJF
set_option linter.all false
noncomputable section
/- Rules of rewriting for symbolic runs. -/
namespace Go.J
section
variable {E:Env}{id:Nat}{T:PT V}{hs:HS}{K:V->HS->Prop}{sz:Nat}
@[simp ↓] theorem zRN {R:PT V->HS->Prop}:Rs E sz [] id T hs R=R T hs:=(rfl)
@[simp ↓] theorem zN8 {d:Option Tmp} {op:Op} {g:Option (Tmp×Bool)} {l:List SOp} {R:PT V->HS->Prop}:Rs E sz (⟨d,op,g⟩::l) id T hs R=wpS E id T hs ⟨d,op,g⟩ fun v hs'=>put sz T d v fun T1=>Rs E sz l (id+1) T1 hs' R:=(rfl)
@[simp ↓] theorem zSb {d:Option Tmp} {op:Op}:wpS E id T hs ⟨d,op,none⟩ K=wpO E id T hs op K:=(rfl)
@[simp ↓] theorem zSc {d:Option Tmp} {op:Op} {t:Tmp} {w:Bool}:wpS E id T hs ⟨d,op,some (t,w)⟩ K=ok (T.get t) fun v=>ok (v.guard? w) fun q=>br (q=w) (wpO E id T hs op K) (K undefV hs):=by
  simp only[z9T];rfl
@[simp ↓] theorem zIs {d:Tmp} {v:V} {R:PT V->Prop}:put sz T (some d) v R=(d<sz/\R (T.set d v)):=(rfl)
@[simp ↓] theorem zIu {v:V} {R:PT V->Prop}:put sz T none v R=R T:=(rfl)
theorem zgN{p:Prop}:((0:Nat)≠0->p)=True:=propext ⟨fun _=>trivial,fun _ h=>absurd rfl h⟩
theorem and_one{p:Prop}:((1:Nat)≠0->p)=p:=propext ⟨fun h=>h (by decide),fun h _=>h⟩
theorem zn8{p:Prop}:((2:Nat)≠0->p)=p:=propext ⟨fun h=>h (by decide),fun h _=>h⟩
theorem zkw{op:Op}(hc:zM op=0)(hd:wpO E id T hs op K=((zM op≠0->hs.H.get id=none)/\ok (opJ E.P false T hs id (opR op)) fun r=>K r.1 r.2)):wpO E id T hs op K=ok (opJ E.P false T hs id (opR op)) fun r=>K r.1 r.2:=by
 rw[hd,hc,zgN,true_and]
@[simp ↓] theorem wp_move {x:Operand}:wpO E id T hs (.move x) K=ok (zC T x) fun v=>K v hs:=by
  rw[zkw rfl rfl];show ok (ob (zC T x) fun v=>some (v,hs)) _=_;simp only[zak,zF]
@[simp ↓] theorem wp_assign {x:Operand}:wpO E id T hs (.assign x) K=ok (zC T x) fun v=>K v hs:=by
  rw[zkw rfl rfl];show ok (ob (zC T x) fun v=>some (v,hs)) _=_;simp only[zak,zF]
@[simp ↓] theorem zKt {c a b:Operand}:wpO E id T hs (.pick c a b) K=ok (zC T c) fun v=>ok v.bool? fun q=>ok (bi q (zC T a) (zC T b)) fun v=>K v hs:=by
  rw[zkw rfl rfl];show ok (zjR T hs c a b) _=_;simp only[zjR,zak,zF]
@[simp ↓] theorem zKu {t:TypeId} {a:Operand}:wpO E id T hs (.load t a) K=ok (ti E.P t) fun i=>ok (zC T a) fun p=>ok (zgB i hs p) fun v=>K v hs:=by
  rw[zkw rfl rfl];show ok (zd7 E.P T hs t a) _=_;simp only[zd7,zak,zF]
@[simp ↓] theorem zHu {b:BinOp} {t u:TypeId} {x y:Operand}:wpO E id T hs (.binOp b t x y u) K=ok (zC T x) fun p=>ok (zC T y) fun q=>ok (zyz E.P b t p q) fun v=>K v hs:=by
  rw[zkw rfl rfl];show ok (zfH E.P T hs b t x y) _=_;simp only[zfH,zak,zF]
@[simp ↓] theorem zKs {b:UnOp} {t:TypeId} {x:Operand}:wpO E id T hs (.unOp b t x) K=ok (zj9 T hs b x) fun r=>K r.1 r.2:=by
  rw[zkw rfl rfl];rfl
@[simp ↓] theorem zyM {t:TypeId} {x:Operand} {f:Nat}:wpO E id T hs (.fieldAddr t x f) K=ok (ti E.P t) fun i=>ok (zB i f) fun fd=>ok (ti E.P fd.type) fun fi=>nt (Nat.beq fi.size 0)=true/\ok (zC T x) fun v=>ok (zbf fd.offset v) fun r=>K r hs:=by
  rw[zkw rfl rfl];show ok (zb4 E.P T hs t x f) _=_;simp only[zb4,zak,zbX,zF]
@[simp ↓] theorem zHt {t:TypeId} {x:Operand} {f:Nat}:wpO E id T hs (.field t x f) K=ok (ti E.P t) fun i=>ok (zB i f) fun fd=>ok (ti E.P fd.type) fun fi=>ok (zC T x) fun v=>ok v.agg? fun cs=>ok (ze6 fi cs fd.offset) fun v=>K v hs:=by
  rw[zkw rfl rfl];show ok (zf8 E.P T hs t x f) _=_;simp only[zf8,zak,zF]
@[simp ↓] theorem zyL {t:TypeId} {x ix:Operand}:wpO E id T hs (.indexAddr t x ix) K=ok (ti E.P t) fun i=>ok (elemOf i.desc) fun el=>ok (ti E.P el.1) fun e=>ok (zC T x) fun v=>ok (zC T ix) fun n=>ok n.nat? fun n=>ok (zB6 el.2 e n v) fun r=>K r hs:=by
  rw[zkw rfl rfl];show ok (zb3 E.P T hs t x ix) _=_;simp only[zb3,zak,zF]
@[simp ↓] theorem zHs {t:TypeId} {x ix:Operand}:wpO E id T hs (.index t x ix) K=ok (ti E.P t) fun i=>isStr i.desc=true/\ok (zC T x) fun v=>ok v.str? fun s=>ok (zC T ix) fun n=>ok n.nat? fun n=>ok (zeQ s n) fun b=>K (.int .u8 (Int.ofNat b)) hs:=by
  rw[zkw rfl rfl];show ok (zf4 E.P T hs t x ix) _=_;simp only[zf4,zak,zbX,zF]
@[simp ↓] theorem zAw {x:Operand} {k:Nat}:wpO E id T hs (.extract x k) K=ok (zC T x) fun v=>ok v.tuple? fun vs=>ok (zeQ vs k) fun v=>K v hs:=by
  rw[zkw rfl rfl];show ok (zc6 T hs x k) _=_;simp only[zc6,zak,zF]
@[simp ↓] theorem z6T {x:Operand}:wpO E id T hs (.nilCheck x) K=ok (zC T x) fun v=>notNil v=true/\K v hs:=by
  rw[zkw rfl rfl];show ok (zbS T hs x) _=_;simp only[zbS,zak,zbX,zF]
@[simp ↓] theorem wp_build {t:TypeId} {ps:Array (Nat×Operand)}:wpO E id T hs (.build t ps) K=ok (ti E.P t) fun i=>ok (bi (za2 i.desc) (gd (zaR E.P (fieldsOf i.desc)) (zdJ E.P T i ps.toList i.zero)) (ob (zqa i.desc) fun el=>ob (ti E.P el) fun e=>zcw T e.size ps.toList i.zero)) fun cs=>K (.agg cs) hs:=by
  rw[zkw rfl rfl];show ok (zc9 E.P T hs t ps) _=_;unfold zc9;simp only[zak (ti E.P t)];congr 1;funext i;rw[zak];congr 1;funext cs;rw[zF]
@[simp ↓] theorem zHr {t:TypeId} {x:Operand} {lo hi mx:Option Operand}:wpO E id T hs (.slice t x lo hi mx) K=ok (ti E.P t) fun i=>ok (zC T x) fun v=>ok (zbN E.P T hs i v lo hi mx) fun r=>K r hs:=by
  rw[zkw rfl rfl];show ok (zc2 E.P T hs t x lo hi mx) _=_;simp only[zc2,zak,zF]
@[simp ↓] theorem zC3 {t:TypeId} {m k:Operand} {b:Bool}:wpO E id T hs (.lookup t m k b) K=ok (zan E.P T hs t m k b) fun r=>K r.1 r.2:=by
  rw[zkw rfl rfl];rfl
@[simp ↓] theorem zAx {s d:TypeId} {x:Operand}:wpO E id T hs (.convert s d x) K=ok (ti E.P s) fun _=>ok (ti E.P d) fun j=>ok (zC T x) fun v=>ok (znt j.desc v) fun r=>K r hs:=by
  rw[zkw rfl rfl];show ok (zkm E.P T hs s d x) _=_;simp only[zkm,zak,zF]
@[simp ↓] theorem z6U {f:FuncId} {cs:Array Operand}:wpO E id T hs (.makeFunc (.func f) #[] cs) K=ok (zaL T cs.toList) fun l=>K (.func f l) hs:=by
  rw[zkw rfl rfl];show ok (zdt T hs (.func f) #[] cs) _=_;show ok (gd true (ob (zaL T cs.toList) fun l=>some (V.func f l,hs))) _=_;simp only[zbA,zak,zF]
@[simp ↓] theorem zyK {t:TypeId} {x:Operand}:wpO E id T hs (.makeInterface t x) K=ok (ti E.P t) fun i=>nt (isIface i.desc)=true/\ok (zC T x) fun v=>K (.iface t v) hs:=by
  rw[zkw rfl rfl];show ok (zcb E.P T hs t x) _=_;simp only[zcb,zak,zbX,zF]
theorem zC5{op:Op}(hc:zM op=1)(hd:wpO E id T hs op K=((zM op≠0->hs.H.get id=none)/\ok (opJ E.P false T hs id (opR op)) fun r=>K r.1 r.2)):wpO E id T hs op K=(hs.H.get id=none/\ok (opJ E.P false T hs id (opR op)) fun r=>K r.1 r.2):=by
 rw[hd,hc,and_one]
theorem zNJ{op:Op}(hc:zM op=2)(hd:wpO E id T hs op K=((zM op≠0->hs.H.get id=none)/\ok (opJ E.P false T hs id (opR op)) fun r=>K r.1 r.2)):wpO E id T hs op K=(hs.H.get id=none/\ok (opJ E.P false T hs id (opR op)) fun r=>K r.1 r.2):=by
 rw[hd,hc,zn8]
@[simp ↓] theorem zHv {t:TypeId}:wpO E id T hs (.alloc t) K=(hs.H.get id=none/\ok (ti E.P t) fun i=>Nat.beq (zS i.zero) i.size=true/\K (.ptr id 0 0) (hs.put id (.arr i.size 0 [i.zero] true false false))):=by
  rw[zC5 rfl rfl];show (_/\ok (zdL E.P hs id t) _)=_;simp only[zdL,zak,zbX,zF]
@[simp ↓] theorem zNI {t:TypeId} {x:Operand}:wpO E id T hs (.box t x) K=(hs.H.get id=none/\ok (zC T x) fun v=>K (.ptr id 0 0) (hs.put id (.arr (zS v.cells) 0 [v.cells] true false false))):=by
  rw[zC5 rfl rfl];show (_/\ok (zqi T hs id x) _)=_;simp only[zqi,zak,zF]
@[simp ↓] theorem wp_buildSlice {t:TypeId} {n:Nat} {ps:Array (Nat×Operand)}:wpO E id T hs (.buildSlice t n ps) K=(hs.H.get id=none/\ok (zar E.P false T hs id t n ps) fun r=>K r.1 r.2):=by
  rw[zC5 rfl rfl];rfl
@[simp ↓] theorem zyJ {t:TypeId} {l c:Operand}:wpO E id T hs (.makeSlice t l c) K=(hs.H.get id=none/\ok (zaE E.P T hs id t l c) fun r=>K r.1 r.2):=by
  rw[zC5 rfl rfl];rfl
@[simp ↓] theorem zAv {t:TypeId}:wpO E id T hs (.makeMap t none) K=(hs.H.get id=none/\K (.map id) (hs.put id (.mp []))):=by
  rw[zC5 rfl rfl];show (_/\ok (gd true (some (V.map id,hs.put id (.mp [])))) _)=_;simp only[zbA,zF]
@[simp ↓] theorem zHq {t:TypeId} {a x:Operand}:wpO E id T hs (.store t a x) K=(hs.H.get id=none/\ok (ti E.P t) fun i=>ok (zC T a) fun p=>ok (zC T x) fun v=>ok (zeA i hs p v) fun hs'=>K undefV hs'):=by
  rw[zNJ rfl rfl];show (_/\ok (zaX E.P T hs t a x) _)=_;simp only[zaX,zak,zF]
@[simp ↓] theorem zyI {t:TypeId} {m k x:Operand}:wpO E id T hs (.mapUpdate t m k x) K=(hs.H.get id=none/\ok (zU E.P T hs t m k x) fun r=>K r.1 r.2):=by
  rw[zNJ rfl rfl];rfl
@[simp ↓] theorem zKw {x:Operand} {xs:Array Operand} {ts:Array TypeId}:wpO E id T hs (.call ⟨.value x,xs,ts⟩) K=(hs.H.get id=none/\ok (zC T x) fun v=>ok (funcOf v) fun p=>ok (zaL T xs.toList) fun vs=>ok (E.con p.1 (zbB vs p.2) hs) fun r=>K r.1 r.2):=(rfl)
@[simp ↓] theorem zNH {xs:Array Operand} {ts:Array TypeId}:wpO E id T hs (.call ⟨.builtin .len,xs,ts⟩) K=ok (zaL T xs.toList) fun vs=>ok (zgp E.P hs ts.toList vs) fun r=>K r.1 r.2:=by
  show ((zM (.call ⟨.builtin .len,xs,ts⟩)≠0->_)/\_)=_;rw[show zM (.call ⟨.builtin .len,xs,ts⟩)=0 from rfl,zgN,true_and];rfl
@[simp ↓] theorem zNF {xs:Array Operand} {ts:Array TypeId}:wpO E id T hs (.call ⟨.builtin .min,xs,ts⟩) K=ok (zaL T xs.toList) fun vs=>ok (zbZ hs true vs) fun r=>K r.1 r.2:=by
  show ((zM (.call ⟨.builtin .min,xs,ts⟩)≠0->_)/\_)=_;rw[show zM (.call ⟨.builtin .min,xs,ts⟩)=0 from rfl,zgN,true_and];rfl
@[simp ↓] theorem zNG {xs:Array Operand} {ts:Array TypeId}:wpO E id T hs (.call ⟨.builtin .max,xs,ts⟩) K=ok (zaL T xs.toList) fun vs=>ok (zbZ hs false vs) fun r=>K r.1 r.2:=by
  show ((zM (.call ⟨.builtin .max,xs,ts⟩)≠0->_)/\_)=_;rw[show zM (.call ⟨.builtin .max,xs,ts⟩)=0 from rfl,zgN,true_and];rfl
@[simp ↓] theorem zC4 {xs:Array Operand} {ts:Array TypeId}:wpO E id T hs (.call ⟨.builtin .append,xs,ts⟩) K=(hs.H.get id=none/\ok (zaL T xs.toList) fun vs=>ok (zcQ E.P hs id ts.toList vs) fun r=>K r.1 r.2):=by
  show ((zM (.call ⟨.builtin .append,xs,ts⟩)≠0->_)/\_)=_;rw[show zM (.call ⟨.builtin .append,xs,ts⟩)=2 from rfl,zn8];rfl
@[simp ↓] theorem zKv {xs:Array Operand} {ts:Array TypeId}:wpO E id T hs (.call ⟨.builtin .copy,xs,ts⟩) K=(hs.H.get id=none/\ok (zaL T xs.toList) fun vs=>ok (zeZ E.P hs ts.toList vs) fun r=>K r.1 r.2):=by
  show ((zM (.call ⟨.builtin .copy,xs,ts⟩)≠0->_)/\_)=_;rw[show zM (.call ⟨.builtin .copy,xs,ts⟩)=2 from rfl,zn8];rfl
attribute [simp ↓] zvw zoI
@[congr] theorem zJX {c c' A B:Prop} (h:c=c'):br c A B=br c' A B:=by rw[h]
@[congr] theorem zIE {α:Type} {x y:Option α} {K:α->Prop} (h:x=y):ok x K=ok y K:=by rw[h]
@[congr] theorem zKq {rd:Bool} {s:SC} {T T':PT V} {hs hs':HS} {Q:Ex->PT V->HS->Prop} (h1:T=T') (h2:hs=hs'):Js E rd sz s T hs Q=Js E rd sz s T' hs' Q:=by rw[h1,h2]
@[congr] theorem z6P {P:Program} {fn:Func} {K:V->HS->Prop} {ex ex':Ex} {T T':PT V} {hs hs':HS} (h0:ex=ex') (h1:T=T') (h2:hs=hs'):Leaves P fn K ex T hs=Leaves P fn K ex' T' hs':=by rw[h0,h1,h2]
@[congr] theorem zIG {α β:Type} {x y:Option α} {f:α->Option β} (h:x=y):ob x f=ob y f:=by rw[h]
@[congr] theorem zJp {β:Type} {c d:Bool} {x:Option β} (h:c=d):gd c x=gd d x:=by rw[h]
@[congr] theorem zEm {α β:Type} {z:β} {f:α->β} {x y:Option α} (h:x=y):orc z f x=orc z f y:=by rw[h]
@[congr] theorem zKd {α:Type} {c d:Bool} {x y:α} (h:c=d):bi c x y=bi d x y:=by rw[h]
@[simp] theorem zRD {α:Type} {p:Prop} [Decidable p] {x y:α}:bi (decide p) x y=if p then x else y:=by rw[za0];simp
@[simp ↓] theorem zEn {α:Type} (a:α) (K:α->Prop):ok (some a) K=K a:=zF a K
@[simp ↓] theorem zL9 {α β:Type} (x:Option α) (f:α->Option β) (K:β->Prop):ok (ob x f) K=ok x fun a=>ok (f a) K:=zak x f K
@[simp ↓] theorem zLA {α:Type} (c:Bool) (x:Option α) (K:α->Prop):ok (gd c x) K=(c=true/\ok x K):=zbX c x K
@[simp ↓] theorem zEx {α β:Type} (a:α) (f:α->Option β):ob (some a) f=f a:=(rfl)
@[simp ↓] theorem zEY {β:Type} (x:Option β):gd true x=x:=(rfl)
@[simp ↓] theorem zBc {α β:Type} (z:β) (f:α->β) (a:α):orc z f (some a)=f a:=(rfl)
@[simp ↓] theorem zGD {α:Type} (x y:α):bi true x y=x:=(rfl)
@[simp ↓] theorem zCq {α:Type} (x y:α):bi false x y=y:=(rfl)
@[simp] theorem zFM {t:Tmp}:zC T (.tmp t)=T.get t:=(rfl)
@[simp] theorem z90 {v:Value}:zC T (.const v)=zcK v:=(rfl)
@[simp] theorem zBE {f:FuncId}:zC T (.func f)=some (.func f []):=(rfl)
@[simp] theorem zzp {b:Bool}:zcK (.bool b)=some (.bool b):=(rfl)
@[simp] theorem z8j {k:IntKind} {n:Int}:zcK (.int k n)=some (.int k n):=(rfl)
@[simp] theorem z8i {s:ByteArray}:zcK (.string s)=some (.str (bytesOf s)):=(rfl)
@[simp] theorem zvQ:zcK (.pointer none)=some .nilptr:=(rfl)
@[simp] theorem zzo:zcK (.slice none 0 0)=some .snil:=(rfl)
@[simp] theorem zvR:zcK (.map none)=some .nilmap:=(rfl)
@[simp] theorem zry:zcK .nilFunc=some .nilFunc:=(rfl)
@[simp] theorem z9h {b w:Bool}:(V.bool b).guard? w=some b:=(rfl)
@[simp] theorem zzD {w:Bool}:(V.tuple []).guard? w=some (!w):=(rfl)
@[simp] theorem zzC {w:Bool}:undefV.guard? w=some (!w):=(rfl)
@[simp] theorem zCn {b:Bool}:(V.bool b).bool?=some b:=(rfl)
@[simp] theorem zJb {k:IntKind} {n:Int}:(V.int k n).int?=some (k,n):=(rfl)
@[simp] theorem zE7 {k:IntKind} {n:Nat}:(V.int k (n:Int)).nat?=some n:=(rfl)
@[simp] theorem zBo {k:IntKind} {n:Nat}:(V.int k (Int.ofNat n)).nat?=some n:=(rfl)
@[simp] theorem zE6 {k:IntKind}:(V.int k 0).nat?=some 0:=(rfl)
@[simp] theorem zIO {k:IntKind}:(V.int k 1).nat?=some 1:=(rfl)
@[simp] theorem zIP {k:IntKind} {n:Nat}:(V.int k (@OfNat.ofNat Int n instOfNat)).nat?=some n:=(rfl)
@[simp] theorem zHO {s:List Nat}:(V.str s).str?=some s:=(rfl)
@[simp] theorem zKi {s:List V}:(V.agg s).agg?=some s:=(rfl)
@[simp] theorem zyX {s:List V}:(V.tuple s).tuple?=some s:=(rfl)
@[simp] theorem zGy {s:List V}:(V.agg s).cells=s:=(rfl)
@[simp] theorem zGx {k:IntKind} {n:Int}:(V.int k n).cells=[.int k n]:=(rfl)
@[simp] theorem zCa {b:Bool}:(V.bool b).cells=[.bool b]:=(rfl)
@[simp] theorem zGt {b:List Nat}:(V.str b).cells=[.str b]:=(rfl)
@[simp] theorem zBZ:V.snil.cells=[.snil]:=(rfl)
@[simp] theorem zJS {es:List (List V)} {t:Bool}:(V.sl es t).cells=[.sl es t]:=(rfl)
@[simp] theorem zGv {a b c d:Nat} {t:Option Nat}:(V.own a b c d t).cells=[.own a b c d t]:=(rfl)
@[simp] theorem zGw {a:Nat}:(V.map a).cells=[.map a]:=(rfl)
@[simp] theorem z6C:(V.nilmap).cells=[.nilmap]:=(rfl)
@[simp] theorem zGu {a b c:Nat}:(V.ptr a b c).cells=[.ptr a b c]:=(rfl)
@[simp] theorem cells_func {f:Nat} {c:List V}:(V.func f c).cells=[.func f c]:=(rfl)
@[simp] theorem zyl:(V.nilFunc).cells=[.nilFunc]:=(rfl)
@[simp] theorem z9l {f:FuncId} {c:List V}:funcOf (.func f c)=some (f,c):=(rfl)
@[simp] theorem zKh:zvA []=true:=(rfl)
@[simp] theorem zGU {v:V} {l:List V}:zvA (v::l)=et v.isCell (zvA l):=(rfl)
@[simp] theorem zBw {k:IntKind} {n:Int}:(V.int k n).isCell=true:=(rfl)
@[simp] theorem z8U {b:Bool}:(V.bool b).isCell=true:=(rfl)
@[simp] theorem zBs {b:List Nat}:(V.str b).isCell=true:=(rfl)
@[simp] theorem z8S:V.snil.isCell=true:=(rfl)
@[simp] theorem zEK {es:List (List V)} {t:Bool}:(V.sl es t).isCell=true:=(rfl)
@[simp] theorem zBu {a b c d:Nat} {t:Option Nat}:(V.own a b c d t).isCell=true:=(rfl)
@[simp] theorem zBv {a:Nat}:(V.map a).isCell=true:=(rfl)
@[simp] theorem zxD:(V.nilmap).isCell=true:=(rfl)
@[simp] theorem zBt {a b c:Nat}:(V.ptr a b c).isCell=true:=(rfl)
@[simp] theorem z8T {f:Nat} {c:List V}:(V.func f c).isCell=true:=(rfl)
@[simp] theorem zvV:(V.nilFunc).isCell=true:=(rfl)
@[simp] theorem zEI {i:TI} {a g off:Nat}:zgB i hs (.ptr a g off)=ob (zbd hs a g) fun r=>zkh i r off:=(rfl)
@[simp] theorem zEH {i:TI} {cs:List V}:zgB i hs (.ref cs)=ze6 i cs 0:=(rfl)
@[simp] theorem zxX {n a g off:Nat}:zbf n (.ptr a g off)=some (.ptr a g (off+n)):=(rfl)
@[simp] theorem zxW {n:Nat} {cs:List V}:zbf n (.ref cs)=some (.ref (ziE n cs)):=(rfl)
@[simp] theorem zz5 {e:TI} {n:Nat} {es:List (List V)} {t:Bool}:zcE e n (.sl es t)=gd (sizes e.size es) (ob (zeQ es n) fun c=>some (.ref c)):=(rfl)
@[simp] theorem zxG {e:TI} {n a g off len:Nat} {c:Option Nat}:zcE e n (.own a g off len c)=gd (Nat.blt n len) (some (.ptr a g (off+n*e.size))):=(rfl)
@[simp] theorem zAB {i:TI} {a g off:Nat} {v:V}:zeA i hs (.ptr a g off) v=bi (isRow hs a) (ob (zbt v hs) fun r=>zb2 i a g off r.1 r.2) (zb2 i a g off v hs):=(rfl)
@[simp] theorem zKf {s g:Nat} {es:List (List V)} {a b c:Bool}:(Obj.arr s g es a b c).arr?=some (s,g,es,a,b,c):=(rfl)
@[simp] theorem zO7 {es:List (V×V)}:(Obj.mp es).mp?=some es:=(rfl)
@[simp] theorem zSG {o:Obj} {k:Nat}:(hs.put k o).n=hs.n:=(rfl)
@[simp] theorem wr_n {o:Obj} {k:Nat}:(hs.wr k o).n=hs.n:=(rfl)
@[simp] theorem zNw {n:Nat} {e:TypeId}:zqa (.array n e)=some e:=(rfl)
@[simp] theorem zxC {n:Nat} {e:TypeId}:za2 (.array n e)=false:=(rfl)
@[simp] theorem zBz {n:Nat} {e:TypeId}:zbc (.array n e)=true:=(rfl)
@[simp] theorem zGa {e:TypeId}:elemOf (.slice e)=some (e,none):=(rfl)
@[simp] theorem zBO {n:Nat} {e:TypeId}:elemOf (.array n e)=some (e,some n):=(rfl)
@[simp] theorem zES {e:TI} {n:Nat} {v:V}:zB6 none e n v=zcE e n v:=(rfl)
@[simp] theorem zER {k:Nat} {e:TI} {n:Nat} {v:V}:zB6 (some k) e n v=gd (Nat.blt n k) (zbf (n*e.size) v):=(rfl)
@[simp] theorem zAH {e:TypeId}:zbM (.slice e)=some e:=(rfl)
@[simp] theorem zIW {k e:TypeId}:mapOf (.map k e)=some (k,e):=(rfl)
@[simp] theorem zKc {P:Program} {b:BinOp} {t:TypeId} {k k':IntKind} {m n:Int}:zyz P b t (.int k m) (.int k' n)=bi (zbn b) (zkR b k m n) (gd (zeE k k') (arith b k m n)):=(rfl)
@[simp] theorem z8B {k:IntKind}:zeE k k=true:=by cases k<;>rfl
@[simp] theorem zKb {P:Program} {b:BinOp} {t:TypeId} {m n:List Nat}:zyz P b t (.str m) (.str n)=zkK b m n:=(rfl)
@[simp] theorem zGB {P:Program} {b:BinOp} {t:TypeId} {m n:Bool}:zyz P b t (.bool m) (.bool n)=zh3 P b t (.bool m) (.bool n):=(rfl)
end
@[simp] theorem zEw {α β:Type} (a:α) (f:α->Option β):ob (some a) f=f a:=(rfl)
@[simp] theorem zEy {α β:Type} (f:α->Option β):ob none f=none:=(rfl)
@[simp] theorem zEX {β:Type} (x:Option β):gd true x=x:=(rfl)
@[simp] theorem zBA {β:Type} (x:Option β):gd false x=none:=(rfl)
@[simp] theorem zGC {α:Type} (x y:α):bi true x y=x:=(rfl)
@[simp] theorem zCp {α:Type} (x y:α):bi false x y=y:=(rfl)
@[simp] theorem zBb {α β:Type} (z:β) (f:α->β) (a:α):orc z f (some a)=f a:=(rfl)
@[simp] theorem zBd {α β:Type} (z:β) (f:α->β):orc z f none=z:=(rfl)
@[simp] theorem zB9 {α:Type} (n:Nat):(PT.leaf:PT α).get n=none:=(rfl)
@[simp] theorem znn {T:PT V}:zaL T []=some []:=(rfl)
@[simp] theorem zlP {T:PT V} (o:Operand) (l:List Operand):zaL T (o::l)=ob (zC T o) fun v=>ob (zaL T l) fun r=>some (v::r):=(rfl)
attribute [simp] zF zak zbX PT.set_get zaS ze7 zO zbY zc1 zc7 zaJ zmL zmO zem
@[simp] theorem zv1 {a b:Nat}:Nat.beq a b=decide (a=b):=by rw[Bool.eq_iff_iff];simp
@[simp] theorem zNq {a b:Nat}:Nat.ble a b=decide (a<=b):=by rw[Bool.eq_iff_iff];simp
@[simp] theorem zNo {a b:Nat}:Nat.blt a b=decide (a<b):=by rw[Bool.eq_iff_iff,J.blt_true];simp
@[simp ↓] theorem z7x {K:PT V->HS->Prop} {Q:Ex->PT V->HS->Prop} {T:PT V} {hs:HS}:Ex.then K Q .normal T hs=K T hs:=(rfl)
@[simp ↓] theorem zHK {K:PT V->HS->Prop} {Q:Ex->PT V->HS->Prop} {T:PT V} {hs:HS}:Ex.then K Q .ret T hs=Q .ret T hs:=(rfl)
@[simp ↓] theorem zDl {i:Nat} {K:PT V->HS->Prop} {Q:Ex->PT V->HS->Prop} {T:PT V} {hs:HS}:Ex.then K Q (.exit i) T hs=Q (.exit i) T hs:=(rfl)
@[simp ↓] theorem zCo {id:Nat} {Q:Ex->PT V->HS->Prop} {T:PT V} {hs:HS}:Ex.inBlock id Q .normal T hs=Q .normal T hs:=(rfl)
@[simp ↓] theorem zNp {id:Nat} {Q:Ex->PT V->HS->Prop} {T:PT V} {hs:HS}:Ex.inBlock id Q .ret T hs=Q .ret T hs:=(rfl)
@[simp ↓] theorem zKa {id i:Nat} {Q:Ex->PT V->HS->Prop} {T:PT V} {hs:HS}:Ex.inBlock id Q (.exit i) T hs=if i=id then Q .normal T hs else Q (.exit i) T hs:=(rfl)
@[simp] theorem zHX {P:Program} {T:PT V} {hs:HS}:znY P T hs []=some []:=(rfl)
@[simp] theorem zHW {P:Program} {T:PT V} {hs:HS} {t:Tmp} {l:List ResultVar}:znY P T hs (.tmp t::l)=ob (T.get t) fun v=>ob (znY P T hs l) fun r=>some (v::r):=(rfl)
@[simp] theorem zDL {P:Program} {T:PT V} {hs:HS} {a:Tmp} {t:TypeId} {l:List ResultVar}:znY P T hs (.cell a t::l)=ob (ob (ti P t) fun i=>ob (T.get a) fun p=>zgB i hs p) fun v=>ob (znY P T hs l) fun r=>some (v::r):=(rfl)
@[simp] theorem zA9 {v:V}:zcT [v]=v:=(rfl)
@[simp] theorem zA8 {v u:V} {l:List V}:zcT (v::u::l)=.tuple (v::u::l):=(rfl)
attribute [simp] zjx zfM
attribute [simp] zpF zjW zhB zrD zfa
@[simp] theorem zMW {a b:Int}:eqI a b=decide (a=b):=by rw[Bool.eq_iff_iff,eqI_true];simp
@[simp] theorem z8R:zbn .add=false:=(rfl)
@[simp] theorem z8F:zbn .sub=false:=(rfl)
@[simp] theorem z8K:zbn .mul=false:=(rfl)
@[simp] theorem z8I:zbn .quo=false:=(rfl)
@[simp] theorem z8H:zbn .rem=false:=(rfl)
@[simp] theorem z8P:zbn .eql=false:=(rfl)
@[simp] theorem z8J:zbn .neq=false:=(rfl)
@[simp] theorem z8L:zbn .lss=false:=(rfl)
@[simp] theorem z8M:zbn .leq=false:=(rfl)
@[simp] theorem z8N:zbn .gtr=false:=(rfl)
@[simp] theorem z8O:zbn .geq=false:=(rfl)
@[simp] theorem z8Q:zbn .and=false:=(rfl)
@[simp] theorem zBr:zbn .or=false:=(rfl)
@[simp] theorem z8E:zbn .xor=false:=(rfl)
section
variable {k:IntKind}{a b:Int}{hs:HS}{P:Program}{T:PT V}
@[simp] theorem zGQ:arith .add k a b=some (.int k (zfb k (a+b))):=(rfl)
@[simp] theorem zGF:arith .sub k a b=some (.int k (zfb k (a-b))):=(rfl)
@[simp] theorem zGJ:arith .mul k a b=some (.int k (zfb k (a*b))):=(rfl)
@[simp] theorem zGH:arith .quo k a b=gd (nt (eqI b 0)) (some (.int k (zfb k (a.tdiv b)))):=(rfl)
@[simp] theorem zGG:arith .rem k a b=gd (nt (eqI b 0)) (some (.int k (a.tmod b))):=(rfl)
@[simp] theorem zGO:arith .eql k a b=some (.bool (eqI a b)):=(rfl)
@[simp] theorem zGI:arith .neq k a b=some (.bool (nt (eqI a b))):=(rfl)
@[simp] theorem zGK:arith .lss k a b=some (.bool (ltI a b)):=(rfl)
@[simp] theorem zGL:arith .leq k a b=some (.bool (leI a b)):=(rfl)
@[simp] theorem zGM:arith .gtr k a b=some (.bool (ltI b a)):=(rfl)
@[simp] theorem z8G:zbn .shr=true:=(rfl)
@[simp] theorem zAJ:zkR .shr k a b=ob (z8u b) fun m=>some (.int k (a.fdiv (2 ^ min m k.bits))):=(rfl)
@[simp] theorem zGP:arith .and k a b=some (.int k (zy4 k a b)):=(rfl)
@[simp] theorem zGN:arith .geq k a b=some (.bool (leI b a)):=(rfl)
@[simp] theorem zD1 {x y:List Nat}:zkK .eql x y=some (.bool (zoF x y)):=(rfl)
@[simp] theorem zDy {x y:List Nat}:zkK .neq x y=some (.bool (nt (zoF x y))):=(rfl)
@[simp] theorem zDz {x y:List Nat}:zkK .lss x y=some (.bool (zvT x y)):=(rfl)
@[simp] theorem zD0 {x y:List Nat}:zkK .gtr x y=some (.bool (bi (zvT x y) false (nt (zoF x y)))):=(rfl)
@[simp] theorem z8h {t:TypeId} {x y:V}:zh3 P .eql t x y=ob (eqV P t x y) fun b=>some (.bool b):=(rfl)
@[simp] theorem z8g {t:TypeId} {x y:V}:zh3 P .neq t x y=ob (eqV P t x y) fun b=>some (.bool (nt b)):=(rfl)
@[simp] theorem zJ4 {x y:V}:eqD .bool x y=ob x.bool? fun a=>ob y.bool? fun b=>some (zdz a b):=(rfl)
@[simp] theorem zFQ {e:TypeId} {x y:V}:eqD (.slice e) x y=zhM (zxz x) (zxz y):=(rfl)
@[simp] theorem zMX {e f:TypeId} {x y:V}:eqD (.map e f) x y=zhM (zzt x) (zzt y):=(rfl)
@[simp] theorem z92 {e:TypeId} {x y:V}:eqD (.pointer e) x y=zhM (zx0 x) (zx0 y):=(rfl)
@[simp] theorem zJ3 {a b:Array TypeId} {c:Bool} {x y:V}:eqD (.func a b c) x y=zhM (zzu x) (zzu y):=(rfl)
@[simp] theorem zE2:zxz .snil=some true:=(rfl)
@[simp] theorem zIH {a b c d:Nat} {e:Option Nat}:zxz (.own a b c d e)=some false:=(rfl)
@[simp] theorem zLF {e:List V} {l:List (List V)} {t:Bool}:zxz (.sl (e::l) t)=some false:=(rfl)
@[simp] theorem zIL:zzt .nilmap=some true:=(rfl)
@[simp] theorem zIM {i:Nat}:zzt (.map i)=some false:=(rfl)
@[simp] theorem zIK:zx0 .nilptr=some true:=(rfl)
@[simp] theorem zIJ {i g o:Nat}:zx0 (.ptr i g o)=some false:=(rfl)
@[simp] theorem zII {c:List V}:zx0 (.ref c)=some false:=(rfl)
@[simp] theorem zIN:zzu .nilFunc=some true:=(rfl)
@[simp] theorem zE3 {f:Nat} {c:List V}:zzu (.func f c)=some false:=(rfl)
@[simp] theorem zMV {a b:Option Bool}:zhM a b=ob a fun a=>ob b fun b=>bi a (some b) (bi b (some false) none):=(rfl)
@[simp] theorem zSV {t:TypeId} {x y:V}:eqV P t x y=ob (ti P t) fun i=>eqD i.desc x y:=(rfl)
@[simp] theorem zEW {i g:Nat}:zbd hs i g=ob (hs.H.get i) fun o=>ob o.arr? fun a=>gd (et (Nat.beq g a.2.1) (nt (Nat.beq a.1 0))) (some (a.1,a.2.2)):=(rfl)
@[simp] theorem zJa {i:Nat}:isRow hs i=orc false (fun o=>orc false (fun a=>a.2.2.2.2.2) o.arr?) (hs.H.get i):=(rfl)
@[simp] theorem zEG {i:TI} {a:Nat×List (List V)×Bool×Bool×Bool} {off:Nat}:zkh i a off=ob (zeQ a.2.1 (off / a.1)) fun e=>ze6 i e (off % a.1):=(rfl)
@[simp] theorem zL5 {i:TI} {cs:List V} {off:Nat}:ze6 i cs off=bi (zbc i.desc) (zGV i.size (zg2 i.size (ziE off cs))) (zeQ cs off):=(rfl)
@[simp] theorem zRG {n:Nat} {r:List V}:zGV n r=gd (Nat.beq (zS r) n) (some (.agg r)):=(rfl)
@[simp] theorem zAA {i:TI} {id g off:Nat} {v:V}:zb2 i id g off v hs=ob (zbd hs id g) fun a=>gd (nt a.2.2.2.1) (gd (et (zvA v.cells) (et (Nat.beq (zS v.cells) i.size) (Nat.ble (off % a.1+i.size) a.1)))
 (ob (zeQ a.2.1 (off / a.1)) fun e=>some (hs.wr id (.arr a.1 g (zvN a.2.1 (off / a.1) (zbm e (off % a.1) v.cells)) a.2.2.1 false a.2.2.2.2)))):=(rfl)
@[simp] theorem zEj {α:Type} (n:Nat) (l:List α):zbm ([]:List α) n l=[]:=(rfl)
@[simp] theorem zvP {α:Type} (x:α) (t:List α):zbm (x::t) 0 []=x::t:=(rfl)
@[simp] theorem zh2 {α:Type} (x:α) (t:List α) (y:α) (ys:List α):zbm (x::t) 0 (y::ys)=y::zbm t 0 ys:=(rfl)
@[simp] theorem ziY {α:Type} (x:α) (t:List α) (n:Nat) (l:List α):zbm (x::t) (n+1) l=x::zbm t n l:=(rfl)
@[simp] theorem zLL {ts:List TypeId} {vs:List V}:zgp P hs ts vs=ob (zrL P ts) fun i=>ob (zxq vs) fun x=>ob (zvU hs i.desc x) fun n=>some (.int .i64 (Int.ofNat n),hs):=(rfl)
@[simp] theorem zIT {l:Bool} {vs:List V}:zbZ hs l vs=ob (zvM vs) fun p=>ob p.1.int? fun a=>ob p.2.int? fun b=>some (.int a.1 (bi (bi l (ltI b.2 a.2) (ltI a.2 b.2)) b.2 a.2),hs):=(rfl)
@[simp] theorem z9g {t:TypeId} {l:List TypeId}:zrL P (t::l)=ti P t:=(rfl)
@[simp] theorem zSH {i:Nat} {o:Obj}:(hs.put i o).H=hs.H.set i o:=(rfl)
@[simp] theorem zLp {i:Nat} {o:Obj}:(hs.put i o).log=hs.log:=(rfl)
@[simp] theorem wr_H {i:Nat} {o:Obj}:(hs.wr i o).H=hs.H.set i o:=(rfl)
@[simp] theorem zNE {i:Nat} {o:Obj}:(hs.wr i o).log=i::hs.log:=(rfl)
@[simp] theorem zID {v:V}:zxq [v]=some v:=(rfl)
@[simp] theorem zHH {v u:V}:zvM [v,u]=some (v,u):=(rfl)
@[simp] theorem zIX {s:List Nat}:zvU hs .string (.str s)=some (zS s):=(rfl)
@[simp] theorem zEJ {e:TypeId}:zvU hs (.slice e) .snil=some 0:=(rfl)
@[simp] theorem zLM {e:TypeId} {es:List (List V)} {t:Bool}:zvU hs (.slice e) (.sl es t)=some (zS es):=(rfl)
@[simp] theorem zIY {e:TypeId} {i g o n:Nat} {c:Option Nat}:zvU hs (.slice e) (.own i g o n c)=some n:=(rfl)
@[simp] theorem z8A {k e:TypeId}:zvU hs (.map k e) .nilmap=some 0:=(rfl)
@[simp] theorem zIZ {k e:TypeId} {i:Nat}:zvU hs (.map k e) (.map i)=ob (hs.H.get i) fun o=>ob o.mp? fun es=>some (zS es):=(rfl)
@[simp] theorem zHB {x:Operand}:zj9 T hs .not x=ob (zC T x) fun v=>ob v.bool? fun b=>some (.bool (nt b),hs):=(rfl)
@[simp] theorem zHC {x:Operand}:zj9 T hs .neg x=ob (zC T x) fun v=>ob v.int? fun p=>some (.int p.1 (zfb p.1 (0-p.2)),hs):=(rfl)
@[simp] theorem zGp {v:V}:znt (.int k) v=ob v.int? fun p=>some (.int k (zfb k p.2)):=(rfl)
@[simp] theorem zGo {v:V}:znt .string v=ob v.str? fun s=>some (.str s):=(rfl)
@[simp] theorem zBi {i g o:Nat}:notNil (.ptr i g o)=true:=(rfl)
@[simp] theorem zBh {c:List V}:notNil (.ref c)=true:=(rfl)
@[simp] theorem z8m {f:Nat} {c:List V}:notNil (.func f c)=true:=(rfl)
@[simp] theorem zEN:zbc (.int k)=false:=(rfl)
@[simp] theorem zBy:zbc .bool=false:=(rfl)
@[simp] theorem zEL:zbc .string=false:=(rfl)
@[simp] theorem z8V {e:TypeId}:zbc (.slice e)=false:=(rfl)
@[simp] theorem zEM {e f:TypeId}:zbc (.map e f)=false:=(rfl)
@[simp] theorem zxE {e:TypeId}:zbc (.pointer e)=false:=(rfl)
@[simp] theorem zBx {e f:Array TypeId} {c:Bool}:zbc (.func e f c)=false:=(rfl)
@[simp] theorem zHl {n:Int} {r:V}:Gives r (.int k n) hs=(.int k n=r):=by show (some (V.int k n)=some r)=_;simp
@[simp] theorem zCx {b:Bool} {r:V}:Gives r (.bool b) hs=(.bool b=r):=by show (some (V.bool b)=some r)=_;simp
@[simp] theorem zHj {b:List Nat} {r:V}:Gives r (.str b) hs=(.str b=r):=by show (some (V.str b)=some r)=_;simp
end
section
variable {P:Program}{T:PT V}{hs:HS}{id:Nat}
@[simp] theorem zHV {n b:Nat}:zcV n b=decide (n*b<=1048576):=by show Nat.ble _ _=_;simp
@[simp] theorem zx5 {t:TypeId} {l c:Operand}:zaE P T hs id t l c=ob (ti P t) fun i=>ob (zC T l) fun a=>ob (zC T c) fun b=>zca P i hs id a b:=(rfl)
@[simp] theorem z8y {i:TI} {l c:V}:zca P i hs id l c=ob (zbM i.desc) fun el=>ob (ti P el) fun e=>ob l.nat? fun l=>ob c.nat? fun c =>
 gd (et (Nat.ble l c) (et (zcV c e.bytes) (et (Nat.ble (c*e.size) 1048576) (et (nt (Nat.beq e.size 0)) (et (Nat.beq (zS e.zero) e.size) (zoM e.zero))))))
  (some (.own id 0 0 l (some c),hs.put id (.arr e.size 0 (zAQ e.zero c) true false true))):=(rfl)
@[simp] theorem zyu {n:Nat} {cells:List V}:zcw T n [] cells=some cells:=(rfl)
@[simp] theorem zwb {n k:Nat} {o:Operand} {l:List (Nat×Operand)} {cells:List V}:zcw T n ((k,o)::l) cells=ob (zC T o) fun v=>gd (et (Nat.beq (zS v.cells) n) (Nat.ble (k*n+n) (zS cells))) (zcw T n l (zbm cells (k*n) v.cells)):=(rfl)
@[simp] theorem z6I {i:TI} {cells:List V}:zdJ P T i [] cells=some cells:=(rfl)
@[simp] theorem zyt {i:TI} {k:Nat} {o:Operand} {l:List (Nat×Operand)} {cells:List V}:zdJ P T i ((k,o)::l) cells=ob (zB i k) fun fd=>ob (ti P fd.type) fun fi=>ob (zC T o) fun v =>
 gd (et (Nat.beq (zS v.cells) fi.size) (Nat.ble (fd.offset+fi.size) (zS cells))) (zdJ P T i l (zbm cells fd.offset v.cells)):=(rfl)
@[simp] theorem zzk {dr:Bool} {e:TI} {len:Nat} {es:List (List V)}:zds dr T e len [] hs es=some (es,hs):=(rfl)
@[simp] theorem zxl {dr:Bool} {e:TI} {len k:Nat} {o:Operand} {l:List (Nat×Operand)} {es:List (List V)}:zds dr T e len ((k,o)::l) hs es=ob (zC T o) fun v=>ob (zek dr v hs) fun r =>
 gd (et (Nat.beq (zS r.1.cells) e.size) (Nat.blt k len)) (zds dr T e len l r.2 (zvN es k r.1.cells)):=(rfl)
@[simp] theorem z6B {v:V}:zek false v hs=zbt v hs:=(rfl)
@[simp] theorem z9K {v:V}:zek true v hs=gd v.pure (some (v,hs)):=(rfl)
@[simp] theorem zwa {dr:Bool} {t:TypeId} {len:Nat} {ps:Array (Nat×Operand)}:zar P dr T hs id t len ps=ob (ti P t) fun i=>ob (zbM i.desc) fun el=>ob (ti P el) fun e =>
 gd (et (Nat.ble (len*e.size) 1048576) (et (nt (Nat.beq e.size 0)) (et (Nat.beq (zS e.zero) e.size) (zoM e.zero))))
  (ob (zds dr T e len ps.toList hs (zAQ e.zero len)) fun r=>some (bi (Nat.beq e.bytes 128) (.own id 0 0 len (some len)) (.sl r.1 true),r.2.put id (bi (Nat.beq e.bytes 128) (.arr e.size 0 r.1 true false true) (.mp [])))):=(rfl)
@[simp] theorem z99 {t:TypeId} {l:List TypeId}:zlT P (t::l)=ob (ti P t) fun i=>ob (zbM i.desc) fun el=>ti P el:=(rfl)
@[simp] theorem zz2 {t u:TypeId}:zcj [t,u]=some u:=(rfl)
@[simp] theorem zCu {ts:List TypeId} {vs:List V}:zcQ P hs id ts vs=ob (zvM vs) fun p=>ob (zlT P ts) fun e=>ob (zcj ts) fun u=>ob (ti P u) fun j=>ob (zbM j.desc) fun _=>zdB e hs id p.1 p.2:=(rfl)
@[simp] theorem append_nil {e:TI} {x:V}:zdB e hs id .snil x=ob (zdb hs e.size x) fun new=>gd (et (sizes e.size new) (et (zY new) (et (nt (Nat.beq e.size 0)) (et (nt (Nat.beq e.bytes 0)) (Nat.beq (zS e.zero) e.size))))) (zen e hs id new):=(rfl)
@[simp] theorem zGR {e:TI} {es:List (List V)} {t:Bool} {x:V}:zdB e hs id (.sl es t) x=ob (zdb hs e.size x) fun new=>gd (et (sizes e.size new) (et (zY new) (et (nt (Nat.beq e.size 0)) (et (nt (Nat.beq e.bytes 0)) (Nat.beq (zS e.zero) e.size))))) (zfK e hs id es t new):=(rfl)
@[simp] theorem zCs {e:TI} {i g o n:Nat} {c:Option Nat} {x:V}:zdB e hs id (.own i g o n c) x=ob (zdb hs e.size x) fun new=>gd (et (sizes e.size new) (et (zY new) (et (nt (Nat.beq e.size 0)) (et (nt (Nat.beq e.bytes 0)) (Nat.beq (zS e.zero) e.size))))) (zd0 e hs id i g o n c new):=(rfl)
@[simp] theorem z9Z {e:TI} {new:List (List V)}:zen e hs id new=bi (Nat.beq (zS new) 0) (some (.snil,hs)) (gd (zcV (zS new) e.bytes) (zdW e hs id (zS new) new)):=(rfl)
@[simp] theorem zCt {e:TI} {es new:List (List V)} {t:Bool}:zfK e hs id es t new=bi (Nat.beq (zS new) 0) (some (.sl es t,hs)) (gd (et t (et (zcV (zS es+zS new) e.bytes) (sizes e.size es))) (zdW e hs id (zS es+zS new) (zbB es new))):=(rfl)
@[simp] theorem zLG {e:TI} {n:Nat} {es:List (List V)}:zdW e hs id n es=some (.own id 0 0 n none,hs.put id (.arr e.size 0 es false false true)):=(rfl)
@[simp] theorem zwd {e:TI} {i g o n:Nat} {new:List (List V)}:zd0 e hs id i g o n none new=ob (zbd hs i g) fun a=>gd (et a.2.2.2.2 (et (Nat.beq a.1 e.size) (et (Nat.beq (o % a.1) 0) (zcV (n+zS new) e.bytes))))
 (bi (Nat.ble (o / a.1+n+zS new) (zS a.2.1)) (zcA hs i g o n none a new)
     (gd (et (nt a.2.2.2.1) (et (Nat.beq o 0) (Nat.ble n (zS a.2.1)))) (some (.own i (g+1) 0 (n+zS new) none,hs.wr i (.arr a.1 (g+1) (zbB (zg2 n a.2.1) new) false false true))))):=(rfl)
@[simp] theorem zwc {e:TI} {i g o n c:Nat} {new:List (List V)}:zd0 e hs id i g o n (some c) new=ob (zbd hs i g) fun a=>gd (et a.2.2.2.2 (et (Nat.beq a.1 e.size) (et (Nat.beq (o % a.1) 0) (zcV (n+zS new) e.bytes))))
 (bi (Nat.ble (n+zS new) c) (zcA hs i g o n (some c) a new) (ob (zdH a.1 o n a.2.1) fun old=>zdW e hs id (n+zS new) (zbB old new))):=(rfl)
@[simp] theorem zCv {i g o n:Nat} {c:Option Nat} {a:Nat×List (List V)×Bool×Bool×Bool} {new:List (List V)}:zcA hs i g o n c a new=gd (et (nt a.2.2.2.1) (Nat.ble (o / a.1+n+zS new) (zS a.2.1)))
 (some (.own i g o (n+zS new) c,hs.wr i (.arr a.1 g (zbm a.2.1 (o / a.1+n) new) a.2.2.1 false a.2.2.2.2))):=(rfl)
@[simp] theorem zJM {size off len:Nat} {es:List (List V)}:zdH size off len es=gd (et (Nat.beq (off % size) 0) (Nat.ble (off / size+len) (zS es))) (some (zg2 len (ziE (off / size) es))):=(rfl)
@[simp] theorem z98 {n:Nat}:zdb hs n .snil=some []:=(rfl)
@[simp] theorem zFZ {n:Nat} {es:List (List V)} {t:Bool}:zdb hs n (.sl es t)=some es:=(rfl)
@[simp] theorem zBN {n i g o k:Nat} {c:Option Nat}:zdb hs n (.own i g o k c)=ob (zbd hs i g) fun a=>gd (et a.2.2.2.2 (Nat.beq a.1 n)) (zdH a.1 o k a.2.1):=(rfl)
@[simp] theorem zJN {ts:List TypeId} {vs:List V}:zeZ P hs ts vs=ob (zvM vs) fun p=>ob (zlT P ts) fun e=>ob (zcj ts) fun _=>zns e hs p.1 p.2:=(rfl)
@[simp] theorem zGn {e:TI} {i g o n:Nat} {c:Option Nat} {x:V}:zns e hs (.own i g o n c) x=ob (zdb hs e.size x) fun src=>zia e hs i g o n src:=(rfl)
@[simp] theorem zGm {e:TI} {i g o n:Nat} {src:List (List V)}:zia e hs i g o n src=ob (zbd hs i g) fun a=>gd (et (nt a.2.2.2.1) (et a.2.2.2.2 (et (Nat.beq a.1 e.size) (et (Nat.beq (o % a.1) 0) (et (sizes e.size src) (et (zY src) (Nat.ble (o / a.1+zvS (zS src) n) (zS a.2.1))))))))
 (some (.int .i64 (Int.ofNat (zvS (zS src) n)),hs.wr i (.arr a.1 g (zbm a.2.1 (o / a.1) (zg2 (zvS (zS src) n) src)) a.2.2.1 false true))):=(rfl)
@[simp] theorem zOA {a b:Nat}:zvS a b=min a b:=by unfold zvS;rw[za0];simp only[ble_true];split<;>omega
@[simp] theorem zIw {v:V}:zbt v hs=ob (zbh hs v) fun v'=>some (v',zbe hs v.cells):=(rfl)
@[simp] theorem zAE {l:List V}:zbh hs (.agg l)=ob (zcG hs l) fun l=>some (.agg l):=(rfl)
@[simp] theorem zza:zcG hs []=some []:=(rfl)
@[simp] theorem zw8 {v:V} {l:List V}:zcG hs (v::l)=ob (zb8 hs v) fun v'=>ob (zcG hs l) fun l'=>some (v'::l'):=(rfl)
@[simp] theorem zzd {i g o n:Nat} {c:Option Nat}:zb8 hs (.own i g o n c)=ob (zbd hs i g) fun a=>gd a.2.2.2.2 (ob (zdH a.1 o n a.2.1) fun l=>some (.sl l false)):=(rfl)
@[simp] theorem zAG {k:IntKind} {n:Int}:zb8 hs (.int k n)=some (.int k n):=(rfl)
@[simp] theorem z7E {b:Bool}:zb8 hs (.bool b)=some (.bool b):=(rfl)
@[simp] theorem zAF {b:List Nat}:zb8 hs (.str b)=some (.str b):=(rfl)
@[simp] theorem zD3 {es:List (List V)} {b:Bool}:zb8 hs (.sl es b)=some (.sl es b):=(rfl)
@[simp] theorem z7D:zb8 hs .snil=some .snil:=(rfl)
@[simp] theorem zxT:zbe hs []=hs:=(rfl)
@[simp] theorem zvY {v:V} {l:List V}:zbe hs (v::l)=zbp (zbe hs l) v:=(rfl)
@[simp] theorem z9o {i g o n:Nat} {c:Option Nat}:zbp hs (.own i g o n c)=zac hs i:=(rfl)
@[simp] theorem z9p {k:IntKind} {n:Int}:zbp hs (.int k n)=hs:=(rfl)
@[simp] theorem zzG {b:Bool}:zbp hs (.bool b)=hs:=(rfl)
@[simp] theorem z9n {b:List Nat}:zbp hs (.str b)=hs:=(rfl)
@[simp] theorem zBC {es:List (List V)} {b:Bool}:zbp hs (.sl es b)=hs:=(rfl)
@[simp] theorem zzF:zbp hs .snil=hs:=(rfl)
@[simp] theorem z9m {i:Nat}:zac hs i=orc hs (fun o=>orc hs (fun a=>hs.wr i (.arr a.1 a.2.1 a.2.2.1 a.2.2.2.1 true a.2.2.2.2.2)) o.arr?) (hs.H.get i):=(rfl)
theorem zjT {α:Type}:∀ (l:List α) (n:Nat) (m:List α),n<=l.length->n+m.length<=l.length->zbm l n m=l.take n++(m++l.drop (n+m.length)):=by
 intro l
 induction l with
 | nil =>
   intro n m hn hm;have h0:m=[]:=List.eq_nil_of_length_eq_zero (by rw[List.length_nil]at hm;omega);subst h0;simp
 | cons x l ih =>
   intro n m hn hm
   cases n with
   | zero =>
     cases m with
     |nil=>simp
     | cons y m =>
       rw[zh2,ih 0 m (by omega) (by simp at hm ⊢;omega)];simp
   | succ n =>
     rw[ziY,ih n m (by simpa using hn) (by simp at hm ⊢;omega)];simp[Nat.add_right_comm]
@[simp] theorem zD7 {n:Nat}:sizes n []=true:=(rfl)
@[simp] theorem zAI {n:Nat} {x:List V} {l:List (List V)}:sizes n (x::l)=et (Nat.beq (zS x) n) (sizes n l):=(rfl)
@[simp] theorem z6O:zY []=true:=(rfl)
@[simp] theorem zy8 {x:List V} {l:List (List V)}:zY (x::l)=et (zvA x) (zY l):=(rfl)
end
section
variable {hs:HS}{r:V}
@[simp] theorem zHk {i g o n:Nat} {c:Option Nat}:Gives r (.own i g o n c) hs=(zb8 hs (.own i g o n c)=some r):=(rfl)
@[simp] theorem zHm {l:List V}:Gives r (.agg l) hs=((ob (zcG hs l) fun l=>some (V.agg l))=some r):=(rfl)
@[simp] theorem zAr {l:List V}:Gives r (.tuple l) hs=((ob (zaD hs l) fun l=>some (V.tuple l))=some r):=(rfl)
@[simp] theorem zKr {es:List (List V)} {t:Bool}:Gives r (.sl es t) hs=(.sl es t=r):=by show (some (V.sl es t)=some r)=_;simp
@[simp] theorem zCw:Gives r .snil hs=(.snil=r):=by show (some V.snil=some r)=_;simp
@[simp] theorem zzb:zaD hs []=some []:=(rfl)
@[simp] theorem zw9 {v:V} {l:List V}:zaD hs (v::l)=ob (zbh hs v) fun v'=>ob (zaD hs l) fun l'=>some (v'::l'):=(rfl)
@[simp] theorem zzc {i g o n:Nat} {c:Option Nat}:zbh hs (.own i g o n c)=zb8 hs (.own i g o n c):=(rfl)
@[simp] theorem zAD {k:IntKind} {n:Int}:zbh hs (.int k n)=some (.int k n):=(rfl)
@[simp] theorem z7C {b:Bool}:zbh hs (.bool b)=some (.bool b):=(rfl)
@[simp] theorem zAC {b:List Nat}:zbh hs (.str b)=some (.str b):=(rfl)
@[simp] theorem zD2 {es:List (List V)} {b:Bool}:zbh hs (.sl es b)=some (.sl es b):=(rfl)
@[simp] theorem z7B:zbh hs .snil=some .snil:=(rfl)
end
end Go.J
/- Contracts in use. -/
namespace Go.J
abbrev Spec:=List V->HS->Option (V×HS)
def zlf(s:List V->Option V):Spec:=fun vs hs=>gd (zD vs) (ob (s vs) fun v=>some (v,hs))
def zGq(L:List (Nat×Spec))(f:FuncId)(vs:List V)(hs:HS):Option (V×HS):=lr none (fun p _ ih=>bi (Nat.beq f p.1) (p.2 vs hs) ih) L
def zFR(P:Program)(pol:FuncId->Nat)(L:List (Nat×Spec)):Env:={ P:=P,pol:=pol,con:=zGq L }
structure Valid(ρ:Nat->Value)(P:Program)(f:Nat)(s:Spec):Prop where
 fn:zeH P f
 ok:∀ {vs hs v hs'},s vs hs=some (v,hs')->CallOk ρ P f vs hs v hs'
 kept:∀ {vs hs r},s vs hs=some r->Kept hs r.2
theorem zvm(p:Nat×Spec)(L:List (Nat×Spec))(f:FuncId):zGq (p::L) f=if f=p.1 then p.2 else zGq L f:=by
 funext vs hs
 show bi (Nat.beq f p.1) (p.2 vs hs) (zGq L f vs hs)=_;rw[za0];by_cases h:f=p.1
 . rw[if_pos (beq_true.2 h),if_pos h]
 . rw[if_neg (fun e=>h (beq_true.1 e)),if_neg h]
theorem zu{ρ:Nat->Value}{P:Program}{pol:FuncId->Nat}:∀ {L:List (Nat×Spec)},(∀ p∈L,Valid ρ P p.1 p.2)->ConsOk ρ (zFR P pol L):=by
 intro L h
 have key:∀ (M:List (Nat×Spec)),(∀ p∈M,p∈L)->∀ {f vs hs q},zGq M f vs hs=some q->∃ p∈L,p.1=f/\p.2 vs hs=some q:=by
  intro M
  induction M with
  |nil=>intro _ f vs hs q hq;cases hq
  | cons p M ih =>
    intro hM f vs hs q hq;rw[zvm]at hq;split at hq
    . rename_i e;exact⟨p,hM p (List.mem_cons_self ..),e.symm,hq⟩
    . exact ih (fun p hp=>hM p (List.mem_cons_of_mem _ hp)) hq
 refine⟨?_,?_,?_⟩
 . intro f vs hs v hs' hq;obtain⟨p,hp,rfl,h2⟩:=key L (fun _ h=>h) hq;exact(h p hp).ok h2
 . intro f vs hs q hq;obtain⟨p,hp,rfl,h2⟩:=key L (fun _ h=>h) hq;exact(h p hp).kept h2
 . intro f vs hs q hq;obtain⟨p,hp,rfl,h2⟩:=key L (fun _ h=>h) hq;exact(h p hp).fn
theorem valid_nil{ρ:Nat->Value}{P:Program}:∀ p∈([]:List (Nat×Spec)),Valid ρ P p.1 p.2:=fun p h=>by cases h
theorem zq{ρ:Nat->Value}{P:Program}{f:Nat}{s:Spec}{L:List (Nat×Spec)}(h:Valid ρ P f s)(hl:∀ p∈L,Valid ρ P p.1 p.2):∀ p∈(f,s)::L,Valid ρ P p.1 p.2:=by
 intro p hp;rcases List.mem_cons.1 hp with rfl|hp
 . exact h
 . exact hl p hp
theorem Valid.pure{ρ:Nat->Value}(hρ:Good ρ){P:Program}(hP:P.follows .mixedOrders=true)(hN:zdP P){f:Nat}{s:List V->Option V}(hf:zeH P f)
 (h:∀ vs v,zD vs=true->s vs=some v->∃ E n,ConsOk ρ E/\E.P=P/\zze E n f vs=some v):Valid ρ P f (zlf s) where
 fn:=hf
 ok:=by
  intro vs hs v hs' hq;simp only[zlf,z8,zt]at hq;obtain⟨hp,v',hv,hq⟩:=hq;cases hq;obtain⟨E,n,hc,rfl,hr⟩:=h vs v hp hv;exact zeP hρ hc hP hN hr hp
 kept:=by
  intro vs hs q hq;simp only[zlf,z8,zt]at hq;obtain⟨_,v',_,hq⟩:=hq;cases hq;exact .refl _
theorem zeL{hs:HS}{u v:V}(h:zb8 hs u=some v)(hs1:v.scal1=true):u=v:=by
 unfold zb8 at h;split at h
 . unfold zd4 at h;simp only[zt,z8]at h;obtain⟨_,_,_,_,_,h⟩:=h;cases h;cases hs1
 . simp only[z8]at h;exact Option.some.inj h.2
theorem zmE{hs:HS}:∀ {l m:List V},zcG hs l=some m->z6L m=true->l=m:=by
 intro l
 induction l with
 |nil=>intro m h _;cases h;rfl
 | cons u l ih =>
   intro m h hm;replace h:(ob (zb8 hs u) fun v'=>ob (zcG hs l) fun l'=>some (v'::l'))=some m:=h;simp only[zt]at h;obtain⟨v,hv,r,hr,h⟩:=h;cases h;replace hm:et v.scal1 (z6L r)=true:=hm;rw[et_true]at hm;rw[zeL hv hm.1,ih hr hm.2]
theorem zmH{hs:HS}{u v:V}(h:zbh hs u=some v)(hs1:v.scal1=true):u=v:=by
 unfold zbh at h;split at h
 . simp only[zt]at h;obtain⟨_,_,h⟩:=h;cases h;cases hs1
 . exact zeL h hs1
theorem zmF{hs:HS}:∀ {l m:List V},zaD hs l=some m->z6L m=true->l=m:=by
 intro l
 induction l with
 |nil=>intro m h _;cases h;rfl
 | cons u l ih =>
   intro m h hm;replace h:(ob (zbh hs u) fun v'=>ob (zaD hs l) fun l'=>some (v'::l'))=some m:=h;simp only[zt]at h;obtain⟨v,hv,r,hr,h⟩:=h;cases h;replace hm:et v.scal1 (z6L r)=true:=hm;rw[et_true]at hm;rw[zmH hv hm.1,ih hr hm.2]
theorem zpe {hs:HS} {u v:V} (h:still hs u=some v) (hv:v.scal=true):u=v:=by
 unfold still at h;split at h
 . simp only[zt]at h;obtain⟨l,hl,h⟩:=h;cases h;rw[zmF hl hv]
 . unfold zbh at h;split at h
   . simp only[zt]at h;obtain⟨l,hl,h⟩:=h;cases h;rw[zmE hl hv]
   . refine zeL h ?_;rename_i _ hne1 _ hne2;cases v<;>first|exact hv|skip
     all_goals
      exfalso;unfold zb8 at h;split at h
      . unfold zd4 at h;simp only[zt,z8]at h;obtain⟨_,_,_,_,_,h⟩:=h;cases h
      . simp only[z8]at h;have e:=Option.some.inj h.2
        first|exact hne1 _ e|exact hne2 _ e
def zqW(s:List V->Option V):Spec:=fun vs hs=>ob (zaD hs vs) fun vs'=>gd (zD vs') (ob (s vs') fun v=>gd v.scal (some (v,hs)))
theorem Valid.scal{ρ:Nat->Value}(hρ:Good ρ){P:Program}(hP:P.follows .mixedOrders=true)(hN:zdP P){f:Nat}{s:List V->Option V}(hf:zeH P f)
 (h:∀ vs v,zD vs=true->s vs=some v->∃ E n,ConsOk ρ E/\E.P=P/\zze E n f vs=some v):Valid ρ P f (zqW s) where
 fn:=hf
 ok:=by
  intro vs hs v hs' hq;simp only[zqW,z8,zt]at hq;obtain⟨vs',hst,hp,v',hv,hsc,hq⟩:=hq;cases hq;obtain⟨E,n,hc,rfl,hr⟩:=h vs' v hp hv;simp only[zze,zt]at hr;obtain⟨⟨v1,hs1⟩,h1,h2⟩:=hr;have e:v1=v:=zpe h2 hsc;subst e;refine zif (ev:=evJ E n) hst (fun h=>(zoA hρ hc hP hN n).call h) ?_;simp only[zaZ,zt,z8];exact⟨(v1,hs1),h1,hsc,rfl⟩
 kept:=by
  intro vs hs q hq;simp only[zqW,z8,zt]at hq;obtain⟨_,_,_,_,_,_,hq⟩:=hq;cases hq;exact .refl _
def zPj(s:List V->Option V):Spec:=fun vs hs=>ob (zaG vs hs) fun q=>gd (zD q.1) (ob (s q.1) fun v=>some (v,q.2))
section
variable {vs:List V}{hs:HS}{s:List V->Option V}{K:V×HS->Prop}
@[simp] theorem zI0:ok (zlf s vs hs) K=(zD vs=true/\ok (s vs) fun v=>K (v,hs)):=by simp only[zlf,zbX,zak,zF]
@[simp] theorem zHS:ok (zqW s vs hs) K=ok (zaD hs vs) fun vs'=>zD vs'=true/\ok (s vs') fun v=>v.scal=true/\K (v,hs):=by simp only[zqW,zbX,zak,zF]
@[simp] theorem zM3:ok (zPj s vs hs) K=ok (zaG vs hs) fun q=>zD q.1=true/\ok (s q.1) fun v=>K (v,q.2):=by simp only[zPj,zbX,zak,zF]
@[simp] theorem zxg:zaG [] hs=some ([],hs):=(rfl)
@[simp] theorem zvO {v:V} {l:List V}:zaG (v::l) hs=ob (zbt v hs) fun r=>ob (zaG l r.2) fun q=>some (r.1::q.1,q.2):=(rfl)
@[simp] theorem zAb:zD []=true:=(rfl)
@[simp] theorem z6M {v:V} {l:List V}:zD (v::l)=(v.pure&&zD l):=by rw[<- zpF];rfl
@[simp] theorem zIz {l:List V}:(V.agg l).pure=zoM l:=(rfl)
@[simp] theorem zKg:zoM []=true:=(rfl)
@[simp] theorem zGT {v:V} {l:List V}:zoM (v::l)=(v.pure2&&zoM l):=by rw[<- zpF];rfl
@[simp] theorem zIy {k:IntKind} {n:Int}:(V.int k n).pure=true:=(rfl)
@[simp] theorem zDW {b:Bool}:(V.bool b).pure=true:=(rfl)
@[simp] theorem zIx {b:List Nat}:(V.str b).pure=true:=(rfl)
@[simp] theorem zLq {es:List (List V)} {t:Bool}:(V.sl es t).pure=true:=(rfl)
@[simp] theorem zDV:V.snil.pure=true:=(rfl)
@[simp] theorem zDY {k:IntKind} {n:Int}:(V.int k n).pure2=true:=(rfl)
@[simp] theorem zAV {b:Bool}:(V.bool b).pure2=true:=(rfl)
@[simp] theorem zDX {b:List Nat}:(V.str b).pure2=true:=(rfl)
@[simp] theorem zI1 {es:List (List V)} {t:Bool}:(V.sl es t).pure2=true:=(rfl)
@[simp] theorem zAU:V.snil.pure2=true:=(rfl)
@[simp] theorem zzj:V.nilmap.pure2=true:=(rfl)
@[simp] theorem zxi:V.nilFunc.pure2=true:=(rfl)
end
end Go.J
