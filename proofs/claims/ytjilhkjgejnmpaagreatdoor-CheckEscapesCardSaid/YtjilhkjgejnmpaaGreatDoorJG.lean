import Derived.Test.YtjilhkjgejnmpaaGreatDoorJF
set_option linter.all false
noncomputable section
/- Rules of rewriting for symbolic runs. -/
namespace Go.J
section
variable {E:Env}{id:Nat}{T:PT V}{hs:HS}{K:V→HS→Prop}{sz:Nat}
@[simp ↓] theorem Rs_nil {R:PT V→HS→Prop}:Rs E sz [] id T hs R=R T hs:=(rfl)
@[simp ↓] theorem Rs_cons {d:Option Tmp} {op:Op} {g:Option (Tmp×Bool)} {l:List SOp} {R:PT V→HS→Prop}:Rs E sz (⟨d,op,g⟩::l) id T hs R=wpS E id T hs ⟨d,op,g⟩ fun v hs'=>put sz T d v fun T1=>Rs E sz l (id+1) T1 hs' R:=(rfl)
@[simp ↓] theorem wpS_n {d:Option Tmp} {op:Op}:wpS E id T hs ⟨d,op,none⟩ K=wpO E id T hs op K:=(rfl)
@[simp ↓] theorem wpS_g {d:Option Tmp} {op:Op} {t:Tmp} {w:Bool}:wpS E id T hs ⟨d,op,some (t,w)⟩ K=ok (T.get t) fun v=>ok (v.guard? w) fun q=>br (q=w) (wpO E id T hs op K) (K undefV hs):=by
  simp only[br_eq];rfl
@[simp ↓] theorem put_some {d:Tmp} {v:V} {R:PT V→Prop}:put sz T (some d) v R=(d<sz∧R (T.set d v)):=(rfl)
@[simp ↓] theorem put_none {v:V} {R:PT V→Prop}:put sz T none v R=R T:=(rfl)
theorem and_zero{p:Prop}:((0:Nat)≠0→p)=True:=propext ⟨fun _=>trivial,fun _ h=>absurd rfl h⟩
theorem and_two{p:Prop}:((2:Nat)≠0→p)=p:=propext ⟨fun h=>h (by decide),fun h _=>h⟩
theorem wp_0{op:Op}(hc:opClass op=0)(hd:wpO E id T hs op K=((opClass op≠0→hs.H.get id=none)∧ok (opJ E.P false T hs id (opR op)) fun r=>K r.1 r.2)):wpO E id T hs op K=ok (opJ E.P false T hs id (opR op)) fun r=>K r.1 r.2:=by
 grind
@[simp ↓] theorem wp_move {x:Operand}:wpO E id T hs (.move x) K=ok (evalO T x) fun v=>K v hs:=by
  rw[wp_0 rfl rfl];show ok (ob (evalO T x) fun v=>some (v,hs)) _=_;simp only[ok_ob,ok_some]
@[simp ↓] theorem wp_assign {x:Operand}:wpO E id T hs (.assign x) K=ok (evalO T x) fun v=>K v hs:=by
  rw[wp_0 rfl rfl];show ok (ob (evalO T x) fun v=>some (v,hs)) _=_;simp only[ok_ob,ok_some]
@[simp ↓] theorem wp_pick {c a b:Operand}:wpO E id T hs (.pick c a b) K=ok (evalO T c) fun v=>ok v.bool? fun q=>ok (bi q (evalO T a) (evalO T b)) fun v=>K v hs:=by
  rw[wp_0 rfl rfl];show ok (pickJ T hs c a b) _=_;simp only[pickJ,ok_ob,ok_some]
@[simp ↓] theorem wp_load {t:TypeId} {a:Operand}:wpO E id T hs (.load t a) K=ok (ti E.P t) fun i=>ok (evalO T a) fun p=>ok (loadJ i hs p) fun v=>K v hs:=by
  rw[wp_0 rfl rfl];show ok (loadOpJ E.P T hs t a) _=_;simp only[loadOpJ,ok_ob,ok_some]
@[simp ↓] theorem wp_binOp {b:BinOp} {t u:TypeId} {x y:Operand}:wpO E id T hs (.binOp b t x y u) K=ok (evalO T x) fun p=>ok (evalO T y) fun q=>ok (bi (isNilC y) (nilJ E.P b t p) (binJ E.P b t p q)) fun v=>K v hs:=by
  rw[wp_0 rfl rfl];show ok (binOpJ E.P T hs b t x y) _=_;simp only[binOpJ,ok_ob,ok_some]
@[simp ↓] theorem wp_unOp {b:UnOp} {t:TypeId} {x:Operand}:wpO E id T hs (.unOp b t x) K=ok (unOpJ T hs b x) fun r=>K r.1 r.2:=by
  rw[wp_0 rfl rfl];rfl
@[simp ↓] theorem wp_fieldAddr {t:TypeId} {x:Operand} {f:Nat}:wpO E id T hs (.fieldAddr t x f) K=ok (ti E.P t) fun i=>ok (fieldOf i f) fun fd=>ok (ti E.P fd.type) fun fi=>nt (Nat.beq fi.size 0)=true∧ok (evalO T x) fun v=>ok (fieldAddrV fd.offset v) fun r=>K r hs:=by
  rw[wp_0 rfl rfl];show ok (fieldAddrJ E.P T hs t x f) _=_;simp only[fieldAddrJ,ok_ob,ok_gd,ok_some]
@[simp ↓] theorem wp_field {t:TypeId} {x:Operand} {f:Nat}:wpO E id T hs (.field t x f) K=ok (ti E.P t) fun i=>ok (fieldOf i f) fun fd=>ok (ti E.P fd.type) fun fi=>ok (evalO T x) fun v=>ok v.agg? fun cs=>ok (partL fi cs fd.offset) fun v=>K v hs:=by
  rw[wp_0 rfl rfl];show ok (fieldJ E.P T hs t x f) _=_;simp only[fieldJ,ok_ob,ok_some]
@[simp ↓] theorem wp_indexAddr {t:TypeId} {x ix:Operand}:wpO E id T hs (.indexAddr t x ix) K=ok (ti E.P t) fun i=>ok (elemOf i.desc) fun el=>ok (ti E.P el.1) fun e=>ok (evalO T x) fun v=>ok (evalO T ix) fun n=>ok n.nat? fun n=>ok (idxV el.2 e n v) fun r=>K r hs:=by
  rw[wp_0 rfl rfl];show ok (indexAddrJ E.P T hs t x ix) _=_;simp only[indexAddrJ,ok_ob,ok_some]
@[simp ↓] theorem wp_index {t:TypeId} {x ix:Operand}:wpO E id T hs (.index t x ix) K=ok (ti E.P t) fun i=>isStr i.desc=true∧ok (evalO T x) fun v=>ok v.str? fun s=>ok (evalO T ix) fun n=>ok n.nat? fun n=>ok (nthL s n) fun b=>K (.int .u8 (Int.ofNat b)) hs:=by
  rw[wp_0 rfl rfl];show ok (indexJ E.P T hs t x ix) _=_;simp only[indexJ,ok_ob,ok_gd,ok_some]
@[simp ↓] theorem wp_extract {x:Operand} {k:Nat}:wpO E id T hs (.extract x k) K=ok (evalO T x) fun v=>ok v.tuple? fun vs=>ok (nthL vs k) fun v=>K v hs:=by
  rw[wp_0 rfl rfl];show ok (extractJ T hs x k) _=_;simp only[extractJ,ok_ob,ok_some]
@[simp ↓] theorem wp_nilCheck {x:Operand}:wpO E id T hs (.nilCheck x) K=ok (evalO T x) fun v=>notNil v=true∧K v hs:=by
  rw[wp_0 rfl rfl];show ok (nilCheckJ T hs x) _=_;simp only[nilCheckJ,ok_ob,ok_gd,ok_some]
@[simp ↓] theorem wp_build {t:TypeId} {ps:Array (Nat×Operand)}:wpO E id T hs (.build t ps) K=ok (ti E.P t) fun i=>ok (bi (isStructD i.desc) (gd (fieldsOk E.P (fieldsOf i.desc)) (buildJ E.P T i ps.toList i.zero)) (ob (arrOf i.desc) fun el=>ob (ti E.P el) fun e=>buildAJ T e.size ps.toList i.zero)) fun cs=>K (.agg cs) hs:=by
  rw[wp_0 rfl rfl];show ok (buildOpJ E.P T hs t ps) _=_;unfold buildOpJ;simp only[ok_ob (ti E.P t)];congr 1;funext i;rw[ok_ob];congr 1;funext cs;rw[ok_some]
@[simp ↓] theorem wp_slice {t:TypeId} {x:Operand} {lo hi mx:Option Operand}:wpO E id T hs (.slice t x lo hi mx) K=ok (ti E.P t) fun i=>ok (evalO T x) fun v=>ok (sliceJ E.P T hs i v lo hi mx) fun r=>K r hs:=by
  rw[wp_0 rfl rfl];show ok (sliceOpJ E.P T hs t x lo hi mx) _=_;simp only[sliceOpJ,ok_ob,ok_some]
@[simp ↓] theorem wp_lookup {t:TypeId} {m k:Operand} {b:Bool}:wpO E id T hs (.lookup t m k b) K=ok (lookupJ E.P T hs t m k b) fun r=>K r.1 r.2:=by
  rw[wp_0 rfl rfl];rfl
@[simp ↓] theorem wp_convert {s d:TypeId} {x:Operand}:wpO E id T hs (.convert s d x) K=ok (ti E.P s) fun _=>ok (ti E.P d) fun j=>ok (evalO T x) fun v=>ok (convV j.desc v) fun r=>K r hs:=by
  rw[wp_0 rfl rfl];show ok (convJ E.P T hs s d x) _=_;simp only[convJ,ok_ob,ok_some]
@[simp ↓] theorem wp_makeFunc {f:FuncId} {cs:Array Operand}:wpO E id T hs (.makeFunc (.func f) #[] cs) K=ok (evalL T cs.toList) fun l=>K (.func f l) hs:=by
  rw[wp_0 rfl rfl];show ok (makeFuncJ T hs (.func f) #[] cs) _=_
  show ok (gd true (ob (evalL T cs.toList) fun l=>some (V.func f l,hs))) _=_
  simp only[gd_true,ok_ob,ok_some]
@[simp ↓] theorem wp_makeIface {t:TypeId} {x:Operand}:wpO E id T hs (.makeInterface t x) K=ok (ti E.P t) fun i=>nt (isIface i.desc)=true∧ok (evalO T x) fun v=>K (.iface t v) hs:=by
  rw[wp_0 rfl rfl];show ok (makeIfaceJ E.P T hs t x) _=_;simp only[makeIfaceJ,ok_ob,ok_gd,ok_some]
theorem wp_1{op:Op}(hc:opClass op=1)(hd:wpO E id T hs op K=((opClass op≠0→hs.H.get id=none)∧ok (opJ E.P false T hs id (opR op)) fun r=>K r.1 r.2)):wpO E id T hs op K=(hs.H.get id=none∧ok (opJ E.P false T hs id (opR op)) fun r=>K r.1 r.2):=by
 grind
theorem wp_2{op:Op}(hc:opClass op=2)(hd:wpO E id T hs op K=((opClass op≠0→hs.H.get id=none)∧ok (opJ E.P false T hs id (opR op)) fun r=>K r.1 r.2)):wpO E id T hs op K=(hs.H.get id=none∧ok (opJ E.P false T hs id (opR op)) fun r=>K r.1 r.2):=by
 grind
@[simp ↓] theorem wp_alloc {t:TypeId}:wpO E id T hs (.alloc t) K=(hs.H.get id=none∧ok (ti E.P t) fun i=>Nat.beq (lenL i.zero) i.size=true∧K (.ptr id 0 0) (hs.put id (.arr i.size 0 [i.zero] true false false))):=by
  rw[wp_1 rfl rfl];show (_∧ok (allocJ E.P hs id t) _)=_;simp only[allocJ,ok_ob,ok_gd,ok_some]
@[simp ↓] theorem wp_box {t:TypeId} {x:Operand}:wpO E id T hs (.box t x) K=(hs.H.get id=none∧ok (evalO T x) fun v=>K (.ptr id 0 0) (hs.put id (.arr (lenL v.cells) 0 [v.cells] true false false))):=by
  rw[wp_1 rfl rfl];show (_∧ok (boxJ T hs id x) _)=_;simp only[boxJ,ok_ob,ok_some]
@[simp ↓] theorem wp_buildSlice {t:TypeId} {n:Nat} {ps:Array (Nat×Operand)}:wpO E id T hs (.buildSlice t n ps) K=(hs.H.get id=none∧ok (buildSliceOpJ E.P false T hs id t n ps) fun r=>K r.1 r.2):=by
  rw[wp_1 rfl rfl];rfl
@[simp ↓] theorem wp_makeSlice {t:TypeId} {l c:Operand}:wpO E id T hs (.makeSlice t l c) K=(hs.H.get id=none∧ok (makeSliceOpJ E.P T hs id t l c) fun r=>K r.1 r.2):=by
  rw[wp_1 rfl rfl];rfl
@[simp ↓] theorem wp_makeMap {t:TypeId}:wpO E id T hs (.makeMap t none) K=(hs.H.get id=none∧K (.map id) (hs.put id (.mp []))):=by
  rw[wp_1 rfl rfl];show (_∧ok (gd true (some (V.map id,hs.put id (.mp [])))) _)=_;simp only[gd_true,ok_some]
@[simp ↓] theorem wp_store {t:TypeId} {a x:Operand}:wpO E id T hs (.store t a x) K=(hs.H.get id=none∧ok (ti E.P t) fun i=>ok (evalO T a) fun p=>ok (evalO T x) fun v=>ok (storeJ i hs p v) fun hs'=>K undefV hs'):=by
  rw[wp_2 rfl rfl];show (_∧ok (storeOpJ E.P T hs t a x) _)=_;simp only[storeOpJ,ok_ob,ok_some]
@[simp ↓] theorem wp_mapUpdate {t:TypeId} {m k x:Operand}:wpO E id T hs (.mapUpdate t m k x) K=(hs.H.get id=none∧ok (mapUpdateJ E.P T hs t m k x) fun r=>K r.1 r.2):=by
  rw[wp_2 rfl rfl];rfl
@[simp ↓] theorem wp_call {x:Operand} {xs:Array Operand} {ts:Array TypeId}:wpO E id T hs (.call ⟨.value x,xs,ts⟩) K=(hs.H.get id=none∧ok (evalO T x) fun v=>ok (funcOf v) fun p=>ok (evalL T xs.toList) fun vs=>ok (E.con p.1 (appL vs p.2) hs) fun r=>K r.1 r.2):=(rfl)
@[simp ↓] theorem wp_len {xs:Array Operand} {ts:Array TypeId}:wpO E id T hs (.call ⟨.builtin .len,xs,ts⟩) K=ok (evalL T xs.toList) fun vs=>ok (lenOpJ E.P hs ts.toList vs) fun r=>K r.1 r.2:=by
  show ((opClass (.call ⟨.builtin .len,xs,ts⟩)≠0→_)∧_)=_
  rw[show opClass (.call ⟨.builtin .len,xs,ts⟩)=0 from rfl,and_zero,true_and];rfl
@[simp ↓] theorem wp_min {xs:Array Operand} {ts:Array TypeId}:wpO E id T hs (.call ⟨.builtin .min,xs,ts⟩) K=ok (evalL T xs.toList) fun vs=>ok (minmaxJ hs true vs) fun r=>K r.1 r.2:=by
  show ((opClass (.call ⟨.builtin .min,xs,ts⟩)≠0→_)∧_)=_
  rw[show opClass (.call ⟨.builtin .min,xs,ts⟩)=0 from rfl,and_zero,true_and];rfl
@[simp ↓] theorem wp_max {xs:Array Operand} {ts:Array TypeId}:wpO E id T hs (.call ⟨.builtin .max,xs,ts⟩) K=ok (evalL T xs.toList) fun vs=>ok (minmaxJ hs false vs) fun r=>K r.1 r.2:=by
  show ((opClass (.call ⟨.builtin .max,xs,ts⟩)≠0→_)∧_)=_
  rw[show opClass (.call ⟨.builtin .max,xs,ts⟩)=0 from rfl,and_zero,true_and];rfl
@[simp ↓] theorem wp_append {xs:Array Operand} {ts:Array TypeId}:wpO E id T hs (.call ⟨.builtin .append,xs,ts⟩) K=(hs.H.get id=none∧ok (evalL T xs.toList) fun vs=>ok (appendOpJ E.P hs id ts.toList vs) fun r=>K r.1 r.2):=by
  show ((opClass (.call ⟨.builtin .append,xs,ts⟩)≠0→_)∧_)=_
  rw[show opClass (.call ⟨.builtin .append,xs,ts⟩)=2 from rfl,and_two];rfl
@[simp ↓] theorem wp_copy {xs:Array Operand} {ts:Array TypeId}:wpO E id T hs (.call ⟨.builtin .copy,xs,ts⟩) K=(hs.H.get id=none∧ok (evalL T xs.toList) fun vs=>ok (copyOpJ E.P hs ts.toList vs) fun r=>K r.1 r.2):=by
  show ((opClass (.call ⟨.builtin .copy,xs,ts⟩)≠0→_)∧_)=_
  rw[show opClass (.call ⟨.builtin .copy,xs,ts⟩)=2 from rfl,and_two];rfl
attribute [simp ↓] br_true br_false
@[congr] theorem br_congr {c c' A B:Prop} (h:c=c'):br c A B=br c' A B:=by rw[h]
@[congr] theorem ok_congr {α:Type} {x y:Option α} {K:α→Prop} (h:x=y):ok x K=ok y K:=by rw[h]
@[congr] theorem Js_congr {rd:Bool} {s:SC} {T T':PT V} {hs hs':HS} {Q:Ex→PT V→HS→Prop} (h1:T=T') (h2:hs=hs'):Js E rd sz s T hs Q=Js E rd sz s T' hs' Q:=by rw[h1,h2]
@[congr] theorem Leaves_congr {P:Program} {fn:Func} {K:V→HS→Prop} {ex ex':Ex} {T T':PT V} {hs hs':HS} (h0:ex=ex') (h1:T=T') (h2:hs=hs'):Leaves P fn K ex T hs=Leaves P fn K ex' T' hs':=by rw[h0,h1,h2]
@[congr] theorem ob_congr {α β:Type} {x y:Option α} {f:α→Option β} (h:x=y):ob x f=ob y f:=by rw[h]
@[congr] theorem gd_congr {β:Type} {c d:Bool} {x:Option β} (h:c=d):gd c x=gd d x:=by rw[h]
@[congr] theorem orc_congr {α β:Type} {z:β} {f:α→β} {x y:Option α} (h:x=y):orc z f x=orc z f y:=by rw[h]
@[congr] theorem bi_congr {α:Type} {c d:Bool} {x y:α} (h:c=d):bi c x y=bi d x y:=by rw[h]
@[simp] theorem bi_dec {α:Type} {p:Prop} [Decidable p] {x y:α}:bi (decide p) x y=if p then x else y:=by rw[bi_eq];simp
@[simp ↓] theorem ok_some_d {α:Type} (a:α) (K:α→Prop):ok (some a) K=K a:=ok_some a K
@[simp ↓] theorem ok_ob_d {α β:Type} (x:Option α) (f:α→Option β) (K:β→Prop):ok (ob x f) K=ok x fun a=>ok (f a) K:=ok_ob x f K
@[simp ↓] theorem ok_gd_d {α:Type} (c:Bool) (x:Option α) (K:α→Prop):ok (gd c x) K=(c=true∧ok x K):=ok_gd c x K
@[simp ↓] theorem ob_some_d {α β:Type} (a:α) (f:α→Option β):ob (some a) f=f a:=(rfl)
@[simp ↓] theorem gd_true_d {β:Type} (x:Option β):gd true x=x:=(rfl)
@[simp ↓] theorem orc_some_d {α β:Type} (z:β) (f:α→β) (a:α):orc z f (some a)=f a:=(rfl)
@[simp ↓] theorem bi_true_d {α:Type} (x y:α):bi true x y=x:=(rfl)
@[simp ↓] theorem bi_false_d {α:Type} (x y:α):bi false x y=y:=(rfl)
@[simp] theorem evalO_tmp {t:Tmp}:evalO T (.tmp t)=T.get t:=(rfl)
@[simp] theorem evalO_const {v:Value}:evalO T (.const v)=ofConst v:=(rfl)
@[simp] theorem evalO_func {f:FuncId}:evalO T (.func f)=some (.func f []):=(rfl)
@[simp] theorem ofConst_bool {b:Bool}:ofConst (.bool b)=some (.bool b):=(rfl)
@[simp] theorem ofConst_int {k:IntKind} {n:Int}:ofConst (.int k n)=some (.int k n):=(rfl)
@[simp] theorem ofConst_str {s:ByteArray}:ofConst (.string s)=some (.str (bytesOf s)):=(rfl)
@[simp] theorem ofConst_nilptr:ofConst (.pointer none)=some .nilptr:=(rfl)
@[simp] theorem ofConst_snil:ofConst (.slice none 0 0)=some .snil:=(rfl)
@[simp] theorem ofConst_nilmap:ofConst (.map none)=some .nilmap:=(rfl)
@[simp] theorem ofConst_nilFunc:ofConst .nilFunc=some .nilFunc:=(rfl)
@[simp] theorem guard?_bool {b w:Bool}:(V.bool b).guard? w=some b:=(rfl)
@[simp] theorem guard?_tuple {w:Bool}:(V.tuple []).guard? w=some (!w):=(rfl)
@[simp] theorem guard?_undef {w:Bool}:undefV.guard? w=some (!w):=(rfl)
@[simp] theorem bool?_bool {b:Bool}:(V.bool b).bool?=some b:=(rfl)
@[simp] theorem int?_int {k:IntKind} {n:Int}:(V.int k n).int?=some (k,n):=(rfl)
@[simp] theorem nat?_cast {k:IntKind} {n:Nat}:(V.int k (n:Int)).nat?=some n:=(rfl)
@[simp] theorem nat?_ofNat {k:IntKind} {n:Nat}:(V.int k (Int.ofNat n)).nat?=some n:=(rfl)
@[simp] theorem nat?_zero {k:IntKind}:(V.int k 0).nat?=some 0:=(rfl)
@[simp] theorem nat?_one {k:IntKind}:(V.int k 1).nat?=some 1:=(rfl)
@[simp] theorem nat?_lit {k:IntKind} {n:Nat}:(V.int k (@OfNat.ofNat Int n instOfNat)).nat?=some n:=(rfl)
@[simp] theorem str?_str {s:List Nat}:(V.str s).str?=some s:=(rfl)
@[simp] theorem agg?_agg {s:List V}:(V.agg s).agg?=some s:=(rfl)
@[simp] theorem tuple?_tuple {s:List V}:(V.tuple s).tuple?=some s:=(rfl)
@[simp] theorem cells_agg {s:List V}:(V.agg s).cells=s:=(rfl)
@[simp] theorem cells_int {k:IntKind} {n:Int}:(V.int k n).cells=[.int k n]:=(rfl)
@[simp] theorem cells_bool {b:Bool}:(V.bool b).cells=[.bool b]:=(rfl)
@[simp] theorem cells_str {b:List Nat}:(V.str b).cells=[.str b]:=(rfl)
@[simp] theorem cells_snil:V.snil.cells=[.snil]:=(rfl)
@[simp] theorem cells_sl {es:List (List V)} {t:Bool}:(V.sl es t).cells=[.sl es t]:=(rfl)
@[simp] theorem cells_own {a b c d:Nat} {t:Option Nat}:(V.own a b c d t).cells=[.own a b c d t]:=(rfl)
@[simp] theorem cells_map {a:Nat}:(V.map a).cells=[.map a]:=(rfl)
@[simp] theorem cells_nilmap:(V.nilmap).cells=[.nilmap]:=(rfl)
@[simp] theorem cells_ptr {a b c:Nat}:(V.ptr a b c).cells=[.ptr a b c]:=(rfl)
@[simp] theorem cells_func {f:Nat} {c:List V}:(V.func f c).cells=[.func f c]:=(rfl)
@[simp] theorem cells_nilFunc:(V.nilFunc).cells=[.nilFunc]:=(rfl)
@[simp] theorem funcOf_func {f:FuncId} {c:List V}:funcOf (.func f c)=some (f,c):=(rfl)
@[simp] theorem allC_nil:allC []=true:=(rfl)
@[simp] theorem allC_cons {v:V} {l:List V}:allC (v::l)=et v.isCell (allC l):=(rfl)
@[simp] theorem isCell_int {k:IntKind} {n:Int}:(V.int k n).isCell=true:=(rfl)
@[simp] theorem isCell_bool {b:Bool}:(V.bool b).isCell=true:=(rfl)
@[simp] theorem isCell_str {b:List Nat}:(V.str b).isCell=true:=(rfl)
@[simp] theorem isCell_snil:V.snil.isCell=true:=(rfl)
@[simp] theorem isCell_sl {es:List (List V)} {t:Bool}:(V.sl es t).isCell=true:=(rfl)
@[simp] theorem isCell_own {a b c d:Nat} {t:Option Nat}:(V.own a b c d t).isCell=true:=(rfl)
@[simp] theorem isCell_map {a:Nat}:(V.map a).isCell=true:=(rfl)
@[simp] theorem isCell_nilmap:(V.nilmap).isCell=true:=(rfl)
@[simp] theorem isCell_ptr {a b c:Nat}:(V.ptr a b c).isCell=true:=(rfl)
@[simp] theorem isCell_func {f:Nat} {c:List V}:(V.func f c).isCell=true:=(rfl)
@[simp] theorem isCell_nilFunc:(V.nilFunc).isCell=true:=(rfl)
@[simp] theorem loadJ_ptr {i:TI} {a g off:Nat}:loadJ i hs (.ptr a g off)=ob (getRow hs a g) fun r=>loadRow i r off:=(rfl)
@[simp] theorem loadJ_ref {i:TI} {cs:List V}:loadJ i hs (.ref cs)=partL i cs 0:=(rfl)
@[simp] theorem fieldAddr_ptr {n a g off:Nat}:fieldAddrV n (.ptr a g off)=some (.ptr a g (off+n)):=(rfl)
@[simp] theorem fieldAddr_ref {n:Nat} {cs:List V}:fieldAddrV n (.ref cs)=some (.ref (dropL n cs)):=(rfl)
@[simp] theorem indexAddr_sl {e:TI} {n:Nat} {es:List (List V)} {t:Bool}:indexAddrV e n (.sl es t)=gd (sizes e.size es) (ob (nthL es n) fun c=>some (.ref c)):=(rfl)
@[simp] theorem indexAddr_own {e:TI} {n a g off len:Nat} {c:Option Nat}:indexAddrV e n (.own a g off len c)=gd (Nat.blt n len) (some (.ptr a g (off+n*e.size))):=(rfl)
@[simp] theorem storeJ_ptr {i:TI} {a g off:Nat} {v:V}:storeJ i hs (.ptr a g off) v=bi (isRow hs a) (ob (purify v hs) fun r=>storeRow i a g off r.1 r.2) (storeRow i a g off v hs):=(rfl)
@[simp] theorem arr?_arr {s g:Nat} {es:List (List V)} {a b c:Bool}:(Obj.arr s g es a b c).arr?=some (s,g,es,a,b,c):=(rfl)
@[simp] theorem mp?_mp {es:List (V×V)}:(Obj.mp es).mp?=some es:=(rfl)
@[simp] theorem put_n {o:Obj} {k:Nat}:(hs.put k o).n=hs.n:=(rfl)
@[simp] theorem wr_n {o:Obj} {k:Nat}:(hs.wr k o).n=hs.n:=(rfl)
@[simp] theorem arrOf_n {n:Nat} {e:TypeId}:arrOf (.array n e)=some e:=(rfl)
@[simp] theorem isStructD_arr {n:Nat} {e:TypeId}:isStructD (.array n e)=false:=(rfl)
@[simp] theorem isAggD_arr {n:Nat} {e:TypeId}:isAggD (.array n e)=true:=(rfl)
@[simp] theorem elemOf_sl {e:TypeId}:elemOf (.slice e)=some (e,none):=(rfl)
@[simp] theorem elemOf_arr {n:Nat} {e:TypeId}:elemOf (.array n e)=some (e,some n):=(rfl)
@[simp] theorem idxV_none {e:TI} {n:Nat} {v:V}:idxV none e n v=indexAddrV e n v:=(rfl)
@[simp] theorem idxV_some {k:Nat} {e:TI} {n:Nat} {v:V}:idxV (some k) e n v=gd (Nat.blt n k) (fieldAddrV (n*e.size) v):=(rfl)
@[simp] theorem sliceOf_sl {e:TypeId}:sliceOf (.slice e)=some e:=(rfl)
@[simp] theorem mapOf_mp {k e:TypeId}:mapOf (.map k e)=some (k,e):=(rfl)
@[simp] theorem binJ_int {P:Program} {b:BinOp} {t:TypeId} {k k':IntKind} {m n:Int}:binJ P b t (.int k m) (.int k' n)=bi (isShift b) (shiftJ b k m n) (gd (kindEq k k') (arith b k m n)):=(rfl)
@[simp] theorem kindEq_self {k:IntKind}:kindEq k k=true:=by cases k<;>rfl
@[simp] theorem binJ_str {P:Program} {b:BinOp} {t:TypeId} {m n:List Nat}:binJ P b t (.str m) (.str n)=strOp b m n:=(rfl)
@[simp] theorem binJ_bool {P:Program} {b:BinOp} {t:TypeId} {m n:Bool}:binJ P b t (.bool m) (.bool n)=otherOp P b t (.bool m) (.bool n):=(rfl)
end
@[simp] theorem ob_some_n {α β:Type} (a:α) (f:α→Option β):ob (some a) f=f a:=(rfl)
@[simp] theorem ob_none_n {α β:Type} (f:α→Option β):ob none f=none:=(rfl)
@[simp] theorem gd_true_n {β:Type} (x:Option β):gd true x=x:=(rfl)
@[simp] theorem gd_false_n {β:Type} (x:Option β):gd false x=none:=(rfl)
@[simp] theorem bi_true_n {α:Type} (x y:α):bi true x y=x:=(rfl)
@[simp] theorem bi_false_n {α:Type} (x y:α):bi false x y=y:=(rfl)
@[simp] theorem orc_some_n {α β:Type} (z:β) (f:α→β) (a:α):orc z f (some a)=f a:=(rfl)
@[simp] theorem orc_none_n {α β:Type} (z:β) (f:α→β):orc z f none=z:=(rfl)
@[simp] theorem get_leaf_n {α:Type} (n:Nat):(PT.leaf:PT α).get n=none:=(rfl)
@[simp] theorem evalL_nil_n {T:PT V}:evalL T []=some []:=(rfl)
@[simp] theorem evalL_cons_n {T:PT V} (o:Operand) (l:List Operand):evalL T (o::l)=ob (evalO T o) fun v=>ob (evalL T l) fun r=>some (v::r):=(rfl)
attribute [simp] ok_some ok_ob ok_gd PT.set_get put_get wr_get lenL_eq nthL_eq takeL_eq dropL_eq appL_eq setL_eq repL_eq boolEq_eq
@[simp] theorem beq_dec {a b:Nat}:Nat.beq a b=decide (a=b):=by rw[Bool.eq_iff_iff];simp
@[simp] theorem ble_dec {a b:Nat}:Nat.ble a b=decide (a≤b):=by rw[Bool.eq_iff_iff];simp
@[simp] theorem blt_dec {a b:Nat}:Nat.blt a b=decide (a<b):=by rw[Bool.eq_iff_iff,J.blt_true];simp
@[simp ↓] theorem then_normal {K:PT V→HS→Prop} {Q:Ex→PT V→HS→Prop} {T:PT V} {hs:HS}:Ex.then K Q .normal T hs=K T hs:=(rfl)
@[simp ↓] theorem then_ret {K:PT V→HS→Prop} {Q:Ex→PT V→HS→Prop} {T:PT V} {hs:HS}:Ex.then K Q .ret T hs=Q .ret T hs:=(rfl)
@[simp ↓] theorem then_exit {i:Nat} {K:PT V→HS→Prop} {Q:Ex→PT V→HS→Prop} {T:PT V} {hs:HS}:Ex.then K Q (.exit i) T hs=Q (.exit i) T hs:=(rfl)
@[simp ↓] theorem blk_normal {id:Nat} {Q:Ex→PT V→HS→Prop} {T:PT V} {hs:HS}:Ex.inBlock id Q .normal T hs=Q .normal T hs:=(rfl)
@[simp ↓] theorem blk_ret {id:Nat} {Q:Ex→PT V→HS→Prop} {T:PT V} {hs:HS}:Ex.inBlock id Q .ret T hs=Q .ret T hs:=(rfl)
@[simp ↓] theorem blk_exit {id i:Nat} {Q:Ex→PT V→HS→Prop} {T:PT V} {hs:HS}:Ex.inBlock id Q (.exit i) T hs=if i=id then Q .normal T hs else Q (.exit i) T hs:=(rfl)
@[simp] theorem resJ_nil {P:Program} {T:PT V} {hs:HS}:resJ P T hs []=some []:=(rfl)
@[simp] theorem resJ_tmp {P:Program} {T:PT V} {hs:HS} {t:Tmp} {l:List ResultVar}:resJ P T hs (.tmp t::l)=ob (T.get t) fun v=>ob (resJ P T hs l) fun r=>some (v::r):=(rfl)
@[simp] theorem resJ_cell {P:Program} {T:PT V} {hs:HS} {a:Tmp} {t:TypeId} {l:List ResultVar}:resJ P T hs (.cell a t::l)=ob (ob (ti P t) fun i=>ob (T.get a) fun p=>loadJ i hs p) fun v=>ob (resJ P T hs l) fun r=>some (v::r):=(rfl)
@[simp] theorem tupleJ_one {v:V}:tupleJ [v]=v:=(rfl)
@[simp] theorem tupleJ_two {v u:V} {l:List V}:tupleJ (v::u::l)=.tuple (v::u::l):=(rfl)
attribute [simp] Leaves_ret Leaves_normal
attribute [simp] et_eq nt_eq ltI_dec leI_dec wrapJ_eq
@[simp] theorem eqI_dec {a b:Int}:eqI a b=decide (a=b):=by rw[Bool.eq_iff_iff,eqI_true];simp
@[simp] theorem isShift_add:isShift .add=false:=(rfl)
@[simp] theorem isShift_sub:isShift .sub=false:=(rfl)
@[simp] theorem isShift_mul:isShift .mul=false:=(rfl)
@[simp] theorem isShift_quo:isShift .quo=false:=(rfl)
@[simp] theorem isShift_rem:isShift .rem=false:=(rfl)
@[simp] theorem isShift_eql:isShift .eql=false:=(rfl)
@[simp] theorem isShift_neq:isShift .neq=false:=(rfl)
@[simp] theorem isShift_lss:isShift .lss=false:=(rfl)
@[simp] theorem isShift_leq:isShift .leq=false:=(rfl)
@[simp] theorem isShift_gtr:isShift .gtr=false:=(rfl)
@[simp] theorem isShift_geq:isShift .geq=false:=(rfl)
@[simp] theorem isShift_and:isShift .and=false:=(rfl)
@[simp] theorem isShift_or:isShift .or=false:=(rfl)
@[simp] theorem isShift_xor:isShift .xor=false:=(rfl)
section
variable {k:IntKind}{a b:Int}{hs:HS}{P:Program}{T:PT V}
@[simp] theorem arith_add:arith .add k a b=some (.int k (wrapJ k (a+b))):=(rfl)
@[simp] theorem arith_sub:arith .sub k a b=some (.int k (wrapJ k (a-b))):=(rfl)
@[simp] theorem arith_mul:arith .mul k a b=some (.int k (wrapJ k (a*b))):=(rfl)
@[simp] theorem arith_quo:arith .quo k a b=gd (nt (eqI b 0)) (some (.int k (wrapJ k (a.tdiv b)))):=(rfl)
@[simp] theorem arith_rem:arith .rem k a b=gd (nt (eqI b 0)) (some (.int k (a.tmod b))):=(rfl)
@[simp] theorem arith_eql:arith .eql k a b=some (.bool (eqI a b)):=(rfl)
@[simp] theorem arith_neq:arith .neq k a b=some (.bool (nt (eqI a b))):=(rfl)
@[simp] theorem arith_lss:arith .lss k a b=some (.bool (ltI a b)):=(rfl)
@[simp] theorem arith_leq:arith .leq k a b=some (.bool (leI a b)):=(rfl)
@[simp] theorem arith_gtr:arith .gtr k a b=some (.bool (ltI b a)):=(rfl)
@[simp] theorem isShift_shr:isShift .shr=true:=(rfl)
@[simp] theorem shiftJ_shr:shiftJ .shr k a b=ob (natI b) fun m=>some (.int k (a.fdiv (2 ^ min m k.bits))):=(rfl)
@[simp] theorem arith_and:arith .and k a b=some (.int k (andI k a b)):=(rfl)
@[simp] theorem arith_geq:arith .geq k a b=some (.bool (leI b a)):=(rfl)
@[simp] theorem strOp_eql {x y:List Nat}:strOp .eql x y=some (.bool (eqNs x y)):=(rfl)
@[simp] theorem strOp_neq {x y:List Nat}:strOp .neq x y=some (.bool (nt (eqNs x y))):=(rfl)
@[simp] theorem strOp_lss {x y:List Nat}:strOp .lss x y=some (.bool (ltNs x y)):=(rfl)
@[simp] theorem strOp_gtr {x y:List Nat}:strOp .gtr x y=some (.bool (bi (ltNs x y) false (nt (eqNs x y)))):=(rfl)
@[simp] theorem otherOp_eql {t:TypeId} {x y:V}:otherOp P .eql t x y=ob (eqV P t x y) fun b=>some (.bool b):=(rfl)
@[simp] theorem otherOp_neq {t:TypeId} {x y:V}:otherOp P .neq t x y=ob (eqV P t x y) fun b=>some (.bool (nt b)):=(rfl)
@[simp] theorem eqD_bool {x y:V}:eqD .bool x y=ob x.bool? fun a=>ob y.bool? fun b=>some (boolEq a b):=(rfl)
@[simp] theorem eqD_slice {e:TypeId} {x y:V}:eqD (.slice e) x y=eqNil (nilS x) (nilS y):=(rfl)
@[simp] theorem eqD_map {e f:TypeId} {x y:V}:eqD (.map e f) x y=eqNil (nilM x) (nilM y):=(rfl)
@[simp] theorem eqD_pointer {e:TypeId} {x y:V}:eqD (.pointer e) x y=eqNil (nilP x) (nilP y):=(rfl)
@[simp] theorem eqD_func {a b:Array TypeId} {c:Bool} {x y:V}:eqD (.func a b c) x y=eqNil (nilF x) (nilF y):=(rfl)
@[simp] theorem nilS_snil:nilS .snil=some true:=(rfl)
@[simp] theorem nilS_own {a b c d:Nat} {e:Option Nat}:nilS (.own a b c d e)=some false:=(rfl)
@[simp] theorem nilS_sl {e:List V} {l:List (List V)} {t:Bool}:nilS (.sl (e::l) t)=some false:=(rfl)
@[simp] theorem nilM_nil:nilM .nilmap=some true:=(rfl)
@[simp] theorem nilM_map {i:Nat}:nilM (.map i)=some false:=(rfl)
@[simp] theorem nilP_nil:nilP .nilptr=some true:=(rfl)
@[simp] theorem nilP_ptr {i g o:Nat}:nilP (.ptr i g o)=some false:=(rfl)
@[simp] theorem nilP_ref {c:List V}:nilP (.ref c)=some false:=(rfl)
@[simp] theorem nilF_nil:nilF .nilFunc=some true:=(rfl)
@[simp] theorem nilF_func {f:Nat} {c:List V}:nilF (.func f c)=some false:=(rfl)
@[simp] theorem eqNil_n {a b:Option Bool}:eqNil a b=ob a fun a=>ob b fun b=>bi a (some b) (bi b (some false) none):=(rfl)
@[simp] theorem eqV_n {t:TypeId} {x y:V}:eqV P t x y=ob (ti P t) fun i=>eqW P t i.desc x y:=(rfl)
@[simp] theorem eqW_bool {t:TypeId} {x y:V}:eqW P t .bool x y=eqD .bool x y:=(rfl)
@[simp] theorem eqW_slice {t e:TypeId} {x y:V}:eqW P t (.slice e) x y=eqD (.slice e) x y:=(rfl)
@[simp] theorem eqW_map {t e f:TypeId} {x y:V}:eqW P t (.map e f) x y=eqD (.map e f) x y:=(rfl)
@[simp] theorem eqW_pointer {t e:TypeId} {x y:V}:eqW P t (.pointer e) x y=eqD (.pointer e) x y:=(rfl)
@[simp] theorem eqW_func {t:TypeId} {a b:Array TypeId} {c:Bool} {x y:V}:eqW P t (.func a b c) x y=eqD (.func a b c) x y:=(rfl)
@[simp] theorem isNilC_tmp {k:Nat}:isNilC (.tmp k)=false:=(rfl)
@[simp] theorem isNilC_func {k:Nat}:isNilC (.func k)=false:=(rfl)
@[simp] theorem isNilC_nil:isNilC (.const .nilIface)=true:=(rfl)
@[simp] theorem isNilC_int {k:IntKind} {n:Int}:isNilC (.const (.int k n))=false:=(rfl)
@[simp] theorem isNilC_bool {b:Bool}:isNilC (.const (.bool b))=false:=(rfl)
@[simp] theorem isNilC_string {s:ByteArray}:isNilC (.const (.string s))=false:=(rfl)
@[simp] theorem isNilC_slice {a:Option Addr} {n c:Nat}:isNilC (.const (.slice a n c))=false:=(rfl)
@[simp] theorem isNilC_pointer {a:Option Addr}:isNilC (.const (.pointer a))=false:=(rfl)
@[simp] theorem isNilC_map {a:Option Nat}:isNilC (.const (.map a))=false:=(rfl)
@[simp] theorem isNilC_nilFunc:isNilC (.const .nilFunc)=false:=(rfl)
@[simp] theorem nilJ_n {op:BinOp} {t:TypeId} {a:V}:nilJ P op t a=ob (ti P t) fun i=>gd (isIface i.desc) (ob (nilI a) fun b=>match op with
  |.eql=>some (.bool b)
  |.neq=>some (.bool (nt b))
  |_=>none):=(rfl)
@[simp] theorem nilI_nil:nilI .nilIface=some true:=(rfl)
@[simp] theorem nilI_iface {t:TypeId} {v:V}:nilI (.iface t v)=some false:=(rfl)
@[simp] theorem isIface_n {m}:isIface (.interface m)=true:=(rfl)
@[simp] theorem getRow_eq {i g:Nat}:getRow hs i g=ob (hs.H.get i) fun o=>ob o.arr? fun a=>gd (et (Nat.beq g a.2.1) (nt (Nat.beq a.1 0))) (some (a.1,a.2.2)):=(rfl)
@[simp] theorem isRow_eq {i:Nat}:isRow hs i=orc false (fun o=>orc false (fun a=>a.2.2.2.2.2) o.arr?) (hs.H.get i):=(rfl)
@[simp] theorem loadRow_n {i:TI} {a:Nat×List (List V)×Bool×Bool×Bool} {off:Nat}:loadRow i a off=ob (nthL a.2.1 (off / a.1)) fun e=>partL i e (off % a.1):=(rfl)
@[simp] theorem partL_n {i:TI} {cs:List V} {off:Nat}:partL i cs off=bi (isAggD i.desc) (aggL i.size (takeL i.size (dropL off cs))) (nthL cs off):=(rfl)
@[simp] theorem aggL_n {n:Nat} {r:List V}:aggL n r=gd (Nat.beq (lenL r) n) (some (.agg r)):=(rfl)
@[simp] theorem storeRow_n {i:TI} {id g off:Nat} {v:V}:storeRow i id g off v hs=ob (getRow hs id g) fun a=>gd (nt a.2.2.2.1) (gd (et (allC v.cells) (et (Nat.beq (lenL v.cells) i.size) (Nat.ble (off % a.1+i.size) a.1)))
 (ob (nthL a.2.1 (off / a.1)) fun e=>some (hs.wr id (.arr a.1 g (setL a.2.1 (off / a.1) (overL e (off % a.1) v.cells)) a.2.2.1 false a.2.2.2.2)))):=(rfl)
@[simp] theorem overL_nil {α:Type} (n:Nat) (l:List α):overL ([]:List α) n l=[]:=(rfl)
@[simp] theorem overL_zero_nil {α:Type} (x:α) (t:List α):overL (x::t) 0 []=x::t:=(rfl)
@[simp] theorem overL_zero_cons {α:Type} (x:α) (t:List α) (y:α) (ys:List α):overL (x::t) 0 (y::ys)=y::overL t 0 ys:=(rfl)
@[simp] theorem overL_succ {α:Type} (x:α) (t:List α) (n:Nat) (l:List α):overL (x::t) (n+1) l=x::overL t n l:=(rfl)
@[simp] theorem lenOp_n {ts:List TypeId} {vs:List V}:lenOpJ P hs ts vs=ob (headTI P ts) fun i=>ob (oneL vs) fun x=>ob (lenJ hs i.desc x) fun n=>some (.int .i64 (Int.ofNat n),hs):=(rfl)
@[simp] theorem minmax_n {l:Bool} {vs:List V}:minmaxJ hs l vs=ob (twoL vs) fun p=>ob p.1.int? fun a=>ob p.2.int? fun b=>some (.int a.1 (bi (bi l (ltI b.2 a.2) (ltI a.2 b.2)) b.2 a.2),hs):=(rfl)
@[simp] theorem headTI_cons {t:TypeId} {l:List TypeId}:headTI P (t::l)=ti P t:=(rfl)
@[simp] theorem put_H {i:Nat} {o:Obj}:(hs.put i o).H=hs.H.set i o:=(rfl)
@[simp] theorem put_log {i:Nat} {o:Obj}:(hs.put i o).log=hs.log:=(rfl)
@[simp] theorem wr_H {i:Nat} {o:Obj}:(hs.wr i o).H=hs.H.set i o:=(rfl)
@[simp] theorem wr_log {i:Nat} {o:Obj}:(hs.wr i o).log=i::hs.log:=(rfl)
@[simp] theorem oneL_one {v:V}:oneL [v]=some v:=(rfl)
@[simp] theorem twoL_two {v u:V}:twoL [v,u]=some (v,u):=(rfl)
@[simp] theorem lenJ_str {s:List Nat}:lenJ hs .string (.str s)=some (lenL s):=(rfl)
@[simp] theorem lenJ_snil {e:TypeId}:lenJ hs (.slice e) .snil=some 0:=(rfl)
@[simp] theorem lenJ_sl {e:TypeId} {es:List (List V)} {t:Bool}:lenJ hs (.slice e) (.sl es t)=some (lenL es):=(rfl)
@[simp] theorem lenJ_own {e:TypeId} {i g o n:Nat} {c:Option Nat}:lenJ hs (.slice e) (.own i g o n c)=some n:=(rfl)
@[simp] theorem lenJ_nilmap {k e:TypeId}:lenJ hs (.map k e) .nilmap=some 0:=(rfl)
@[simp] theorem lenJ_map {k e:TypeId} {i:Nat}:lenJ hs (.map k e) (.map i)=ob (hs.H.get i) fun o=>ob o.mp? fun es=>some (lenL es):=(rfl)
@[simp] theorem unOp_not {x:Operand}:unOpJ T hs .not x=ob (evalO T x) fun v=>ob v.bool? fun b=>some (.bool (nt b),hs):=(rfl)
@[simp] theorem unOp_neg {x:Operand}:unOpJ T hs .neg x=ob (evalO T x) fun v=>ob v.int? fun p=>some (.int p.1 (wrapJ p.1 (0-p.2)),hs):=(rfl)
@[simp] theorem convV_int {v:V}:convV (.int k) v=ob v.int? fun p=>some (.int k (wrapJ k p.2)):=(rfl)
@[simp] theorem convV_str {v:V}:convV .string v=ob v.str? fun s=>some (.str s):=(rfl)
@[simp] theorem notNil_ptr {i g o:Nat}:notNil (.ptr i g o)=true:=(rfl)
@[simp] theorem notNil_ref {c:List V}:notNil (.ref c)=true:=(rfl)
@[simp] theorem notNil_func {f:Nat} {c:List V}:notNil (.func f c)=true:=(rfl)
@[simp] theorem isAgg_int:isAggD (.int k)=false:=(rfl)
@[simp] theorem isAgg_bool:isAggD .bool=false:=(rfl)
@[simp] theorem isAgg_str:isAggD .string=false:=(rfl)
@[simp] theorem isAgg_slice {e:TypeId}:isAggD (.slice e)=false:=(rfl)
@[simp] theorem isAgg_map {e f:TypeId}:isAggD (.map e f)=false:=(rfl)
@[simp] theorem isAgg_pointer {e:TypeId}:isAggD (.pointer e)=false:=(rfl)
@[simp] theorem isAgg_func {e f:Array TypeId} {c:Bool}:isAggD (.func e f c)=false:=(rfl)
@[simp] theorem Gives_int {n:Int} {r:V}:Gives r (.int k n) hs=(.int k n=r):=by show (some (V.int k n)=some r)=_;simp
@[simp] theorem Gives_bool {b:Bool} {r:V}:Gives r (.bool b) hs=(.bool b=r):=by show (some (V.bool b)=some r)=_;simp
@[simp] theorem Gives_str {b:List Nat} {r:V}:Gives r (.str b) hs=(.str b=r):=by show (some (V.str b)=some r)=_;simp
end
section
variable {P:Program}{T:PT V}{hs:HS}{id:Nat}
@[simp] theorem roomOk_n {n b:Nat}:roomOk n b=decide (n*b≤1048576):=by show Nat.ble _ _=_;simp
@[simp] theorem makeSliceOp_n {t:TypeId} {l c:Operand}:makeSliceOpJ P T hs id t l c=ob (ti P t) fun i=>ob (evalO T l) fun a=>ob (evalO T c) fun b=>makeSliceJ P i hs id a b:=(rfl)
@[simp] theorem makeSlice_n {i:TI} {l c:V}:makeSliceJ P i hs id l c=ob (sliceOf i.desc) fun el=>ob (ti P el) fun e=>ob l.nat? fun l=>ob c.nat? fun c =>
 gd (et (Nat.ble l c) (et (roomOk c e.bytes) (et (Nat.ble (c*e.size) 1048576) (et (nt (Nat.beq e.size 0)) (et (Nat.beq (lenL e.zero) e.size) (allP e.zero))))))
  (some (.own id 0 0 l (some c),hs.put id (.arr e.size 0 (repL e.zero c) true false true))):=(rfl)
@[simp] theorem buildAJ_nil_n {n:Nat} {cells:List V}:buildAJ T n [] cells=some cells:=(rfl)
@[simp] theorem buildAJ_cons_n {n k:Nat} {o:Operand} {l:List (Nat×Operand)} {cells:List V}:buildAJ T n ((k,o)::l) cells=ob (evalO T o) fun v=>gd (et (Nat.beq (lenL v.cells) n) (Nat.ble (k*n+n) (lenL cells))) (buildAJ T n l (overL cells (k*n) v.cells)):=(rfl)
@[simp] theorem buildJ_nil_n {i:TI} {cells:List V}:buildJ P T i [] cells=some cells:=(rfl)
@[simp] theorem buildJ_cons_n {i:TI} {k:Nat} {o:Operand} {l:List (Nat×Operand)} {cells:List V}:buildJ P T i ((k,o)::l) cells=ob (fieldOf i k) fun fd=>ob (ti P fd.type) fun fi=>ob (evalO T o) fun v =>
 gd (et (Nat.beq (lenL v.cells) fi.size) (Nat.ble (fd.offset+fi.size) (lenL cells))) (buildJ P T i l (overL cells fd.offset v.cells)):=(rfl)
@[simp] theorem partsJ_nil_n {dr:Bool} {e:TI} {len:Nat} {es:List (List V)}:partsJ dr T e len [] hs es=some (es,hs):=(rfl)
@[simp] theorem partsJ_cons_n {dr:Bool} {e:TI} {len k:Nat} {o:Operand} {l:List (Nat×Operand)} {es:List (List V)}:partsJ dr T e len ((k,o)::l) hs es=ob (evalO T o) fun v=>ob (cleanJ dr v hs) fun r =>
 gd (et (Nat.beq (lenL r.1.cells) e.size) (Nat.blt k len)) (partsJ dr T e len l r.2 (setL es k r.1.cells)):=(rfl)
@[simp] theorem cleanJ_false {v:V}:cleanJ false v hs=purify v hs:=(rfl)
@[simp] theorem cleanJ_true {v:V}:cleanJ true v hs=gd v.pure (some (v,hs)):=(rfl)
@[simp] theorem buildSliceOp_n {dr:Bool} {t:TypeId} {len:Nat} {ps:Array (Nat×Operand)}:buildSliceOpJ P dr T hs id t len ps=ob (ti P t) fun i=>ob (sliceOf i.desc) fun el=>ob (ti P el) fun e =>
 gd (et (Nat.ble (len*e.size) 1048576) (et (nt (Nat.beq e.size 0)) (et (Nat.beq (lenL e.zero) e.size) (allP e.zero))))
  (ob (partsJ dr T e len ps.toList hs (repL e.zero len)) fun r=>some (bi (Nat.beq e.bytes 128) (.own id 0 0 len (some len)) (.sl r.1 true),r.2.put id (bi (Nat.beq e.bytes 128) (.arr e.size 0 r.1 true false true) (.mp [])))):=(rfl)
@[simp] theorem elemTI_cons {t:TypeId} {l:List TypeId}:elemTI P (t::l)=ob (ti P t) fun i=>ob (sliceOf i.desc) fun el=>ti P el:=(rfl)
@[simp] theorem isSlice2_two {t u:TypeId}:isSlice2 [t,u]=some u:=(rfl)
@[simp] theorem appendOp_n {ts:List TypeId} {vs:List V}:appendOpJ P hs id ts vs=ob (twoL vs) fun p=>ob (elemTI P ts) fun e=>ob (isSlice2 ts) fun u=>ob (ti P u) fun j=>ob (sliceOf j.desc) fun _=>appendJ e hs id p.1 p.2:=(rfl)
@[simp] theorem append_nil {e:TI} {x:V}:appendJ e hs id .snil x=ob (elemsJ hs e.size x) fun new=>gd (et (sizes e.size new) (et (allCells new) (et (nt (Nat.beq e.size 0)) (et (nt (Nat.beq e.bytes 0)) (Nat.beq (lenL e.zero) e.size))))) (appendNil e hs id new):=(rfl)
@[simp] theorem append_sl {e:TI} {es:List (List V)} {t:Bool} {x:V}:appendJ e hs id (.sl es t) x=ob (elemsJ hs e.size x) fun new=>gd (et (sizes e.size new) (et (allCells new) (et (nt (Nat.beq e.size 0)) (et (nt (Nat.beq e.bytes 0)) (Nat.beq (lenL e.zero) e.size))))) (appendSl e hs id es t new):=(rfl)
@[simp] theorem append_own {e:TI} {i g o n:Nat} {c:Option Nat} {x:V}:appendJ e hs id (.own i g o n c) x=ob (elemsJ hs e.size x) fun new=>gd (et (sizes e.size new) (et (allCells new) (et (nt (Nat.beq e.size 0)) (et (nt (Nat.beq e.bytes 0)) (Nat.beq (lenL e.zero) e.size))))) (appendOwn e hs id i g o n c new):=(rfl)
@[simp] theorem appendNil_n {e:TI} {new:List (List V)}:appendNil e hs id new=bi (Nat.beq (lenL new) 0) (some (.snil,hs)) (gd (roomOk (lenL new) e.bytes) (mkRowJ e hs id (lenL new) new)):=(rfl)
@[simp] theorem appendSl_n {e:TI} {es new:List (List V)} {t:Bool}:appendSl e hs id es t new=bi (Nat.beq (lenL new) 0) (some (.sl es t,hs)) (gd (et t (et (roomOk (lenL es+lenL new) e.bytes) (sizes e.size es))) (mkRowJ e hs id (lenL es+lenL new) (appL es new))):=(rfl)
@[simp] theorem mkRow_n {e:TI} {n:Nat} {es:List (List V)}:mkRowJ e hs id n es=some (.own id 0 0 n none,hs.put id (.arr e.size 0 es false false true)):=(rfl)
@[simp] theorem appendOwn_none {e:TI} {i g o n:Nat} {new:List (List V)}:appendOwn e hs id i g o n none new=ob (getRow hs i g) fun a=>gd (et a.2.2.2.2 (et (Nat.beq a.1 e.size) (et (Nat.beq (o % a.1) 0) (roomOk (n+lenL new) e.bytes))))
 (bi (Nat.ble (o / a.1+n+lenL new) (lenL a.2.1)) (appendIn hs i g o n none a new)
     (gd (et (nt a.2.2.2.1) (et (Nat.beq o 0) (Nat.ble n (lenL a.2.1)))) (some (.own i (g+1) 0 (n+lenL new) none,hs.wr i (.arr a.1 (g+1) (appL (takeL n a.2.1) new) false false true))))):=(rfl)
@[simp] theorem appendOwn_some {e:TI} {i g o n c:Nat} {new:List (List V)}:appendOwn e hs id i g o n (some c) new=ob (getRow hs i g) fun a=>gd (et a.2.2.2.2 (et (Nat.beq a.1 e.size) (et (Nat.beq (o % a.1) 0) (roomOk (n+lenL new) e.bytes))))
 (bi (Nat.ble (n+lenL new) c) (appendIn hs i g o n (some c) a new) (ob (cutRow a.1 o n a.2.1) fun old=>mkRowJ e hs id (n+lenL new) (appL old new))):=(rfl)
@[simp] theorem appendIn_n {i g o n:Nat} {c:Option Nat} {a:Nat×List (List V)×Bool×Bool×Bool} {new:List (List V)}:appendIn hs i g o n c a new=gd (et (nt a.2.2.2.1) (Nat.ble (o / a.1+n+lenL new) (lenL a.2.1)))
 (some (.own i g o (n+lenL new) c,hs.wr i (.arr a.1 g (overL a.2.1 (o / a.1+n) new) a.2.2.1 false a.2.2.2.2))):=(rfl)
@[simp] theorem cutRow_n {size off len:Nat} {es:List (List V)}:cutRow size off len es=gd (et (Nat.beq (off % size) 0) (Nat.ble (off / size+len) (lenL es))) (some (takeL len (dropL (off / size) es))):=(rfl)
@[simp] theorem elemsJ_snil {n:Nat}:elemsJ hs n .snil=some []:=(rfl)
@[simp] theorem elemsJ_sl {n:Nat} {es:List (List V)} {t:Bool}:elemsJ hs n (.sl es t)=some es:=(rfl)
@[simp] theorem elemsJ_own {n i g o k:Nat} {c:Option Nat}:elemsJ hs n (.own i g o k c)=ob (getRow hs i g) fun a=>gd (et a.2.2.2.2 (Nat.beq a.1 n)) (cutRow a.1 o k a.2.1):=(rfl)
@[simp] theorem copyOp_n {ts:List TypeId} {vs:List V}:copyOpJ P hs ts vs=ob (twoL vs) fun p=>ob (elemTI P ts) fun e=>ob (isSlice2 ts) fun _=>copyJ e hs p.1 p.2:=(rfl)
@[simp] theorem copyJ_own {e:TI} {i g o n:Nat} {c:Option Nat} {x:V}:copyJ e hs (.own i g o n c) x=ob (elemsJ hs e.size x) fun src=>copyOwn e hs i g o n src:=(rfl)
@[simp] theorem copyOwn_n {e:TI} {i g o n:Nat} {src:List (List V)}:copyOwn e hs i g o n src=ob (getRow hs i g) fun a=>gd (et (nt a.2.2.2.1) (et a.2.2.2.2 (et (Nat.beq a.1 e.size) (et (Nat.beq (o % a.1) 0) (et (sizes e.size src) (et (allCells src) (Nat.ble (o / a.1+minN (lenL src) n) (lenL a.2.1))))))))
 (some (.int .i64 (Int.ofNat (minN (lenL src) n)),hs.wr i (.arr a.1 g (overL a.2.1 (o / a.1) (takeL (minN (lenL src) n) src)) a.2.2.1 false true))):=(rfl)
@[simp] theorem minN_n {a b:Nat}:minN a b=min a b:=by unfold minN;rw[bi_eq];simp only[ble_true];split<;>omega
@[simp] theorem purify_n {v:V}:purify v hs=ob (still2 hs v) fun v'=>some (v',freezeL hs v.cells):=(rfl)
@[simp] theorem still2_agg {l:List V}:still2 hs (.agg l)=ob (stillL hs l) fun l=>some (.agg l):=(rfl)
@[simp] theorem stillL_nil_n:stillL hs []=some []:=(rfl)
@[simp] theorem stillL_cons_n {v:V} {l:List V}:stillL hs (v::l)=ob (still1 hs v) fun v'=>ob (stillL hs l) fun l'=>some (v'::l'):=(rfl)
@[simp] theorem still1_own_n {i g o n:Nat} {c:Option Nat}:still1 hs (.own i g o n c)=ob (getRow hs i g) fun a=>gd a.2.2.2.2 (ob (cutRow a.1 o n a.2.1) fun l=>some (.sl l false)):=(rfl)
@[simp] theorem still1_int {k:IntKind} {n:Int}:still1 hs (.int k n)=some (.int k n):=(rfl)
@[simp] theorem still1_bool {b:Bool}:still1 hs (.bool b)=some (.bool b):=(rfl)
@[simp] theorem still1_str {b:List Nat}:still1 hs (.str b)=some (.str b):=(rfl)
@[simp] theorem still1_sl {es:List (List V)} {b:Bool}:still1 hs (.sl es b)=some (.sl es b):=(rfl)
@[simp] theorem still1_snil:still1 hs .snil=some .snil:=(rfl)
@[simp] theorem freezeL_nil_n:freezeL hs []=hs:=(rfl)
@[simp] theorem freezeL_cons_n {v:V} {l:List V}:freezeL hs (v::l)=freeze1 (freezeL hs l) v:=(rfl)
@[simp] theorem freeze1_own {i g o n:Nat} {c:Option Nat}:freeze1 hs (.own i g o n c)=freezeRow hs i:=(rfl)
@[simp] theorem freeze1_int {k:IntKind} {n:Int}:freeze1 hs (.int k n)=hs:=(rfl)
@[simp] theorem freeze1_bool {b:Bool}:freeze1 hs (.bool b)=hs:=(rfl)
@[simp] theorem freeze1_str {b:List Nat}:freeze1 hs (.str b)=hs:=(rfl)
@[simp] theorem freeze1_sl {es:List (List V)} {b:Bool}:freeze1 hs (.sl es b)=hs:=(rfl)
@[simp] theorem freeze1_snil:freeze1 hs .snil=hs:=(rfl)
@[simp] theorem freezeRow_n {i:Nat}:freezeRow hs i=orc hs (fun o=>orc hs (fun a=>hs.wr i (.arr a.1 a.2.1 a.2.2.1 a.2.2.2.1 true a.2.2.2.2.2)) o.arr?) (hs.H.get i):=(rfl)
@[simp] theorem sizes_nil {n:Nat}:sizes n []=true:=(rfl)
@[simp] theorem sizes_cons {n:Nat} {x:List V} {l:List (List V)}:sizes n (x::l)=et (Nat.beq (lenL x) n) (sizes n l):=(rfl)
@[simp] theorem allCells_nil:allCells []=true:=(rfl)
@[simp] theorem allCells_cons {x:List V} {l:List (List V)}:allCells (x::l)=et (allC x) (allCells l):=(rfl)
end
section
variable {hs:HS}{r:V}
@[simp] theorem Gives_own {i g o n:Nat} {c:Option Nat}:Gives r (.own i g o n c) hs=(still1 hs (.own i g o n c)=some r):=(rfl)
@[simp] theorem Gives_agg {l:List V}:Gives r (.agg l) hs=((ob (stillL hs l) fun l=>some (V.agg l))=some r):=(rfl)
@[simp] theorem Gives_tuple {l:List V}:Gives r (.tuple l) hs=((ob (stillA hs l) fun l=>some (V.tuple l))=some r):=(rfl)
@[simp] theorem Gives_sl {es:List (List V)} {t:Bool}:Gives r (.sl es t) hs=(.sl es t=r):=by show (some (V.sl es t)=some r)=_;simp
@[simp] theorem Gives_snil:Gives r .snil hs=(.snil=r):=by show (some V.snil=some r)=_;simp
@[simp] theorem stillA_nil_n:stillA hs []=some []:=(rfl)
@[simp] theorem stillA_cons_n {v:V} {l:List V}:stillA hs (v::l)=ob (still2 hs v) fun v'=>ob (stillA hs l) fun l'=>some (v'::l'):=(rfl)
@[simp] theorem still2_own_n {i g o n:Nat} {c:Option Nat}:still2 hs (.own i g o n c)=still1 hs (.own i g o n c):=(rfl)
@[simp] theorem still2_int {k:IntKind} {n:Int}:still2 hs (.int k n)=some (.int k n):=(rfl)
@[simp] theorem still2_bool {b:Bool}:still2 hs (.bool b)=some (.bool b):=(rfl)
@[simp] theorem still2_str {b:List Nat}:still2 hs (.str b)=some (.str b):=(rfl)
@[simp] theorem still2_sl {es:List (List V)} {b:Bool}:still2 hs (.sl es b)=some (.sl es b):=(rfl)
@[simp] theorem still2_snil:still2 hs .snil=some .snil:=(rfl)
end
end Go.J
/- Contracts in use. -/
namespace Go.J
abbrev Spec:=List V→HS→Option (V×HS)
def pureS(s:List V→Option V):Spec:=fun vs hs=>gd (allPure vs) (ob (s vs) fun v=>some (v,hs))
def conL(L:List (Nat×Spec))(f:FuncId)(vs:List V)(hs:HS):Option (V×HS):=lr none (fun p _ ih=>bi (Nat.beq f p.1) (p.2 vs hs) ih) L
def envL(P:Program)(pol:FuncId→Nat)(L:List (Nat×Spec)):Env:={ P:=P,pol:=pol,con:=conL L }
structure Valid(ρ:Nat→Value)(P:Program)(f:Nat)(s:Spec):Prop where
 fn:FnOk P f
 ok:∀ {vs hs v hs'},s vs hs=some (v,hs')→CallOk ρ P f vs hs v hs'
 kept:∀ {vs hs r},s vs hs=some r→Kept hs r.2
theorem conL_cons(p:Nat×Spec)(L:List (Nat×Spec))(f:FuncId):conL (p::L) f=if f=p.1 then p.2 else conL L f:=by
 funext vs hs
 show bi (Nat.beq f p.1) (p.2 vs hs) (conL L f vs hs)=_
 grind [bi_eq,beq_true]
theorem consOk_list{ρ:Nat→Value}{P:Program}{pol:FuncId→Nat}:∀ {L:List (Nat×Spec)},(∀ p∈L,Valid ρ P p.1 p.2)→ConsOk ρ (envL P pol L):=by
 intro L h
 have key:∀ (M:List (Nat×Spec)),(∀ p∈M,p∈L)→∀ {f vs hs q},conL M f vs hs=some q→∃ p∈L,p.1=f∧p.2 vs hs=some q:=by
  intro M
  induction M with
  |nil=>intro _ f vs hs q hq;cases hq
  | cons p M ih =>
    intro hM f vs hs q hq
    rw[conL_cons]at hq
    grind
 refine⟨?_,?_,?_⟩
 · intro f vs hs v hs' hq
   obtain⟨p,hp,rfl,h2⟩:=key L (fun _ h=>h) hq
   exact(h p hp).ok h2
 · intro f vs hs q hq
   obtain⟨p,hp,rfl,h2⟩:=key L (fun _ h=>h) hq
   exact(h p hp).kept h2
 · intro f vs hs q hq
   obtain⟨p,hp,rfl,h2⟩:=key L (fun _ h=>h) hq
   exact(h p hp).fn
theorem valid_nil{ρ:Nat→Value}{P:Program}:∀ p∈([]:List (Nat×Spec)),Valid ρ P p.1 p.2:=fun p h=>by cases h
theorem valid_cons{ρ:Nat→Value}{P:Program}{f:Nat}{s:Spec}{L:List (Nat×Spec)}(h:Valid ρ P f s)(hl:∀ p∈L,Valid ρ P p.1 p.2):∀ p∈(f,s)::L,Valid ρ P p.1 p.2:=by
 grind
theorem Valid.pure{ρ:Nat→Value}(hρ:Good ρ){P:Program}(hP:P.follows .mixedOrders=true)(hN:Named P){f:Nat}{s:List V→Option V}(hf:FnOk P f)
 (h:∀ vs v,allPure vs=true→s vs=some v→∃ E n,ConsOk ρ E∧E.P=P∧runJ E n f vs=some v):Valid ρ P f (pureS s) where
 fn:=hf
 ok:=by
  intro vs hs v hs' hq
  simp only[pureS,gd_eq,ob_eq]at hq
  obtain⟨hp,v',hv,hq⟩:=hq
  cases hq
  obtain⟨E,n,hc,rfl,hr⟩:=h vs v hp hv
  exact pure_callOk hρ hc hP hN hr hp
 kept:=by
  intro vs hs q hq
  simp only[pureS,gd_eq,ob_eq]at hq
  obtain⟨_,v',_,hq⟩:=hq
  cases hq
  exact .refl _
theorem still1_scal{hs:HS}{u v:V}(h:still1 hs u=some v)(hs1:v.scal1=true):u=v:=by
 unfold still1 at h
 split at h
 · unfold stillRow at h
   simp only[ob_eq,gd_eq]at h
   obtain⟨_,_,_,_,_,h⟩:=h
   cases h;cases hs1
 grind [gd_eq,Option.some.inj]
theorem stillL_scal{hs:HS}:∀ {l m:List V},stillL hs l=some m→allS m=true→l=m:=by
 intro l
 induction l with
 |nil=>intro m h _;cases h;rfl
 | cons u l ih =>
   intro m h hm
   replace h:(ob (still1 hs u) fun v'=>ob (stillL hs l) fun l'=>some (v'::l'))=some m:=h
   simp only[ob_eq]at h
   obtain⟨v,hv,r,hr,h⟩:=h
   cases h
   replace hm:et v.scal1 (allS r)=true:=hm
   grind [et_true,still1_scal]
theorem still2_scal{hs:HS}{u v:V}(h:still2 hs u=some v)(hs1:v.scal1=true):u=v:=by
 unfold still2 at h
 split at h
 · simp only[ob_eq]at h
   obtain⟨_,_,h⟩:=h
   cases h;cases hs1
 · exact still1_scal h hs1
theorem stillA_scal{hs:HS}:∀ {l m:List V},stillA hs l=some m→allS m=true→l=m:=by
 intro l
 induction l with
 |nil=>intro m h _;cases h;rfl
 | cons u l ih =>
   intro m h hm
   replace h:(ob (still2 hs u) fun v'=>ob (stillA hs l) fun l'=>some (v'::l'))=some m:=h
   simp only[ob_eq]at h
   obtain⟨v,hv,r,hr,h⟩:=h
   cases h
   replace hm:et v.scal1 (allS r)=true:=hm
   grind [et_true,still2_scal]
theorem still_scal {hs:HS} {u v:V} (h:still hs u=some v) (hv:v.scal=true):u=v:=by
 unfold still at h
 split at h
 · simp only[ob_eq]at h
   obtain⟨l,hl,h⟩:=h
   cases h
   rw[stillA_scal hl hv]
 · unfold still2 at h
   split at h
   · simp only[ob_eq]at h
     obtain⟨l,hl,h⟩:=h
     cases h
     rw[stillL_scal hl hv]
   · refine still1_scal h ?_
     rename_i _ hne1 _ hne2
     cases v<;>first|exact hv|skip
     all_goals
      exfalso
      unfold still1 at h
      split at h
      · unfold stillRow at h
        simp only[ob_eq,gd_eq]at h
        obtain⟨_,_,_,_,_,h⟩:=h
        cases h
      · simp only[gd_eq]at h
        have e:=Option.some.inj h.2
        first|exact hne1 _ e|exact hne2 _ e
def scalS(s:List V→Option V):Spec:=fun vs hs=>ob (stillA hs vs) fun vs'=>gd (allPure vs') (ob (s vs') fun v=>gd v.scal (some (v,hs)))
theorem Valid.scal{ρ:Nat→Value}(hρ:Good ρ){P:Program}(hP:P.follows .mixedOrders=true)(hN:Named P){f:Nat}{s:List V→Option V}(hf:FnOk P f)
 (h:∀ vs v,allPure vs=true→s vs=some v→∃ E n,ConsOk ρ E∧E.P=P∧runJ E n f vs=some v):Valid ρ P f (scalS s) where
 fn:=hf
 ok:=by
  intro vs hs v hs' hq
  simp only[scalS,gd_eq,ob_eq]at hq
  obtain⟨vs',hst,hp,v',hv,hsc,hq⟩:=hq
  cases hq
  obtain⟨E,n,hc,rfl,hr⟩:=h vs' v hp hv
  simp only[runJ,ob_eq]at hr
  obtain⟨⟨v1,hs1⟩,h1,h2⟩:=hr
  have e:v1=v:=still_scal h2 hsc
  subst e
  refine callScal_ok (ev:=evJ E n) hst (fun h=>(evJ_ok hρ hc hP hN n).call h) ?_
  simp only[callScal,ob_eq,gd_eq]
  exact⟨(v1,hs1),h1,hsc,rfl⟩
 kept:=by
  intro vs hs q hq
  simp only[scalS,gd_eq,ob_eq]at hq
  obtain⟨_,_,_,_,_,_,hq⟩:=hq
  cases hq
  exact .refl _
def frzS(s:List V→Option V):Spec:=fun vs hs=>ob (purifyA vs hs) fun q=>gd (allPure q.1) (ob (s q.1) fun v=>some (v,q.2))
section
variable {vs:List V}{hs:HS}{s:List V→Option V}{K:V×HS→Prop}
@[simp] theorem pureS_ok:ok (pureS s vs hs) K=(allPure vs=true∧ok (s vs) fun v=>K (v,hs)):=by simp only[pureS,ok_gd,ok_ob,ok_some]
@[simp] theorem scalS_ok:ok (scalS s vs hs) K=ok (stillA hs vs) fun vs'=>allPure vs'=true∧ok (s vs') fun v=>v.scal=true∧K (v,hs):=by simp only[scalS,ok_gd,ok_ob,ok_some]
@[simp] theorem frzS_ok:ok (frzS s vs hs) K=ok (purifyA vs hs) fun q=>allPure q.1=true∧ok (s q.1) fun v=>K (v,q.2):=by simp only[frzS,ok_gd,ok_ob,ok_some]
@[simp] theorem purifyA_nil_n:purifyA [] hs=some ([],hs):=(rfl)
@[simp] theorem purifyA_cons_n {v:V} {l:List V}:purifyA (v::l) hs=ob (purify v hs) fun r=>ob (purifyA l r.2) fun q=>some (r.1::q.1,q.2):=(rfl)
@[simp] theorem allPure_nil:allPure []=true:=(rfl)
@[simp] theorem allPure_cons {v:V} {l:List V}:allPure (v::l)=(v.pure&&allPure l):=by rw[← et_eq];rfl
@[simp] theorem pure_agg {l:List V}:(V.agg l).pure=allP l:=(rfl)
@[simp] theorem allP_nil:allP []=true:=(rfl)
@[simp] theorem allP_cons {v:V} {l:List V}:allP (v::l)=(v.pure2&&allP l):=by rw[← et_eq];rfl
@[simp] theorem pure_int {k:IntKind} {n:Int}:(V.int k n).pure=true:=(rfl)
@[simp] theorem pure_bool {b:Bool}:(V.bool b).pure=true:=(rfl)
@[simp] theorem pure_str {b:List Nat}:(V.str b).pure=true:=(rfl)
@[simp] theorem pure_sl {es:List (List V)} {t:Bool}:(V.sl es t).pure=true:=(rfl)
@[simp] theorem pure_snil:V.snil.pure=true:=(rfl)
@[simp] theorem pure2_int {k:IntKind} {n:Int}:(V.int k n).pure2=true:=(rfl)
@[simp] theorem pure2_bool {b:Bool}:(V.bool b).pure2=true:=(rfl)
@[simp] theorem pure2_str {b:List Nat}:(V.str b).pure2=true:=(rfl)
@[simp] theorem pure2_sl {es:List (List V)} {t:Bool}:(V.sl es t).pure2=true:=(rfl)
@[simp] theorem pure2_snil:V.snil.pure2=true:=(rfl)
@[simp] theorem pure2_nilmap:V.nilmap.pure2=true:=(rfl)
@[simp] theorem pure2_nilFunc:V.nilFunc.pure2=true:=(rfl)
end
end Go.J
