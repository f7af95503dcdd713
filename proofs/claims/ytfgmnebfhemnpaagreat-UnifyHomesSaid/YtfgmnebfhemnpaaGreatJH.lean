import Derived.Test.YtfgmnebfhemnpaaGreatJG
set_option linter.all false
noncomputable section
/- Rules of rewriting for regions that draw their order. -/
namespace Go.J
section
variable {E:Env}{id:Nat}{T:PT V}{hs:HS}{K:V→HS→List Nat×List Nat→Prop}{sz:Nat}{acc:List (List Nat×List Nat)}{R:PT V→HS→List (List Nat×List Nat)→Prop}
@[simp ↓] theorem zPJ:Rd E sz [] id T hs acc R=R T hs acc:=(rfl)
@[simp ↓] theorem zLF {d:Option Tmp} {op:Op} {g:Option (Tmp×Bool)} {lk:List Nat} {l:List SD}:Rd E sz (⟨d,op,g,lk⟩::l) id T hs acc R=z5h E id (zal T lk) hs ⟨d,op,g,lk⟩ fun v hs' rw=>put sz T d v fun T1=>Rd E sz l (id+1) T1 hs' (acc++[rw]) R:=by
  show (z5h E id (zal T lk) hs ⟨d,op,g,lk⟩ fun v hs' rw=>put sz T d v fun T1=>Rd E sz l (id+1) T1 hs' (zbB acc [rw]) R)=_
  simp only[zaI]
@[simp ↓] theorem zLP {d:Option Tmp} {op:Op} {lk:List Nat}:z5h E id T hs ⟨d,op,none,lk⟩ K=wpD E id T hs op K:=(rfl)
@[simp ↓] theorem zLQ {d:Option Tmp} {op:Op} {t:Tmp} {w:Bool} {lk:List Nat}:z5h E id T hs ⟨d,op,some (t,w),lk⟩ K=ok (T.get t) fun v=>ok (v.guard? w) fun q=>br (q=w) (wpD E id T hs op K) (K undefV hs ([],[])):=by
  simp only[z8k];rfl
def lf:HS:={ H:=.leaf,n:=0,log:=[] }
@[simp] theorem zMG {k:Nat}:lf.H.get k=none:=(rfl)
@[simp] theorem lf_H:lf.H=.leaf:=(rfl)
def part(hs:HS)(l:List Nat):HS:={ H:=zal hs.H l,n:=0,log:=[] }
@[simp] theorem zGL {l:List Nat} {k:Nat}:(part hs l).H.get k=if k∈l then hs.H.get k else none:=zcp _ _ _
@[simp] theorem z6k {α:Type} {T:PT α} {l:List Nat} {t:Nat}:(zal T l).get t=if t∈l then T.get t else none:=zcp T l t
def bare(hs:HS):HS:={ H:=hs.H,n:=hs.n,log:=[] }
@[simp] theorem zPA:(bare hs).H=hs.H:=(rfl)
@[simp] theorem zP9:(bare hs).n=hs.n:=(rfl)
@[simp] theorem zIm:(bare hs).log=[]:=(rfl)
theorem zI5{op:Op}(h:zaL op=false):wpD E id T hs op K=zAU E id T hs op K:=by
 cases op<;>first|rfl|cases h
theorem znx{op:Op}(hc:zK op=0)(hn:zbJ op=none)(hr:readsOf T op=[]):wpD E id T hs op K=ok (opJ E.P true T lf id (opR op)) fun r=>K r.1 hs ([],[]):=by
 rw[zI5 (by cases op<;>first|rfl|cases hc)]
 unfold zAU;rw[hc,hr]
 cases op<;>first|rfl|(cases hn;done)|(cases hc;done)|(show ok (opJ E.P true T { H:=zal hs.H (readsOf T _),n:=0,log:=[] } id _) (fun r=>K r.1 hs (readsOf T _,[]))=_;rw[hr];rfl)
@[simp ↓] theorem zI8 {x:Operand}:wpD E id T hs (.move x) K=ok (zB T x) fun v=>K v hs ([],[]):=by
  rw[znx rfl rfl rfl];show ok (ob (zB T x) fun v=>some (v,lf)) _=_;simp only[zaj,zF]
@[simp ↓] theorem zAX {x:Operand}:wpD E id T hs (.assign x) K=ok (zB T x) fun v=>K v hs ([],[]):=by
  rw[znx rfl rfl rfl];show ok (ob (zB T x) fun v=>some (v,lf)) _=_;simp only[zaj,zF]
@[simp ↓] theorem zI7 {c a b:Operand}:wpD E id T hs (.pick c a b) K=ok (zB T c) fun v=>ok v.bool? fun q=>ok (bi q (zB T a) (zB T b)) fun v=>K v hs ([],[]):=by
  rw[znx rfl rfl rfl];show ok (zjC T lf c a b) _=_;simp only[zjC,zaj,zF]
@[simp ↓] theorem zF9 {b:BinOp} {t u:TypeId} {x y:Operand}:wpD E id T hs (.binOp b t x y u) K=ok (zB T x) fun p=>ok (zB T y) fun q=>ok (zxt E.P b t p q) fun v=>K v hs ([],[]):=by
  rw[znx rfl rfl rfl];show ok (zfD E.P T lf b t x y) _=_;simp only[zfD,zaj,zF]
@[simp ↓] theorem zI6 {b:UnOp} {t:TypeId} {x:Operand}:wpD E id T hs (.unOp b t x) K=ok (zjy T lf b x) fun r=>K r.1 hs ([],[]):=by
  rw[znx rfl rfl rfl];rfl
@[simp ↓] theorem zxI {t:TypeId} {x:Operand} {f:Nat}:wpD E id T hs (.fieldAddr t x f) K=ok (ti E.P t) fun i=>ok (zA i f) fun fd=>ok (ti E.P fd.type) fun fi=>nt (Nat.beq fi.size 0)=true∧ok (zB T x) fun v=>ok (zbe fd.offset v) fun r=>K r hs ([],[]):=by
  rw[znx rfl rfl rfl];show ok (zb4 E.P T lf t x f) _=_;simp only[zb4,zaj,zbY,zF]
@[simp ↓] theorem zF7 {t:TypeId} {x:Operand} {f:Nat}:wpD E id T hs (.field t x f) K=ok (ti E.P t) fun i=>ok (zA i f) fun fd=>ok (ti E.P fd.type) fun fi=>ok (zB T x) fun v=>ok v.agg? fun cs=>ok (ze1 fi cs fd.offset) fun v=>K v hs ([],[]):=by
  rw[znx rfl rfl rfl];show ok (zf4 E.P T lf t x f) _=_;simp only[zf4,zaj,zF]
@[simp ↓] theorem zxH {t:TypeId} {x ix:Operand}:wpD E id T hs (.indexAddr t x ix) K=ok (ti E.P t) fun i=>ok (elemOf i.desc) fun el=>ok (ti E.P el.1) fun e=>ok (zB T x) fun v=>ok (zB T ix) fun n=>ok n.nat? fun n=>ok (z9W el.2 e n v) fun r=>K r hs ([],[]):=by
  rw[znx rfl rfl rfl];show ok (zb3 E.P T lf t x ix) _=_;simp only[zb3,zaj,zF]
@[simp ↓] theorem zF6 {t:TypeId} {x ix:Operand}:wpD E id T hs (.index t x ix) K=ok (ti E.P t) fun i=>isStr i.desc=true∧ok (zB T x) fun v=>ok v.str? fun s=>ok (zB T ix) fun n=>ok n.nat? fun n=>ok (zeM s n) fun b=>K (.int .u8 (Int.ofNat b)) hs ([],[]):=by
  rw[znx rfl rfl rfl];show ok (zf0 E.P T lf t x ix) _=_;simp only[zf0,zaj,zbY,zF]
@[simp ↓] theorem z8N {x:Operand} {k:Nat}:wpD E id T hs (.extract x k) K=ok (zB T x) fun v=>ok v.tuple? fun vs=>ok (zeM vs k) fun v=>K v hs ([],[]):=by
  rw[znx rfl rfl rfl];show ok (zc6 T lf x k) _=_;simp only[zc6,zaj,zF]
@[simp ↓] theorem z5i {x:Operand}:wpD E id T hs (.nilCheck x) K=ok (zB T x) fun v=>notNil v=true∧K v hs ([],[]):=by
  rw[znx rfl rfl rfl];show ok (zbT T lf x) _=_;simp only[zbT,zaj,zbY,zF]
@[simp ↓] theorem zF8 {t:TypeId} {ps:Array (Nat×Operand)}:wpD E id T hs (.build t ps) K=ok (ti E.P t) fun i=>ok (bi (za1 i.desc) (gd (zaP E.P (fieldsOf i.desc)) (zdH E.P T i ps.toList i.zero)) (ob (zpE i.desc) fun el=>ob (ti E.P el) fun e=>zcw T e.size ps.toList i.zero)) fun cs=>K (.agg cs) hs ([],[]):=by
  rw[znx rfl rfl rfl];show ok (zc9 E.P T lf t ps) _=_;unfold zc9;simp only[zaj (ti E.P t)];congr 1;funext i;rw[zaj];congr 1;funext cs;rw[zF]
@[simp ↓] theorem z8O {s d:TypeId} {x:Operand}:wpD E id T hs (.convert s d x) K=ok (ti E.P s) fun _=>ok (ti E.P d) fun j=>ok (zB T x) fun v=>ok (znf j.desc v) fun r=>K r hs ([],[]):=by
  rw[znx rfl rfl rfl];show ok (zjW E.P T lf s d x) _=_;simp only[zjW,zaj,zF]
@[simp ↓] theorem z5j {f:FuncId} {cs:Array Operand}:wpD E id T hs (.makeFunc (.func f) #[] cs) K=ok (zaK T cs.toList) fun l=>K (.func f l) hs ([],[]):=by
  rw[znx rfl rfl rfl];show ok (gd true (ob (zaK T cs.toList) fun l=>some (V.func f l,lf))) _=_
  simp only[zbA,zaj,zF]
@[simp ↓] theorem zI9 {t:TypeId} {a:Operand}:wpD E id T hs (.load t a) K=ok (ti E.P t) fun i=>ok (zB T a) fun p=>ok (zg5 i (part hs (zaV p)) p) fun v=>K v hs (zaV p,[]):=by
  show ok (zd5 E.P T { H:=zal hs.H (orc [] zaV (zB T a)),n:=0,log:=[] } t a) (fun r=>K r.1 hs (orc [] zaV (zB T a),[]))=_
  simp only[zd5,zaj,zF]
  cases zB T a with
  | none =>
    congr 1;funext i
    exact propext ⟨fun ⟨_,h,_⟩=>(by cases h),fun ⟨_,h,_⟩=>(by cases h)⟩
  |some p=>simp only[zF,za7];rfl
@[simp ↓] theorem zAW {t:TypeId} {m k:Operand} {b:Bool}:wpD E id T hs (.lookup t m k b) K=ok (zB T m) fun mv=>ok (zam E.P T (part hs (zaV mv)) t m k b) fun r=>K r.1 hs (zaV mv,[]):=by
  show ok (zam E.P T { H:=zal hs.H (orc [] zaV (zB T m)),n:=0,log:=[] } t m k b) (fun r=>K r.1 hs (orc [] zaV (zB T m),[]))=_
  cases h:zB T m with
  | none =>
    refine propext ⟨fun ⟨r,h1,_⟩=>?_,fun ⟨_,h,_⟩=>(by cases h)⟩
    simp only[zam,h,zq]at h1
    obtain⟨_,_,_,_,_,_,_,_,_,h2,_⟩:=h1
    cases h2
  |some p=>simp only[zF,za7];rfl
@[simp ↓] theorem zF5 {t:TypeId} {x:Operand} {lo hi mx:Option Operand}:wpD E id T hs (.slice t x lo hi mx) K=ok (ti E.P t) fun i=>ok (zB T x) fun v=>ok (zbO E.P T (part hs (zaV v)) i v lo hi mx) fun r=>K r hs (zaV v,[]):=by
  show ok (zc2 E.P T { H:=zal hs.H (orc [] zaV (zB T x)),n:=0,log:=[] } t x lo hi mx) (fun r=>K r.1 hs (orc [] zaV (zB T x),[]))=_
  simp only[zc2,zaj,zF]
  cases zB T x with
  | none =>
    congr 1;funext i
    exact propext ⟨fun ⟨_,h,_⟩=>(by cases h),fun ⟨_,h,_⟩=>(by cases h)⟩
  |some p=>simp only[zF,za7];rfl
@[simp ↓] theorem zLT {a:Operand} {ts:Array TypeId}:wpD E id T hs (.call ⟨.builtin .len,#[a],ts⟩) K=ok (zB T a) fun v=>ok (zgk E.P (part hs (zaV v)) ts.toList [v]) fun r=>K r.1 hs (zaV v,[]):=by
  show (ok (zaK T [a]) fun vs=>ok (zgk E.P { H:=zal hs.H (orc [] zaV (zB T a)),n:=0,log:=[] } ts.toList vs) fun r=>K r.1 hs (orc [] zaV (zB T a),[]))=_
  simp only[zl7,zmZ,zaj,zF]
  cases zB T a with
  |none=>exact propext ⟨fun ⟨_,h,_⟩=>(by cases h),fun ⟨_,h,_⟩=>(by cases h)⟩
  |some p=>simp only[zF,za7];rfl
@[simp ↓] theorem zLR {xs:Array Operand} {ts:Array TypeId}:wpD E id T hs (.call ⟨.builtin .min,xs,ts⟩) K=ok (zaK T xs.toList) fun vs=>ok (zca lf true vs) fun r=>K r.1 hs ([],[]):=(rfl)
@[simp ↓] theorem zLS {xs:Array Operand} {ts:Array TypeId}:wpD E id T hs (.call ⟨.builtin .max,xs,ts⟩) K=ok (zaK T xs.toList) fun vs=>ok (zca lf false vs) fun r=>K r.1 hs ([],[]):=(rfl)
theorem zjB{k:Nat}{o:Obj}:(hs.put k o).H.get k=some o:=by rw[zaR,if_pos rfl]
@[simp ↓] theorem zFA {t:TypeId}:wpD E id T hs (.alloc t) K=(hs.H.get id=none∧ok (ti E.P t) fun i=>Nat.beq (zR i.zero) i.size=true∧K (.ptr id 0 0) (hs.put id (.arr i.size 0 [i.zero] true false false)) ([id],[])):=by
  show (_∧ok (zdJ E.P lf id t) fun r=>ok (r.2.H.get id) fun o'=>o'.fz=false∧K r.1 (hs.put id o') ([id],[]))=_
  simp only[zdJ,zaj,zbY,zF,zjB,Obj.fz,true_and]
@[simp ↓] theorem zLU {t:TypeId} {x:Operand}:wpD E id T hs (.box t x) K=(hs.H.get id=none∧ok (zB T x) fun v=>K (.ptr id 0 0) (hs.put id (.arr (zR v.cells) 0 [v.cells] true false false)) ([id],[])):=by
  show (_∧ok (zpL T lf id x) fun r=>ok (r.2.H.get id) fun o'=>o'.fz=false∧K r.1 (hs.put id o') ([id],[]))=_
  simp only[zpL,zaj,zF,zjB,Obj.fz,true_and]
@[simp ↓] theorem zvm {t:TypeId} {n:Nat} {ps:Array (Nat×Operand)}:wpD E id T hs (.buildSlice t n ps) K=(hs.H.get id=none∧ok (zaq E.P true T lf id t n ps) fun r=>ok (r.2.H.get id) fun o'=>o'.fz=false∧K r.1 (hs.put id o') ([id],[])):=(rfl)
@[simp ↓] theorem zxG {t:TypeId} {l c:Operand}:wpD E id T hs (.makeSlice t l c) K=(hs.H.get id=none∧ok (zaC E.P T lf id t l c) fun r=>ok (r.2.H.get id) fun o'=>o'.fz=false∧K r.1 (hs.put id o') ([id],[])):=(rfl)
@[simp ↓] theorem z8M {t:TypeId}:wpD E id T hs (.makeMap t none) K=(hs.H.get id=none∧K (.map id) (hs.put id (.mp [])) ([id],[])):=by
  show (_∧ok (gd true (some (V.map id,lf.put id (.mp [])))) fun r=>ok (r.2.H.get id) fun o'=>o'.fz=false∧K r.1 (hs.put id o') ([id],[]))=_
  simp only[zbA,zF,zjB,Obj.fz,true_and]
@[simp] theorem zG4 {H H2:PT Obj}:zkM H H2 []=H:=(rfl)
@[simp] theorem zCm {H H2:PT Obj} {k:Nat} {X:List Nat}:zkM H H2 (k::X)=orc (zkM H H2 X) (fun o=>(zkM H H2 X).set k o) (H2.get k):=(rfl)
@[simp] theorem zHu:zvc []=[]:=(rfl)
@[simp] theorem zDh {c:V} {l:List V}:zvc (c::l)=zaV c++zvc l:=by show zbB (zaV c) (zvc l)=_;rw[zaI]
@[simp] theorem zCD {k:IntKind} {n:Int}:zaV (.int k n)=[]:=(rfl)
@[simp] theorem z96 {b:Bool}:zaV (.bool b)=[]:=(rfl)
@[simp] theorem zC8 {b:List Nat}:zaV (.str b)=[]:=(rfl)
@[simp] theorem zGO {b:List (List V)} {t:Bool}:zaV (.sl b t)=[]:=(rfl)
@[simp] theorem z94:zaV .snil=[]:=(rfl)
@[simp] theorem zyh:zaV .nilptr=[]:=(rfl)
@[simp] theorem zwm:zaV .nilFunc=[]:=(rfl)
@[simp] theorem zyi:zaV .nilmap=[]:=(rfl)
@[simp] theorem z95 {f:FuncId} {l:List V}:zaV (.func f l)=[]:=(rfl)
@[simp] theorem zGd {i g o:Nat}:rowP hs (.ptr i g o)=isRow hs i:=(rfl)
def zvM(hs:HS)(p v:V):List Nat:=zaV p++bi (rowP hs p) (zvc v.cells) []
@[simp] theorem zJi {p v:V}:zvM hs p v=zaV p++bi (rowP hs p) (zvc v.cells) []:=(rfl)
@[simp ↓] theorem zF4 {t:TypeId} {a x:Operand}:wpD E id T hs (.store t a x) K=(hs.H.get id=none∧ok (ti E.P t) fun i=>ok (zB T a) fun p=>ok (zB T x) fun v=>ok (ze7 i (part hs (zvM hs p v)) p v) fun h2 =>
 K undefV { H:=zkM hs.H h2.H (zvM hs p v),n:=hs.n,log:=h2.log++hs.log } (zvM hs p v,h2.log)):=by
  show (_∧ok (zaW E.P T { H:=zal hs.H (orc [] (fun p=>zbB (zaV p) (bi (rowP hs p) (orc [] (fun v=>zvc v.cells) (zB T x)) [])) (zB T a)),n:=0,log:=[] } t a x) fun r=>K r.1 { H:=zkM hs.H r.2.H (orc [] (fun p=>zbB (zaV p) (bi (rowP hs p) (orc [] (fun v=>zvc v.cells) (zB T x)) [])) (zB T a)),n:=hs.n,log:=zbB r.2.log hs.log } (orc [] (fun p=>zbB (zaV p) (bi (rowP hs p) (orc [] (fun v=>zvc v.cells) (zB T x)) [])) (zB T a),r.2.log))=_
  simp only[zaW,zaj,zF,zaI]
  cases zB T a with
  |none=>congr 1;exact propext ⟨fun ⟨_,_,_,h,_⟩=>(by cases h),fun ⟨_,_,_,h,_⟩=>(by cases h)⟩
  | some p =>
    cases zB T x with
    |none=>congr 1;exact propext ⟨fun ⟨_,_,_,_,_,h,_⟩=>(by cases h),fun ⟨_,_,_,_,_,h,_⟩=>(by cases h)⟩
    |some v=>simp only[zF,za7];rfl
@[simp ↓] theorem zxF {t:TypeId} {m k x:Operand}:wpD E id T hs (.mapUpdate t m k x) K=(hs.H.get id=none∧ok (zS E.P T (bare hs) t m k x) fun r=>K r.1 { H:=r.2.H,n:=r.2.n,log:=r.2.log++hs.log } ([],r.2.log)):=by
  show (_∧ok (zS E.P T (bare hs) t m k x) fun r=>K r.1 { H:=r.2.H,n:=r.2.n,log:=zbB r.2.log hs.log } ([],r.2.log))=_
  simp only[zaI]
@[simp ↓] theorem zIB {x:Operand} {xs:Array Operand} {ts:Array TypeId}:wpD E id T hs (.call ⟨.value x,xs,ts⟩) K=(hs.H.get id=none∧ok (zB T x) fun v=>ok (funcOf v) fun p=>ok (zaK T xs.toList) fun vs=>ok (E.con p.1 (zbB vs p.2) (bare hs)) fun r=>K r.1 { H:=r.2.H,n:=r.2.n,log:=r.2.log++hs.log } ([],r.2.log)):=by
  show (_∧ok (zB T x) fun v=>ok (funcOf v) fun p=>ok (zaK T xs.toList) fun vs=>ok (E.con p.1 (zbB vs p.2) (bare hs)) fun r=>K r.1 { H:=r.2.H,n:=r.2.n,log:=zbB r.2.log hs.log } ([],r.2.log))=_
  simp only[zaI]
@[simp ↓] theorem zAY {xs:Array Operand} {ts:Array TypeId}:wpD E id T hs (.call ⟨.builtin .append,xs,ts⟩) K=(hs.H.get id=none∧ok (zaK T xs.toList) fun vs=>ok (zcO E.P (bare hs) id ts.toList vs) fun r=>K r.1 { H:=r.2.H,n:=r.2.n,log:=r.2.log++hs.log } ([],r.2.log)):=by
  show (_∧ok (zaK T xs.toList) fun vs=>ok (zcO E.P (bare hs) id ts.toList vs) fun r=>K r.1 { H:=r.2.H,n:=r.2.n,log:=zbB r.2.log hs.log } ([],r.2.log))=_
  simp only[zaI]
@[simp ↓] theorem zIA {xs:Array Operand} {ts:Array TypeId}:wpD E id T hs (.call ⟨.builtin .copy,xs,ts⟩) K=(hs.H.get id=none∧ok (zaK T xs.toList) fun vs=>ok (zeV E.P (bare hs) ts.toList vs) fun r=>K r.1 { H:=r.2.H,n:=r.2.n,log:=r.2.log++hs.log } ([],r.2.log)):=by
  show (_∧ok (zaK T xs.toList) fun vs=>ok (zeV E.P (bare hs) ts.toList vs) fun r=>K r.1 { H:=r.2.H,n:=r.2.n,log:=zbB r.2.log hs.log } ([],r.2.log))=_
  simp only[zaI]
@[simp] theorem zCA {i g o:Nat}:zaV (.ptr i g o)=[i]:=(rfl)
@[simp] theorem zCB {i g o n:Nat} {c:Option Nat}:zaV (.own i g o n c)=[i]:=(rfl)
@[simp] theorem zCC {i:Nat}:zaV (.map i)=[i]:=(rfl)
@[simp] theorem zC9 {c:List V}:zaV (.ref c)=[]:=(rfl)
@[simp] theorem z4Z {all:List (List Nat×List Nat)} {j:Nat} {bs:List Nat}:zcl all [] j bs=true:=(rfl)
@[simp] theorem zxz {all l:List (List Nat×List Nat)} {r:List Nat×List Nat} {j m:Nat} {bs:List Nat}:zcl all (r::l) j (m::bs)=et (zeD m r all 0 j) (zcl all l (j+1) bs):=(rfl)
@[simp] theorem zAw {m i j:Nat} {r:List Nat×List Nat}:zeD m r [] i j=true:=(rfl)
@[simp] theorem z8c {m i j:Nat} {r q:List Nat×List Nat} {l:List (List Nat×List Nat)}:zeD m r (q::l) i j=if i<j then ((tb m i||!(meet q.1 r.2||meet r.1 q.2))&&zeD m r l (i+1) j)else true:=by
  show bi (Nat.blt i j) (et (bi (tb m i) true (nt (bi (meet q.1 r.2) true (meet r.1 q.2)))) (zeD m r l (i+1) j)) true=_
  rw[zaz]
  simp only[blt_true,zpt,zjH,zaz]
  by_cases h:i<j
  · rw[if_pos h,if_pos h]
    cases tb m i<;>cases meet q.1 r.2<;>simp
  · rw[if_neg h,if_neg h]
@[simp] theorem zHe {m:List Nat}:meet [] m=false:=(rfl)
@[simp] theorem z9G {l:List Nat}:meet l []=false:=by
  induction l with
  |nil=>rfl
  |cons x l ih=>show bi (zla x []) true (meet l [])=false;rw[ih];rfl
@[simp] theorem zHd {x y:Nat}:meet [x] [y]=decide (x=y):=by
  show bi (bi (Nat.beq x y) true false) true false=_
  rw[zu8];by_cases h:x=y<;>simp[h]
@[simp] theorem zMc {m i:Nat}:tb m i=decide (m / 2 ^ i % 2=1):=by unfold tb;rw[zu8]
end
end Go.J
