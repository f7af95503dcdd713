import Derived.Test.YtpcmebclpindjaaGreatJG
set_option linter.all false
noncomputable section
/- Rules of rewriting for regions that draw their order. -/
namespace Go.J
section
variable {E:Env}{id:Nat}{T:PT V}{hs:HS}{K:V->HS->List Nat×List Nat->Prop}{sz:Nat}{acc:List (List Nat×List Nat)}{R:PT V->HS->List (List Nat×List Nat)->Prop}
@[simp ↓] theorem zHq:Rd E sz [] id T hs acc R=R T hs acc:=(rfl)
@[simp ↓] theorem zDJ {d:Option Tmp} {op:Op} {g:Option (Tmp×Bool)} {lk:List Nat} {l:List SD}:Rd E sz (⟨d,op,g,lk⟩::l) id T hs acc R=zyA E id (zW T lk) hs ⟨d,op,g,lk⟩ fun v hs' rw=>put sz T d v fun T1=>Rd E sz l (id+1) T1 hs' (acc++[rw]) R:=by
  show (zyA E id (zW T lk) hs ⟨d,op,g,lk⟩ fun v hs' rw=>put sz T d v fun T1=>Rd E sz l (id+1) T1 hs' (zbh acc [rw]) R)=_;simp only[zat]
@[simp ↓] theorem zDW {d:Option Tmp} {op:Op} {lk:List Nat}:zyA E id T hs ⟨d,op,none,lk⟩ K=wpD E id T hs op K:=(rfl)
@[simp ↓] theorem zDX {d:Option Tmp} {op:Op} {t:Tmp} {w:Bool} {lk:List Nat}:zyA E id T hs ⟨d,op,some (t,w),lk⟩ K=ok (T.get t) fun v=>ok (v.guard? w) fun q=>br (q=w) (wpD E id T hs op K) (K undefV hs ([],[])):=by
  simp only[z0F];rfl
def lf:HS:={ H:=.leaf,n:=0,log:=[] }
@[simp] theorem zEC {k:Nat}:lf.H.get k=none:=(rfl)
@[simp] theorem lf_H:lf.H=.leaf:=(rfl)
def part(hs:HS)(l:List Nat):HS:={ H:=zW hs.H l,n:=0,log:=[] }
@[simp] theorem z9d {l:List Nat} {k:Nat}:(part hs l).H.get k=if k∈l then hs.H.get k else none:=zbQ _ _ _
@[simp] theorem zzg {α:Type} {T:PT α} {l:List Nat} {t:Nat}:(zW T l).get t=if t∈l then T.get t else none:=zbQ T l t
def bare(hs:HS):HS:={ H:=hs.H,n:=hs.n,log:=[] }
@[simp] theorem zHi:(bare hs).H=hs.H:=(rfl)
@[simp] theorem zHh:(bare hs).n=hs.n:=(rfl)
@[simp] theorem zA5:(bare hs).log=[]:=(rfl)
theorem zAO{op:Op}(h:zav op=false):wpD E id T hs op K=z3x E id T hs op K:=by
 cases op<;>first|rfl|cases h
theorem zls{op:Op}(hc:zu op=0)(hn:zbr op=none)(hr:readsOf T op=[]):wpD E id T hs op K=ok (opJ E.P true T lf id (opR op)) fun r=>K r.1 hs ([],[]):=by
 rw[zAO (by cases op<;>first|rfl|cases hc)];unfold z3x;rw[hc,hr];cases op<;>first|rfl|(cases hn;done)|(cases hc;done)|(show ok (opJ E.P true T { H:=zW hs.H (readsOf T _),n:=0,log:=[] } id _) (fun r=>K r.1 hs (readsOf T _,[]))=_;rw[hr];rfl)
@[simp ↓] theorem zAR {x:Operand}:wpD E id T hs (.move x) K=ok (zi T x) fun v=>K v hs ([],[]):=by
  rw[zls rfl rfl rfl];show ok (ob (zi T x) fun v=>some (v,lf)) _=_;simp only[zZ,zm]
@[simp ↓] theorem z3z {x:Operand}:wpD E id T hs (.assign x) K=ok (zi T x) fun v=>K v hs ([],[]):=by
  rw[zls rfl rfl rfl];show ok (ob (zi T x) fun v=>some (v,lf)) _=_;simp only[zZ,zm]
@[simp ↓] theorem zAQ {c a b:Operand}:wpD E id T hs (.pick c a b) K=ok (zi T c) fun v=>ok v.bool? fun q=>ok (bi q (zi T a) (zi T b)) fun v=>K v hs ([],[]):=by
  rw[zls rfl rfl rfl];show ok (zii T lf c a b) _=_;simp only[zii,zZ,zm]
@[simp ↓] theorem z7U {b:BinOp} {t u:TypeId} {x y:Operand}:wpD E id T hs (.binOp b t x y u) K=ok (zi T x) fun p=>ok (zi T y) fun q=>ok (zyx E.P b t p q) fun v=>K v hs ([],[]):=by
  rw[zls rfl rfl rfl];show ok (zeM E.P T lf b t x y) _=_;simp only[zeM,zZ,zm]
@[simp ↓] theorem zAP {b:UnOp} {t:TypeId} {x:Operand}:wpD E id T hs (.unOp b t x) K=ok (zhX T lf b x) fun r=>K r.1 hs ([],[]):=by
  rw[zls rfl rfl rfl];rfl
@[simp ↓] theorem ztK {t:TypeId} {x:Operand} {f:Nat}:wpD E id T hs (.fieldAddr t x f) K=ok (ti E.P t) fun i=>ok (zh i f) fun fd=>ok (ti E.P fd.type) fun fi=>nt (Nat.beq fi.size 0)=true/\ok (zi T x) fun v=>ok (zaC fd.offset v) fun r=>K r hs ([],[]):=by
  rw[zls rfl rfl rfl];show ok (zbb E.P T lf t x f) _=_;simp only[zbb,zZ,zcd,zm]
@[simp ↓] theorem z7S {t:TypeId} {x:Operand} {f:Nat}:wpD E id T hs (.field t x f) K=ok (ti E.P t) fun i=>ok (zh i f) fun fd=>ok (ti E.P fd.type) fun fi=>ok (zi T x) fun v=>ok v.agg? fun cs=>ok (zeZ fi cs fd.offset) fun v=>K v hs ([],[]):=by
  rw[zls rfl rfl rfl];show ok (zeC E.P T lf t x f) _=_;simp only[zeC,zZ,zm]
@[simp ↓] theorem ztJ {t:TypeId} {x ix:Operand}:wpD E id T hs (.indexAddr t x ix) K=ok (ti E.P t) fun i=>ok (elemOf i.desc) fun el=>ok (ti E.P el.1) fun e=>ok (zi T x) fun v=>ok (zi T ix) fun n=>ok n.nat? fun n=>ok (z2l el.2 e n v) fun r=>K r hs ([],[]):=by
  rw[zls rfl rfl rfl];show ok (zba E.P T lf t x ix) _=_;simp only[zba,zZ,zm]
@[simp ↓] theorem z7R {t:TypeId} {x ix:Operand}:wpD E id T hs (.index t x ix) K=ok (ti E.P t) fun i=>isStr i.desc=true/\ok (zi T x) fun v=>ok v.str? fun s=>ok (zi T ix) fun n=>ok n.nat? fun n=>ok (zeh s n) fun b=>K (.int .u8 (Int.ofNat b)) hs ([],[]):=by
  rw[zls rfl rfl rfl];show ok (zeA E.P T lf t x ix) _=_;simp only[zeA,zZ,zcd,zm]
@[simp ↓] theorem z1g {x:Operand} {k:Nat}:wpD E id T hs (.extract x k) K=ok (zi T x) fun v=>ok v.tuple? fun vs=>ok (zeh vs k) fun v=>K v hs ([],[]):=by
  rw[zls rfl rfl rfl];show ok (zce T lf x k) _=_;simp only[zce,zZ,zm]
@[simp ↓] theorem zyB {x:Operand}:wpD E id T hs (.nilCheck x) K=ok (zi T x) fun v=>notNil v=true/\K v hs ([],[]):=by
  rw[zls rfl rfl rfl];show ok (zb2 T lf x) _=_;simp only[zb2,zZ,zcd,zm]
@[simp ↓] theorem z7T {t:TypeId} {ps:Array (Nat×Operand)}:wpD E id T hs (.build t ps) K=ok (ti E.P t) fun i=>ok (bi (zar i.desc) (gd (zaO E.P (fieldsOf i.desc)) (zdh E.P T i ps.toList i.zero)) (ob (znc i.desc) fun el=>ob (ti E.P el) fun e=>zbV T e.size ps.toList i.zero)) fun cs=>K (.agg cs) hs ([],[]):=by
  rw[zls rfl rfl rfl];show ok (zcg E.P T lf t ps) _=_;unfold zcg;simp only[zZ (ti E.P t)];congr 1;funext i;rw[zZ];congr 1;funext cs;rw[zm]
@[simp ↓] theorem z1h {s d:TypeId} {x:Operand}:wpD E id T hs (.convert s d x) K=ok (ti E.P s) fun _=>ok (ti E.P d) fun j=>ok (zi T x) fun v=>ok (zkZ j.desc v) fun r=>K r hs ([],[]):=by
  rw[zls rfl rfl rfl];show ok (zi3 E.P T lf s d x) _=_;simp only[zi3,zZ,zm]
@[simp ↓] theorem zyC {f:FuncId} {cs:Array Operand}:wpD E id T hs (.makeFunc (.func f) #[] cs) K=ok (zay T cs.toList) fun l=>K (.func f l) hs ([],[]):=by
  rw[zls rfl rfl rfl];show ok (gd true (ob (zay T cs.toList) fun l=>some (V.func f l,lf))) _=_;simp only[zb3,zZ,zm]
@[simp ↓] theorem zAS {t:TypeId} {a:Operand}:wpD E id T hs (.load t a) K=ok (ti E.P t) fun i=>ok (zi T a) fun p=>ok (zf5 i (part hs (za1 p)) p) fun v=>K v hs (za1 p,[]):=by
  show ok (zcV E.P T { H:=zW hs.H (orc [] za1 (zi T a)),n:=0,log:=[] } t a) (fun r=>K r.1 hs (orc [] za1 (zi T a),[]))=_;simp only[zcV,zZ,zm]
  cases zi T a with
  | none =>
    congr 1;funext i
    exact propext ⟨fun ⟨_,h,_⟩=>(by cases h),fun ⟨_,h,_⟩=>(by cases h)⟩
  |some p=>simp only[zm,zah];rfl
@[simp ↓] theorem z3y {t:TypeId} {m k:Operand} {b:Bool}:wpD E id T hs (.lookup t m k b) K=ok (zi T m) fun mv=>ok (zc9 E.P T (part hs (za1 mv)) t m k b) fun r=>K r.1 hs (za1 mv,[]):=by
  show ok (zc9 E.P T { H:=zW hs.H (orc [] za1 (zi T m)),n:=0,log:=[] } t m k b) (fun r=>K r.1 hs (orc [] za1 (zi T m),[]))=_
  cases h:zi T m with
  | none =>
    refine propext ⟨fun ⟨r,h1,_⟩=>?_,fun ⟨_,h,_⟩=>(by cases h)⟩;simp only[zc9,h,za]at h1;obtain⟨_,_,_,_,_,_,_,_,_,h2,_⟩:=h1;cases h2
  |some p=>simp only[zm,zah];rfl
@[simp ↓] theorem z7Q {t:TypeId} {x:Operand} {lo hi mx:Option Operand}:wpD E id T hs (.slice t x lo hi mx) K=ok (ti E.P t) fun i=>ok (zi T x) fun v=>ok (ziQ E.P T (part hs (za1 v)) i v lo hi mx) fun r=>K r hs (za1 v,[]):=by
  show ok (zcb E.P T { H:=zW hs.H (orc [] za1 (zi T x)),n:=0,log:=[] } t x lo hi mx) (fun r=>K r.1 hs (orc [] za1 (zi T x),[]))=_;simp only[zcb,zZ,zm]
  cases zi T x with
  | none =>
    congr 1;funext i
    exact propext ⟨fun ⟨_,h,_⟩=>(by cases h),fun ⟨_,h,_⟩=>(by cases h)⟩
  |some p=>simp only[zm,zah];rfl
@[simp ↓] theorem zEa {a:Operand} {ts:Array TypeId}:wpD E id T hs (.call ⟨.builtin .len,#[a],ts⟩) K=ok (zi T a) fun v=>ok (zfr E.P (part hs (za1 v)) ts.toList [v]) fun r=>K r.1 hs (za1 v,[]):=by
  show (ok (zay T [a]) fun vs=>ok (zfr E.P { H:=zW hs.H (orc [] za1 (zi T a)),n:=0,log:=[] } ts.toList vs) fun r=>K r.1 hs (orc [] za1 (zi T a),[]))=_;simp only[zjH,zkS,zZ,zm]
  cases zi T a with
  |none=>exact propext ⟨fun ⟨_,h,_⟩=>(by cases h),fun ⟨_,h,_⟩=>(by cases h)⟩
  |some p=>simp only[zm,zah];rfl
@[simp ↓] theorem zDY {xs:Array Operand} {ts:Array TypeId}:wpD E id T hs (.call ⟨.builtin .min,xs,ts⟩) K=ok (zay T xs.toList) fun vs=>ok (zbD lf true vs) fun r=>K r.1 hs ([],[]):=(rfl)
@[simp ↓] theorem zDZ {xs:Array Operand} {ts:Array TypeId}:wpD E id T hs (.call ⟨.builtin .max,xs,ts⟩) K=ok (zay T xs.toList) fun vs=>ok (zbD lf false vs) fun r=>K r.1 hs ([],[]):=(rfl)
theorem zih{k:Nat}{o:Obj}:(hs.put k o).H.get k=some o:=by rw[zaz,if_pos rfl]
@[simp ↓] theorem z7V {t:TypeId}:wpD E id T hs (.alloc t) K=(hs.H.get id=none/\ok (ti E.P t) fun i=>Nat.beq (zG i.zero) i.size=true/\K (.ptr id 0 0) (hs.put id (.arr i.size 0 [i.zero] true false false)) ([id],[])):=by
  show (_/\ok (zdi E.P lf id t) fun r=>ok (r.2.H.get id) fun o'=>o'.fz=false/\K r.1 (hs.put id o') ([id],[]))=_;simp only[zdi,zZ,zcd,zm,zih,Obj.fz,true_and]
@[simp ↓] theorem zEb {t:TypeId} {x:Operand}:wpD E id T hs (.box t x) K=(hs.H.get id=none/\ok (zi T x) fun v=>K (.ptr id 0 0) (hs.put id (.arr (zG v.cells) 0 [v.cells] true false false)) ([id],[])):=by
  show (_/\ok (znj T lf id x) fun r=>ok (r.2.H.get id) fun o'=>o'.fz=false/\K r.1 (hs.put id o') ([id],[]))=_;simp only[znj,zZ,zm,zih,Obj.fz,true_and]
@[simp ↓] theorem zrO {t:TypeId} {n:Nat} {ps:Array (Nat×Operand)}:wpD E id T hs (.buildSlice t n ps) K=(hs.H.get id=none/\ok (zY E.P true T lf id t n ps) fun r=>ok (r.2.H.get id) fun o'=>o'.fz=false/\K r.1 (hs.put id o') ([id],[])):=(rfl)
@[simp ↓] theorem ztI {t:TypeId} {l c:Operand}:wpD E id T hs (.makeSlice t l c) K=(hs.H.get id=none/\ok (zao E.P T lf id t l c) fun r=>ok (r.2.H.get id) fun o'=>o'.fz=false/\K r.1 (hs.put id o') ([id],[])):=(rfl)
@[simp ↓] theorem z1f {t:TypeId}:wpD E id T hs (.makeMap t none) K=(hs.H.get id=none/\K (.map id) (hs.put id (.mp [])) ([id],[])):=by
  show (_/\ok (gd true (some (V.map id,lf.put id (.mp [])))) fun r=>ok (r.2.H.get id) fun o'=>o'.fz=false/\K r.1 (hs.put id o') ([id],[]))=_;simp only[zb3,zm,zih,Obj.fz,true_and]
@[simp] theorem z8N {H H2:PT Obj}:zjc H H2 []=H:=(rfl)
@[simp] theorem z4B {H H2:PT Obj} {k:Nat} {X:List Nat}:zjc H H2 (k::X)=orc (zjc H H2 X) (fun o=>(zjc H H2 X).set k o) (H2.get k):=(rfl)
@[simp] theorem z9G:zrC []=[]:=(rfl)
@[simp] theorem z5C {c:V} {l:List V}:zrC (c::l)=za1 c++zrC l:=by show zbh (za1 c) (zrC l)=_;rw[zat]
@[simp] theorem z5a {k:IntKind} {n:Int}:za1 (.int k n)=[]:=(rfl)
@[simp] theorem z1I {b:Bool}:za1 (.bool b)=[]:=(rfl)
@[simp] theorem z4V {b:List Nat}:za1 (.str b)=[]:=(rfl)
@[simp] theorem z9h {b:List (List V)} {t:Bool}:za1 (.sl b t)=[]:=(rfl)
@[simp] theorem z1G:za1 .snil=[]:=(rfl)
@[simp] theorem zui:za1 .nilptr=[]:=(rfl)
@[simp] theorem zsC:za1 .nilFunc=[]:=(rfl)
@[simp] theorem zuj:za1 .nilmap=[]:=(rfl)
@[simp] theorem z1H {f:FuncId} {l:List V}:za1 (.func f l)=[]:=(rfl)
@[simp] theorem z8k {i g o:Nat}:rowP hs (.ptr i g o)=isRow hs i:=(rfl)
def zsl(hs:HS)(p v:V):List Nat:=za1 p++bi (rowP hs p) (zrC v.cells) []
@[simp] theorem zBs {p v:V}:zsl hs p v=za1 p++bi (rowP hs p) (zrC v.cells) []:=(rfl)
@[simp ↓] theorem z7P {t:TypeId} {a x:Operand}:wpD E id T hs (.store t a x) K=(hs.H.get id=none/\ok (ti E.P t) fun i=>ok (zi T a) fun p=>ok (zi T x) fun v=>ok (zdV i (part hs (zsl hs p v)) p v) fun h2 =>
 K undefV { H:=zjc hs.H h2.H (zsl hs p v),n:=hs.n,log:=h2.log++hs.log } (zsl hs p v,h2.log)):=by
  show (_/\ok (za2 E.P T { H:=zW hs.H (orc [] (fun p=>zbh (za1 p) (bi (rowP hs p) (orc [] (fun v=>zrC v.cells) (zi T x)) [])) (zi T a)),n:=0,log:=[] } t a x) fun r=>K r.1 { H:=zjc hs.H r.2.H (orc [] (fun p=>zbh (za1 p) (bi (rowP hs p) (orc [] (fun v=>zrC v.cells) (zi T x)) [])) (zi T a)),n:=hs.n,log:=zbh r.2.log hs.log } (orc [] (fun p=>zbh (za1 p) (bi (rowP hs p) (orc [] (fun v=>zrC v.cells) (zi T x)) [])) (zi T a),r.2.log))=_;simp only[za2,zZ,zm,zat]
  cases zi T a with
  |none=>congr 1;exact propext ⟨fun ⟨_,_,_,h,_⟩=>(by cases h),fun ⟨_,_,_,h,_⟩=>(by cases h)⟩
  | some p =>
    cases zi T x with
    |none=>congr 1;exact propext ⟨fun ⟨_,_,_,_,_,h,_⟩=>(by cases h),fun ⟨_,_,_,_,_,h,_⟩=>(by cases h)⟩
    |some v=>simp only[zm,zah];rfl
@[simp ↓] theorem ztH {t:TypeId} {m k x:Operand}:wpD E id T hs (.mapUpdate t m k x) K=(hs.H.get id=none/\ok (zaZ E.P T (bare hs) t m k x) fun r=>K r.1 { H:=r.2.H,n:=r.2.n,log:=r.2.log++hs.log } ([],r.2.log)):=by
  show (_/\ok (zaZ E.P T (bare hs) t m k x) fun r=>K r.1 { H:=r.2.H,n:=r.2.n,log:=zbh r.2.log hs.log } ([],r.2.log))=_;simp only[zat]
@[simp ↓] theorem zAU {x:Operand} {xs:Array Operand} {ts:Array TypeId}:wpD E id T hs (.call ⟨.value x,xs,ts⟩) K=(hs.H.get id=none/\ok (zi T x) fun v=>ok (funcOf v) fun p=>ok (zay T xs.toList) fun vs=>ok (E.con p.1 (zbh vs p.2) (bare hs)) fun r=>K r.1 { H:=r.2.H,n:=r.2.n,log:=r.2.log++hs.log } ([],r.2.log)):=by
  show (_/\ok (zi T x) fun v=>ok (funcOf v) fun p=>ok (zay T xs.toList) fun vs=>ok (E.con p.1 (zbh vs p.2) (bare hs)) fun r=>K r.1 { H:=r.2.H,n:=r.2.n,log:=zbh r.2.log hs.log } ([],r.2.log))=_;simp only[zat]
@[simp ↓] theorem z3A {xs:Array Operand} {ts:Array TypeId}:wpD E id T hs (.call ⟨.builtin .append,xs,ts⟩) K=(hs.H.get id=none/\ok (zay T xs.toList) fun vs=>ok (zcz E.P (bare hs) id ts.toList vs) fun r=>K r.1 { H:=r.2.H,n:=r.2.n,log:=r.2.log++hs.log } ([],r.2.log)):=by
  show (_/\ok (zay T xs.toList) fun vs=>ok (zcz E.P (bare hs) id ts.toList vs) fun r=>K r.1 { H:=r.2.H,n:=r.2.n,log:=zbh r.2.log hs.log } ([],r.2.log))=_;simp only[zat]
@[simp ↓] theorem zAT {xs:Array Operand} {ts:Array TypeId}:wpD E id T hs (.call ⟨.builtin .copy,xs,ts⟩) K=(hs.H.get id=none/\ok (zay T xs.toList) fun vs=>ok (zem E.P (bare hs) ts.toList vs) fun r=>K r.1 { H:=r.2.H,n:=r.2.n,log:=r.2.log++hs.log } ([],r.2.log)):=by
  show (_/\ok (zay T xs.toList) fun vs=>ok (zem E.P (bare hs) ts.toList vs) fun r=>K r.1 { H:=r.2.H,n:=r.2.n,log:=zbh r.2.log hs.log } ([],r.2.log))=_;simp only[zat]
@[simp] theorem z4X {i g o:Nat}:za1 (.ptr i g o)=[i]:=(rfl)
@[simp] theorem z4Y {i g o n:Nat} {c:Option Nat}:za1 (.own i g o n c)=[i]:=(rfl)
@[simp] theorem z4Z {i:Nat}:za1 (.map i)=[i]:=(rfl)
@[simp] theorem z4W {c:List V}:za1 (.ref c)=[]:=(rfl)
@[simp] theorem zy1 {all:List (List Nat×List Nat)} {j:Nat} {bs:List Nat}:zbN all [] j bs=true:=(rfl)
@[simp] theorem zt6 {all l:List (List Nat×List Nat)} {r:List Nat×List Nat} {j m:Nat} {bs:List Nat}:zbN all (r::l) j (m::bs)=et (zec m r all 0 j) (zbN all l (j+1) bs):=(rfl)
@[simp] theorem z2P {m i j:Nat} {r:List Nat×List Nat}:zec m r [] i j=true:=(rfl)
@[simp] theorem z07 {m i j:Nat} {r q:List Nat×List Nat} {l:List (List Nat×List Nat)}:zec m r (q::l) i j=if i<j then ((tb m i||!(meet q.1 r.2||meet r.1 q.2))&&zec m r l (i+1) j)else true:=by
  show bi (Nat.blt i j) (et (bi (tb m i) true (nt (bi (meet q.1 r.2) true (meet r.1 q.2)))) (zec m r l (i+1) j)) true=_;rw[zaf];simp only[blt_true,zmK,zim,zaf];by_cases h:i<j
  . rw[if_pos h,if_pos h];cases tb m i<;>cases meet q.1 r.2<;>simp
  . rw[if_neg h,if_neg h]
@[simp] theorem z9y {m:List Nat}:meet [] m=false:=(rfl)
@[simp] theorem z1S {l:List Nat}:meet l []=false:=by
  induction l with
  |nil=>rfl
  |cons x l ih=>show bi (zun x []) true (meet l [])=false;rw[ih];rfl
@[simp] theorem z9x {x y:Nat}:meet [x] [y]=decide (x=y):=by
  show bi (bi (Nat.beq x y) true false) true false=_;rw[zrn];by_cases h:x=y<;>simp[h]
@[simp] theorem zEe {m i:Nat}:tb m i=decide (m / 2 ^ i % 2=1):=by unfold tb;rw[zrn]
end
end Go.J
