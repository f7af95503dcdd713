import Derived.Test.YtpcmebclpindjaaGreatJG
set_option linter.all false
noncomputable section
/- Rules of rewriting for regions that draw their order. -/
namespace Go.J
section
variable {E:Env}{id:Nat}{T:PT V}{hs:HS}{K:V->HS->List Nat×List Nat->Prop}{sz:Nat}{acc:List (List Nat×List Nat)}{R:PT V->HS->List (List Nat×List Nat)->Prop}
@[simp ↓] theorem zDw:Rd E sz [] id T hs acc R=R T hs acc:=(rfl)
@[simp ↓] theorem zAt {d:Option Tmp} {op:Op} {g:Option (Tmp×Bool)} {lk:List Nat} {l:List SD}:Rd E sz (⟨d,op,g,lk⟩::l) id T hs acc R=zvH E id (zP T lk) hs ⟨d,op,g,lk⟩ fun v hs' rw=>put sz T d v fun T1=>Rd E sz l (id+1) T1 hs' (acc++[rw]) R:=by
  show (zvH E id (zP T lk) hs ⟨d,op,g,lk⟩ fun v hs' rw=>put sz T d v fun T1=>Rd E sz l (id+1) T1 hs' (zbd acc [rw]) R)=_;simp only[zaf]
@[simp ↓] theorem zA4 {d:Option Tmp} {op:Op} {lk:List Nat}:zvH E id T hs ⟨d,op,none,lk⟩ K=wpD E id T hs op K:=(rfl)
@[simp ↓] theorem zA5 {d:Option Tmp} {op:Op} {t:Tmp} {w:Bool} {lk:List Nat}:zvH E id T hs ⟨d,op,some (t,w),lk⟩ K=ok (T.get t) fun v=>ok (v.guard? w) fun q=>br (q=w) (wpD E id T hs op K) (K undefV hs ([],[])):=by
  simp only[zxG];rfl
def lf:HS:={ H:=.leaf,n:=0,log:=[] }
@[simp] theorem zBl {k:Nat}:lf.H.get k=none:=(rfl)
@[simp] theorem lf_H:lf.H=.leaf:=(rfl)
def part(hs:HS)(l:List Nat):HS:={ H:=zP hs.H l,n:=0,log:=[] }
@[simp] theorem z5n {l:List Nat} {k:Nat}:(part hs l).H.get k=if k∈l then hs.H.get k else none:=zbF _ _ _
@[simp] theorem zwn {α:Type} {T:PT α} {l:List Nat} {t:Nat}:(zP T l).get t=if t∈l then T.get t else none:=zbF T l t
def bare(hs:HS):HS:={ H:=hs.H,n:=hs.n,log:=[] }
@[simp] theorem zDo:(bare hs).H=hs.H:=(rfl)
@[simp] theorem zDn:(bare hs).n=hs.n:=(rfl)
@[simp] theorem z6T:(bare hs).log=[]:=(rfl)
theorem z7m{op:Op}(h:zaj op=false):wpD E id T hs op K=z0d E id T hs op K:=by
 cases op<;>first|rfl|cases h
theorem zkz{op:Op}(hc:zq op=0)(hn:zbk op=none)(hr:readsOf T op=[]):wpD E id T hs op K=ok (opJ E.P true T lf id (opR op)) fun r=>K r.1 hs ([],[]):=by
 rw[z7m (by cases op<;>first|rfl|cases hc)];unfold z0d;rw[hc,hr];cases op<;>first|rfl|(cases hn;done)|(cases hc;done)|(show ok (opJ E.P true T { H:=zP hs.H (readsOf T _),n:=0,log:=[] } id _) (fun r=>K r.1 hs (readsOf T _,[]))=_;rw[hr];rfl)
@[simp ↓] theorem z7p {x:Operand}:wpD E id T hs (.move x) K=ok (zi T x) fun v=>K v hs ([],[]):=by
  rw[zkz rfl rfl rfl];show ok (ob (zi T x) fun v=>some (v,lf)) _=_;simp only[zS,zl]
@[simp ↓] theorem z0f {x:Operand}:wpD E id T hs (.assign x) K=ok (zi T x) fun v=>K v hs ([],[]):=by
  rw[zkz rfl rfl rfl];show ok (ob (zi T x) fun v=>some (v,lf)) _=_;simp only[zS,zl]
@[simp ↓] theorem z7o {c a b:Operand}:wpD E id T hs (.pick c a b) K=ok (zi T c) fun v=>ok v.bool? fun q=>ok (bi q (zi T a) (zi T b)) fun v=>K v hs ([],[]):=by
  rw[zkz rfl rfl rfl];show ok (zh8 T lf c a b) _=_;simp only[zh8,zS,zl]
@[simp ↓] theorem z4e {b:BinOp} {t u:TypeId} {x y:Operand}:wpD E id T hs (.binOp b t x y u) K=ok (zi T x) fun p=>ok (zi T y) fun q=>ok (zv4 E.P b t p q) fun v=>K v hs ([],[]):=by
  rw[zkz rfl rfl rfl];show ok (zey E.P T lf b t x y) _=_;simp only[zey,zS,zl]
@[simp ↓] theorem z7n {b:UnOp} {t:TypeId} {x:Operand}:wpD E id T hs (.unOp b t x) K=ok (zhy T lf b x) fun r=>K r.1 hs ([],[]):=by
  rw[zkz rfl rfl rfl];rfl
@[simp ↓] theorem zro {t:TypeId} {x:Operand} {f:Nat}:wpD E id T hs (.fieldAddr t x f) K=ok (ti E.P t) fun i=>ok (zu i f) fun fd=>ok (ti E.P fd.type) fun fi=>nt (Nat.beq fi.size 0)=true/\ok (zi T x) fun v=>ok (zaz fd.offset v) fun r=>K r hs ([],[]):=by
  rw[zkz rfl rfl rfl];show ok (zaV E.P T lf t x f) _=_;simp only[zaV,zS,zbS,zl]
@[simp ↓] theorem z4c {t:TypeId} {x:Operand} {f:Nat}:wpD E id T hs (.field t x f) K=ok (ti E.P t) fun i=>ok (zu i f) fun fd=>ok (ti E.P fd.type) fun fi=>ok (zi T x) fun v=>ok v.agg? fun cs=>ok (ze8 fi cs fd.offset) fun v=>K v hs ([],[]):=by
  rw[zkz rfl rfl rfl];show ok (zem E.P T lf t x f) _=_;simp only[zem,zS,zl]
@[simp ↓] theorem zrn {t:TypeId} {x ix:Operand}:wpD E id T hs (.indexAddr t x ix) K=ok (ti E.P t) fun i=>ok (elemOf i.desc) fun el=>ok (ti E.P el.1) fun e=>ok (zi T x) fun v=>ok (zi T ix) fun n=>ok n.nat? fun n=>ok (zzh el.2 e n v) fun r=>K r hs ([],[]):=by
  rw[zkz rfl rfl rfl];show ok (zaT E.P T lf t x ix) _=_;simp only[zaT,zS,zl]
@[simp ↓] theorem z4b {t:TypeId} {x ix:Operand}:wpD E id T hs (.index t x ix) K=ok (ti E.P t) fun i=>isStr i.desc=true/\ok (zi T x) fun v=>ok v.str? fun s=>ok (zi T ix) fun n=>ok n.nat? fun n=>ok (zdK s n) fun b=>K (.int .u8 (Int.ofNat b)) hs ([],[]):=by
  rw[zkz rfl rfl rfl];show ok (zel E.P T lf t x ix) _=_;simp only[zel,zS,zbS,zl]
@[simp ↓] theorem zyf {x:Operand} {k:Nat}:wpD E id T hs (.extract x k) K=ok (zi T x) fun v=>ok v.tuple? fun vs=>ok (zdK vs k) fun v=>K v hs ([],[]):=by
  rw[zkz rfl rfl rfl];show ok (zbT T lf x k) _=_;simp only[zbT,zS,zl]
@[simp ↓] theorem zvI {x:Operand}:wpD E id T hs (.nilCheck x) K=ok (zi T x) fun v=>notNil v=true/\K v hs ([],[]):=by
  rw[zkz rfl rfl rfl];show ok (zbt T lf x) _=_;simp only[zbt,zS,zbS,zl]
@[simp ↓] theorem z4d {t:TypeId} {ps:Array (Nat×Operand)}:wpD E id T hs (.build t ps) K=ok (ti E.P t) fun i=>ok (bi (zaw i.desc) (gd (zaU E.P (fieldsOf i.desc)) (zcS E.P T i ps.toList i.zero)) (ob (zmf i.desc) fun el=>ob (ti E.P el) fun e=>zbK T e.size ps.toList i.zero)) fun cs=>K (.agg cs) hs ([],[]):=by
  rw[zkz rfl rfl rfl];show ok (zbV E.P T lf t ps) _=_;unfold zbV;simp only[zS (ti E.P t)];congr 1;funext i;rw[zS];congr 1;funext cs;rw[zl]
@[simp ↓] theorem zyg {s d:TypeId} {x:Operand}:wpD E id T hs (.convert s d x) K=ok (ti E.P s) fun _=>ok (ti E.P d) fun j=>ok (zi T x) fun v=>ok (zkh j.desc v) fun r=>K r hs ([],[]):=by
  rw[zkz rfl rfl rfl];show ok (zhP E.P T lf s d x) _=_;simp only[zhP,zS,zl]
@[simp ↓] theorem zvJ {f:FuncId} {cs:Array Operand}:wpD E id T hs (.makeFunc (.func f) #[] cs) K=ok (zan T cs.toList) fun l=>K (.func f l) hs ([],[]):=by
  rw[zkz rfl rfl rfl];show ok (gd true (ob (zan T cs.toList) fun l=>some (V.func f l,lf))) _=_;simp only[zbu,zS,zl]
@[simp ↓] theorem z7q {t:TypeId} {a:Operand}:wpD E id T hs (.load t a) K=ok (ti E.P t) fun i=>ok (zi T a) fun p=>ok (zfb i (part hs (zar p)) p) fun v=>K v hs (zar p,[]):=by
  show ok (zcH E.P T { H:=zP hs.H (orc [] zar (zi T a)),n:=0,log:=[] } t a) (fun r=>K r.1 hs (orc [] zar (zi T a),[]))=_;simp only[zcH,zS,zl]
  cases zi T a with
  | none =>
    congr 1;funext i
    exact propext ⟨fun ⟨_,h,_⟩=>(by cases h),fun ⟨_,h,_⟩=>(by cases h)⟩
  |some p=>simp only[zl,zY];rfl
@[simp ↓] theorem z0e {t:TypeId} {m k:Operand} {b:Bool}:wpD E id T hs (.lookup t m k b) K=ok (zi T m) fun mv=>ok (zcx E.P T (part hs (zar mv)) t m k b) fun r=>K r.1 hs (zar mv,[]):=by
  show ok (zcx E.P T { H:=zP hs.H (orc [] zar (zi T m)),n:=0,log:=[] } t m k b) (fun r=>K r.1 hs (orc [] zar (zi T m),[]))=_
  cases h:zi T m with
  | none =>
    refine propext ⟨fun ⟨r,h1,_⟩=>?_,fun ⟨_,h,_⟩=>(by cases h)⟩;simp only[zcx,h,za]at h1;obtain⟨_,_,_,_,_,_,_,_,_,h2,_⟩:=h1;cases h2
  |some p=>simp only[zl,zY];rfl
@[simp ↓] theorem z4a {t:TypeId} {x:Operand} {lo hi mx:Option Operand}:wpD E id T hs (.slice t x lo hi mx) K=ok (ti E.P t) fun i=>ok (zi T x) fun v=>ok (zdc E.P T (part hs (zar v)) i v lo hi mx) fun r=>K r hs (zar v,[]):=by
  show ok (zbQ E.P T { H:=zP hs.H (orc [] zar (zi T x)),n:=0,log:=[] } t x lo hi mx) (fun r=>K r.1 hs (orc [] zar (zi T x),[]))=_;simp only[zbQ,zS,zl]
  cases zi T x with
  | none =>
    congr 1;funext i
    exact propext ⟨fun ⟨_,h,_⟩=>(by cases h),fun ⟨_,h,_⟩=>(by cases h)⟩
  |some p=>simp only[zl,zY];rfl
@[simp ↓] theorem zA8 {a:Operand} {ts:Array TypeId}:wpD E id T hs (.call ⟨.builtin .len,#[a],ts⟩) K=ok (zi T a) fun v=>ok (zeP E.P (part hs (zar v)) ts.toList [v]) fun r=>K r.1 hs (zar v,[]):=by
  show (ok (zan T [a]) fun vs=>ok (zeP E.P { H:=zP hs.H (orc [] zar (zi T a)),n:=0,log:=[] } ts.toList vs) fun r=>K r.1 hs (orc [] zar (zi T a),[]))=_;simp only[ziZ,zjZ,zS,zl]
  cases zi T a with
  |none=>exact propext ⟨fun ⟨_,h,_⟩=>(by cases h),fun ⟨_,h,_⟩=>(by cases h)⟩
  |some p=>simp only[zl,zY];rfl
@[simp ↓] theorem zA6 {xs:Array Operand} {ts:Array TypeId}:wpD E id T hs (.call ⟨.builtin .min,xs,ts⟩) K=ok (zan T xs.toList) fun vs=>ok (zb1 lf true vs) fun r=>K r.1 hs ([],[]):=(rfl)
@[simp ↓] theorem zA7 {xs:Array Operand} {ts:Array TypeId}:wpD E id T hs (.call ⟨.builtin .max,xs,ts⟩) K=ok (zan T xs.toList) fun vs=>ok (zb1 lf false vs) fun r=>K r.1 hs ([],[]):=(rfl)
theorem zh6{k:Nat}{o:Obj}:(hs.put k o).H.get k=some o:=by rw[zaq,if_pos rfl]
@[simp ↓] theorem z4f {t:TypeId}:wpD E id T hs (.alloc t) K=(hs.H.get id=none/\ok (ti E.P t) fun i=>Nat.beq (zC i.zero) i.size=true/\K (.ptr id 0 0) (hs.put id (.arr i.size 0 [i.zero] true false false)) ([id],[])):=by
  show (_/\ok (zcT E.P lf id t) fun r=>ok (r.2.H.get id) fun o'=>o'.fz=false/\K r.1 (hs.put id o') ([id],[]))=_;simp only[zcT,zS,zbS,zl,zh6,Obj.fz,true_and]
@[simp ↓] theorem zA9 {t:TypeId} {x:Operand}:wpD E id T hs (.box t x) K=(hs.H.get id=none/\ok (zi T x) fun v=>K (.ptr id 0 0) (hs.put id (.arr (zC v.cells) 0 [v.cells] true false false)) ([id],[])):=by
  show (_/\ok (zmk T lf id x) fun r=>ok (r.2.H.get id) fun o'=>o'.fz=false/\K r.1 (hs.put id o') ([id],[]))=_;simp only[zmk,zS,zl,zh6,Obj.fz,true_and]
@[simp ↓] theorem zpq {t:TypeId} {n:Nat} {ps:Array (Nat×Operand)}:wpD E id T hs (.buildSlice t n ps) K=(hs.H.get id=none/\ok (zR E.P true T lf id t n ps) fun r=>ok (r.2.H.get id) fun o'=>o'.fz=false/\K r.1 (hs.put id o') ([id],[])):=(rfl)
@[simp ↓] theorem zrm {t:TypeId} {l c:Operand}:wpD E id T hs (.makeSlice t l c) K=(hs.H.get id=none/\ok (zac E.P T lf id t l c) fun r=>ok (r.2.H.get id) fun o'=>o'.fz=false/\K r.1 (hs.put id o') ([id],[])):=(rfl)
@[simp ↓] theorem zye {t:TypeId}:wpD E id T hs (.makeMap t none) K=(hs.H.get id=none/\K (.map id) (hs.put id (.mp [])) ([id],[])):=by
  show (_/\ok (gd true (some (V.map id,lf.put id (.mp [])))) fun r=>ok (r.2.H.get id) fun o'=>o'.fz=false/\K r.1 (hs.put id o') ([id],[]))=_;simp only[zbu,zl,zh6,Obj.fz,true_and]
@[simp] theorem z4Y {H H2:PT Obj}:ziw H H2 []=H:=(rfl)
@[simp] theorem z0S {H H2:PT Obj} {k:Nat} {X:List Nat}:ziw H H2 (k::X)=orc (ziw H H2 X) (fun o=>(ziw H H2 X).set k o) (H2.get k):=(rfl)
@[simp] theorem z5W:zpf []=[]:=(rfl)
@[simp] theorem z1I {c:V} {l:List V}:zpf (c::l)=zar c++zpf l:=by show zbd (zar c) (zpf l)=_;rw[zaf]
@[simp] theorem z1o {k:IntKind} {n:Int}:zar (.int k n)=[]:=(rfl)
@[simp] theorem zyF {b:Bool}:zar (.bool b)=[]:=(rfl)
@[simp] theorem z1j {b:List Nat}:zar (.str b)=[]:=(rfl)
@[simp] theorem z5q {b:List (List V)} {t:Bool}:zar (.sl b t)=[]:=(rfl)
@[simp] theorem zyD:zar .snil=[]:=(rfl)
@[simp] theorem zr9:zar .nilptr=[]:=(rfl)
@[simp] theorem zpZ:zar .nilFunc=[]:=(rfl)
@[simp] theorem zrA:zar .nilmap=[]:=(rfl)
@[simp] theorem zyE {f:FuncId} {l:List V}:zar (.func f l)=[]:=(rfl)
@[simp] theorem z4w {i g o:Nat}:rowP hs (.ptr i g o)=isRow hs i:=(rfl)
def zpC(hs:HS)(p v:V):List Nat:=zar p++bi (rowP hs p) (zpf v.cells) []
@[simp] theorem z7R {p v:V}:zpC hs p v=zar p++bi (rowP hs p) (zpf v.cells) []:=(rfl)
@[simp ↓] theorem z3Z {t:TypeId} {a x:Operand}:wpD E id T hs (.store t a x) K=(hs.H.get id=none/\ok (ti E.P t) fun i=>ok (zi T a) fun p=>ok (zi T x) fun v=>ok (zdA i (part hs (zpC hs p v)) p v) fun h2 =>
 K undefV { H:=ziw hs.H h2.H (zpC hs p v),n:=hs.n,log:=h2.log++hs.log } (zpC hs p v,h2.log)):=by
  show (_/\ok (zas E.P T { H:=zP hs.H (orc [] (fun p=>zbd (zar p) (bi (rowP hs p) (orc [] (fun v=>zpf v.cells) (zi T x)) [])) (zi T a)),n:=0,log:=[] } t a x) fun r=>K r.1 { H:=ziw hs.H r.2.H (orc [] (fun p=>zbd (zar p) (bi (rowP hs p) (orc [] (fun v=>zpf v.cells) (zi T x)) [])) (zi T a)),n:=hs.n,log:=zbd r.2.log hs.log } (orc [] (fun p=>zbd (zar p) (bi (rowP hs p) (orc [] (fun v=>zpf v.cells) (zi T x)) [])) (zi T a),r.2.log))=_;simp only[zas,zS,zl,zaf]
  cases zi T a with
  |none=>congr 1;exact propext ⟨fun ⟨_,_,_,h,_⟩=>(by cases h),fun ⟨_,_,_,h,_⟩=>(by cases h)⟩
  | some p =>
    cases zi T x with
    |none=>congr 1;exact propext ⟨fun ⟨_,_,_,_,_,h,_⟩=>(by cases h),fun ⟨_,_,_,_,_,h,_⟩=>(by cases h)⟩
    |some v=>simp only[zl,zY];rfl
@[simp ↓] theorem zrl {t:TypeId} {m k x:Operand}:wpD E id T hs (.mapUpdate t m k x) K=(hs.H.get id=none/\ok (zaS E.P T (bare hs) t m k x) fun r=>K r.1 { H:=r.2.H,n:=r.2.n,log:=r.2.log++hs.log } ([],r.2.log)):=by
  show (_/\ok (zaS E.P T (bare hs) t m k x) fun r=>K r.1 { H:=r.2.H,n:=r.2.n,log:=zbd r.2.log hs.log } ([],r.2.log))=_;simp only[zaf]
@[simp ↓] theorem z7s {x:Operand} {xs:Array Operand} {ts:Array TypeId}:wpD E id T hs (.call ⟨.value x,xs,ts⟩) K=(hs.H.get id=none/\ok (zi T x) fun v=>ok (funcOf v) fun p=>ok (zan T xs.toList) fun vs=>ok (E.con p.1 (zbd vs p.2) (bare hs)) fun r=>K r.1 { H:=r.2.H,n:=r.2.n,log:=r.2.log++hs.log } ([],r.2.log)):=by
  show (_/\ok (zi T x) fun v=>ok (funcOf v) fun p=>ok (zan T xs.toList) fun vs=>ok (E.con p.1 (zbd vs p.2) (bare hs)) fun r=>K r.1 { H:=r.2.H,n:=r.2.n,log:=zbd r.2.log hs.log } ([],r.2.log))=_;simp only[zaf]
@[simp ↓] theorem z0g {xs:Array Operand} {ts:Array TypeId}:wpD E id T hs (.call ⟨.builtin .append,xs,ts⟩) K=(hs.H.get id=none/\ok (zan T xs.toList) fun vs=>ok (zcl E.P (bare hs) id ts.toList vs) fun r=>K r.1 { H:=r.2.H,n:=r.2.n,log:=r.2.log++hs.log } ([],r.2.log)):=by
  show (_/\ok (zan T xs.toList) fun vs=>ok (zcl E.P (bare hs) id ts.toList vs) fun r=>K r.1 { H:=r.2.H,n:=r.2.n,log:=zbd r.2.log hs.log } ([],r.2.log))=_;simp only[zaf]
@[simp ↓] theorem z7r {xs:Array Operand} {ts:Array TypeId}:wpD E id T hs (.call ⟨.builtin .copy,xs,ts⟩) K=(hs.H.get id=none/\ok (zan T xs.toList) fun vs=>ok (zdP E.P (bare hs) ts.toList vs) fun r=>K r.1 { H:=r.2.H,n:=r.2.n,log:=r.2.log++hs.log } ([],r.2.log)):=by
  show (_/\ok (zan T xs.toList) fun vs=>ok (zdP E.P (bare hs) ts.toList vs) fun r=>K r.1 { H:=r.2.H,n:=r.2.n,log:=zbd r.2.log hs.log } ([],r.2.log))=_;simp only[zaf]
@[simp] theorem z1l {i g o:Nat}:zar (.ptr i g o)=[i]:=(rfl)
@[simp] theorem z1m {i g o n:Nat} {c:Option Nat}:zar (.own i g o n c)=[i]:=(rfl)
@[simp] theorem z1n {i:Nat}:zar (.map i)=[i]:=(rfl)
@[simp] theorem z1k {c:List V}:zar (.ref c)=[]:=(rfl)
@[simp] theorem zv8 {all:List (List Nat×List Nat)} {j:Nat} {bs:List Nat}:zbB all [] j bs=true:=(rfl)
@[simp] theorem zra {all l:List (List Nat×List Nat)} {r:List Nat×List Nat} {j m:Nat} {bs:List Nat}:zbB all (r::l) j (m::bs)=et (zdE m r all 0 j) (zbB all l (j+1) bs):=(rfl)
@[simp] theorem zz7 {m i j:Nat} {r:List Nat×List Nat}:zdE m r [] i j=true:=(rfl)
@[simp] theorem zx8 {m i j:Nat} {r q:List Nat×List Nat} {l:List (List Nat×List Nat)}:zdE m r (q::l) i j=if i<j then ((tb m i||!(meet q.1 r.2||meet r.1 q.2))&&zdE m r l (i+1) j)else true:=by
  show bi (Nat.blt i j) (et (bi (tb m i) true (nt (bi (meet q.1 r.2) true (meet r.1 q.2)))) (zdE m r l (i+1) j)) true=_;rw[zX];simp only[blt_true,zlN,zhB,zX];by_cases h:i<j
  . rw[if_pos h,if_pos h];cases tb m i<;>cases meet q.1 r.2<;>simp
  . rw[if_neg h,if_neg h]
@[simp] theorem z5G {m:List Nat}:meet [] m=false:=(rfl)
@[simp] theorem zyP {l:List Nat}:meet l []=false:=by
  induction l with
  |nil=>rfl
  |cons x l ih=>show bi (zrE x []) true (meet l [])=false;rw[ih];rfl
@[simp] theorem z5F {x y:Nat}:meet [x] [y]=decide (x=y):=by
  show bi (bi (Nat.beq x y) true false) true false=_;rw[zoJ];by_cases h:x=y<;>simp[h]
@[simp] theorem zAC {m i:Nat}:tb m i=decide (m / 2 ^ i % 2=1):=by unfold tb;rw[zoJ]
end
end Go.J
