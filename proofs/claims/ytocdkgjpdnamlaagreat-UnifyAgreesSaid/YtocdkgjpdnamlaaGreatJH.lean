import Derived.Test.YtocdkgjpdnamlaaGreatJG
set_option linter.all false
noncomputable section
/- zFT of rewriting for regions that draw their order. -/
namespace Go.J
section
variable {E:Env}{id:Nat}{T:PT V}{hs:HS}{K:V->HS->List Nat×List Nat->Prop}{sz:Nat}{acc:List (List Nat×List Nat)}{R:PT V->HS->List (List Nat×List Nat)->Prop}
@[simp ↓] theorem zNu:Rd E sz [] id T hs acc R=R T hs acc:=(rfl)
@[simp ↓] theorem zJe {d:Option Tmp} {op:Op} {g:Option (Tmp×Bool)} {lk:List Nat} {l:List SD}:Rd E sz (⟨d,op,g,lk⟩::l) id T hs acc R=Qy E id (dD T lk) hs ⟨d,op,g,lk⟩ fun v hs' rw=>put sz T d v fun T1=>Rd E sz l (id+1) T1 hs' (acc++[rw]) R:=by
  show (Qy E id (dD T lk) hs ⟨d,op,g,lk⟩ fun v hs' rw=>put sz T d v fun T1=>Rd E sz l (id+1) T1 hs' (fC acc [rw]) R)=_
  simp_all
@[simp ↓] theorem zJs {d:Option Tmp} {op:Op} {lk:List Nat}:Qy E id T hs ⟨d,op,none,lk⟩ K=wo E id T hs op K:=(rfl)
@[simp ↓] theorem zJt {d:Option Tmp} {op:Op} {t:Tmp} {w:Bool} {lk:List Nat}:Qy E id T hs ⟨d,op,some (t,w),lk⟩ K=ok (T.get t) fun v=>ok (v.guard? w) fun q=>br (q=w) (wo E id T hs op K) (K iZ hs ([],[])):=by
  simp only[zk5];rfl
def lf:HS:={ H:=.leaf,n:=0,log:=[] }
@[simp] theorem zKJ {k:Nat}:lf.H.get k=none:=(rfl)
@[simp] theorem zRb:lf.H=.leaf:=(rfl)
def part(hs:HS)(l:List Nat):HS:={ H:=dD hs.H l,n:=0,log:=[] }
@[simp] theorem zBY {l:List Nat} {k:Nat}:(part hs l).H.get k=if k∈l then hs.H.get k else none:=mV _ _ _
@[simp] theorem zqn {α:Type} {T:PT α} {l:List Nat} {t:Nat}:(dD T l).get t=if t∈l then T.get t else none:=mV T l t
def bare(hs:HS):HS:={ H:=hs.H,n:=hs.n,log:=[] }
@[simp] theorem zNj:(bare hs).H=hs.H:=(rfl)
@[simp] theorem zNi:(bare hs).n=hs.n:=(rfl)
@[simp] theorem zFz:(bare hs).log=[]:=(rfl)
theorem zAt{op:Op}(h:gK op=false):wo E id T hs op K=za2 E id T hs op K:=by
 cases op<;>first|rfl|cases h
theorem AL{op:Op}(hc:bE op=0)(hn:jE op=none)(hr:readsOf T op=[]):wo E id T hs op K=ok (GA E.P true T lf id (I7 op)) fun r=>K r.1 hs ([],[]):=by
 rw[zAt (by cases op<;>first|rfl|cases hc)];unfold za2;rw[hc,hr];cases op<;>first|rfl|(cases hn;done)|(cases hc;done)|(show ok (GA E.P true T { H:=dD hs.H (readsOf T _),n:=0,log:=[] } id _) (fun r=>K r.1 hs (readsOf T _,[]))=_;rw[hr];rfl)
@[simp ↓] theorem zF8 {x:Operand}:wo E id T hs (.move x) K=ok (aG T x) fun v=>K v hs ([],[]):=by
  rw[AL rfl rfl rfl];show ok (ob (aG T x) fun v=>some (v,lf)) _=_;simp only[dA,aW]
@[simp ↓] theorem zw3 {x:Operand}:wo E id T hs (.assign x) K=ok (aG T x) fun v=>K v hs ([],[]):=by
  rw[AL rfl rfl rfl];show ok (ob (aG T x) fun v=>some (v,lf)) _=_;simp only[dA,aW]
@[simp ↓] theorem zF7 {c a b:Operand}:wo E id T hs (.pick c a b) K=ok (aG T c) fun v=>ok v.bool? fun q=>ok (bi q (aG T a) (aG T b)) fun v=>K v hs ([],[]):=by
  rw[AL rfl rfl rfl];show ok (Bj T lf c a b) _=_;simp only[Bj,dA,aW]
@[simp ↓] theorem zAz {b:BinOp} {t u:TypeId} {x y:Operand}:wo E id T hs (.binOp b t x y u) K=ok (aG T x) fun p=>ok (aG T y) fun q=>ok (MM E.P b t p q) fun v=>K v hs ([],[]):=by
  rw[AL rfl rfl rfl];show ok (wh E.P T lf b t x y) _=_;simp only[wh,dA,aW]
@[simp ↓] theorem zF6 {b:UnOp} {t:TypeId} {x:Operand}:wo E id T hs (.unOp b t x) K=ok (AU T lf b x) fun r=>K r.1 hs ([],[]):=by
  rw[AL rfl rfl rfl];rfl
@[simp ↓] theorem zmV {t:TypeId} {x:Operand} {f:Nat}:wo E id T hs (.fieldAddr t x f) K=ok (ti E.P t) fun i=>ok (aO i f) fun fd=>ok (ti E.P fd.type) fun fi=>nt (Nat.beq fi.size 0)=true/\ok (aG T x) fun v=>ok (iT fd.offset v) fun r=>K r hs ([],[]):=by
  rw[AL rfl rfl rfl];show ok (jU E.P T lf t x f) _=_;simp only[jU,dA,jA,aW]
@[simp ↓] theorem zAx {t:TypeId} {x:Operand} {f:Nat}:wo E id T hs (.field t x f) K=ok (ti E.P t) fun i=>ok (aO i f) fun fd=>ok (ti E.P fd.type) fun fi=>ok (aG T x) fun v=>ok v.agg? fun cs=>ok (qG fi cs fd.offset) fun v=>K v hs ([],[]):=by
  rw[AL rfl rfl rfl];show ok (vV E.P T lf t x f) _=_;simp only[vV,dA,aW]
@[simp ↓] theorem zmU {t:TypeId} {x ix:Operand}:wo E id T hs (.indexAddr t x ix) K=ok (ti E.P t) fun i=>ok (elemOf i.desc) fun el=>ok (ti E.P el.1) fun e=>ok (aG T x) fun v=>ok (aG T ix) fun n=>ok n.nat? fun n=>ok (ZJ el.2 e n v) fun r=>K r hs ([],[]):=by
  rw[AL rfl rfl rfl];show ok (jS E.P T lf t x ix) _=_;simp only[jS,dA,aW]
@[simp ↓] theorem zAw {t:TypeId} {x ix:Operand}:wo E id T hs (.index t x ix) K=ok (ti E.P t) fun i=>isStr i.desc=true/\ok (aG T x) fun v=>ok v.str? fun s=>ok (aG T ix) fun n=>ok n.nat? fun n=>ok (mI s n) fun b=>K (.int .u8 (Int.ofNat b)) hs ([],[]):=by
  rw[AL rfl rfl rfl];show ok (vT E.P T lf t x ix) _=_;simp only[vT,dA,jA,aW]
@[simp ↓] theorem zsB {x:Operand} {k:Nat}:wo E id T hs (.extract x k) K=ok (aG T x) fun v=>ok v.tuple? fun vs=>ok (mI vs k) fun v=>K v hs ([],[]):=by
  rw[AL rfl rfl rfl];show ok (nK T lf x k) _=_;simp only[nK,dA,aW]
@[simp ↓] theorem zpY {x:Operand}:wo E id T hs (.nilCheck x) K=ok (aG T x) fun v=>notNil v=true/\K v hs ([],[]):=by
  rw[AL rfl rfl rfl];show ok (kX T lf x) _=_;simp only[kX,dA,jA,aW]
@[simp ↓] theorem zAy {t:TypeId} {ps:Array (Nat×Operand)}:wo E id T hs (.build t ps) K=ok (ti E.P t) fun i=>ok (bi (fU i.desc) (gd (gZ E.P (fieldsOf i.desc)) (qC E.P T i ps.toList i.zero)) (ob (KI i.desc) fun el=>ob (ti E.P el) fun e=>mr T e.size ps.toList i.zero)) fun cs=>K (.agg cs) hs ([],[]):=by
  rw[AL rfl rfl rfl];show ok (nO E.P T lf t ps) _=_;unfold nO;simp only[dA (ti E.P t)];congr 1;funext i;rw[dA];congr 1;funext cs;rw[aW]
@[simp ↓] theorem zsC {s d:TypeId} {x:Operand}:wo E id T hs (.convert s d x) K=ok (ti E.P s) fun _=>ok (ti E.P d) fun j=>ok (aG T x) fun v=>ok (Iy j.desc v) fun r=>K r hs ([],[]):=by
  rw[AL rfl rfl rfl];show ok (BV E.P T lf s d x) _=_;simp only[BV,dA,aW]
@[simp ↓] theorem zpZ {f:FuncId} {cs:Array Operand}:wo E id T hs (.makeFunc (.func f) #[] cs) K=ok (fe T cs.toList) fun l=>K (.func f l) hs ([],[]):=by
  rw[AL rfl rfl rfl];show ok (gd true (ob (fe T cs.toList) fun l=>some (V.func f l,lf))) _=_
  simp_all
@[simp ↓] theorem zF9 {t:TypeId} {a:Operand}:wo E id T hs (.load t a) K=ok (ti E.P t) fun i=>ok (aG T a) fun p=>ok (wD i (part hs (fI p)) p) fun v=>K v hs (fI p,[]):=by
  show ok (qU E.P T { H:=dD hs.H (kF [] fI (aG T a)),n:=0,log:=[] } t a) (fun r=>K r.1 hs (kF [] fI (aG T a),[]))=_;simp only[qU,dA,aW]
  cases aG T a with
  | none =>
    congr 1;funext i
    exact propext ⟨fun ⟨_,h,_⟩=>(by cases h),fun ⟨_,h,_⟩=>(by cases h)⟩
  |some p=>simp only[aW,fT];rfl
@[simp ↓] theorem zw2 {t:TypeId} {m k:Operand} {b:Bool}:wo E id T hs (.lookup t m k b) K=ok (aG T m) fun mv=>ok (eH E.P T (part hs (fI mv)) t m k b) fun r=>K r.1 hs (fI mv,[]):=by
  show ok (eH E.P T { H:=dD hs.H (kF [] fI (aG T m)),n:=0,log:=[] } t m k b) (fun r=>K r.1 hs (kF [] fI (aG T m),[]))=_
  cases h:aG T m with
  | none =>
    refine propext ⟨fun ⟨r,h1,_⟩=>?_,fun ⟨_,h,_⟩=>(by cases h)⟩
    grind [eH,af]
  |some p=>simp only[aW,fT];rfl
@[simp ↓] theorem zAv {t:TypeId} {x:Operand} {lo hi mx:Option Operand}:wo E id T hs (.slice t x lo hi mx) K=ok (ti E.P t) fun i=>ok (aG T x) fun v=>ok (mE E.P T (part hs (fI v)) i v lo hi mx) fun r=>K r hs (fI v,[]):=by
  show ok (nz E.P T { H:=dD hs.H (kF [] fI (aG T x)),n:=0,log:=[] } t x lo hi mx) (fun r=>K r.1 hs (kF [] fI (aG T x),[]))=_;simp only[nz,dA,aW]
  cases aG T x with
  | none =>
    congr 1;funext i
    exact propext ⟨fun ⟨_,h,_⟩=>(by cases h),fun ⟨_,h,_⟩=>(by cases h)⟩
  |some p=>simp only[aW,fT];rfl
@[simp ↓] theorem zJw {a:Operand} {ts:Array TypeId}:wo E id T hs (.call ⟨.builtin .len,#[a],ts⟩) K=ok (aG T a) fun v=>ok (xC E.P (part hs (fI v)) ts.toList [v]) fun r=>K r.1 hs (fI v,[]):=by
  show (ok (fe T [a]) fun vs=>ok (xC E.P { H:=dD hs.H (kF [] fI (aG T a)),n:=0,log:=[] } ts.toList vs) fun r=>K r.1 hs (kF [] fI (aG T a),[]))=_;simp only[MC,Pz,dA,aW]
  cases aG T a with
  |none=>exact propext ⟨fun ⟨_,h,_⟩=>(by cases h),fun ⟨_,h,_⟩=>(by cases h)⟩
  |some p=>simp only[aW,fT];rfl
@[simp ↓] theorem zJu {xs:Array Operand} {ts:Array TypeId}:wo E id T hs (.call ⟨.builtin .min,xs,ts⟩) K=ok (fe T xs.toList) fun vs=>ok (kY lf true vs) fun r=>K r.1 hs ([],[]):=(rfl)
@[simp ↓] theorem zJv {xs:Array Operand} {ts:Array TypeId}:wo E id T hs (.call ⟨.builtin .max,xs,ts⟩) K=ok (fe T xs.toList) fun vs=>ok (kY lf false vs) fun r=>K r.1 hs ([],[]):=(rfl)
theorem Gp{k:Nat}{o:Obj}:(hs.put k o).H.get k=some o:=by rw[gQ,if_pos rfl]
@[simp ↓] theorem zAA {t:TypeId}:wo E id T hs (.alloc t) K=(hs.H.get id=none/\ok (ti E.P t) fun i=>Nat.beq (aN i.zero) i.size=true/\K (.ptr id 0 0) (hs.put id (.arr i.size 0 [i.zero] true false false)) ([id],[])):=by
  show (_/\ok (qE E.P lf id t) fun r=>ok (r.2.H.get id) fun o'=>o'.fz=false/\K r.1 (hs.put id o') ([id],[]))=_;simp[qE,dA,jA,aW,Gp,Obj.fz]
@[simp ↓] theorem zJx {t:TypeId} {x:Operand}:wo E id T hs (.box t x) K=(hs.H.get id=none/\ok (aG T x) fun v=>K (.ptr id 0 0) (hs.put id (.arr (aN v.cells) 0 [v.cells] true false false)) ([id],[])):=by
  show (_/\ok (Ff T lf id x) fun r=>ok (r.2.H.get id) fun o'=>o'.fz=false/\K r.1 (hs.put id o') ([id],[]))=_;simp[Ff,dA,aW,Gp,Obj.fz]
@[simp ↓] theorem zl3 {t:TypeId} {n:Nat} {ps:Array (Nat×Operand)}:wo E id T hs (.buildSlice t n ps) K=(hs.H.get id=none/\ok (fG E.P true T lf id t n ps) fun r=>ok (r.2.H.get id) fun o'=>o'.fz=false/\K r.1 (hs.put id o') ([id],[])):=(rfl)
@[simp ↓] theorem zmT {t:TypeId} {l c:Operand}:wo E id T hs (.makeSlice t l c) K=(hs.H.get id=none/\ok (gU E.P T lf id t l c) fun r=>ok (r.2.H.get id) fun o'=>o'.fz=false/\K r.1 (hs.put id o') ([id],[])):=(rfl)
@[simp ↓] theorem zsA {t:TypeId}:wo E id T hs (.makeMap t none) K=(hs.H.get id=none/\K (.map id) (hs.put id (.mp [])) ([id],[])):=by
  show (_/\ok (gd true (some (V.map id,lf.put id (.mp [])))) fun r=>ok (r.2.H.get id) fun o'=>o'.fz=false/\K r.1 (hs.put id o') ([id],[]))=_;simp[jT,aW,Gp,Obj.fz]
@[simp] theorem zBJ {H H2:PT Obj}:wZ H H2 []=H:=(rfl)
@[simp] theorem zxP {H H2:PT Obj} {k:Nat} {X:List Nat}:wZ H H2 (k::X)=kF (wZ H H2 X) (fun o=>(wZ H H2 X).set k o) (H2.get k):=(rfl)
@[simp] theorem zCC:JD []=[]:=(rfl)
@[simp] theorem zyF {c:V} {l:List V}:JD (c::l)=fI c++JD l:=by show fC (fI c) (JD l)=_;rw[iU]
@[simp] theorem zyg {k:IntKind} {n:Int}:fI (.int k n)=[]:=(rfl)
@[simp] theorem zt9 {b:Bool}:fI (.bool b)=[]:=(rfl)
@[simp] theorem zyb {b:List Nat}:fI (.str b)=[]:=(rfl)
@[simp] theorem zB2 {b:List (List V)} {t:Bool}:fI (.sl b t)=[]:=(rfl)
@[simp] theorem zt7:fI .snil=[]:=(rfl)
@[simp] theorem zoc:fI .nilptr=[]:=(rfl)
@[simp] theorem zmh:fI .nilFunc=[]:=(rfl)
@[simp] theorem zod:fI .nilmap=[]:=(rfl)
@[simp] theorem zt8 {f:FuncId} {l:List V}:fI (.func f l)=[]:=(rfl)
@[simp] theorem zBf {i g o:Nat}:rowP hs (.ptr i g o)=isRow hs i:=(rfl)
def TN(hs:HS)(p v:V):List Nat:=fI p++bi (rowP hs p) (JD v.cells) []
@[simp] theorem zGA {p v:V}:TN hs p v=fI p++bi (rowP hs p) (JD v.cells) []:=(rfl)
@[simp ↓] theorem zAu {t:TypeId} {a x:Operand}:wo E id T hs (.store t a x) K=(hs.H.get id=none/\ok (ti E.P t) fun i=>ok (aG T a) fun p=>ok (aG T x) fun v=>ok (tZ i (part hs (TN hs p v)) p v) fun h2 =>
 K iZ { H:=wZ hs.H h2.H (TN hs p v),n:=hs.n,log:=h2.log++hs.log } (TN hs p v,h2.log)):=by
  show (_/\ok (iq E.P T { H:=dD hs.H (kF [] (fun p=>fC (fI p) (bi (rowP hs p) (kF [] (fun v=>JD v.cells) (aG T x)) [])) (aG T a)),n:=0,log:=[] } t a x) fun r=>K r.1 { H:=wZ hs.H r.2.H (kF [] (fun p=>fC (fI p) (bi (rowP hs p) (kF [] (fun v=>JD v.cells) (aG T x)) [])) (aG T a)),n:=hs.n,log:=fC r.2.log hs.log } (kF [] (fun p=>fC (fI p) (bi (rowP hs p) (kF [] (fun v=>JD v.cells) (aG T x)) [])) (aG T a),r.2.log))=_;simp only[iq,dA,aW,iU]
  cases aG T a with
  |none=>congr 1;exact propext ⟨fun ⟨_,_,_,h,_⟩=>(by cases h),fun ⟨_,_,_,h,_⟩=>(by cases h)⟩
  | some p =>
    cases aG T x with
    |none=>congr 1;exact propext ⟨fun ⟨_,_,_,_,_,h,_⟩=>(by cases h),fun ⟨_,_,_,_,_,h,_⟩=>(by cases h)⟩
    |some v=>simp only[aW,fT];rfl
@[simp ↓] theorem zmS {t:TypeId} {m k x:Operand}:wo E id T hs (.mapUpdate t m k x) K=(hs.H.get id=none/\ok (cK E.P T (bare hs) t m k x) fun r=>K r.1 { H:=r.2.H,n:=r.2.n,log:=r.2.log++hs.log } ([],r.2.log)):=by
  show (_/\ok (cK E.P T (bare hs) t m k x) fun r=>K r.1 { H:=r.2.H,n:=r.2.n,log:=fC r.2.log hs.log } ([],r.2.log))=_
  simp_all
@[simp ↓] theorem zGb {x:Operand} {xs:Array Operand} {ts:Array TypeId}:wo E id T hs (.call ⟨.value x,xs,ts⟩) K=(hs.H.get id=none/\ok (aG T x) fun v=>ok (funcOf v) fun p=>ok (fe T xs.toList) fun vs=>ok (E.dS p.1 (fC vs p.2) (bare hs)) fun r=>K r.1 { H:=r.2.H,n:=r.2.n,log:=r.2.log++hs.log } ([],r.2.log)):=by
  show (_/\ok (aG T x) fun v=>ok (funcOf v) fun p=>ok (fe T xs.toList) fun vs=>ok (E.dS p.1 (fC vs p.2) (bare hs)) fun r=>K r.1 { H:=r.2.H,n:=r.2.n,log:=fC r.2.log hs.log } ([],r.2.log))=_
  simp_all
@[simp ↓] theorem zw4 {xs:Array Operand} {ts:Array TypeId}:wo E id T hs (.call ⟨.builtin .append,xs,ts⟩) K=(hs.H.get id=none/\ok (fe T xs.toList) fun vs=>ok (oP E.P (bare hs) id ts.toList vs) fun r=>K r.1 { H:=r.2.H,n:=r.2.n,log:=r.2.log++hs.log } ([],r.2.log)):=by
  show (_/\ok (fe T xs.toList) fun vs=>ok (oP E.P (bare hs) id ts.toList vs) fun r=>K r.1 { H:=r.2.H,n:=r.2.n,log:=fC r.2.log hs.log } ([],r.2.log))=_
  simp_all
@[simp ↓] theorem zGa {xs:Array Operand} {ts:Array TypeId}:wo E id T hs (.call ⟨.builtin .copy,xs,ts⟩) K=(hs.H.get id=none/\ok (fe T xs.toList) fun vs=>ok (vY E.P (bare hs) ts.toList vs) fun r=>K r.1 { H:=r.2.H,n:=r.2.n,log:=r.2.log++hs.log } ([],r.2.log)):=by
  show (_/\ok (fe T xs.toList) fun vs=>ok (vY E.P (bare hs) ts.toList vs) fun r=>K r.1 { H:=r.2.H,n:=r.2.n,log:=fC r.2.log hs.log } ([],r.2.log))=_
  simp_all
@[simp] theorem zyd {i g o:Nat}:fI (.ptr i g o)=[i]:=(rfl)
@[simp] theorem zye {i g o n:Nat} {c:Option Nat}:fI (.own i g o n c)=[i]:=(rfl)
@[simp] theorem zyf {i:Nat}:fI (.map i)=[i]:=(rfl)
@[simp] theorem zyc {c:List V}:fI (.ref c)=[]:=(rfl)
@[simp] theorem zpy {all:List (List Nat×List Nat)} {j:Nat} {bs:List Nat}:lV all [] j bs=true:=(rfl)
@[simp] theorem zmH {all l:List (List Nat×List Nat)} {r:List Nat×List Nat} {j m:Nat} {bs:List Nat}:lV all (r::l) j (m::bs)=et (uq m r all 0 j) (lV all l (j+1) bs):=(rfl)
@[simp] theorem zwg {m i j:Nat} {r:List Nat×List Nat}:uq m r [] i j=true:=(rfl)
@[simp] theorem zsb {m i j:Nat} {r q:List Nat×List Nat} {l:List (List Nat×List Nat)}:uq m r (q::l) i j=if i<j then ((tb m i||!(meet q.1 r.2||meet r.1 q.2))&&uq m r l (i+1) j)else true:=by
  show bi (Nat.blt i j) (et (bi (tb m i) true (nt (bi (meet q.1 r.2) true (meet r.1 q.2)))) (uq m r l (i+1) j)) true=_;simp[dX,dO,Kj,Bp,tb,meet]
@[simp] theorem zCi {m:List Nat}:meet [] m=false:=(rfl)
@[simp] theorem zuu {l:List Nat}:meet l []=false:=by
  induction l with
  |nil=>rfl
  |cons x l ih=>show bi (xy x []) true (meet l [])=false;rw[ih];rfl
@[simp] theorem zCh {x y:Nat}:meet [x] [y]=decide (x=y):=by
  show bi (bi (Nat.beq x y) true false) true false=_
  simp_all
@[simp] theorem zJL {m i:Nat}:tb m i=decide (m / 2 ^ i % 2=1):=by unfold tb;rw[zpr]
end
end Go.J
