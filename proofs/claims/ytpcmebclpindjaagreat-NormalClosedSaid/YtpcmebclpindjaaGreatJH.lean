import Derived.Test.YtpcmebclpindjaaGreatJG
set_option linter.all false
noncomputable section
/- Rules of rewriting for regions that draw their order. -/
namespace Go.J
section
variable {E:Env}{id:Nat}{T:PT V}{hs:HS}{K:V->HS->List Nat×List Nat->Prop}{sz:Nat}{acc:List (List Nat×List Nat)}{R:PT V->HS->List (List Nat×List Nat)->Prop}
@[simp ↓] theorem zN4:Rd E sz [] id T hs acc R=R T hs acc:=(rfl)
@[simp ↓] theorem zJS {d:Option Tmp} {op:Op} {g:Option (Tmp×Bool)} {lk:List Nat} {l:List SD}:Rd E sz (⟨d,op,g,lk⟩::l) id T hs acc R=z3H E id (zW T lk) hs ⟨d,op,g,lk⟩ fun v hs' rw=>put sz T d v fun T1=>Rd E sz l (id+1) T1 hs' (acc++[rw]) R:=by
  show (z3H E id (zW T lk) hs ⟨d,op,g,lk⟩ fun v hs' rw=>put sz T d v fun T1=>Rd E sz l (id+1) T1 hs' (zbt acc [rw]) R)=_
  simp_all
@[simp ↓] theorem zKc {d:Option Tmp} {op:Op} {lk:List Nat}:z3H E id T hs ⟨d,op,none,lk⟩ K=wpD E id T hs op K:=(rfl)
@[simp ↓] theorem zKd {d:Option Tmp} {op:Op} {t:Tmp} {w:Bool} {lk:List Nat}:z3H E id T hs ⟨d,op,some (t,w),lk⟩ K=ok (T.get t) fun v=>ok (v.guard? w) fun q=>br (q=w) (wpD E id T hs op K) (K undefV hs ([],[])):=by
  simp only[z6C];rfl
def lf:HS:={ H:=.leaf,n:=0,log:=[] }
@[simp] theorem zKK {k:Nat}:lf.H.get k=none:=(rfl)
@[simp] theorem lf_H:lf.H=.leaf:=(rfl)
def part(hs:HS)(l:List Nat):HS:={ H:=zW hs.H l,n:=0,log:=[] }
@[simp] theorem zEZ {l:List Nat} {k:Nat}:(part hs l).H.get k=if k∈l then hs.H.get k else none:=zcf _ _ _
@[simp] theorem z4w {α:Type} {T:PT α} {l:List Nat} {t:Nat}:(zW T l).get t=if t∈l then T.get t else none:=zcf T l t
def bare(hs:HS):HS:={ H:=hs.H,n:=hs.n,log:=[] }
@[simp] theorem zNw:(bare hs).H=hs.H:=(rfl)
@[simp] theorem zNv:(bare hs).n=hs.n:=(rfl)
@[simp] theorem zGz:(bare hs).log=[]:=(rfl)
theorem zGK{op:Op}(h:zax op=false):wpD E id T hs op K=z98 E id T hs op K:=by
 cases op<;>first|rfl|cases h
theorem zmV{op:Op}(hc:zt op=0)(hn:zb4 op=none)(hr:readsOf T op=[]):wpD E id T hs op K=ok (opJ E.P true T lf id (opR op)) fun r=>K r.1 hs ([],[]):=by
 rw[zGK (by cases op<;>first|rfl|cases hc)];unfold z98;rw[hc,hr];cases op<;>first|rfl|(cases hn;done)|(cases hc;done)|(show ok (opJ E.P true T { H:=zW hs.H (readsOf T _),n:=0,log:=[] } id _) (fun r=>K r.1 hs (readsOf T _,[]))=_;rw[hr];rfl)
@[simp ↓] theorem zGN {x:Operand}:wpD E id T hs (.move x) K=ok (zk T x) fun v=>K v hs ([],[]):=by
  rw[zmV rfl rfl rfl];show ok (ob (zk T x) fun v=>some (v,lf)) _=_;simp only[zab,zm]
@[simp ↓] theorem z9A {x:Operand}:wpD E id T hs (.assign x) K=ok (zk T x) fun v=>K v hs ([],[]):=by
  rw[zmV rfl rfl rfl];show ok (ob (zk T x) fun v=>some (v,lf)) _=_;simp only[zab,zm]
@[simp ↓] theorem zGM {c a b:Operand}:wpD E id T hs (.pick c a b) K=ok (zk T c) fun v=>ok v.bool? fun q=>ok (bi q (zk T a) (zk T b)) fun v=>K v hs ([],[]):=by
  rw[zmV rfl rfl rfl];show ok (zju T lf c a b) _=_;simp only[zju,zab,zm]
@[simp ↓] theorem zDY {b:BinOp} {t u:TypeId} {x y:Operand}:wpD E id T hs (.binOp b t x y u) K=ok (zk T x) fun p=>ok (zk T y) fun q=>ok (z3t E.P b t p q) fun v=>K v hs ([],[]):=by
  rw[zmV rfl rfl rfl];show ok (zf0 E.P T lf b t x y) _=_;simp only[zf0,zab,zm]
@[simp ↓] theorem zGL {b:UnOp} {t:TypeId} {x:Operand}:wpD E id T hs (.unOp b t x) K=ok (zjh T lf b x) fun r=>K r.1 hs ([],[]):=by
  rw[zmV rfl rfl rfl];rfl
@[simp ↓] theorem zyn {t:TypeId} {x:Operand} {f:Nat}:wpD E id T hs (.fieldAddr t x f) K=ok (ti E.P t) fun i=>ok (zi i f) fun fd=>ok (ti E.P fd.type) fun fi=>nt (Nat.beq fi.size 0)=true/\ok (zk T x) fun v=>ok (zaH fd.offset v) fun r=>K r hs ([],[]):=by
  rw[zmV rfl rfl rfl];show ok (zbj E.P T lf t x f) _=_;simp only[zbj,zab,zct,zm]
@[simp ↓] theorem zDW {t:TypeId} {x:Operand} {f:Nat}:wpD E id T hs (.field t x f) K=ok (ti E.P t) fun i=>ok (zi i f) fun fd=>ok (ti E.P fd.type) fun fi=>ok (zk T x) fun v=>ok v.agg? fun cs=>ok (zfG fi cs fd.offset) fun v=>K v hs ([],[]):=by
  rw[zmV rfl rfl rfl];show ok (zfr E.P T lf t x f) _=_;simp only[zfr,zab,zm]
@[simp ↓] theorem zym {t:TypeId} {x ix:Operand}:wpD E id T hs (.indexAddr t x ix) K=ok (ti E.P t) fun i=>ok (elemOf i.desc) fun el=>ok (ti E.P el.1) fun e=>ok (zk T x) fun v=>ok (zk T ix) fun n=>ok n.nat? fun n=>ok (z8x el.2 e n v) fun r=>K r hs ([],[]):=by
  rw[zmV rfl rfl rfl];show ok (zbi E.P T lf t x ix) _=_;simp only[zbi,zab,zm]
@[simp ↓] theorem zDV {t:TypeId} {x ix:Operand}:wpD E id T hs (.index t x ix) K=ok (ti E.P t) fun i=>isStr i.desc=true/\ok (zk T x) fun v=>ok v.str? fun s=>ok (zk T ix) fun n=>ok n.nat? fun n=>ok (zeJ s n) fun b=>K (.int .u8 (Int.ofNat b)) hs ([],[]):=by
  rw[zmV rfl rfl rfl];show ok (zfp E.P T lf t x ix) _=_;simp only[zfp,zab,zct,zm]
@[simp ↓] theorem z7l {x:Operand} {k:Nat}:wpD E id T hs (.extract x k) K=ok (zk T x) fun v=>ok v.tuple? fun vs=>ok (zeJ vs k) fun v=>K v hs ([],[]):=by
  rw[zmV rfl rfl rfl];show ok (zcu T lf x k) _=_;simp only[zcu,zab,zm]
@[simp ↓] theorem z3J {x:Operand}:wpD E id T hs (.nilCheck x) K=ok (zk T x) fun v=>notNil v=true/\K v hs ([],[]):=by
  rw[zmV rfl rfl rfl];show ok (zbF T lf x) _=_;simp only[zbF,zab,zct,zm]
@[simp ↓] theorem zDX {t:TypeId} {ps:Array (Nat×Operand)}:wpD E id T hs (.build t ps) K=ok (ti E.P t) fun i=>ok (bi (zat i.desc) (gd (zaO E.P (fieldsOf i.desc)) (zdA E.P T i ps.toList i.zero)) (ob (zp7 i.desc) fun el=>ob (ti E.P el) fun e=>zcl T e.size ps.toList i.zero)) fun cs=>K (.agg cs) hs ([],[]):=by
  rw[zmV rfl rfl rfl];show ok (zcx E.P T lf t ps) _=_;unfold zcx;simp only[zab (ti E.P t)];congr 1;funext i;rw[zab];congr 1;funext cs;rw[zm]
@[simp ↓] theorem z7m {s d:TypeId} {x:Operand}:wpD E id T hs (.convert s d x) K=ok (ti E.P s) fun _=>ok (ti E.P d) fun j=>ok (zk T x) fun v=>ok (zmA j.desc v) fun r=>K r hs ([],[]):=by
  rw[zmV rfl rfl rfl];show ok (zjH E.P T lf s d x) _=_;simp only[zjH,zab,zm]
@[simp ↓] theorem z3K {f:FuncId} {cs:Array Operand}:wpD E id T hs (.makeFunc (.func f) #[] cs) K=ok (za6 T cs.toList) fun l=>K (.func f l) hs ([],[]):=by
  rw[zmV rfl rfl rfl];show ok (gd true (ob (za6 T cs.toList) fun l=>some (V.func f l,lf))) _=_
  simp_all
@[simp ↓] theorem zGO {t:TypeId} {a:Operand}:wpD E id T hs (.load t a) K=ok (ti E.P t) fun i=>ok (zk T a) fun p=>ok (zgr i (part hs (zaA p)) p) fun v=>K v hs (zaA p,[]):=by
  show ok (zdx E.P T { H:=zW hs.H (orc [] zaA (zk T a)),n:=0,log:=[] } t a) (fun r=>K r.1 hs (orc [] zaA (zk T a),[]))=_;simp only[zdx,zab,zm]
  cases zk T a with
  | none =>
    congr 1;funext i
    exact propext ⟨fun ⟨_,h,_⟩=>(by cases h),fun ⟨_,h,_⟩=>(by cases h)⟩
  |some p=>simp only[zm,zai];rfl
@[simp ↓] theorem z99 {t:TypeId} {m k:Operand} {b:Bool}:wpD E id T hs (.lookup t m k b) K=ok (zk T m) fun mv=>ok (zcR E.P T (part hs (zaA mv)) t m k b) fun r=>K r.1 hs (zaA mv,[]):=by
  show ok (zcR E.P T { H:=zW hs.H (orc [] zaA (zk T m)),n:=0,log:=[] } t m k b) (fun r=>K r.1 hs (orc [] zaA (zk T m),[]))=_
  cases h:zk T m with
  | none =>
    refine propext ⟨fun ⟨r,h1,_⟩=>?_,fun ⟨_,h,_⟩=>(by cases h)⟩
    grind [zcR,zb]
  |some p=>simp only[zm,zai];rfl
@[simp ↓] theorem zDU {t:TypeId} {x:Operand} {lo hi mx:Option Operand}:wpD E id T hs (.slice t x lo hi mx) K=ok (ti E.P t) fun i=>ok (zk T x) fun v=>ok (zkp E.P T (part hs (zaA v)) i v lo hi mx) fun r=>K r hs (zaA v,[]):=by
  show ok (zcr E.P T { H:=zW hs.H (orc [] zaA (zk T x)),n:=0,log:=[] } t x lo hi mx) (fun r=>K r.1 hs (orc [] zaA (zk T x),[]))=_;simp only[zcr,zab,zm]
  cases zk T x with
  | none =>
    congr 1;funext i
    exact propext ⟨fun ⟨_,h,_⟩=>(by cases h),fun ⟨_,h,_⟩=>(by cases h)⟩
  |some p=>simp only[zm,zai];rfl
@[simp ↓] theorem zKg {a:Operand} {ts:Array TypeId}:wpD E id T hs (.call ⟨.builtin .len,#[a],ts⟩) K=ok (zk T a) fun v=>ok (zgc E.P (part hs (zaA v)) ts.toList [v]) fun r=>K r.1 hs (zaA v,[]):=by
  show (ok (za6 T [a]) fun vs=>ok (zgc E.P { H:=zW hs.H (orc [] zaA (zk T a)),n:=0,log:=[] } ts.toList vs) fun r=>K r.1 hs (orc [] zaA (zk T a),[]))=_;simp only[zle,zm1,zab,zm]
  cases zk T a with
  |none=>exact propext ⟨fun ⟨_,h,_⟩=>(by cases h),fun ⟨_,h,_⟩=>(by cases h)⟩
  |some p=>simp only[zm,zai];rfl
@[simp ↓] theorem zKe {xs:Array Operand} {ts:Array TypeId}:wpD E id T hs (.call ⟨.builtin .min,xs,ts⟩) K=ok (za6 T xs.toList) fun vs=>ok (zbN lf true vs) fun r=>K r.1 hs ([],[]):=(rfl)
@[simp ↓] theorem zKf {xs:Array Operand} {ts:Array TypeId}:wpD E id T hs (.call ⟨.builtin .max,xs,ts⟩) K=ok (za6 T xs.toList) fun vs=>ok (zbN lf false vs) fun r=>K r.1 hs ([],[]):=(rfl)
theorem zjs{k:Nat}{o:Obj}:(hs.put k o).H.get k=some o:=by rw[za8,if_pos rfl]
@[simp ↓] theorem zDZ {t:TypeId}:wpD E id T hs (.alloc t) K=(hs.H.get id=none/\ok (ti E.P t) fun i=>Nat.beq (zC i.zero) i.size=true/\K (.ptr id 0 0) (hs.put id (.arr i.size 0 [i.zero] true false false)) ([id],[])):=by
  show (_/\ok (zdC E.P lf id t) fun r=>ok (r.2.H.get id) fun o'=>o'.fz=false/\K r.1 (hs.put id o') ([id],[]))=_;simp[zdC,zab,zct,zm,zjs,Obj.fz]
@[simp ↓] theorem zKh {t:TypeId} {x:Operand}:wpD E id T hs (.box t x) K=(hs.H.get id=none/\ok (zk T x) fun v=>K (.ptr id 0 0) (hs.put id (.arr (zC v.cells) 0 [v.cells] true false false)) ([id],[])):=by
  show (_/\ok (zpF T lf id x) fun r=>ok (r.2.H.get id) fun o'=>o'.fz=false/\K r.1 (hs.put id o') ([id],[]))=_;simp[zpF,zab,zm,zjs,Obj.fz]
@[simp ↓] theorem zvV {t:TypeId} {n:Nat} {ps:Array (Nat×Operand)}:wpD E id T hs (.buildSlice t n ps) K=(hs.H.get id=none/\ok (zY E.P true T lf id t n ps) fun r=>ok (r.2.H.get id) fun o'=>o'.fz=false/\K r.1 (hs.put id o') ([id],[])):=(rfl)
@[simp ↓] theorem zyl {t:TypeId} {l c:Operand}:wpD E id T hs (.makeSlice t l c) K=(hs.H.get id=none/\ok (zar E.P T lf id t l c) fun r=>ok (r.2.H.get id) fun o'=>o'.fz=false/\K r.1 (hs.put id o') ([id],[])):=(rfl)
@[simp ↓] theorem z7k {t:TypeId}:wpD E id T hs (.makeMap t none) K=(hs.H.get id=none/\K (.map id) (hs.put id (.mp [])) ([id],[])):=by
  show (_/\ok (gd true (some (V.map id,lf.put id (.mp [])))) fun r=>ok (r.2.H.get id) fun o'=>o'.fz=false/\K r.1 (hs.put id o') ([id],[]))=_;simp[zbR,zm,zjs,Obj.fz]
@[simp] theorem zEK {H H2:PT Obj}:zk0 H H2 []=H:=(rfl)
@[simp] theorem zA5 {H H2:PT Obj} {k:Nat} {X:List Nat}:zk0 H H2 (k::X)=orc (zk0 H H2 X) (fun o=>(zk0 H H2 X).set k o) (H2.get k):=(rfl)
@[simp] theorem zFC:zvJ []=[]:=(rfl)
@[simp] theorem zBx {c:V} {l:List V}:zvJ (c::l)=zaA c++zvJ l:=by show zbt (zaA c) (zvJ l)=_;rw[zaS]
@[simp] theorem zAV {k:IntKind} {n:Int}:zaA (.int k n)=[]:=(rfl)
@[simp] theorem z7V {b:Bool}:zaA (.bool b)=[]:=(rfl)
@[simp] theorem zAQ {b:List Nat}:zaA (.str b)=[]:=(rfl)
@[simp] theorem zFd {b:List (List V)} {t:Bool}:zaA (.sl b t)=[]:=(rfl)
@[simp] theorem z7T:zaA .snil=[]:=(rfl)
@[simp] theorem zyE:zaA .nilptr=[]:=(rfl)
@[simp] theorem zwR:zaA .nilFunc=[]:=(rfl)
@[simp] theorem zyF:zaA .nilmap=[]:=(rfl)
@[simp] theorem z7U {f:FuncId} {l:List V}:zaA (.func f l)=[]:=(rfl)
@[simp] theorem zEp {i g o:Nat}:rowP hs (.ptr i g o)=isRow hs i:=(rfl)
def zw2(hs:HS)(p v:V):List Nat:=zaA p++bi (rowP hs p) (zvJ v.cells) []
@[simp] theorem zHu {p v:V}:zw2 hs p v=zaA p++bi (rowP hs p) (zvJ v.cells) []:=(rfl)
@[simp ↓] theorem zDT {t:TypeId} {a x:Operand}:wpD E id T hs (.store t a x) K=(hs.H.get id=none/\ok (ti E.P t) fun i=>ok (zk T a) fun p=>ok (zk T x) fun v=>ok (ze6 i (part hs (zw2 hs p v)) p v) fun h2 =>
 K undefV { H:=zk0 hs.H h2.H (zw2 hs p v),n:=hs.n,log:=h2.log++hs.log } (zw2 hs p v,h2.log)):=by
  show (_/\ok (zaB E.P T { H:=zW hs.H (orc [] (fun p=>zbt (zaA p) (bi (rowP hs p) (orc [] (fun v=>zvJ v.cells) (zk T x)) [])) (zk T a)),n:=0,log:=[] } t a x) fun r=>K r.1 { H:=zk0 hs.H r.2.H (orc [] (fun p=>zbt (zaA p) (bi (rowP hs p) (orc [] (fun v=>zvJ v.cells) (zk T x)) [])) (zk T a)),n:=hs.n,log:=zbt r.2.log hs.log } (orc [] (fun p=>zbt (zaA p) (bi (rowP hs p) (orc [] (fun v=>zvJ v.cells) (zk T x)) [])) (zk T a),r.2.log))=_;simp only[zaB,zab,zm,zaS]
  cases zk T a with
  |none=>congr 1;exact propext ⟨fun ⟨_,_,_,h,_⟩=>(by cases h),fun ⟨_,_,_,h,_⟩=>(by cases h)⟩
  | some p =>
    cases zk T x with
    |none=>congr 1;exact propext ⟨fun ⟨_,_,_,_,_,h,_⟩=>(by cases h),fun ⟨_,_,_,_,_,h,_⟩=>(by cases h)⟩
    |some v=>simp only[zm,zai];rfl
@[simp ↓] theorem zyk {t:TypeId} {m k x:Operand}:wpD E id T hs (.mapUpdate t m k x) K=(hs.H.get id=none/\ok (zbh E.P T (bare hs) t m k x) fun r=>K r.1 { H:=r.2.H,n:=r.2.n,log:=r.2.log++hs.log } ([],r.2.log)):=by
  show (_/\ok (zbh E.P T (bare hs) t m k x) fun r=>K r.1 { H:=r.2.H,n:=r.2.n,log:=zbt r.2.log hs.log } ([],r.2.log))=_
  simp_all
@[simp ↓] theorem zGQ {x:Operand} {xs:Array Operand} {ts:Array TypeId}:wpD E id T hs (.call ⟨.value x,xs,ts⟩) K=(hs.H.get id=none/\ok (zk T x) fun v=>ok (funcOf v) fun p=>ok (za6 T xs.toList) fun vs=>ok (E.con p.1 (zbt vs p.2) (bare hs)) fun r=>K r.1 { H:=r.2.H,n:=r.2.n,log:=r.2.log++hs.log } ([],r.2.log)):=by
  show (_/\ok (zk T x) fun v=>ok (funcOf v) fun p=>ok (za6 T xs.toList) fun vs=>ok (E.con p.1 (zbt vs p.2) (bare hs)) fun r=>K r.1 { H:=r.2.H,n:=r.2.n,log:=zbt r.2.log hs.log } ([],r.2.log))=_
  simp_all
@[simp ↓] theorem z9B {xs:Array Operand} {ts:Array TypeId}:wpD E id T hs (.call ⟨.builtin .append,xs,ts⟩) K=(hs.H.get id=none/\ok (za6 T xs.toList) fun vs=>ok (zcE E.P (bare hs) id ts.toList vs) fun r=>K r.1 { H:=r.2.H,n:=r.2.n,log:=r.2.log++hs.log } ([],r.2.log)):=by
  show (_/\ok (za6 T xs.toList) fun vs=>ok (zcE E.P (bare hs) id ts.toList vs) fun r=>K r.1 { H:=r.2.H,n:=r.2.n,log:=zbt r.2.log hs.log } ([],r.2.log))=_
  simp_all
@[simp ↓] theorem zGP {xs:Array Operand} {ts:Array TypeId}:wpD E id T hs (.call ⟨.builtin .copy,xs,ts⟩) K=(hs.H.get id=none/\ok (za6 T xs.toList) fun vs=>ok (zeR E.P (bare hs) ts.toList vs) fun r=>K r.1 { H:=r.2.H,n:=r.2.n,log:=r.2.log++hs.log } ([],r.2.log)):=by
  show (_/\ok (za6 T xs.toList) fun vs=>ok (zeR E.P (bare hs) ts.toList vs) fun r=>K r.1 { H:=r.2.H,n:=r.2.n,log:=zbt r.2.log hs.log } ([],r.2.log))=_
  simp_all
@[simp] theorem zAS {i g o:Nat}:zaA (.ptr i g o)=[i]:=(rfl)
@[simp] theorem zAT {i g o n:Nat} {c:Option Nat}:zaA (.own i g o n c)=[i]:=(rfl)
@[simp] theorem zAU {i:Nat}:zaA (.map i)=[i]:=(rfl)
@[simp] theorem zAR {c:List V}:zaA (.ref c)=[]:=(rfl)
@[simp] theorem z3x {all:List (List Nat×List Nat)} {j:Nat} {bs:List Nat}:zbZ all [] j bs=true:=(rfl)
@[simp] theorem zxZ {all l:List (List Nat×List Nat)} {r:List Nat×List Nat} {j m:Nat} {bs:List Nat}:zbZ all (r::l) j (m::bs)=et (zeC m r all 0 j) (zbZ all l (j+1) bs):=(rfl)
@[simp] theorem z8X {m i j:Nat} {r:List Nat×List Nat}:zeC m r [] i j=true:=(rfl)
@[simp] theorem z6t {m i j:Nat} {r q:List Nat×List Nat} {l:List (List Nat×List Nat)}:zeC m r (q::l) i j=if i<j then ((tb m i||!(meet q.1 r.2||meet r.1 q.2))&&zeC m r l (i+1) j)else true:=by
  show bi (Nat.blt i j) (et (bi (tb m i) true (nt (bi (meet q.1 r.2) true (meet r.1 q.2)))) (zeC m r l (i+1) j)) true=_;simp[zal,blt_true,zpm,zjy,tb,meet]
@[simp] theorem zFu {m:List Nat}:meet [] m=false:=(rfl)
@[simp] theorem z8f {l:List Nat}:meet l []=false:=by
  induction l with
  |nil=>rfl
  |cons x l ih=>show bi (zyK x []) true (meet l [])=false;rw[ih];rfl
@[simp] theorem zFt {x y:Nat}:meet [x] [y]=decide (x=y):=by
  show bi (bi (Nat.beq x y) true false) true false=_
  simp_all
@[simp] theorem zKl {m i:Nat}:tb m i=decide (m / 2 ^ i % 2=1):=by unfold tb;rw[z6G]
end
end Go.J
