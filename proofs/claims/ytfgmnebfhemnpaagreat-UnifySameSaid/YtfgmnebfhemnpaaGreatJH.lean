import Derived.Test.YtfgmnebfhemnpaaGreatJG
set_option linter.all false
noncomputable section
/- Rules of rewriting for regions that draw their order. -/
namespace Go.J
section
variable {E:Env}{id:Nat}{T:PT V}{hs:HS}{K:V->HS->List Nat×List Nat->Prop}{sz:Nat}{acc:List (List Nat×List Nat)}{R:PT V->HS->List (List Nat×List Nat)->Prop}
@[simp ↓] theorem zSG:Rd E sz [] id T hs acc R=R T hs acc:=(rfl)
@[simp ↓] theorem zOs {d:Option Tmp} {op:Op} {g:Option (Tmp×Bool)} {lk:List Nat} {l:List SD}:Rd E sz (⟨d,op,g,lk⟩::l) id T hs acc R=z7V E id (zal T lk) hs ⟨d,op,g,lk⟩ fun v hs' rw=>put sz T d v fun T1=>Rd E sz l (id+1) T1 hs' (acc++[rw]) R:=by
  show (z7V E id (zal T lk) hs ⟨d,op,g,lk⟩ fun v hs' rw=>put sz T d v fun T1=>Rd E sz l (id+1) T1 hs' (zb9 acc [rw]) R)=_;simp only[zaI]
@[simp ↓] theorem zO2 {d:Option Tmp} {op:Op} {lk:List Nat}:z7V E id T hs ⟨d,op,none,lk⟩ K=wpD E id T hs op K:=(rfl)
@[simp ↓] theorem zO3 {d:Option Tmp} {op:Op} {t:Tmp} {w:Bool} {lk:List Nat}:z7V E id T hs ⟨d,op,some (t,w),lk⟩ K=ok (T.get t) fun v=>ok (v.guard? w) fun q=>br (q=w) (wpD E id T hs op K) (K undefV hs ([],[])):=by
  simp only[zAP];rfl
def lf:HS:={ H:=.leaf,n:=0,log:=[] }
@[simp] theorem zPt {k:Nat}:lf.H.get k=none:=(rfl)
@[simp] theorem lf_H:lf.H=.leaf:=(rfl)
def part(hs:HS)(l:List Nat):HS:={ H:=zal hs.H l,n:=0,log:=[] }
@[simp] theorem zJr {l:List Nat} {k:Nat}:(part hs l).H.get k=if k∈l then hs.H.get k else none:=zco _ _ _
@[simp] theorem z9g {α:Type} {T:PT α} {l:List Nat} {t:Nat}:(zal T l).get t=if t∈l then T.get t else none:=zco T l t
def bare(hs:HS):HS:={ H:=hs.H,n:=hs.n,log:=[] }
@[simp] theorem zS7:(bare hs).H=hs.H:=(rfl)
@[simp] theorem zS6:(bare hs).n=hs.n:=(rfl)
@[simp] theorem zKH:(bare hs).log=[]:=(rfl)
theorem zLa{op:Op}(h:zaM op=false):wpD E id T hs op K=zDz E id T hs op K:=by
 cases op<;>first|rfl|cases h
theorem znB{op:Op}(hc:zM op=0)(hn:zbG op=none)(hr:readsOf T op=[]):wpD E id T hs op K=ok (opJ E.P true T lf id (opR op)) fun r=>K r.1 hs ([],[]):=by
 rw[zLa (by cases op<;>first|rfl|cases hc)];unfold zDz;rw[hc,hr];cases op<;>first|rfl|(cases hn;done)|(cases hc;done)|(show ok (opJ E.P true T { H:=zal hs.H (readsOf T _),n:=0,log:=[] } id _) (fun r=>K r.1 hs (readsOf T _,[]))=_;rw[hr];rfl)
@[simp ↓] theorem zLd {x:Operand}:wpD E id T hs (.move x) K=ok (zC T x) fun v=>K v hs ([],[]):=by
  rw[znB rfl rfl rfl];show ok (ob (zC T x) fun v=>some (v,lf)) _=_;simp only[zaj,zF]
@[simp ↓] theorem zD2 {x:Operand}:wpD E id T hs (.assign x) K=ok (zC T x) fun v=>K v hs ([],[]):=by
  rw[znB rfl rfl rfl];show ok (ob (zC T x) fun v=>some (v,lf)) _=_;simp only[zaj,zF]
@[simp ↓] theorem zLc {c a b:Operand}:wpD E id T hs (.pick c a b) K=ok (zC T c) fun v=>ok v.bool? fun q=>ok (bi q (zC T a) (zC T b)) fun v=>K v hs ([],[]):=by
  rw[znB rfl rfl rfl];show ok (zjV T lf c a b) _=_;simp only[zjV,zaj,zF]
@[simp ↓] theorem zIf {b:BinOp} {t u:TypeId} {x y:Operand}:wpD E id T hs (.binOp b t x y u) K=ok (zC T x) fun p=>ok (zC T y) fun q=>ok (zyv E.P b t p q) fun v=>K v hs ([],[]):=by
  rw[znB rfl rfl rfl];show ok (zfK E.P T lf b t x y) _=_;simp only[zfK,zaj,zF]
@[simp ↓] theorem zLb {b:UnOp} {t:TypeId} {x:Operand}:wpD E id T hs (.unOp b t x) K=ok (zjD T lf b x) fun r=>K r.1 hs ([],[]):=by
  rw[znB rfl rfl rfl];rfl
@[simp ↓] theorem zyK {t:TypeId} {x:Operand} {f:Nat}:wpD E id T hs (.fieldAddr t x f) K=ok (ti E.P t) fun i=>ok (zB i f) fun fd=>ok (ti E.P fd.type) fun fi=>nt (Nat.beq fi.size 0)=true/\ok (zC T x) fun v=>ok (zbd fd.offset v) fun r=>K r hs ([],[]):=by
  rw[znB rfl rfl rfl];show ok (zb2 E.P T lf t x f) _=_;simp only[zb2,zaj,zbV,zF]
@[simp ↓] theorem zId {t:TypeId} {x:Operand} {f:Nat}:wpD E id T hs (.field t x f) K=ok (ti E.P t) fun i=>ok (zB i f) fun fd=>ok (ti E.P fd.type) fun fi=>ok (zC T x) fun v=>ok v.agg? fun cs=>ok (ze6 fi cs fd.offset) fun v=>K v hs ([],[]):=by
  rw[znB rfl rfl rfl];show ok (zfA E.P T lf t x f) _=_;simp only[zfA,zaj,zF]
@[simp ↓] theorem zyJ {t:TypeId} {x ix:Operand}:wpD E id T hs (.indexAddr t x ix) K=ok (ti E.P t) fun i=>ok (elemOf i.desc) fun el=>ok (ti E.P el.1) fun e=>ok (zC T x) fun v=>ok (zC T ix) fun n=>ok n.nat? fun n=>ok (zC1 el.2 e n v) fun r=>K r hs ([],[]):=by
  rw[znB rfl rfl rfl];show ok (zb1 E.P T lf t x ix) _=_;simp only[zb1,zaj,zF]
@[simp ↓] theorem zIc {t:TypeId} {x ix:Operand}:wpD E id T hs (.index t x ix) K=ok (ti E.P t) fun i=>isStr i.desc=true/\ok (zC T x) fun v=>ok v.str? fun s=>ok (zC T ix) fun n=>ok n.nat? fun n=>ok (zeP s n) fun b=>K (.int .u8 (Int.ofNat b)) hs ([],[]):=by
  rw[znB rfl rfl rfl];show ok (zf6 E.P T lf t x ix) _=_;simp only[zf6,zaj,zbV,zF]
@[simp ↓] theorem zBu {x:Operand} {k:Nat}:wpD E id T hs (.extract x k) K=ok (zC T x) fun v=>ok v.tuple? fun vs=>ok (zeP vs k) fun v=>K v hs ([],[]):=by
  rw[znB rfl rfl rfl];show ok (zc5 T lf x k) _=_;simp only[zc5,zaj,zF]
@[simp ↓] theorem z7W {x:Operand}:wpD E id T hs (.nilCheck x) K=ok (zC T x) fun v=>notNil v=true/\K v hs ([],[]):=by
  rw[znB rfl rfl rfl];show ok (zbQ T lf x) _=_;simp only[zbQ,zaj,zbV,zF]
@[simp ↓] theorem zIe {t:TypeId} {ps:Array (Nat×Operand)}:wpD E id T hs (.build t ps) K=ok (ti E.P t) fun i=>ok (bi (za2 i.desc) (gd (zaQ E.P (fieldsOf i.desc)) (zdI E.P T i ps.toList i.zero)) (ob (zpY i.desc) fun el=>ob (ti E.P el) fun e=>zcv T e.size ps.toList i.zero)) fun cs=>K (.agg cs) hs ([],[]):=by
  rw[znB rfl rfl rfl];show ok (zc8 E.P T lf t ps) _=_;unfold zc8;simp only[zaj (ti E.P t)];congr 1;funext i;rw[zaj];congr 1;funext cs;rw[zF]
@[simp ↓] theorem zBv {s d:TypeId} {x:Operand}:wpD E id T hs (.convert s d x) K=ok (ti E.P s) fun _=>ok (ti E.P d) fun j=>ok (zC T x) fun v=>ok (zns j.desc v) fun r=>K r hs ([],[]):=by
  rw[znB rfl rfl rfl];show ok (zkr E.P T lf s d x) _=_;simp only[zkr,zaj,zF]
@[simp ↓] theorem z7X {f:FuncId} {cs:Array Operand}:wpD E id T hs (.makeFunc (.func f) #[] cs) K=ok (zaL T cs.toList) fun l=>K (.func f l) hs ([],[]):=by
  rw[znB rfl rfl rfl];show ok (gd true (ob (zaL T cs.toList) fun l=>some (V.func f l,lf))) _=_;simp only[zb8,zaj,zF]
@[simp ↓] theorem zLe {t:TypeId} {a:Operand}:wpD E id T hs (.load t a) K=ok (ti E.P t) fun i=>ok (zC T a) fun p=>ok (zgG i (part hs (zaU p)) p) fun v=>K v hs (zaU p,[]):=by
  show ok (zd6 E.P T { H:=zal hs.H (orc [] zaU (zC T a)),n:=0,log:=[] } t a) (fun r=>K r.1 hs (orc [] zaU (zC T a),[]))=_;simp only[zd6,zaj,zF]
  cases zC T a with
  | none =>
    congr 1;funext i
    exact propext ⟨fun ⟨_,h,_⟩=>(by cases h),fun ⟨_,h,_⟩=>(by cases h)⟩
  |some p=>simp only[zF,za7];rfl
@[simp ↓] theorem zD1 {t:TypeId} {m k:Operand} {b:Bool}:wpD E id T hs (.lookup t m k b) K=ok (zC T m) fun mv=>ok (zam E.P T (part hs (zaU mv)) t m k b) fun r=>K r.1 hs (zaU mv,[]):=by
  show ok (zam E.P T { H:=zal hs.H (orc [] zaU (zC T m)),n:=0,log:=[] } t m k b) (fun r=>K r.1 hs (orc [] zaU (zC T m),[]))=_
  cases h:zC T m with
  | none =>
    refine propext ⟨fun ⟨r,h1,_⟩=>?_,fun ⟨_,h,_⟩=>(by cases h)⟩;simp only[zam,h,zu]at h1;obtain⟨_,_,_,_,_,_,_,_,_,h2,_⟩:=h1;cases h2
  |some p=>simp only[zF,za7];rfl
@[simp ↓] theorem zIb {t:TypeId} {x:Operand} {lo hi mx:Option Operand}:wpD E id T hs (.slice t x lo hi mx) K=ok (ti E.P t) fun i=>ok (zC T x) fun v=>ok (zbL E.P T (part hs (zaU v)) i v lo hi mx) fun r=>K r hs (zaU v,[]):=by
  show ok (zc1 E.P T { H:=zal hs.H (orc [] zaU (zC T x)),n:=0,log:=[] } t x lo hi mx) (fun r=>K r.1 hs (orc [] zaU (zC T x),[]))=_;simp only[zc1,zaj,zF]
  cases zC T x with
  | none =>
    congr 1;funext i
    exact propext ⟨fun ⟨_,h,_⟩=>(by cases h),fun ⟨_,h,_⟩=>(by cases h)⟩
  |some p=>simp only[zF,za7];rfl
@[simp ↓] theorem zO6 {a:Operand} {ts:Array TypeId}:wpD E id T hs (.call ⟨.builtin .len,#[a],ts⟩) K=ok (zC T a) fun v=>ok (zgu E.P (part hs (zaU v)) ts.toList [v]) fun r=>K r.1 hs (zaU v,[]):=by
  show (ok (zaL T [a]) fun vs=>ok (zgu E.P { H:=zal hs.H (orc [] zaU (zC T a)),n:=0,log:=[] } ts.toList vs) fun r=>K r.1 hs (orc [] zaU (zC T a),[]))=_;simp only[zlP,znm,zaj,zF]
  cases zC T a with
  |none=>exact propext ⟨fun ⟨_,h,_⟩=>(by cases h),fun ⟨_,h,_⟩=>(by cases h)⟩
  |some p=>simp only[zF,za7];rfl
@[simp ↓] theorem zO4 {xs:Array Operand} {ts:Array TypeId}:wpD E id T hs (.call ⟨.builtin .min,xs,ts⟩) K=ok (zaL T xs.toList) fun vs=>ok (zbX lf true vs) fun r=>K r.1 hs ([],[]):=(rfl)
@[simp ↓] theorem zO5 {xs:Array Operand} {ts:Array TypeId}:wpD E id T hs (.call ⟨.builtin .max,xs,ts⟩) K=ok (zaL T xs.toList) fun vs=>ok (zbX lf false vs) fun r=>K r.1 hs ([],[]):=(rfl)
theorem zjU{k:Nat}{o:Obj}:(hs.put k o).H.get k=some o:=by rw[zaS,if_pos rfl]
@[simp ↓] theorem zIg {t:TypeId}:wpD E id T hs (.alloc t) K=(hs.H.get id=none/\ok (ti E.P t) fun i=>Nat.beq (zU i.zero) i.size=true/\K (.ptr id 0 0) (hs.put id (.arr i.size 0 [i.zero] true false false)) ([id],[])):=by
  show (_/\ok (zdK E.P lf id t) fun r=>ok (r.2.H.get id) fun o'=>o'.fz=false/\K r.1 (hs.put id o') ([id],[]))=_;simp only[zdK,zaj,zbV,zF,zjU,Obj.fz,true_and]
@[simp ↓] theorem zO7 {t:TypeId} {x:Operand}:wpD E id T hs (.box t x) K=(hs.H.get id=none/\ok (zC T x) fun v=>K (.ptr id 0 0) (hs.put id (.arr (zU v.cells) 0 [v.cells] true false false)) ([id],[])):=by
  show (_/\ok (zqg T lf id x) fun r=>ok (r.2.H.get id) fun o'=>o'.fz=false/\K r.1 (hs.put id o') ([id],[]))=_;simp only[zqg,zaj,zF,zjU,Obj.fz,true_and]
@[simp ↓] theorem zwh {t:TypeId} {n:Nat} {ps:Array (Nat×Operand)}:wpD E id T hs (.buildSlice t n ps) K=(hs.H.get id=none/\ok (zaq E.P true T lf id t n ps) fun r=>ok (r.2.H.get id) fun o'=>o'.fz=false/\K r.1 (hs.put id o') ([id],[])):=(rfl)
@[simp ↓] theorem zyI {t:TypeId} {l c:Operand}:wpD E id T hs (.makeSlice t l c) K=(hs.H.get id=none/\ok (zaC E.P T lf id t l c) fun r=>ok (r.2.H.get id) fun o'=>o'.fz=false/\K r.1 (hs.put id o') ([id],[])):=(rfl)
@[simp ↓] theorem zBt {t:TypeId}:wpD E id T hs (.makeMap t none) K=(hs.H.get id=none/\K (.map id) (hs.put id (.mp [])) ([id],[])):=by
  show (_/\ok (gd true (some (V.map id,lf.put id (.mp [])))) fun r=>ok (r.2.H.get id) fun o'=>o'.fz=false/\K r.1 (hs.put id o') ([id],[]))=_;simp only[zb8,zF,zjU,Obj.fz,true_and]
@[simp] theorem zJa {H H2:PT Obj}:zlf H H2 []=H:=(rfl)
@[simp] theorem zEH {H H2:PT Obj} {k:Nat} {X:List Nat}:zlf H H2 (k::X)=orc (zlf H H2 X) (fun o=>(zlf H H2 X).set k o) (H2.get k):=(rfl)
@[simp] theorem zJQ:zvX []=[]:=(rfl)
@[simp] theorem zFC {c:V} {l:List V}:zvX (c::l)=zaU c++zvX l:=by show zb9 (zaU c) (zvX l)=_;rw[zaI]
@[simp] theorem zFi {k:IntKind} {n:Int}:zaU (.int k n)=[]:=(rfl)
@[simp] theorem zCb {b:Bool}:zaU (.bool b)=[]:=(rfl)
@[simp] theorem zFd {b:List Nat}:zaU (.str b)=[]:=(rfl)
@[simp] theorem zJu {b:List (List V)} {t:Bool}:zaU (.sl b t)=[]:=(rfl)
@[simp] theorem zBZ:zaU .snil=[]:=(rfl)
@[simp] theorem zzk:zaU .nilptr=[]:=(rfl)
@[simp] theorem zxn:zaU .nilFunc=[]:=(rfl)
@[simp] theorem zzl:zaU .nilmap=[]:=(rfl)
@[simp] theorem zCa {f:FuncId} {l:List V}:zaU (.func f l)=[]:=(rfl)
@[simp] theorem zI9 {i g o:Nat}:rowP hs (.ptr i g o)=isRow hs i:=(rfl)
def zwN(hs:HS)(p v:V):List Nat:=zaU p++bi (rowP hs p) (zvX v.cells) []
@[simp] theorem zLJ {p v:V}:zwN hs p v=zaU p++bi (rowP hs p) (zvX v.cells) []:=(rfl)
@[simp ↓] theorem zIa {t:TypeId} {a x:Operand}:wpD E id T hs (.store t a x) K=(hs.H.get id=none/\ok (ti E.P t) fun i=>ok (zC T a) fun p=>ok (zC T x) fun v=>ok (zeB i (part hs (zwN hs p v)) p v) fun h2 =>
 K undefV { H:=zlf hs.H h2.H (zwN hs p v),n:=hs.n,log:=h2.log++hs.log } (zwN hs p v,h2.log)):=by
  show (_/\ok (zaV E.P T { H:=zal hs.H (orc [] (fun p=>zb9 (zaU p) (bi (rowP hs p) (orc [] (fun v=>zvX v.cells) (zC T x)) [])) (zC T a)),n:=0,log:=[] } t a x) fun r=>K r.1 { H:=zlf hs.H r.2.H (orc [] (fun p=>zb9 (zaU p) (bi (rowP hs p) (orc [] (fun v=>zvX v.cells) (zC T x)) [])) (zC T a)),n:=hs.n,log:=zb9 r.2.log hs.log } (orc [] (fun p=>zb9 (zaU p) (bi (rowP hs p) (orc [] (fun v=>zvX v.cells) (zC T x)) [])) (zC T a),r.2.log))=_;simp only[zaV,zaj,zF,zaI]
  cases zC T a with
  |none=>congr 1;exact propext ⟨fun ⟨_,_,_,h,_⟩=>(by cases h),fun ⟨_,_,_,h,_⟩=>(by cases h)⟩
  | some p =>
    cases zC T x with
    |none=>congr 1;exact propext ⟨fun ⟨_,_,_,_,_,h,_⟩=>(by cases h),fun ⟨_,_,_,_,_,h,_⟩=>(by cases h)⟩
    |some v=>simp only[zF,za7];rfl
@[simp ↓] theorem zyH {t:TypeId} {m k x:Operand}:wpD E id T hs (.mapUpdate t m k x) K=(hs.H.get id=none/\ok (zW E.P T (bare hs) t m k x) fun r=>K r.1 { H:=r.2.H,n:=r.2.n,log:=r.2.log++hs.log } ([],r.2.log)):=by
  show (_/\ok (zW E.P T (bare hs) t m k x) fun r=>K r.1 { H:=r.2.H,n:=r.2.n,log:=zb9 r.2.log hs.log } ([],r.2.log))=_;simp only[zaI]
@[simp ↓] theorem zLg {x:Operand} {xs:Array Operand} {ts:Array TypeId}:wpD E id T hs (.call ⟨.value x,xs,ts⟩) K=(hs.H.get id=none/\ok (zC T x) fun v=>ok (funcOf v) fun p=>ok (zaL T xs.toList) fun vs=>ok (E.con p.1 (zb9 vs p.2) (bare hs)) fun r=>K r.1 { H:=r.2.H,n:=r.2.n,log:=r.2.log++hs.log } ([],r.2.log)):=by
  show (_/\ok (zC T x) fun v=>ok (funcOf v) fun p=>ok (zaL T xs.toList) fun vs=>ok (E.con p.1 (zb9 vs p.2) (bare hs)) fun r=>K r.1 { H:=r.2.H,n:=r.2.n,log:=zb9 r.2.log hs.log } ([],r.2.log))=_;simp only[zaI]
@[simp ↓] theorem zD3 {xs:Array Operand} {ts:Array TypeId}:wpD E id T hs (.call ⟨.builtin .append,xs,ts⟩) K=(hs.H.get id=none/\ok (zaL T xs.toList) fun vs=>ok (zcO E.P (bare hs) id ts.toList vs) fun r=>K r.1 { H:=r.2.H,n:=r.2.n,log:=r.2.log++hs.log } ([],r.2.log)):=by
  show (_/\ok (zaL T xs.toList) fun vs=>ok (zcO E.P (bare hs) id ts.toList vs) fun r=>K r.1 { H:=r.2.H,n:=r.2.n,log:=zb9 r.2.log hs.log } ([],r.2.log))=_;simp only[zaI]
@[simp ↓] theorem zLf {xs:Array Operand} {ts:Array TypeId}:wpD E id T hs (.call ⟨.builtin .copy,xs,ts⟩) K=(hs.H.get id=none/\ok (zaL T xs.toList) fun vs=>ok (zeZ E.P (bare hs) ts.toList vs) fun r=>K r.1 { H:=r.2.H,n:=r.2.n,log:=r.2.log++hs.log } ([],r.2.log)):=by
  show (_/\ok (zaL T xs.toList) fun vs=>ok (zeZ E.P (bare hs) ts.toList vs) fun r=>K r.1 { H:=r.2.H,n:=r.2.n,log:=zb9 r.2.log hs.log } ([],r.2.log))=_;simp only[zaI]
@[simp] theorem zFf {i g o:Nat}:zaU (.ptr i g o)=[i]:=(rfl)
@[simp] theorem zFg {i g o n:Nat} {c:Option Nat}:zaU (.own i g o n c)=[i]:=(rfl)
@[simp] theorem zFh {i:Nat}:zaU (.map i)=[i]:=(rfl)
@[simp] theorem zFe {c:List V}:zaU (.ref c)=[]:=(rfl)
@[simp] theorem z7M {all:List (List Nat×List Nat)} {j:Nat} {bs:List Nat}:zcj all [] j bs=true:=(rfl)
@[simp] theorem zy1 {all l:List (List Nat×List Nat)} {r:List Nat×List Nat} {j m:Nat} {bs:List Nat}:zcj all (r::l) j (m::bs)=et (zeG m r all 0 j) (zcj all l (j+1) bs):=(rfl)
@[simp] theorem zCS {m i j:Nat} {r:List Nat×List Nat}:zeG m r [] i j=true:=(rfl)
@[simp] theorem zAH {m i j:Nat} {r q:List Nat×List Nat} {l:List (List Nat×List Nat)}:zeG m r (q::l) i j=if i<j then ((tb m i||!(meet q.1 r.2||meet r.1 q.2))&&zeG m r l (i+1) j)else true:=by
  show bi (Nat.blt i j) (et (bi (tb m i) true (nt (bi (meet q.1 r.2) true (meet r.1 q.2)))) (zeG m r l (i+1) j)) true=_;rw[zav];simp only[blt_true,zpA,zka,zav];by_cases h:i<j
  . rw[if_pos h,if_pos h];cases tb m i<;>cases meet q.1 r.2<;>simp
  . rw[if_neg h,if_neg h]
@[simp] theorem zJA {m:List Nat}:meet [] m=false:=(rfl)
@[simp] theorem zCl {l:List Nat}:meet l []=false:=by
  induction l with
  |nil=>rfl
  |cons x l ih=>show bi (zlt x []) true (meet l [])=false;rw[ih];rfl
@[simp] theorem zJ9 {x y:Nat}:meet [x] [y]=decide (x=y):=by
  show bi (bi (Nat.beq x y) true false) true false=_;rw[zv3];by_cases h:x=y<;>simp[h]
@[simp] theorem zOF {m i:Nat}:tb m i=decide (m / 2 ^ i % 2=1):=by unfold tb;rw[zv3]
end
end Go.J
