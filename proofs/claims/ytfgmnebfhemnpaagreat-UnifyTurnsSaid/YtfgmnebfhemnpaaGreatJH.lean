import Derived.Test.YtfgmnebfhemnpaaGreatJG
set_option linter.all false
noncomputable section
/- Rules of rewriting for regions that draw their order. -/
namespace Go.J
section
variable {E:Env}{id:Nat}{T:PT V}{hs:HS}{K:V->HS->List Nat×List Nat->Prop}{sz:Nat}{acc:List (List Nat×List Nat)}{R:PT V->HS->List (List Nat×List Nat)->Prop}
@[simp ↓] theorem zRO:Rd E sz [] id T hs acc R=R T hs acc:=(rfl)
@[simp ↓] theorem zNA {d:Option Tmp} {op:Op} {g:Option (Tmp×Bool)} {lk:List Nat} {l:List SD}:Rd E sz (⟨d,op,g,lk⟩::l) id T hs acc R=z6V E id (zam T lk) hs ⟨d,op,g,lk⟩ fun v hs' rw=>put sz T d v fun T1=>Rd E sz l (id+1) T1 hs' (acc++[rw]) R:=by
  show (z6V E id (zam T lk) hs ⟨d,op,g,lk⟩ fun v hs' rw=>put sz T d v fun T1=>Rd E sz l (id+1) T1 hs' (zbB acc [rw]) R)=_;simp only[zaJ]
@[simp ↓] theorem zNK {d:Option Tmp} {op:Op} {lk:List Nat}:z6V E id T hs ⟨d,op,none,lk⟩ K=wpD E id T hs op K:=(rfl)
@[simp ↓] theorem zNL {d:Option Tmp} {op:Op} {t:Tmp} {w:Bool} {lk:List Nat}:z6V E id T hs ⟨d,op,some (t,w),lk⟩ K=ok (T.get t) fun v=>ok (v.guard? w) fun q=>br (q=w) (wpD E id T hs op K) (K undefV hs ([],[])):=by
  simp only[z9T];rfl
def lf:HS:={ H:=.leaf,n:=0,log:=[] }
@[simp] theorem zOB {k:Nat}:lf.H.get k=none:=(rfl)
@[simp] theorem lf_H:lf.H=.leaf:=(rfl)
def part(hs:HS)(l:List Nat):HS:={ H:=zam hs.H l,n:=0,log:=[] }
@[simp] theorem zIC {l:List Nat} {k:Nat}:(part hs l).H.get k=if k∈l then hs.H.get k else none:=zcp _ _ _
@[simp] theorem z8d {α:Type} {T:PT α} {l:List Nat} {t:Nat}:(zam T l).get t=if t∈l then T.get t else none:=zcp T l t
def bare(hs:HS):HS:={ H:=hs.H,n:=hs.n,log:=[] }
@[simp] theorem zRF:(bare hs).H=hs.H:=(rfl)
@[simp] theorem zRE:(bare hs).n=hs.n:=(rfl)
@[simp] theorem zKe:(bare hs).log=[]:=(rfl)
theorem zKx{op:Op}(h:zaN op=false):wpD E id T hs op K=zC6 E id T hs op K:=by
 cases op<;>first|rfl|cases h
theorem znE{op:Op}(hc:zM op=0)(hn:zbI op=none)(hr:readsOf T op=[]):wpD E id T hs op K=ok (opJ E.P true T lf id (opR op)) fun r=>K r.1 hs ([],[]):=by
 rw[zKx (by cases op<;>first|rfl|cases hc)];unfold zC6;rw[hc,hr];cases op<;>first|rfl|(cases hn;done)|(cases hc;done)|(show ok (opJ E.P true T { H:=zam hs.H (readsOf T _),n:=0,log:=[] } id _) (fun r=>K r.1 hs (readsOf T _,[]))=_;rw[hr];rfl)
@[simp ↓] theorem zK0 {x:Operand}:wpD E id T hs (.move x) K=ok (zC T x) fun v=>K v hs ([],[]):=by
  rw[znE rfl rfl rfl];show ok (ob (zC T x) fun v=>some (v,lf)) _=_;simp only[zak,zF]
@[simp ↓] theorem zC9 {x:Operand}:wpD E id T hs (.assign x) K=ok (zC T x) fun v=>K v hs ([],[]):=by
  rw[znE rfl rfl rfl];show ok (ob (zC T x) fun v=>some (v,lf)) _=_;simp only[zak,zF]
@[simp ↓] theorem zKz {c a b:Operand}:wpD E id T hs (.pick c a b) K=ok (zC T c) fun v=>ok v.bool? fun q=>ok (bi q (zC T a) (zC T b)) fun v=>K v hs ([],[]):=by
  rw[znE rfl rfl rfl];show ok (zjR T lf c a b) _=_;simp only[zjR,zak,zF]
@[simp ↓] theorem zH1 {b:BinOp} {t u:TypeId} {x y:Operand}:wpD E id T hs (.binOp b t x y u) K=ok (zC T x) fun p=>ok (zC T y) fun q=>ok (zyz E.P b t p q) fun v=>K v hs ([],[]):=by
  rw[znE rfl rfl rfl];show ok (zfH E.P T lf b t x y) _=_;simp only[zfH,zak,zF]
@[simp ↓] theorem zKy {b:UnOp} {t:TypeId} {x:Operand}:wpD E id T hs (.unOp b t x) K=ok (zj9 T lf b x) fun r=>K r.1 hs ([],[]):=by
  rw[znE rfl rfl rfl];rfl
@[simp ↓] theorem zyQ {t:TypeId} {x:Operand} {f:Nat}:wpD E id T hs (.fieldAddr t x f) K=ok (ti E.P t) fun i=>ok (zB i f) fun fd=>ok (ti E.P fd.type) fun fi=>nt (Nat.beq fi.size 0)=true/\ok (zC T x) fun v=>ok (zbf fd.offset v) fun r=>K r hs ([],[]):=by
  rw[znE rfl rfl rfl];show ok (zb4 E.P T lf t x f) _=_;simp only[zb4,zak,zbX,zF]
@[simp ↓] theorem zHz {t:TypeId} {x:Operand} {f:Nat}:wpD E id T hs (.field t x f) K=ok (ti E.P t) fun i=>ok (zB i f) fun fd=>ok (ti E.P fd.type) fun fi=>ok (zC T x) fun v=>ok v.agg? fun cs=>ok (ze6 fi cs fd.offset) fun v=>K v hs ([],[]):=by
  rw[znE rfl rfl rfl];show ok (zf8 E.P T lf t x f) _=_;simp only[zf8,zak,zF]
@[simp ↓] theorem zyP {t:TypeId} {x ix:Operand}:wpD E id T hs (.indexAddr t x ix) K=ok (ti E.P t) fun i=>ok (elemOf i.desc) fun el=>ok (ti E.P el.1) fun e=>ok (zC T x) fun v=>ok (zC T ix) fun n=>ok n.nat? fun n=>ok (zB6 el.2 e n v) fun r=>K r hs ([],[]):=by
  rw[znE rfl rfl rfl];show ok (zb3 E.P T lf t x ix) _=_;simp only[zb3,zak,zF]
@[simp ↓] theorem zHy {t:TypeId} {x ix:Operand}:wpD E id T hs (.index t x ix) K=ok (ti E.P t) fun i=>isStr i.desc=true/\ok (zC T x) fun v=>ok v.str? fun s=>ok (zC T ix) fun n=>ok n.nat? fun n=>ok (zeQ s n) fun b=>K (.int .u8 (Int.ofNat b)) hs ([],[]):=by
  rw[znE rfl rfl rfl];show ok (zf4 E.P T lf t x ix) _=_;simp only[zf4,zak,zbX,zF]
@[simp ↓] theorem zAz {x:Operand} {k:Nat}:wpD E id T hs (.extract x k) K=ok (zC T x) fun v=>ok v.tuple? fun vs=>ok (zeQ vs k) fun v=>K v hs ([],[]):=by
  rw[znE rfl rfl rfl];show ok (zc6 T lf x k) _=_;simp only[zc6,zak,zF]
@[simp ↓] theorem z6W {x:Operand}:wpD E id T hs (.nilCheck x) K=ok (zC T x) fun v=>notNil v=true/\K v hs ([],[]):=by
  rw[znE rfl rfl rfl];show ok (zbS T lf x) _=_;simp only[zbS,zak,zbX,zF]
@[simp ↓] theorem zH0 {t:TypeId} {ps:Array (Nat×Operand)}:wpD E id T hs (.build t ps) K=ok (ti E.P t) fun i=>ok (bi (za2 i.desc) (gd (zaR E.P (fieldsOf i.desc)) (zdJ E.P T i ps.toList i.zero)) (ob (zqa i.desc) fun el=>ob (ti E.P el) fun e=>zcw T e.size ps.toList i.zero)) fun cs=>K (.agg cs) hs ([],[]):=by
  rw[znE rfl rfl rfl];show ok (zc9 E.P T lf t ps) _=_;unfold zc9;simp only[zak (ti E.P t)];congr 1;funext i;rw[zak];congr 1;funext cs;rw[zF]
@[simp ↓] theorem zA0 {s d:TypeId} {x:Operand}:wpD E id T hs (.convert s d x) K=ok (ti E.P s) fun _=>ok (ti E.P d) fun j=>ok (zC T x) fun v=>ok (znt j.desc v) fun r=>K r hs ([],[]):=by
  rw[znE rfl rfl rfl];show ok (zkm E.P T lf s d x) _=_;simp only[zkm,zak,zF]
@[simp ↓] theorem z6X {f:FuncId} {cs:Array Operand}:wpD E id T hs (.makeFunc (.func f) #[] cs) K=ok (zaL T cs.toList) fun l=>K (.func f l) hs ([],[]):=by
  rw[znE rfl rfl rfl];show ok (gd true (ob (zaL T cs.toList) fun l=>some (V.func f l,lf))) _=_;simp only[zbA,zak,zF]
@[simp ↓] theorem zK1 {t:TypeId} {a:Operand}:wpD E id T hs (.load t a) K=ok (ti E.P t) fun i=>ok (zC T a) fun p=>ok (zgB i (part hs (zaV p)) p) fun v=>K v hs (zaV p,[]):=by
  show ok (zd7 E.P T { H:=zam hs.H (orc [] zaV (zC T a)),n:=0,log:=[] } t a) (fun r=>K r.1 hs (orc [] zaV (zC T a),[]))=_;simp only[zd7,zak,zF]
  cases zC T a with
  | none =>
    congr 1;funext i
    exact propext ⟨fun ⟨_,h,_⟩=>(by cases h),fun ⟨_,h,_⟩=>(by cases h)⟩
  |some p=>simp only[zF,za8];rfl
@[simp ↓] theorem zC8 {t:TypeId} {m k:Operand} {b:Bool}:wpD E id T hs (.lookup t m k b) K=ok (zC T m) fun mv=>ok (zan E.P T (part hs (zaV mv)) t m k b) fun r=>K r.1 hs (zaV mv,[]):=by
  show ok (zan E.P T { H:=zam hs.H (orc [] zaV (zC T m)),n:=0,log:=[] } t m k b) (fun r=>K r.1 hs (orc [] zaV (zC T m),[]))=_
  cases h:zC T m with
  | none =>
    refine propext ⟨fun ⟨r,h1,_⟩=>?_,fun ⟨_,h,_⟩=>(by cases h)⟩;simp only[zan,h,zt]at h1;obtain⟨_,_,_,_,_,_,_,_,_,h2,_⟩:=h1;cases h2
  |some p=>simp only[zF,za8];rfl
@[simp ↓] theorem zHx {t:TypeId} {x:Operand} {lo hi mx:Option Operand}:wpD E id T hs (.slice t x lo hi mx) K=ok (ti E.P t) fun i=>ok (zC T x) fun v=>ok (zbN E.P T (part hs (zaV v)) i v lo hi mx) fun r=>K r hs (zaV v,[]):=by
  show ok (zc2 E.P T { H:=zam hs.H (orc [] zaV (zC T x)),n:=0,log:=[] } t x lo hi mx) (fun r=>K r.1 hs (orc [] zaV (zC T x),[]))=_;simp only[zc2,zak,zF]
  cases zC T x with
  | none =>
    congr 1;funext i
    exact propext ⟨fun ⟨_,h,_⟩=>(by cases h),fun ⟨_,h,_⟩=>(by cases h)⟩
  |some p=>simp only[zF,za8];rfl
@[simp ↓] theorem zNO {a:Operand} {ts:Array TypeId}:wpD E id T hs (.call ⟨.builtin .len,#[a],ts⟩) K=ok (zC T a) fun v=>ok (zgp E.P (part hs (zaV v)) ts.toList [v]) fun r=>K r.1 hs (zaV v,[]):=by
  show (ok (zaL T [a]) fun vs=>ok (zgp E.P { H:=zam hs.H (orc [] zaV (zC T a)),n:=0,log:=[] } ts.toList vs) fun r=>K r.1 hs (orc [] zaV (zC T a),[]))=_;simp only[zlP,znn,zak,zF]
  cases zC T a with
  |none=>exact propext ⟨fun ⟨_,h,_⟩=>(by cases h),fun ⟨_,h,_⟩=>(by cases h)⟩
  |some p=>simp only[zF,za8];rfl
@[simp ↓] theorem zNM {xs:Array Operand} {ts:Array TypeId}:wpD E id T hs (.call ⟨.builtin .min,xs,ts⟩) K=ok (zaL T xs.toList) fun vs=>ok (zbZ lf true vs) fun r=>K r.1 hs ([],[]):=(rfl)
@[simp ↓] theorem zNN {xs:Array Operand} {ts:Array TypeId}:wpD E id T hs (.call ⟨.builtin .max,xs,ts⟩) K=ok (zaL T xs.toList) fun vs=>ok (zbZ lf false vs) fun r=>K r.1 hs ([],[]):=(rfl)
theorem zjQ{k:Nat}{o:Obj}:(hs.put k o).H.get k=some o:=by rw[zaS,if_pos rfl]
@[simp ↓] theorem zH2 {t:TypeId}:wpD E id T hs (.alloc t) K=(hs.H.get id=none/\ok (ti E.P t) fun i=>Nat.beq (zS i.zero) i.size=true/\K (.ptr id 0 0) (hs.put id (.arr i.size 0 [i.zero] true false false)) ([id],[])):=by
  show (_/\ok (zdL E.P lf id t) fun r=>ok (r.2.H.get id) fun o'=>o'.fz=false/\K r.1 (hs.put id o') ([id],[]))=_;simp only[zdL,zak,zbX,zF,zjQ,Obj.fz,true_and]
@[simp ↓] theorem zNP {t:TypeId} {x:Operand}:wpD E id T hs (.box t x) K=(hs.H.get id=none/\ok (zC T x) fun v=>K (.ptr id 0 0) (hs.put id (.arr (zS v.cells) 0 [v.cells] true false false)) ([id],[])):=by
  show (_/\ok (zqi T lf id x) fun r=>ok (r.2.H.get id) fun o'=>o'.fz=false/\K r.1 (hs.put id o') ([id],[]))=_;simp only[zqi,zak,zF,zjQ,Obj.fz,true_and]
@[simp ↓] theorem zwh {t:TypeId} {n:Nat} {ps:Array (Nat×Operand)}:wpD E id T hs (.buildSlice t n ps) K=(hs.H.get id=none/\ok (zar E.P true T lf id t n ps) fun r=>ok (r.2.H.get id) fun o'=>o'.fz=false/\K r.1 (hs.put id o') ([id],[])):=(rfl)
@[simp ↓] theorem zyO {t:TypeId} {l c:Operand}:wpD E id T hs (.makeSlice t l c) K=(hs.H.get id=none/\ok (zaE E.P T lf id t l c) fun r=>ok (r.2.H.get id) fun o'=>o'.fz=false/\K r.1 (hs.put id o') ([id],[])):=(rfl)
@[simp ↓] theorem zAy {t:TypeId}:wpD E id T hs (.makeMap t none) K=(hs.H.get id=none/\K (.map id) (hs.put id (.mp [])) ([id],[])):=by
  show (_/\ok (gd true (some (V.map id,lf.put id (.mp [])))) fun r=>ok (r.2.H.get id) fun o'=>o'.fz=false/\K r.1 (hs.put id o') ([id],[]))=_;simp only[zbA,zF,zjQ,Obj.fz,true_and]
@[simp] theorem zIv {H H2:PT Obj}:zlc H H2 []=H:=(rfl)
@[simp] theorem zDU {H H2:PT Obj} {k:Nat} {X:List Nat}:zlc H H2 (k::X)=orc (zlc H H2 X) (fun o=>(zlc H H2 X).set k o) (H2.get k):=(rfl)
@[simp] theorem zJl:zvX []=[]:=(rfl)
@[simp] theorem zET {c:V} {l:List V}:zvX (c::l)=zaV c++zvX l:=by show zbB (zaV c) (zvX l)=_;rw[zaJ]
@[simp] theorem zEv {k:IntKind} {n:Int}:zaV (.int k n)=[]:=(rfl)
@[simp] theorem zBg {b:Bool}:zaV (.bool b)=[]:=(rfl)
@[simp] theorem zEq {b:List Nat}:zaV (.str b)=[]:=(rfl)
@[simp] theorem zIF {b:List (List V)} {t:Bool}:zaV (.sl b t)=[]:=(rfl)
@[simp] theorem zBe:zaV .snil=[]:=(rfl)
@[simp] theorem zzq:zaV .nilptr=[]:=(rfl)
@[simp] theorem zxs:zaV .nilFunc=[]:=(rfl)
@[simp] theorem zzr:zaV .nilmap=[]:=(rfl)
@[simp] theorem zBf {f:FuncId} {l:List V}:zaV (.func f l)=[]:=(rfl)
@[simp] theorem zHU {i g o:Nat}:rowP hs (.ptr i g o)=isRow hs i:=(rfl)
def zwP(hs:HS)(p v:V):List Nat:=zaV p++bi (rowP hs p) (zvX v.cells) []
@[simp] theorem zLb {p v:V}:zwP hs p v=zaV p++bi (rowP hs p) (zvX v.cells) []:=(rfl)
@[simp ↓] theorem zHw {t:TypeId} {a x:Operand}:wpD E id T hs (.store t a x) K=(hs.H.get id=none/\ok (ti E.P t) fun i=>ok (zC T a) fun p=>ok (zC T x) fun v=>ok (zeA i (part hs (zwP hs p v)) p v) fun h2 =>
 K undefV { H:=zlc hs.H h2.H (zwP hs p v),n:=hs.n,log:=h2.log++hs.log } (zwP hs p v,h2.log)):=by
  show (_/\ok (zaX E.P T { H:=zam hs.H (orc [] (fun p=>zbB (zaV p) (bi (rowP hs p) (orc [] (fun v=>zvX v.cells) (zC T x)) [])) (zC T a)),n:=0,log:=[] } t a x) fun r=>K r.1 { H:=zlc hs.H r.2.H (orc [] (fun p=>zbB (zaV p) (bi (rowP hs p) (orc [] (fun v=>zvX v.cells) (zC T x)) [])) (zC T a)),n:=hs.n,log:=zbB r.2.log hs.log } (orc [] (fun p=>zbB (zaV p) (bi (rowP hs p) (orc [] (fun v=>zvX v.cells) (zC T x)) [])) (zC T a),r.2.log))=_;simp only[zaX,zak,zF,zaJ]
  cases zC T a with
  |none=>congr 1;exact propext ⟨fun ⟨_,_,_,h,_⟩=>(by cases h),fun ⟨_,_,_,h,_⟩=>(by cases h)⟩
  | some p =>
    cases zC T x with
    |none=>congr 1;exact propext ⟨fun ⟨_,_,_,_,_,h,_⟩=>(by cases h),fun ⟨_,_,_,_,_,h,_⟩=>(by cases h)⟩
    |some v=>simp only[zF,za8];rfl
@[simp ↓] theorem zyN {t:TypeId} {m k x:Operand}:wpD E id T hs (.mapUpdate t m k x) K=(hs.H.get id=none/\ok (zU E.P T (bare hs) t m k x) fun r=>K r.1 { H:=r.2.H,n:=r.2.n,log:=r.2.log++hs.log } ([],r.2.log)):=by
  show (_/\ok (zU E.P T (bare hs) t m k x) fun r=>K r.1 { H:=r.2.H,n:=r.2.n,log:=zbB r.2.log hs.log } ([],r.2.log))=_;simp only[zaJ]
@[simp ↓] theorem zK3 {x:Operand} {xs:Array Operand} {ts:Array TypeId}:wpD E id T hs (.call ⟨.value x,xs,ts⟩) K=(hs.H.get id=none/\ok (zC T x) fun v=>ok (funcOf v) fun p=>ok (zaL T xs.toList) fun vs=>ok (E.con p.1 (zbB vs p.2) (bare hs)) fun r=>K r.1 { H:=r.2.H,n:=r.2.n,log:=r.2.log++hs.log } ([],r.2.log)):=by
  show (_/\ok (zC T x) fun v=>ok (funcOf v) fun p=>ok (zaL T xs.toList) fun vs=>ok (E.con p.1 (zbB vs p.2) (bare hs)) fun r=>K r.1 { H:=r.2.H,n:=r.2.n,log:=zbB r.2.log hs.log } ([],r.2.log))=_;simp only[zaJ]
@[simp ↓] theorem zCA {xs:Array Operand} {ts:Array TypeId}:wpD E id T hs (.call ⟨.builtin .append,xs,ts⟩) K=(hs.H.get id=none/\ok (zaL T xs.toList) fun vs=>ok (zcQ E.P (bare hs) id ts.toList vs) fun r=>K r.1 { H:=r.2.H,n:=r.2.n,log:=r.2.log++hs.log } ([],r.2.log)):=by
  show (_/\ok (zaL T xs.toList) fun vs=>ok (zcQ E.P (bare hs) id ts.toList vs) fun r=>K r.1 { H:=r.2.H,n:=r.2.n,log:=zbB r.2.log hs.log } ([],r.2.log))=_;simp only[zaJ]
@[simp ↓] theorem zK2 {xs:Array Operand} {ts:Array TypeId}:wpD E id T hs (.call ⟨.builtin .copy,xs,ts⟩) K=(hs.H.get id=none/\ok (zaL T xs.toList) fun vs=>ok (zeZ E.P (bare hs) ts.toList vs) fun r=>K r.1 { H:=r.2.H,n:=r.2.n,log:=r.2.log++hs.log } ([],r.2.log)):=by
  show (_/\ok (zaL T xs.toList) fun vs=>ok (zeZ E.P (bare hs) ts.toList vs) fun r=>K r.1 { H:=r.2.H,n:=r.2.n,log:=zbB r.2.log hs.log } ([],r.2.log))=_;simp only[zaJ]
@[simp] theorem zEs {i g o:Nat}:zaV (.ptr i g o)=[i]:=(rfl)
@[simp] theorem zEt {i g o n:Nat} {c:Option Nat}:zaV (.own i g o n c)=[i]:=(rfl)
@[simp] theorem zEu {i:Nat}:zaV (.map i)=[i]:=(rfl)
@[simp] theorem zEr {c:List V}:zaV (.ref c)=[]:=(rfl)
@[simp] theorem z6N {all:List (List Nat×List Nat)} {j:Nat} {bs:List Nat}:zck all [] j bs=true:=(rfl)
@[simp] theorem zy7 {all l:List (List Nat×List Nat)} {r:List Nat×List Nat} {j m:Nat} {bs:List Nat}:zck all (r::l) j (m::bs)=et (zeF m r all 0 j) (zck all l (j+1) bs):=(rfl)
@[simp] theorem zBY {m i j:Nat} {r:List Nat×List Nat}:zeF m r [] i j=true:=(rfl)
@[simp] theorem z9L {m i j:Nat} {r q:List Nat×List Nat} {l:List (List Nat×List Nat)}:zeF m r (q::l) i j=if i<j then ((tb m i||!(meet q.1 r.2||meet r.1 q.2))&&zeF m r l (i+1) j)else true:=by
  show bi (Nat.blt i j) (et (bi (tb m i) true (nt (bi (meet q.1 r.2) true (meet r.1 q.2)))) (zeF m r l (i+1) j)) true=_;rw[za0];simp only[blt_true,zpF,zjW,za0];by_cases h:i<j
  . rw[if_pos h,if_pos h];cases tb m i<;>cases meet q.1 r.2<;>simp
  . rw[if_neg h,if_neg h]
@[simp] theorem zIV {m:List Nat}:meet [] m=false:=(rfl)
@[simp] theorem zBq {l:List Nat}:meet l []=false:=by
  induction l with
  |nil=>rfl
  |cons x l ih=>show bi (zls x []) true (meet l [])=false;rw[ih];rfl
@[simp] theorem zIU {x y:Nat}:meet [x] [y]=decide (x=y):=by
  show bi (bi (Nat.beq x y) true false) true false=_;rw[zv1];by_cases h:x=y<;>simp[h]
@[simp] theorem zNX {m i:Nat}:tb m i=decide (m / 2 ^ i % 2=1):=by unfold tb;rw[zv1]
end
end Go.J
