import Derived.Test.YtfgmnebfhemnpaaGreatJG
set_option linter.all false
noncomputable section
/- Rules of rewriting for regions that draw their order. -/
namespace Go.J
section
variable {E:Env}{id:Nat}{T:PT V}{hs:HS}{K:V->HS->List Nat×List Nat->Prop}{sz:Nat}{acc:List (List Nat×List Nat)}{R:PT V->HS->List (List Nat×List Nat)->Prop}
@[simp ↓] theorem zTb:Rd E sz [] id T hs acc R=R T hs acc:=(rfl)
@[simp ↓] theorem zOF {d:Option Tmp} {op:Op} {g:Option (Tmp×Bool)} {lk:List Nat} {l:List SD}:Rd E sz (⟨d,op,g,lk⟩::l) id T hs acc R=z8H E id (zan T lk) hs ⟨d,op,g,lk⟩ fun v hs' rw=>put sz T d v fun T1=>Rd E sz l (id+1) T1 hs' (acc++[rw]) R:=by
  show (z8H E id (zan T lk) hs ⟨d,op,g,lk⟩ fun v hs' rw=>put sz T d v fun T1=>Rd E sz l (id+1) T1 hs' (zbB acc [rw]) R)=_;simp only[zaH]
@[simp ↓] theorem zOP {d:Option Tmp} {op:Op} {lk:List Nat}:z8H E id T hs ⟨d,op,none,lk⟩ K=wpD E id T hs op K:=(rfl)
@[simp ↓] theorem zOQ {d:Option Tmp} {op:Op} {t:Tmp} {w:Bool} {lk:List Nat}:z8H E id T hs ⟨d,op,some (t,w),lk⟩ K=ok (T.get t) fun v=>ok (v.guard? w) fun q=>br (q=w) (wpD E id T hs op K) (K undefV hs ([],[])):=by
  simp only[zBv];rfl
def lf:HS:={ H:=.leaf,n:=0,log:=[] }
@[simp] theorem zPF {k:Nat}:lf.H.get k=none:=(rfl)
@[simp] theorem lf_H:lf.H=.leaf:=(rfl)
def part(hs:HS)(l:List Nat):HS:={ H:=zan hs.H l,n:=0,log:=[] }
@[simp] theorem zJI {l:List Nat} {k:Nat}:(part hs l).H.get k=if k∈l then hs.H.get k else none:=zcq _ _ _
@[simp] theorem z9H {α:Type} {T:PT α} {l:List Nat} {t:Nat}:(zan T l).get t=if t∈l then T.get t else none:=zcq T l t
def bare(hs:HS):HS:={ H:=hs.H,n:=hs.n,log:=[] }
@[simp] theorem zSS:(bare hs).H=hs.H:=(rfl)
@[simp] theorem zSR:(bare hs).n=hs.n:=(rfl)
@[simp] theorem zLk:(bare hs).log=[]:=(rfl)
theorem zL3{op:Op}(h:zaK op=false):wpD E id T hs op K=zDV E id T hs op K:=by
 cases op<;>first|rfl|cases h
theorem zog{op:Op}(hc:zM op=0)(hn:zbI op=none)(hr:readsOf T op=[]):wpD E id T hs op K=ok (opJ E.P true T lf id (opR op)) fun r=>K r.1 hs ([],[]):=by
 rw[zL3 (by cases op<;>first|rfl|cases hc)];unfold zDV;rw[hc,hr];cases op<;>first|rfl|(cases hn;done)|(cases hc;done)|(show ok (opJ E.P true T { H:=zan hs.H (readsOf T _),n:=0,log:=[] } id _) (fun r=>K r.1 hs (readsOf T _,[]))=_;rw[hr];rfl)
@[simp ↓] theorem zL6 {x:Operand}:wpD E id T hs (.move x) K=ok (zF T x) fun v=>K v hs ([],[]):=by
  rw[zog rfl rfl rfl];show ok (ob (zF T x) fun v=>some (v,lf)) _=_;simp only[zal,zG]
@[simp ↓] theorem zDX {x:Operand}:wpD E id T hs (.assign x) K=ok (zF T x) fun v=>K v hs ([],[]):=by
  rw[zog rfl rfl rfl];show ok (ob (zF T x) fun v=>some (v,lf)) _=_;simp only[zal,zG]
@[simp ↓] theorem zL5 {c a b:Operand}:wpD E id T hs (.pick c a b) K=ok (zF T c) fun v=>ok v.bool? fun q=>ok (bi q (zF T a) (zF T b)) fun v=>K v hs ([],[]):=by
  rw[zog rfl rfl rfl];show ok (zkq T lf c a b) _=_;simp only[zkq,zal,zG]
@[simp ↓] theorem zI6 {b:BinOp} {t u:TypeId} {x y:Operand}:wpD E id T hs (.binOp b t x y u) K=ok (zF T x) fun p=>ok (zF T y) fun q=>ok (zyT E.P b t p q) fun v=>K v hs ([],[]):=by
  rw[zog rfl rfl rfl];show ok (zfJ E.P T lf b t x y) _=_;simp only[zfJ,zal,zG]
@[simp ↓] theorem zL4 {b:UnOp} {t:TypeId} {x:Operand}:wpD E id T hs (.unOp b t x) K=ok (zka T lf b x) fun r=>K r.1 hs ([],[]):=by
  rw[zog rfl rfl rfl];rfl
@[simp ↓] theorem zzt {t:TypeId} {x:Operand} {f:Nat}:wpD E id T hs (.fieldAddr t x f) K=ok (ti E.P t) fun i=>ok (zC i f) fun fd=>ok (ti E.P fd.type) fun fi=>nt (Nat.beq fi.size 0)=true/\ok (zF T x) fun v=>ok (zbd fd.offset v) fun r=>K r hs ([],[]):=by
  rw[zog rfl rfl rfl];show ok (zb3 E.P T lf t x f) _=_;simp only[zb3,zal,zca,zG]
@[simp ↓] theorem zI4 {t:TypeId} {x:Operand} {f:Nat}:wpD E id T hs (.field t x f) K=ok (ti E.P t) fun i=>ok (zC i f) fun fd=>ok (ti E.P fd.type) fun fi=>ok (zF T x) fun v=>ok v.agg? fun cs=>ok (zeB fi cs fd.offset) fun v=>K v hs ([],[]):=by
  rw[zog rfl rfl rfl];show ok (zfA E.P T lf t x f) _=_;simp only[zfA,zal,zG]
@[simp ↓] theorem zzs {t:TypeId} {x ix:Operand}:wpD E id T hs (.indexAddr t x ix) K=ok (ti E.P t) fun i=>ok (elemOf i.desc) fun el=>ok (ti E.P el.1) fun e=>ok (zF T x) fun v=>ok (zF T ix) fun n=>ok n.nat? fun n=>ok (zCX el.2 e n v) fun r=>K r hs ([],[]):=by
  rw[zog rfl rfl rfl];show ok (zb2 E.P T lf t x ix) _=_;simp only[zb2,zal,zG]
@[simp ↓] theorem zI3 {t:TypeId} {x ix:Operand}:wpD E id T hs (.index t x ix) K=ok (ti E.P t) fun i=>isStr i.desc=true/\ok (zF T x) fun v=>ok v.str? fun s=>ok (zF T ix) fun n=>ok n.nat? fun n=>ok (zeR s n) fun b=>K (.int .u8 (Int.ofNat b)) hs ([],[]):=by
  rw[zog rfl rfl rfl];show ok (zf7 E.P T lf t x ix) _=_;simp only[zf7,zal,zca,zG]
@[simp ↓] theorem zBQ {x:Operand} {k:Nat}:wpD E id T hs (.extract x k) K=ok (zF T x) fun v=>ok v.tuple? fun vs=>ok (zeR vs k) fun v=>K v hs ([],[]):=by
  rw[zog rfl rfl rfl];show ok (zc7 T lf x k) _=_;simp only[zc7,zal,zG]
@[simp ↓] theorem z8J {x:Operand}:wpD E id T hs (.nilCheck x) K=ok (zF T x) fun v=>notNil v=true/\K v hs ([],[]):=by
  rw[zog rfl rfl rfl];show ok (zbV T lf x) _=_;simp only[zbV,zal,zca,zG]
@[simp ↓] theorem zI5 {t:TypeId} {ps:Array (Nat×Operand)}:wpD E id T hs (.build t ps) K=ok (ti E.P t) fun i=>ok (bi (za1 i.desc) (gd (zaP E.P (fieldsOf i.desc)) (zdN E.P T i ps.toList i.zero)) (ob (zqx i.desc) fun el=>ob (ti E.P el) fun e=>zcx T e.size ps.toList i.zero)) fun cs=>K (.agg cs) hs ([],[]):=by
  rw[zog rfl rfl rfl];show ok (zcA E.P T lf t ps) _=_;unfold zcA;simp only[zal (ti E.P t)];congr 1;funext i;rw[zal];congr 1;funext cs;rw[zG]
@[simp ↓] theorem zBR {s d:TypeId} {x:Operand}:wpD E id T hs (.convert s d x) K=ok (ti E.P s) fun _=>ok (ti E.P d) fun j=>ok (zF T x) fun v=>ok (znN j.desc v) fun r=>K r hs ([],[]):=by
  rw[zog rfl rfl rfl];show ok (zkA E.P T lf s d x) _=_;simp only[zkA,zal,zG]
@[simp ↓] theorem z8K {f:FuncId} {cs:Array Operand}:wpD E id T hs (.makeFunc (.func f) #[] cs) K=ok (zaJ T cs.toList) fun l=>K (.func f l) hs ([],[]):=by
  rw[zog rfl rfl rfl];show ok (gd true (ob (zaJ T cs.toList) fun l=>some (V.func f l,lf))) _=_;simp only[zbA,zal,zG]
@[simp ↓] theorem zL7 {t:TypeId} {a:Operand}:wpD E id T hs (.load t a) K=ok (ti E.P t) fun i=>ok (zF T a) fun p=>ok (zgJ i (part hs (zaT p)) p) fun v=>K v hs (zaT p,[]):=by
  show ok (zdA E.P T { H:=zan hs.H (orc [] zaT (zF T a)),n:=0,log:=[] } t a) (fun r=>K r.1 hs (orc [] zaT (zF T a),[]))=_;simp only[zdA,zal,zG]
  cases zF T a with
  | none =>
    congr 1;funext i
    exact propext ⟨fun ⟨_,h,_⟩=>(by cases h),fun ⟨_,h,_⟩=>(by cases h)⟩
  |some p=>simp only[zG,za6];rfl
@[simp ↓] theorem zDW {t:TypeId} {m k:Operand} {b:Bool}:wpD E id T hs (.lookup t m k b) K=ok (zF T m) fun mv=>ok (zao E.P T (part hs (zaT mv)) t m k b) fun r=>K r.1 hs (zaT mv,[]):=by
  show ok (zao E.P T { H:=zan hs.H (orc [] zaT (zF T m)),n:=0,log:=[] } t m k b) (fun r=>K r.1 hs (orc [] zaT (zF T m),[]))=_
  cases h:zF T m with
  | none =>
    refine propext ⟨fun ⟨r,h1,_⟩=>?_,fun ⟨_,h,_⟩=>(by cases h)⟩;simp only[zao,h,zq]at h1;obtain⟨_,_,_,_,_,_,_,_,_,h2,_⟩:=h1;cases h2
  |some p=>simp only[zG,za6];rfl
@[simp ↓] theorem zI2 {t:TypeId} {x:Operand} {lo hi mx:Option Operand}:wpD E id T hs (.slice t x lo hi mx) K=ok (ti E.P t) fun i=>ok (zF T x) fun v=>ok (zbO E.P T (part hs (zaT v)) i v lo hi mx) fun r=>K r hs (zaT v,[]):=by
  show ok (zc4 E.P T { H:=zan hs.H (orc [] zaT (zF T x)),n:=0,log:=[] } t x lo hi mx) (fun r=>K r.1 hs (orc [] zaT (zF T x),[]))=_;simp only[zc4,zal,zG]
  cases zF T x with
  | none =>
    congr 1;funext i
    exact propext ⟨fun ⟨_,h,_⟩=>(by cases h),fun ⟨_,h,_⟩=>(by cases h)⟩
  |some p=>simp only[zG,za6];rfl
@[simp ↓] theorem zOT {a:Operand} {ts:Array TypeId}:wpD E id T hs (.call ⟨.builtin .len,#[a],ts⟩) K=ok (zF T a) fun v=>ok (zgw E.P (part hs (zaT v)) ts.toList [v]) fun r=>K r.1 hs (zaT v,[]):=by
  show (ok (zaJ T [a]) fun vs=>ok (zgw E.P { H:=zan hs.H (orc [] zaT (zF T a)),n:=0,log:=[] } ts.toList vs) fun r=>K r.1 hs (orc [] zaT (zF T a),[]))=_;simp only[zms,znH,zal,zG]
  cases zF T a with
  |none=>exact propext ⟨fun ⟨_,h,_⟩=>(by cases h),fun ⟨_,h,_⟩=>(by cases h)⟩
  |some p=>simp only[zG,za6];rfl
@[simp ↓] theorem zOR {xs:Array Operand} {ts:Array TypeId}:wpD E id T hs (.call ⟨.builtin .min,xs,ts⟩) K=ok (zaJ T xs.toList) fun vs=>ok (zcb lf true vs) fun r=>K r.1 hs ([],[]):=(rfl)
@[simp ↓] theorem zOS {xs:Array Operand} {ts:Array TypeId}:wpD E id T hs (.call ⟨.builtin .max,xs,ts⟩) K=ok (zaJ T xs.toList) fun vs=>ok (zcb lf false vs) fun r=>K r.1 hs ([],[]):=(rfl)
theorem zkp{k:Nat}{o:Obj}:(hs.put k o).H.get k=some o:=by rw[zaR,if_pos rfl]
@[simp ↓] theorem zI7 {t:TypeId}:wpD E id T hs (.alloc t) K=(hs.H.get id=none/\ok (ti E.P t) fun i=>Nat.beq (zR i.zero) i.size=true/\K (.ptr id 0 0) (hs.put id (.arr i.size 0 [i.zero] true false false)) ([id],[])):=by
  show (_/\ok (zdO E.P lf id t) fun r=>ok (r.2.H.get id) fun o'=>o'.fz=false/\K r.1 (hs.put id o') ([id],[]))=_;simp only[zdO,zal,zca,zG,zkp,Obj.fz,true_and]
@[simp ↓] theorem zOU {t:TypeId} {x:Operand}:wpD E id T hs (.box t x) K=(hs.H.get id=none/\ok (zF T x) fun v=>K (.ptr id 0 0) (hs.put id (.arr (zR v.cells) 0 [v.cells] true false false)) ([id],[])):=by
  show (_/\ok (zq4 T lf id x) fun r=>ok (r.2.H.get id) fun o'=>o'.fz=false/\K r.1 (hs.put id o') ([id],[]))=_;simp only[zq4,zal,zG,zkp,Obj.fz,true_and]
@[simp ↓] theorem zwL {t:TypeId} {n:Nat} {ps:Array (Nat×Operand)}:wpD E id T hs (.buildSlice t n ps) K=(hs.H.get id=none/\ok (zar E.P true T lf id t n ps) fun r=>ok (r.2.H.get id) fun o'=>o'.fz=false/\K r.1 (hs.put id o') ([id],[])):=(rfl)
@[simp ↓] theorem zzr {t:TypeId} {l c:Operand}:wpD E id T hs (.makeSlice t l c) K=(hs.H.get id=none/\ok (zaC E.P T lf id t l c) fun r=>ok (r.2.H.get id) fun o'=>o'.fz=false/\K r.1 (hs.put id o') ([id],[])):=(rfl)
@[simp ↓] theorem zBP {t:TypeId}:wpD E id T hs (.makeMap t none) K=(hs.H.get id=none/\K (.map id) (hs.put id (.mp [])) ([id],[])):=by
  show (_/\ok (gd true (some (V.map id,lf.put id (.mp [])))) fun r=>ok (r.2.H.get id) fun o'=>o'.fz=false/\K r.1 (hs.put id o') ([id],[]))=_;simp only[zbA,zG,zkp,Obj.fz,true_and]
@[simp] theorem zJ1 {H H2:PT Obj}:zl1 H H2 []=H:=(rfl)
@[simp] theorem zFm {H H2:PT Obj} {k:Nat} {X:List Nat}:zl1 H H2 (k::X)=orc (zl1 H H2 X) (fun o=>(zl1 H H2 X).set k o) (H2.get k):=(rfl)
@[simp] theorem zKr:zwB []=[]:=(rfl)
@[simp] theorem zGh {c:V} {l:List V}:zwB (c::l)=zaT c++zwB l:=by show zbB (zaT c) (zwB l)=_;rw[zaH]
@[simp] theorem zFD {k:IntKind} {n:Int}:zaT (.int k n)=[]:=(rfl)
@[simp] theorem zC7 {b:Bool}:zaT (.bool b)=[]:=(rfl)
@[simp] theorem zF8 {b:List Nat}:zaT (.str b)=[]:=(rfl)
@[simp] theorem zJL {b:List (List V)} {t:Bool}:zaT (.sl b t)=[]:=(rfl)
@[simp] theorem zC5:zaT .snil=[]:=(rfl)
@[simp] theorem zzL:zaT .nilptr=[]:=(rfl)
@[simp] theorem zxQ:zaT .nilFunc=[]:=(rfl)
@[simp] theorem zzM:zaT .nilmap=[]:=(rfl)
@[simp] theorem zC6 {f:FuncId} {l:List V}:zaT (.func f l)=[]:=(rfl)
@[simp] theorem zJa {i g o:Nat}:rowP hs (.ptr i g o)=isRow hs i:=(rfl)
def zx0(hs:HS)(p v:V):List Nat:=zaT p++bi (rowP hs p) (zwB v.cells) []
@[simp] theorem zMi {p v:V}:zx0 hs p v=zaT p++bi (rowP hs p) (zwB v.cells) []:=(rfl)
@[simp ↓] theorem zI1 {t:TypeId} {a x:Operand}:wpD E id T hs (.store t a x) K=(hs.H.get id=none/\ok (ti E.P t) fun i=>ok (zF T a) fun p=>ok (zF T x) fun v=>ok (zeE i (part hs (zx0 hs p v)) p v) fun h2 =>
 K undefV { H:=zl1 hs.H h2.H (zx0 hs p v),n:=hs.n,log:=h2.log++hs.log } (zx0 hs p v,h2.log)):=by
  show (_/\ok (zaU E.P T { H:=zan hs.H (orc [] (fun p=>zbB (zaT p) (bi (rowP hs p) (orc [] (fun v=>zwB v.cells) (zF T x)) [])) (zF T a)),n:=0,log:=[] } t a x) fun r=>K r.1 { H:=zl1 hs.H r.2.H (orc [] (fun p=>zbB (zaT p) (bi (rowP hs p) (orc [] (fun v=>zwB v.cells) (zF T x)) [])) (zF T a)),n:=hs.n,log:=zbB r.2.log hs.log } (orc [] (fun p=>zbB (zaT p) (bi (rowP hs p) (orc [] (fun v=>zwB v.cells) (zF T x)) [])) (zF T a),r.2.log))=_;simp only[zaU,zal,zG,zaH]
  cases zF T a with
  |none=>congr 1;exact propext ⟨fun ⟨_,_,_,h,_⟩=>(by cases h),fun ⟨_,_,_,h,_⟩=>(by cases h)⟩
  | some p =>
    cases zF T x with
    |none=>congr 1;exact propext ⟨fun ⟨_,_,_,_,_,h,_⟩=>(by cases h),fun ⟨_,_,_,_,_,h,_⟩=>(by cases h)⟩
    |some v=>simp only[zG,za6];rfl
@[simp ↓] theorem zzq {t:TypeId} {m k x:Operand}:wpD E id T hs (.mapUpdate t m k x) K=(hs.H.get id=none/\ok (zS E.P T (bare hs) t m k x) fun r=>K r.1 { H:=r.2.H,n:=r.2.n,log:=r.2.log++hs.log } ([],r.2.log)):=by
  show (_/\ok (zS E.P T (bare hs) t m k x) fun r=>K r.1 { H:=r.2.H,n:=r.2.n,log:=zbB r.2.log hs.log } ([],r.2.log))=_;simp only[zaH]
@[simp ↓] theorem zL9 {x:Operand} {xs:Array Operand} {ts:Array TypeId}:wpD E id T hs (.call ⟨.value x,xs,ts⟩) K=(hs.H.get id=none/\ok (zF T x) fun v=>ok (funcOf v) fun p=>ok (zaJ T xs.toList) fun vs=>ok (E.con p.1 (zbB vs p.2) (bare hs)) fun r=>K r.1 { H:=r.2.H,n:=r.2.n,log:=r.2.log++hs.log } ([],r.2.log)):=by
  show (_/\ok (zF T x) fun v=>ok (funcOf v) fun p=>ok (zaJ T xs.toList) fun vs=>ok (E.con p.1 (zbB vs p.2) (bare hs)) fun r=>K r.1 { H:=r.2.H,n:=r.2.n,log:=zbB r.2.log hs.log } ([],r.2.log))=_;simp only[zaH]
@[simp ↓] theorem zDY {xs:Array Operand} {ts:Array TypeId}:wpD E id T hs (.call ⟨.builtin .append,xs,ts⟩) K=(hs.H.get id=none/\ok (zaJ T xs.toList) fun vs=>ok (zcO E.P (bare hs) id ts.toList vs) fun r=>K r.1 { H:=r.2.H,n:=r.2.n,log:=r.2.log++hs.log } ([],r.2.log)):=by
  show (_/\ok (zaJ T xs.toList) fun vs=>ok (zcO E.P (bare hs) id ts.toList vs) fun r=>K r.1 { H:=r.2.H,n:=r.2.n,log:=zbB r.2.log hs.log } ([],r.2.log))=_;simp only[zaH]
@[simp ↓] theorem zL8 {xs:Array Operand} {ts:Array TypeId}:wpD E id T hs (.call ⟨.builtin .copy,xs,ts⟩) K=(hs.H.get id=none/\ok (zaJ T xs.toList) fun vs=>ok (zfb E.P (bare hs) ts.toList vs) fun r=>K r.1 { H:=r.2.H,n:=r.2.n,log:=r.2.log++hs.log } ([],r.2.log)):=by
  show (_/\ok (zaJ T xs.toList) fun vs=>ok (zfb E.P (bare hs) ts.toList vs) fun r=>K r.1 { H:=r.2.H,n:=r.2.n,log:=zbB r.2.log hs.log } ([],r.2.log))=_;simp only[zaH]
@[simp] theorem zFA {i g o:Nat}:zaT (.ptr i g o)=[i]:=(rfl)
@[simp] theorem zFB {i g o n:Nat} {c:Option Nat}:zaT (.own i g o n c)=[i]:=(rfl)
@[simp] theorem zFC {i:Nat}:zaT (.map i)=[i]:=(rfl)
@[simp] theorem zF9 {c:List V}:zaT (.ref c)=[]:=(rfl)
@[simp] theorem z88 {all:List (List Nat×List Nat)} {j:Nat} {bs:List Nat}:zcm all [] j bs=true:=(rfl)
@[simp] theorem zza {all l:List (List Nat×List Nat)} {r:List Nat×List Nat} {j m:Nat} {bs:List Nat}:zcm all (r::l) j (m::bs)=et (zeJ m r all 0 j) (zcm all l (j+1) bs):=(rfl)
@[simp] theorem zDx {m i j:Nat} {r:List Nat×List Nat}:zeJ m r [] i j=true:=(rfl)
@[simp] theorem zBn {m i j:Nat} {r q:List Nat×List Nat} {l:List (List Nat×List Nat)}:zeJ m r (q::l) i j=if i<j then ((tb m i||!(meet q.1 r.2||meet r.1 q.2))&&zeJ m r l (i+1) j)else true:=by
  show bi (Nat.blt i j) (et (bi (tb m i) true (nt (bi (meet q.1 r.2) true (meet r.1 q.2)))) (zeJ m r l (i+1) j)) true=_;rw[zaz];simp only[blt_true,zqb,zkw,zaz];by_cases h:i<j
  . rw[if_pos h,if_pos h];cases tb m i<;>cases meet q.1 r.2<;>simp
  . rw[if_neg h,if_neg h]
@[simp] theorem zKb {m:List Nat}:meet [] m=false:=(rfl)
@[simp] theorem zCH {l:List Nat}:meet l []=false:=by
  induction l with
  |nil=>rfl
  |cons x l ih=>show bi (zlG x []) true (meet l [])=false;rw[ih];rfl
@[simp] theorem zKa {x y:Nat}:meet [x] [y]=decide (x=y):=by
  show bi (bi (Nat.beq x y) true false) true false=_;rw[zwi];by_cases h:x=y<;>simp[h]
@[simp] theorem zPb {m i:Nat}:tb m i=decide (m / 2 ^ i % 2=1):=by unfold tb;rw[zwi]
end
end Go.J
