import Derived.Test.YthfcfmkdeheicaaGreatJG
set_option linter.all false
noncomputable section
/- Rules of rewriting for regions that draw their order. -/
namespace Go.J
section
variable {E:Env}{id:Nat}{T:PT V}{hs:HS}{K:V→HS→List Nat×List Nat→Prop}{sz:Nat}{acc:List (List Nat×List Nat)}{R:PT V→HS→List (List Nat×List Nat)→Prop}
@[simp ↓] theorem Rd_nil:Rd E sz [] id T hs acc R=R T hs acc:=(rfl)
@[simp ↓] theorem Rd_cons {d:Option Tmp} {op:Op} {g:Option (Tmp×Bool)} {lk:List Nat} {l:List SD}:Rd E sz (⟨d,op,g,lk⟩::l) id T hs acc R=wpSD E id (zU T lk) hs ⟨d,op,g,lk⟩ fun v hs' rw=>put sz T d v fun T1=>Rd E sz l (id+1) T1 hs' (acc++[rw]) R:=by
  show (wpSD E id (zU T lk) hs ⟨d,op,g,lk⟩ fun v hs' rw=>put sz T d v fun T1=>Rd E sz l (id+1) T1 hs' (zdf acc [rw]) R)=_
  simp only[zaJ]
@[simp ↓] theorem wpSD_n {d:Option Tmp} {op:Op} {lk:List Nat}:wpSD E id T hs ⟨d,op,none,lk⟩ K=wpD E id T hs op K:=(rfl)
@[simp ↓] theorem wpSD_g {d:Option Tmp} {op:Op} {t:Tmp} {w:Bool} {lk:List Nat}:wpSD E id T hs ⟨d,op,some (t,w),lk⟩ K=ok (T.get t) fun v=>ok (v.guard? w) fun q=>br (q=w) (wpD E id T hs op K) (K undefV hs ([],[])):=by
  simp only[br_eq];rfl
def lf:HS:={ H:=.leaf,n:=0,log:=[] }
@[simp] theorem lf_get {k:Nat}:lf.H.get k=none:=(rfl)
@[simp] theorem lf_H:lf.H=.leaf:=(rfl)
def part(hs:HS)(l:List Nat):HS:={ H:=zU hs.H l,n:=0,log:=[] }
@[simp] theorem part_get {l:List Nat} {k:Nat}:(part hs l).H.get k=if k∈l then hs.H.get k else none:=zeC _ _ _
@[simp] theorem pickT_get_n {α:Type} {T:PT α} {l:List Nat} {t:Nat}:(zU T l).get t=if t∈l then T.get t else none:=zeC T l t
def bare(hs:HS):HS:={ H:=hs.H,n:=hs.n,log:=[] }
@[simp] theorem bare_H:(bare hs).H=hs.H:=(rfl)
@[simp] theorem bare_n:(bare hs).n=hs.n:=(rfl)
@[simp] theorem bare_log:(bare hs).log=[]:=(rfl)
theorem wpD_o{op:Op}(h:zaM op=false):wpD E id T hs op K=wpDo E id T hs op K:=by
 cases op<;>first|rfl|cases h
theorem wd_0{op:Op}(hc:zy op=0)(hn:zdn op=none)(hr:readsOf T op=[]):wpD E id T hs op K=ok (opJ E.P true T lf id (opR op)) fun r=>K r.1 hs ([],[]):=by
 rw[wpD_o (by cases op<;>first|rfl|cases hc)]
 unfold wpDo;rw[hc,hr]
 cases op<;>first|rfl|(cases hn;done)|(cases hc;done)|(show ok (opJ E.P true T { H:=zU hs.H (readsOf T _),n:=0,log:=[] } id _) (fun r=>K r.1 hs (readsOf T _,[]))=_;rw[hr];rfl)
@[simp ↓] theorem wd_move {x:Operand}:wpD E id T hs (.move x) K=ok (zn T x) fun v=>K v hs ([],[]):=by
  rw[wd_0 rfl rfl rfl];show ok (ob (zn T x) fun v=>some (v,lf)) _=_;simp only[zT,zm]
@[simp ↓] theorem wd_assign {x:Operand}:wpD E id T hs (.assign x) K=ok (zn T x) fun v=>K v hs ([],[]):=by
  rw[wd_0 rfl rfl rfl];show ok (ob (zn T x) fun v=>some (v,lf)) _=_;simp only[zT,zm]
@[simp ↓] theorem wd_pick {c a b:Operand}:wpD E id T hs (.pick c a b) K=ok (zn T c) fun v=>ok v.bool? fun q=>ok (bi q (zn T a) (zn T b)) fun v=>K v hs ([],[]):=by
  rw[wd_0 rfl rfl rfl];show ok (pickJ T lf c a b) _=_;simp only[pickJ,zT,zm]
@[simp ↓] theorem wd_binOp {b:BinOp} {t u:TypeId} {x y:Operand}:wpD E id T hs (.binOp b t x y u) K=ok (zn T x) fun p=>ok (zn T y) fun q=>ok (binJ E.P b t p q) fun v=>K v hs ([],[]):=by
  rw[wd_0 rfl rfl rfl];show ok (zlS E.P T lf b t x y) _=_;simp only[zlS,zT,zm]
@[simp ↓] theorem wd_unOp {b:UnOp} {t:TypeId} {x:Operand}:wpD E id T hs (.unOp b t x) K=ok (unOpJ T lf b x) fun r=>K r.1 hs ([],[]):=by
  rw[wd_0 rfl rfl rfl];rfl
@[simp ↓] theorem wd_fieldAddr {t:TypeId} {x:Operand} {f:Nat}:wpD E id T hs (.fieldAddr t x f) K=ok (ti E.P t) fun i=>ok (zk i f) fun fd=>ok (ti E.P fd.type) fun fi=>nt (Nat.beq fi.size 0)=true∧ok (zn T x) fun v=>ok (zbn fd.offset v) fun r=>K r hs ([],[]):=by
  rw[wd_0 rfl rfl rfl];show ok (zc0 E.P T lf t x f) _=_;simp only[zc0,zT,zeE,zm]
@[simp ↓] theorem wd_field {t:TypeId} {x:Operand} {f:Nat}:wpD E id T hs (.field t x f) K=ok (ti E.P t) fun i=>ok (zk i f) fun fd=>ok (ti E.P fd.type) fun fi=>ok (zn T x) fun v=>ok v.agg? fun cs=>ok (zmt fi cs fd.offset) fun v=>K v hs ([],[]):=by
  rw[wd_0 rfl rfl rfl];show ok (zl5 E.P T lf t x f) _=_;simp only[zl5,zT,zm]
@[simp ↓] theorem wd_indexAddr {t:TypeId} {x ix:Operand}:wpD E id T hs (.indexAddr t x ix) K=ok (ti E.P t) fun i=>ok (elemOf i.desc) fun el=>ok (ti E.P el.1) fun e=>ok (zn T x) fun v=>ok (zn T ix) fun n=>ok n.nat? fun n=>ok (idxV el.2 e n v) fun r=>K r hs ([],[]):=by
  rw[wd_0 rfl rfl rfl];show ok (zcz E.P T lf t x ix) _=_;simp only[zcz,zT,zm]
@[simp ↓] theorem wd_index {t:TypeId} {x ix:Operand}:wpD E id T hs (.index t x ix) K=ok (ti E.P t) fun i=>isStr i.desc=true∧ok (zn T x) fun v=>ok v.str? fun s=>ok (zn T ix) fun n=>ok n.nat? fun n=>ok (zke s n) fun b=>K (.int .u8 (Int.ofNat b)) hs ([],[]):=by
  rw[wd_0 rfl rfl rfl];show ok (zl4 E.P T lf t x ix) _=_;simp only[zl4,zT,zeE,zm]
@[simp ↓] theorem wd_extract {x:Operand} {k:Nat}:wpD E id T hs (.extract x k) K=ok (zn T x) fun v=>ok v.tuple? fun vs=>ok (zke vs k) fun v=>K v hs ([],[]):=by
  rw[wd_0 rfl rfl rfl];show ok (zfl T lf x k) _=_;simp only[zfl,zT,zm]
@[simp ↓] theorem wd_nilCheck {x:Operand}:wpD E id T hs (.nilCheck x) K=ok (zn T x) fun v=>notNil v=true∧K v hs ([],[]):=by
  rw[wd_0 rfl rfl rfl];show ok (zdw T lf x) _=_;simp only[zdw,zT,zeE,zm]
@[simp ↓] theorem wd_build {t:TypeId} {ps:Array (Nat×Operand)}:wpD E id T hs (.build t ps) K=ok (ti E.P t) fun i=>ok (bi (zV i.desc) (gd (zav E.P (fieldsOf i.desc)) (zix E.P T i ps.toList i.zero)) (ob (arrOf i.desc) fun el=>ob (ti E.P el) fun e=>zeN T e.size ps.toList i.zero)) fun cs=>K (.agg cs) hs ([],[]):=by
  rw[wd_0 rfl rfl rfl];show ok (zfn E.P T lf t ps) _=_;unfold zfn;simp only[zT (ti E.P t)];congr 1;funext i;rw[zT];congr 1;funext cs;rw[zm]
@[simp ↓] theorem wd_convert {s d:TypeId} {x:Operand}:wpD E id T hs (.convert s d x) K=ok (ti E.P s) fun _=>ok (ti E.P d) fun j=>ok (zn T x) fun v=>ok (convV j.desc v) fun r=>K r hs ([],[]):=by
  rw[wd_0 rfl rfl rfl];show ok (convJ E.P T lf s d x) _=_;simp only[convJ,zT,zm]
@[simp ↓] theorem wd_makeFunc {f:FuncId} {cs:Array Operand}:wpD E id T hs (.makeFunc (.func f) #[] cs) K=ok (zaZ T cs.toList) fun l=>K (.func f l) hs ([],[]):=by
  rw[wd_0 rfl rfl rfl];show ok (gd true (ob (zaZ T cs.toList) fun l=>some (V.func f l,lf))) _=_
  simp only[zdx,zT,zm]
@[simp ↓] theorem wd_load {t:TypeId} {a:Operand}:wpD E id T hs (.load t a) K=ok (ti E.P t) fun i=>ok (zn T a) fun p=>ok (znD i (part hs (zbc p)) p) fun v=>K v hs (zbc p,[]):=by
  show ok (zim E.P T { H:=zU hs.H (orc [] zbc (zn T a)),n:=0,log:=[] } t a) (fun r=>K r.1 hs (orc [] zbc (zn T a),[]))=_
  simp only[zim,zT,zm]
  cases zn T a with
  | none =>
    congr 1;funext i
    exact propext ⟨fun ⟨_,h,_⟩=>(by cases h),fun ⟨_,h,_⟩=>(by cases h)⟩
  |some p=>simp only[zm,zaq];rfl
@[simp ↓] theorem wd_lookup {t:TypeId} {m k:Operand} {b:Bool}:wpD E id T hs (.lookup t m k b) K=ok (zn T m) fun mv=>ok (zao E.P T (part hs (zbc mv)) t m k b) fun r=>K r.1 hs (zbc mv,[]):=by
  show ok (zao E.P T { H:=zU hs.H (orc [] zbc (zn T m)),n:=0,log:=[] } t m k b) (fun r=>K r.1 hs (orc [] zbc (zn T m),[]))=_
  cases h:zn T m with
  | none =>
    refine propext ⟨fun ⟨r,h1,_⟩=>?_,fun ⟨_,h,_⟩=>(by cases h)⟩
    simp only[zao,h,zb]at h1
    obtain⟨_,_,_,_,_,_,_,_,_,h2,_⟩:=h1
    cases h2
  |some p=>simp only[zm,zaq];rfl
@[simp ↓] theorem wd_slice {t:TypeId} {x:Operand} {lo hi mx:Option Operand}:wpD E id T hs (.slice t x lo hi mx) K=ok (ti E.P t) fun i=>ok (zn T x) fun v=>ok (sliceJ E.P T (part hs (zbc v)) i v lo hi mx) fun r=>K r hs (zbc v,[]):=by
  show ok (zfh E.P T { H:=zU hs.H (orc [] zbc (zn T x)),n:=0,log:=[] } t x lo hi mx) (fun r=>K r.1 hs (orc [] zbc (zn T x),[]))=_
  simp only[zfh,zT,zm]
  cases zn T x with
  | none =>
    congr 1;funext i
    exact propext ⟨fun ⟨_,h,_⟩=>(by cases h),fun ⟨_,h,_⟩=>(by cases h)⟩
  |some p=>simp only[zm,zaq];rfl
@[simp ↓] theorem wd_len {a:Operand} {ts:Array TypeId}:wpD E id T hs (.call ⟨.builtin .len,#[a],ts⟩) K=ok (zn T a) fun v=>ok (zmQ E.P (part hs (zbc v)) ts.toList [v]) fun r=>K r.1 hs (zbc v,[]):=by
  show (ok (zaZ T [a]) fun vs=>ok (zmQ E.P { H:=zU hs.H (orc [] zbc (zn T a)),n:=0,log:=[] } ts.toList vs) fun r=>K r.1 hs (orc [] zbc (zn T a),[]))=_
  simp only[evalL_cons_n,evalL_nil_n,zT,zm]
  cases zn T a with
  |none=>exact propext ⟨fun ⟨_,h,_⟩=>(by cases h),fun ⟨_,h,_⟩=>(by cases h)⟩
  |some p=>simp only[zm,zaq];rfl
@[simp ↓] theorem wd_min {xs:Array Operand} {ts:Array TypeId}:wpD E id T hs (.call ⟨.builtin .min,xs,ts⟩) K=ok (zaZ T xs.toList) fun vs=>ok (zeo lf true vs) fun r=>K r.1 hs ([],[]):=(rfl)
@[simp ↓] theorem wd_max {xs:Array Operand} {ts:Array TypeId}:wpD E id T hs (.call ⟨.builtin .max,xs,ts⟩) K=ok (zaZ T xs.toList) fun vs=>ok (zeo lf false vs) fun r=>K r.1 hs ([],[]):=(rfl)
theorem put_self{k:Nat}{o:Obj}:(hs.put k o).H.get k=some o:=by rw[zbb,if_pos rfl]
@[simp ↓] theorem wd_alloc {t:TypeId}:wpD E id T hs (.alloc t) K=(hs.H.get id=none∧ok (ti E.P t) fun i=>Nat.beq (zC i.zero) i.size=true∧K (.ptr id 0 0) (hs.put id (.arr i.size 0 [i.zero] true false false)) ([id],[])):=by
  show (_∧ok (ziy E.P lf id t) fun r=>ok (r.2.H.get id) fun o'=>o'.fz=false∧K r.1 (hs.put id o') ([id],[]))=_
  simp only[ziy,zT,zeE,zm,put_self,Obj.fz,true_and]
@[simp ↓] theorem wd_box {t:TypeId} {x:Operand}:wpD E id T hs (.box t x) K=(hs.H.get id=none∧ok (zn T x) fun v=>K (.ptr id 0 0) (hs.put id (.arr (zC v.cells) 0 [v.cells] true false false)) ([id],[])):=by
  show (_∧ok (boxJ T lf id x) fun r=>ok (r.2.H.get id) fun o'=>o'.fz=false∧K r.1 (hs.put id o') ([id],[]))=_
  simp only[boxJ,zT,zm,put_self,Obj.fz,true_and]
@[simp ↓] theorem wd_buildSlice {t:TypeId} {n:Nat} {ps:Array (Nat×Operand)}:wpD E id T hs (.buildSlice t n ps) K=(hs.H.get id=none∧ok (zX E.P true T lf id t n ps) fun r=>ok (r.2.H.get id) fun o'=>o'.fz=false∧K r.1 (hs.put id o') ([id],[])):=(rfl)
@[simp ↓] theorem wd_makeSlice {t:TypeId} {l c:Operand}:wpD E id T hs (.makeSlice t l c) K=(hs.H.get id=none∧ok (zax E.P T lf id t l c) fun r=>ok (r.2.H.get id) fun o'=>o'.fz=false∧K r.1 (hs.put id o') ([id],[])):=(rfl)
@[simp ↓] theorem wd_makeMap {t:TypeId}:wpD E id T hs (.makeMap t none) K=(hs.H.get id=none∧K (.map id) (hs.put id (.mp [])) ([id],[])):=by
  show (_∧ok (gd true (some (V.map id,lf.put id (.mp [])))) fun r=>ok (r.2.H.get id) fun o'=>o'.fz=false∧K r.1 (hs.put id o') ([id],[]))=_
  simp only[zdx,zm,put_self,Obj.fz,true_and]
@[simp] theorem putX_nil {H H2:PT Obj}:putX H H2 []=H:=(rfl)
@[simp] theorem putX_cons {H H2:PT Obj} {k:Nat} {X:List Nat}:putX H H2 (k::X)=orc (putX H H2 X) (fun o=>(putX H H2 X).set k o) (H2.get k):=(rfl)
@[simp] theorem idsL_nil:idsL []=[]:=(rfl)
@[simp] theorem idsL_cons {c:V} {l:List V}:idsL (c::l)=zbc c++idsL l:=by show zdf (zbc c) (idsL l)=_;rw[zaJ]
@[simp] theorem objOf_int {k:IntKind} {n:Int}:zbc (.int k n)=[]:=(rfl)
@[simp] theorem objOf_bool {b:Bool}:zbc (.bool b)=[]:=(rfl)
@[simp] theorem objOf_str {b:List Nat}:zbc (.str b)=[]:=(rfl)
@[simp] theorem objOf_sl {b:List (List V)} {t:Bool}:zbc (.sl b t)=[]:=(rfl)
@[simp] theorem objOf_snil:zbc .snil=[]:=(rfl)
@[simp] theorem objOf_nilptr:zbc .nilptr=[]:=(rfl)
@[simp] theorem objOf_nilFunc:zbc .nilFunc=[]:=(rfl)
@[simp] theorem objOf_nilmap:zbc .nilmap=[]:=(rfl)
@[simp] theorem objOf_func {f:FuncId} {l:List V}:zbc (.func f l)=[]:=(rfl)
@[simp] theorem rowP_ptr {i g o:Nat}:rowP hs (.ptr i g o)=isRow hs i:=(rfl)
def seesS(hs:HS)(p v:V):List Nat:=zbc p++bi (rowP hs p) (idsL v.cells) []
@[simp] theorem seesS_n {p v:V}:seesS hs p v=zbc p++bi (rowP hs p) (idsL v.cells) []:=(rfl)
@[simp ↓] theorem wd_store {t:TypeId} {a x:Operand}:wpD E id T hs (.store t a x) K=(hs.H.get id=none∧ok (ti E.P t) fun i=>ok (zn T a) fun p=>ok (zn T x) fun v=>ok (zjE i (part hs (seesS hs p v)) p v) fun h2 =>
 K undefV { H:=putX hs.H h2.H (seesS hs p v),n:=hs.n,log:=h2.log++hs.log } (seesS hs p v,h2.log)):=by
  show (_∧ok (zbd E.P T { H:=zU hs.H (orc [] (fun p=>zdf (zbc p) (bi (rowP hs p) (orc [] (fun v=>idsL v.cells) (zn T x)) [])) (zn T a)),n:=0,log:=[] } t a x) fun r=>K r.1 { H:=putX hs.H r.2.H (orc [] (fun p=>zdf (zbc p) (bi (rowP hs p) (orc [] (fun v=>idsL v.cells) (zn T x)) [])) (zn T a)),n:=hs.n,log:=zdf r.2.log hs.log } (orc [] (fun p=>zdf (zbc p) (bi (rowP hs p) (orc [] (fun v=>idsL v.cells) (zn T x)) [])) (zn T a),r.2.log))=_
  simp only[zbd,zT,zm,zaJ]
  cases zn T a with
  |none=>congr 1;exact propext ⟨fun ⟨_,_,_,h,_⟩=>(by cases h),fun ⟨_,_,_,h,_⟩=>(by cases h)⟩
  | some p =>
    cases zn T x with
    |none=>congr 1;exact propext ⟨fun ⟨_,_,_,_,_,h,_⟩=>(by cases h),fun ⟨_,_,_,_,_,h,_⟩=>(by cases h)⟩
    |some v=>simp only[zm,zaq];rfl
@[simp ↓] theorem wd_mapUpdate {t:TypeId} {m k x:Operand}:wpD E id T hs (.mapUpdate t m k x) K=(hs.H.get id=none∧ok (zay E.P T (bare hs) t m k x) fun r=>K r.1 { H:=r.2.H,n:=r.2.n,log:=r.2.log++hs.log } ([],r.2.log)):=by
  show (_∧ok (zay E.P T (bare hs) t m k x) fun r=>K r.1 { H:=r.2.H,n:=r.2.n,log:=zdf r.2.log hs.log } ([],r.2.log))=_
  simp only[zaJ]
@[simp ↓] theorem wd_call {x:Operand} {xs:Array Operand} {ts:Array TypeId}:wpD E id T hs (.call ⟨.value x,xs,ts⟩) K=(hs.H.get id=none∧ok (zn T x) fun v=>ok (funcOf v) fun p=>ok (zaZ T xs.toList) fun vs=>ok (E.con p.1 (zdf vs p.2) (bare hs)) fun r=>K r.1 { H:=r.2.H,n:=r.2.n,log:=r.2.log++hs.log } ([],r.2.log)):=by
  show (_∧ok (zn T x) fun v=>ok (funcOf v) fun p=>ok (zaZ T xs.toList) fun vs=>ok (E.con p.1 (zdf vs p.2) (bare hs)) fun r=>K r.1 { H:=r.2.H,n:=r.2.n,log:=zdf r.2.log hs.log } ([],r.2.log))=_
  simp only[zaJ]
@[simp ↓] theorem wd_append {xs:Array Operand} {ts:Array TypeId}:wpD E id T hs (.call ⟨.builtin .append,xs,ts⟩) K=(hs.H.get id=none∧ok (zaZ T xs.toList) fun vs=>ok (zfU E.P (bare hs) id ts.toList vs) fun r=>K r.1 { H:=r.2.H,n:=r.2.n,log:=r.2.log++hs.log } ([],r.2.log)):=by
  show (_∧ok (zaZ T xs.toList) fun vs=>ok (zfU E.P (bare hs) id ts.toList vs) fun r=>K r.1 { H:=r.2.H,n:=r.2.n,log:=zdf r.2.log hs.log } ([],r.2.log))=_
  simp only[zaJ]
@[simp ↓] theorem wd_copy {xs:Array Operand} {ts:Array TypeId}:wpD E id T hs (.call ⟨.builtin .copy,xs,ts⟩) K=(hs.H.get id=none∧ok (zaZ T xs.toList) fun vs=>ok (zkZ E.P (bare hs) ts.toList vs) fun r=>K r.1 { H:=r.2.H,n:=r.2.n,log:=r.2.log++hs.log } ([],r.2.log)):=by
  show (_∧ok (zaZ T xs.toList) fun vs=>ok (zkZ E.P (bare hs) ts.toList vs) fun r=>K r.1 { H:=r.2.H,n:=r.2.n,log:=zdf r.2.log hs.log } ([],r.2.log))=_
  simp only[zaJ]
@[simp] theorem objOf_ptr {i g o:Nat}:zbc (.ptr i g o)=[i]:=(rfl)
@[simp] theorem objOf_own {i g o n:Nat} {c:Option Nat}:zbc (.own i g o n c)=[i]:=(rfl)
@[simp] theorem objOf_map {i:Nat}:zbc (.map i)=[i]:=(rfl)
@[simp] theorem objOf_ref {c:List V}:zbc (.ref c)=[]:=(rfl)
@[simp] theorem allClash_nil {all:List (List Nat×List Nat)} {j:Nat} {bs:List Nat}:ze2 all [] j bs=true:=(rfl)
@[simp] theorem allClash_cons {all l:List (List Nat×List Nat)} {r:List Nat×List Nat} {j m:Nat} {bs:List Nat}:ze2 all (r::l) j (m::bs)=et (zjT m r all 0 j) (ze2 all l (j+1) bs):=(rfl)
@[simp] theorem clashJ_nil {m i j:Nat} {r:List Nat×List Nat}:zjT m r [] i j=true:=(rfl)
@[simp] theorem clashJ_cons {m i j:Nat} {r q:List Nat×List Nat} {l:List (List Nat×List Nat)}:zjT m r (q::l) i j=if i<j then ((tb m i||!(meet q.1 r.2||meet r.1 q.2))&&zjT m r l (i+1) j)else true:=by
  show bi (Nat.blt i j) (et (bi (tb m i) true (nt (bi (meet q.1 r.2) true (meet r.1 q.2)))) (zjT m r l (i+1) j)) true=_
  rw[zak]
  simp only[blt_true,et_eq,nt_eq,zak]
  by_cases h:i<j
  · rw[if_pos h,if_pos h]
    cases tb m i<;>cases meet q.1 r.2<;>simp
  · rw[if_neg h,if_neg h]
@[simp] theorem meet_nil {m:List Nat}:meet [] m=false:=(rfl)
@[simp] theorem meet_nil_r {l:List Nat}:meet l []=false:=by
  induction l with
  |nil=>rfl
  |cons x l ih=>show bi (memL x []) true (meet l [])=false;rw[ih];rfl
@[simp] theorem meet_one {x y:Nat}:meet [x] [y]=decide (x=y):=by
  show bi (bi (Nat.beq x y) true false) true false=_
  rw[beq_dec];by_cases h:x=y<;>simp[h]
@[simp] theorem tb_lit {m i:Nat}:tb m i=decide (m / 2 ^ i % 2=1):=by unfold tb;rw[beq_dec]
end
end Go.J
