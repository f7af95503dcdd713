import Derived.Test.YtfgmnebfhemnpaaJG
set_option linter.all false
noncomputable section
/- Rules of rewriting for regions that draw their order. -/
namespace Go.J
section
variable {E:Env}{id:Nat}{T:PT V}{hs:HS}{K:V→HS→List Nat×List Nat→Prop}{sz:Nat}{acc:List (List Nat×List Nat)}{R:PT V→HS→List (List Nat×List Nat)→Prop}
@[simp ↓] theorem Rd_nil:Rd E sz [] id T hs acc R=R T hs acc:=(rfl)
@[simp ↓] theorem Rd_cons {d:Option Tmp} {op:Op} {g:Option (Tmp×Bool)} {lk:List Nat} {l:List SD}:Rd E sz (⟨d,op,g,lk⟩::l) id T hs acc R=wpSD E id (pickT T lk) hs ⟨d,op,g,lk⟩ fun v hs' rw=>put sz T d v fun T1=>Rd E sz l (id+1) T1 hs' (acc++[rw]) R:=by
  show (wpSD E id (pickT T lk) hs ⟨d,op,g,lk⟩ fun v hs' rw=>put sz T d v fun T1=>Rd E sz l (id+1) T1 hs' (appL acc [rw]) R)=_
  simp only[appL_eq]
@[simp ↓] theorem wpSD_n {d:Option Tmp} {op:Op} {lk:List Nat}:wpSD E id T hs ⟨d,op,none,lk⟩ K=wpD E id T hs op K:=(rfl)
@[simp ↓] theorem wpSD_g {d:Option Tmp} {op:Op} {t:Tmp} {w:Bool} {lk:List Nat}:wpSD E id T hs ⟨d,op,some (t,w),lk⟩ K=ok (T.get t) fun v=>ok (v.guard? w) fun q=>br (q=w) (wpD E id T hs op K) (K undefV hs ([],[])):=by
  simp only[br_eq];rfl
def lf:HS:={ H:=.leaf,n:=0,log:=[] }
@[simp] theorem lf_get {k:Nat}:lf.H.get k=none:=(rfl)
@[simp] theorem lf_H:lf.H=.leaf:=(rfl)
def part(hs:HS)(l:List Nat):HS:={ H:=pickT hs.H l,n:=0,log:=[] }
@[simp] theorem part_get {l:List Nat} {k:Nat}:(part hs l).H.get k=if k∈l then hs.H.get k else none:=pickT_get _ _ _
@[simp] theorem pickT_get_n {α:Type} {T:PT α} {l:List Nat} {t:Nat}:(pickT T l).get t=if t∈l then T.get t else none:=pickT_get T l t
def bare(hs:HS):HS:={ H:=hs.H,n:=hs.n,log:=[] }
@[simp] theorem bare_H:(bare hs).H=hs.H:=(rfl)
@[simp] theorem bare_n:(bare hs).n=hs.n:=(rfl)
@[simp] theorem bare_log:(bare hs).log=[]:=(rfl)
theorem wpD_o{op:Op}(h:isStore op=false):wpD E id T hs op K=wpDo E id T hs op K:=by
 cases op<;>first|rfl|cases h
theorem wd_0{op:Op}(hc:opClass op=0)(hn:callOf op=none)(hr:readsOf T op=[]):wpD E id T hs op K=ok (opJ E.P true T lf id (opR op)) fun r=>K r.1 hs ([],[]):=by
 rw[wpD_o (by cases op<;>first|rfl|cases hc)]
 unfold wpDo;rw[hc,hr]
 cases op<;>first|rfl|(cases hn;done)|(cases hc;done)|(show ok (opJ E.P true T { H:=pickT hs.H (readsOf T _),n:=0,log:=[] } id _) (fun r=>K r.1 hs (readsOf T _,[]))=_;rw[hr];rfl)
@[simp ↓] theorem wd_move {x:Operand}:wpD E id T hs (.move x) K=ok (evalO T x) fun v=>K v hs ([],[]):=by
  rw[wd_0 rfl rfl rfl];show ok (ob (evalO T x) fun v=>some (v,lf)) _=_;simp only[ok_ob,ok_some]
@[simp ↓] theorem wd_assign {x:Operand}:wpD E id T hs (.assign x) K=ok (evalO T x) fun v=>K v hs ([],[]):=by
  rw[wd_0 rfl rfl rfl];show ok (ob (evalO T x) fun v=>some (v,lf)) _=_;simp only[ok_ob,ok_some]
@[simp ↓] theorem wd_pick {c a b:Operand}:wpD E id T hs (.pick c a b) K=ok (evalO T c) fun v=>ok v.bool? fun q=>ok (bi q (evalO T a) (evalO T b)) fun v=>K v hs ([],[]):=by
  rw[wd_0 rfl rfl rfl];show ok (pickJ T lf c a b) _=_;simp only[pickJ,ok_ob,ok_some]
@[simp ↓] theorem wd_binOp {b:BinOp} {t u:TypeId} {x y:Operand}:wpD E id T hs (.binOp b t x y u) K=ok (evalO T x) fun p=>ok (evalO T y) fun q=>ok (binJ E.P b t p q) fun v=>K v hs ([],[]):=by
  rw[wd_0 rfl rfl rfl];show ok (binOpJ E.P T lf b t x y) _=_;simp only[binOpJ,ok_ob,ok_some]
@[simp ↓] theorem wd_unOp {b:UnOp} {t:TypeId} {x:Operand}:wpD E id T hs (.unOp b t x) K=ok (unOpJ T lf b x) fun r=>K r.1 hs ([],[]):=by
  rw[wd_0 rfl rfl rfl];rfl
@[simp ↓] theorem wd_fieldAddr {t:TypeId} {x:Operand} {f:Nat}:wpD E id T hs (.fieldAddr t x f) K=ok (ti E.P t) fun i=>ok (fieldOf i f) fun fd=>ok (ti E.P fd.type) fun fi=>nt (Nat.beq fi.size 0)=true∧ok (evalO T x) fun v=>ok (fieldAddrV fd.offset v) fun r=>K r hs ([],[]):=by
  rw[wd_0 rfl rfl rfl];show ok (fieldAddrJ E.P T lf t x f) _=_;simp only[fieldAddrJ,ok_ob,ok_gd,ok_some]
@[simp ↓] theorem wd_field {t:TypeId} {x:Operand} {f:Nat}:wpD E id T hs (.field t x f) K=ok (ti E.P t) fun i=>ok (fieldOf i f) fun fd=>ok (ti E.P fd.type) fun fi=>ok (evalO T x) fun v=>ok v.agg? fun cs=>ok (partL fi cs fd.offset) fun v=>K v hs ([],[]):=by
  rw[wd_0 rfl rfl rfl];show ok (fieldJ E.P T lf t x f) _=_;simp only[fieldJ,ok_ob,ok_some]
@[simp ↓] theorem wd_indexAddr {t:TypeId} {x ix:Operand}:wpD E id T hs (.indexAddr t x ix) K=ok (ti E.P t) fun i=>ok (elemOf i.desc) fun el=>ok (ti E.P el.1) fun e=>ok (evalO T x) fun v=>ok (evalO T ix) fun n=>ok n.nat? fun n=>ok (idxV el.2 e n v) fun r=>K r hs ([],[]):=by
  rw[wd_0 rfl rfl rfl];show ok (indexAddrJ E.P T lf t x ix) _=_;simp only[indexAddrJ,ok_ob,ok_some]
@[simp ↓] theorem wd_index {t:TypeId} {x ix:Operand}:wpD E id T hs (.index t x ix) K=ok (ti E.P t) fun i=>isStr i.desc=true∧ok (evalO T x) fun v=>ok v.str? fun s=>ok (evalO T ix) fun n=>ok n.nat? fun n=>ok (nthL s n) fun b=>K (.int .u8 (Int.ofNat b)) hs ([],[]):=by
  rw[wd_0 rfl rfl rfl];show ok (indexJ E.P T lf t x ix) _=_;simp only[indexJ,ok_ob,ok_gd,ok_some]
@[simp ↓] theorem wd_extract {x:Operand} {k:Nat}:wpD E id T hs (.extract x k) K=ok (evalO T x) fun v=>ok v.tuple? fun vs=>ok (nthL vs k) fun v=>K v hs ([],[]):=by
  rw[wd_0 rfl rfl rfl];show ok (extractJ T lf x k) _=_;simp only[extractJ,ok_ob,ok_some]
@[simp ↓] theorem wd_nilCheck {x:Operand}:wpD E id T hs (.nilCheck x) K=ok (evalO T x) fun v=>notNil v=true∧K v hs ([],[]):=by
  rw[wd_0 rfl rfl rfl];show ok (nilCheckJ T lf x) _=_;simp only[nilCheckJ,ok_ob,ok_gd,ok_some]
@[simp ↓] theorem wd_build {t:TypeId} {ps:Array (Nat×Operand)}:wpD E id T hs (.build t ps) K=ok (ti E.P t) fun i=>ok (bi (isStructD i.desc) (gd (fieldsOk E.P (fieldsOf i.desc)) (buildJ E.P T i ps.toList i.zero)) (ob (arrOf i.desc) fun el=>ob (ti E.P el) fun e=>buildAJ T e.size ps.toList i.zero)) fun cs=>K (.agg cs) hs ([],[]):=by
  rw[wd_0 rfl rfl rfl];show ok (buildOpJ E.P T lf t ps) _=_;unfold buildOpJ;simp only[ok_ob (ti E.P t)];congr 1;funext i;rw[ok_ob];congr 1;funext cs;rw[ok_some]
@[simp ↓] theorem wd_convert {s d:TypeId} {x:Operand}:wpD E id T hs (.convert s d x) K=ok (ti E.P s) fun _=>ok (ti E.P d) fun j=>ok (evalO T x) fun v=>ok (convV j.desc v) fun r=>K r hs ([],[]):=by
  rw[wd_0 rfl rfl rfl];show ok (convJ E.P T lf s d x) _=_;simp only[convJ,ok_ob,ok_some]
@[simp ↓] theorem wd_makeFunc {f:FuncId} {cs:Array Operand}:wpD E id T hs (.makeFunc (.func f) #[] cs) K=ok (evalL T cs.toList) fun l=>K (.func f l) hs ([],[]):=by
  rw[wd_0 rfl rfl rfl];show ok (gd true (ob (evalL T cs.toList) fun l=>some (V.func f l,lf))) _=_
  simp only[gd_true,ok_ob,ok_some]
@[simp ↓] theorem wd_load {t:TypeId} {a:Operand}:wpD E id T hs (.load t a) K=ok (ti E.P t) fun i=>ok (evalO T a) fun p=>ok (loadJ i (part hs (objOf p)) p) fun v=>K v hs (objOf p,[]):=by
  show ok (loadOpJ E.P T { H:=pickT hs.H (orc [] objOf (evalO T a)),n:=0,log:=[] } t a) (fun r=>K r.1 hs (orc [] objOf (evalO T a),[]))=_
  simp only[loadOpJ,ok_ob,ok_some]
  cases evalO T a with
  | none =>
    congr 1;funext i
    exact propext ⟨fun ⟨_,h,_⟩=>(by cases h),fun ⟨_,h,_⟩=>(by cases h)⟩
  |some p=>simp only[ok_some,orc_some];rfl
@[simp ↓] theorem wd_lookup {t:TypeId} {m k:Operand} {b:Bool}:wpD E id T hs (.lookup t m k b) K=ok (evalO T m) fun mv=>ok (lookupJ E.P T (part hs (objOf mv)) t m k b) fun r=>K r.1 hs (objOf mv,[]):=by
  show ok (lookupJ E.P T { H:=pickT hs.H (orc [] objOf (evalO T m)),n:=0,log:=[] } t m k b) (fun r=>K r.1 hs (orc [] objOf (evalO T m),[]))=_
  cases h:evalO T m with
  | none =>
    refine propext ⟨fun ⟨r,h1,_⟩=>?_,fun ⟨_,h,_⟩=>(by cases h)⟩
    simp only[lookupJ,h,ob_eq]at h1
    obtain⟨_,_,_,_,_,_,_,_,_,h2,_⟩:=h1
    cases h2
  |some p=>simp only[ok_some,orc_some];rfl
@[simp ↓] theorem wd_slice {t:TypeId} {x:Operand} {lo hi mx:Option Operand}:wpD E id T hs (.slice t x lo hi mx) K=ok (ti E.P t) fun i=>ok (evalO T x) fun v=>ok (sliceJ E.P T (part hs (objOf v)) i v lo hi mx) fun r=>K r hs (objOf v,[]):=by
  show ok (sliceOpJ E.P T { H:=pickT hs.H (orc [] objOf (evalO T x)),n:=0,log:=[] } t x lo hi mx) (fun r=>K r.1 hs (orc [] objOf (evalO T x),[]))=_
  simp only[sliceOpJ,ok_ob,ok_some]
  cases evalO T x with
  | none =>
    congr 1;funext i
    exact propext ⟨fun ⟨_,h,_⟩=>(by cases h),fun ⟨_,h,_⟩=>(by cases h)⟩
  |some p=>simp only[ok_some,orc_some];rfl
@[simp ↓] theorem wd_len {a:Operand} {ts:Array TypeId}:wpD E id T hs (.call ⟨.builtin .len,#[a],ts⟩) K=ok (evalO T a) fun v=>ok (lenOpJ E.P (part hs (objOf v)) ts.toList [v]) fun r=>K r.1 hs (objOf v,[]):=by
  show (ok (evalL T [a]) fun vs=>ok (lenOpJ E.P { H:=pickT hs.H (orc [] objOf (evalO T a)),n:=0,log:=[] } ts.toList vs) fun r=>K r.1 hs (orc [] objOf (evalO T a),[]))=_
  simp only[evalL_cons_n,evalL_nil_n,ok_ob,ok_some]
  cases evalO T a with
  |none=>exact propext ⟨fun ⟨_,h,_⟩=>(by cases h),fun ⟨_,h,_⟩=>(by cases h)⟩
  |some p=>simp only[ok_some,orc_some];rfl
@[simp ↓] theorem wd_min {xs:Array Operand} {ts:Array TypeId}:wpD E id T hs (.call ⟨.builtin .min,xs,ts⟩) K=ok (evalL T xs.toList) fun vs=>ok (minmaxJ lf true vs) fun r=>K r.1 hs ([],[]):=(rfl)
@[simp ↓] theorem wd_max {xs:Array Operand} {ts:Array TypeId}:wpD E id T hs (.call ⟨.builtin .max,xs,ts⟩) K=ok (evalL T xs.toList) fun vs=>ok (minmaxJ lf false vs) fun r=>K r.1 hs ([],[]):=(rfl)
theorem put_self{k:Nat}{o:Obj}:(hs.put k o).H.get k=some o:=by rw[put_get,if_pos rfl]
@[simp ↓] theorem wd_alloc {t:TypeId}:wpD E id T hs (.alloc t) K=(hs.H.get id=none∧ok (ti E.P t) fun i=>Nat.beq (lenL i.zero) i.size=true∧K (.ptr id 0 0) (hs.put id (.arr i.size 0 [i.zero] true false false)) ([id],[])):=by
  show (_∧ok (allocJ E.P lf id t) fun r=>ok (r.2.H.get id) fun o'=>o'.fz=false∧K r.1 (hs.put id o') ([id],[]))=_
  simp only[allocJ,ok_ob,ok_gd,ok_some,put_self,Obj.fz,true_and]
@[simp ↓] theorem wd_box {t:TypeId} {x:Operand}:wpD E id T hs (.box t x) K=(hs.H.get id=none∧ok (evalO T x) fun v=>K (.ptr id 0 0) (hs.put id (.arr (lenL v.cells) 0 [v.cells] true false false)) ([id],[])):=by
  show (_∧ok (boxJ T lf id x) fun r=>ok (r.2.H.get id) fun o'=>o'.fz=false∧K r.1 (hs.put id o') ([id],[]))=_
  simp only[boxJ,ok_ob,ok_some,put_self,Obj.fz,true_and]
@[simp ↓] theorem wd_buildSlice {t:TypeId} {n:Nat} {ps:Array (Nat×Operand)}:wpD E id T hs (.buildSlice t n ps) K=(hs.H.get id=none∧ok (buildSliceOpJ E.P true T lf id t n ps) fun r=>ok (r.2.H.get id) fun o'=>o'.fz=false∧K r.1 (hs.put id o') ([id],[])):=(rfl)
@[simp ↓] theorem wd_makeSlice {t:TypeId} {l c:Operand}:wpD E id T hs (.makeSlice t l c) K=(hs.H.get id=none∧ok (makeSliceOpJ E.P T lf id t l c) fun r=>ok (r.2.H.get id) fun o'=>o'.fz=false∧K r.1 (hs.put id o') ([id],[])):=(rfl)
@[simp ↓] theorem wd_makeMap {t:TypeId}:wpD E id T hs (.makeMap t none) K=(hs.H.get id=none∧K (.map id) (hs.put id (.mp [])) ([id],[])):=by
  show (_∧ok (gd true (some (V.map id,lf.put id (.mp [])))) fun r=>ok (r.2.H.get id) fun o'=>o'.fz=false∧K r.1 (hs.put id o') ([id],[]))=_
  simp only[gd_true,ok_some,put_self,Obj.fz,true_and]
@[simp] theorem putX_nil {H H2:PT Obj}:putX H H2 []=H:=(rfl)
@[simp] theorem putX_cons {H H2:PT Obj} {k:Nat} {X:List Nat}:putX H H2 (k::X)=orc (putX H H2 X) (fun o=>(putX H H2 X).set k o) (H2.get k):=(rfl)
@[simp] theorem idsL_nil:idsL []=[]:=(rfl)
@[simp] theorem idsL_cons {c:V} {l:List V}:idsL (c::l)=objOf c++idsL l:=by show appL (objOf c) (idsL l)=_;rw[appL_eq]
@[simp] theorem objOf_int {k:IntKind} {n:Int}:objOf (.int k n)=[]:=(rfl)
@[simp] theorem objOf_bool {b:Bool}:objOf (.bool b)=[]:=(rfl)
@[simp] theorem objOf_str {b:List Nat}:objOf (.str b)=[]:=(rfl)
@[simp] theorem objOf_sl {b:List (List V)} {t:Bool}:objOf (.sl b t)=[]:=(rfl)
@[simp] theorem objOf_snil:objOf .snil=[]:=(rfl)
@[simp] theorem objOf_nilptr:objOf .nilptr=[]:=(rfl)
@[simp] theorem objOf_nilFunc:objOf .nilFunc=[]:=(rfl)
@[simp] theorem objOf_nilmap:objOf .nilmap=[]:=(rfl)
@[simp] theorem objOf_func {f:FuncId} {l:List V}:objOf (.func f l)=[]:=(rfl)
@[simp] theorem rowP_ptr {i g o:Nat}:rowP hs (.ptr i g o)=isRow hs i:=(rfl)
def seesS(hs:HS)(p v:V):List Nat:=objOf p++bi (rowP hs p) (idsL v.cells) []
@[simp] theorem seesS_n {p v:V}:seesS hs p v=objOf p++bi (rowP hs p) (idsL v.cells) []:=(rfl)
@[simp ↓] theorem wd_store {t:TypeId} {a x:Operand}:wpD E id T hs (.store t a x) K=(hs.H.get id=none∧ok (ti E.P t) fun i=>ok (evalO T a) fun p=>ok (evalO T x) fun v=>ok (storeJ i (part hs (seesS hs p v)) p v) fun h2 =>
 K undefV { H:=putX hs.H h2.H (seesS hs p v),n:=hs.n,log:=h2.log++hs.log } (seesS hs p v,h2.log)):=by
  show (_∧ok (storeOpJ E.P T { H:=pickT hs.H (orc [] (fun p=>appL (objOf p) (bi (rowP hs p) (orc [] (fun v=>idsL v.cells) (evalO T x)) [])) (evalO T a)),n:=0,log:=[] } t a x) fun r=>K r.1 { H:=putX hs.H r.2.H (orc [] (fun p=>appL (objOf p) (bi (rowP hs p) (orc [] (fun v=>idsL v.cells) (evalO T x)) [])) (evalO T a)),n:=hs.n,log:=appL r.2.log hs.log } (orc [] (fun p=>appL (objOf p) (bi (rowP hs p) (orc [] (fun v=>idsL v.cells) (evalO T x)) [])) (evalO T a),r.2.log))=_
  simp only[storeOpJ,ok_ob,ok_some,appL_eq]
  cases evalO T a with
  |none=>congr 1;exact propext ⟨fun ⟨_,_,_,h,_⟩=>(by cases h),fun ⟨_,_,_,h,_⟩=>(by cases h)⟩
  | some p =>
    cases evalO T x with
    |none=>congr 1;exact propext ⟨fun ⟨_,_,_,_,_,h,_⟩=>(by cases h),fun ⟨_,_,_,_,_,h,_⟩=>(by cases h)⟩
    |some v=>simp only[ok_some,orc_some];rfl
@[simp ↓] theorem wd_mapUpdate {t:TypeId} {m k x:Operand}:wpD E id T hs (.mapUpdate t m k x) K=(hs.H.get id=none∧ok (mapUpdateJ E.P T (bare hs) t m k x) fun r=>K r.1 { H:=r.2.H,n:=r.2.n,log:=r.2.log++hs.log } ([],r.2.log)):=by
  show (_∧ok (mapUpdateJ E.P T (bare hs) t m k x) fun r=>K r.1 { H:=r.2.H,n:=r.2.n,log:=appL r.2.log hs.log } ([],r.2.log))=_
  simp only[appL_eq]
@[simp ↓] theorem wd_call {x:Operand} {xs:Array Operand} {ts:Array TypeId}:wpD E id T hs (.call ⟨.value x,xs,ts⟩) K=(hs.H.get id=none∧ok (evalO T x) fun v=>ok (funcOf v) fun p=>ok (evalL T xs.toList) fun vs=>ok (E.con p.1 (appL vs p.2) (bare hs)) fun r=>K r.1 { H:=r.2.H,n:=r.2.n,log:=r.2.log++hs.log } ([],r.2.log)):=by
  show (_∧ok (evalO T x) fun v=>ok (funcOf v) fun p=>ok (evalL T xs.toList) fun vs=>ok (E.con p.1 (appL vs p.2) (bare hs)) fun r=>K r.1 { H:=r.2.H,n:=r.2.n,log:=appL r.2.log hs.log } ([],r.2.log))=_
  simp only[appL_eq]
@[simp ↓] theorem wd_append {xs:Array Operand} {ts:Array TypeId}:wpD E id T hs (.call ⟨.builtin .append,xs,ts⟩) K=(hs.H.get id=none∧ok (evalL T xs.toList) fun vs=>ok (appendOpJ E.P (bare hs) id ts.toList vs) fun r=>K r.1 { H:=r.2.H,n:=r.2.n,log:=r.2.log++hs.log } ([],r.2.log)):=by
  show (_∧ok (evalL T xs.toList) fun vs=>ok (appendOpJ E.P (bare hs) id ts.toList vs) fun r=>K r.1 { H:=r.2.H,n:=r.2.n,log:=appL r.2.log hs.log } ([],r.2.log))=_
  simp only[appL_eq]
@[simp ↓] theorem wd_copy {xs:Array Operand} {ts:Array TypeId}:wpD E id T hs (.call ⟨.builtin .copy,xs,ts⟩) K=(hs.H.get id=none∧ok (evalL T xs.toList) fun vs=>ok (copyOpJ E.P (bare hs) ts.toList vs) fun r=>K r.1 { H:=r.2.H,n:=r.2.n,log:=r.2.log++hs.log } ([],r.2.log)):=by
  show (_∧ok (evalL T xs.toList) fun vs=>ok (copyOpJ E.P (bare hs) ts.toList vs) fun r=>K r.1 { H:=r.2.H,n:=r.2.n,log:=appL r.2.log hs.log } ([],r.2.log))=_
  simp only[appL_eq]
@[simp] theorem objOf_ptr {i g o:Nat}:objOf (.ptr i g o)=[i]:=(rfl)
@[simp] theorem objOf_own {i g o n:Nat} {c:Option Nat}:objOf (.own i g o n c)=[i]:=(rfl)
@[simp] theorem objOf_map {i:Nat}:objOf (.map i)=[i]:=(rfl)
@[simp] theorem objOf_ref {c:List V}:objOf (.ref c)=[]:=(rfl)
@[simp] theorem allClash_nil {all:List (List Nat×List Nat)} {j:Nat} {bs:List Nat}:allClash all [] j bs=true:=(rfl)
@[simp] theorem allClash_cons {all l:List (List Nat×List Nat)} {r:List Nat×List Nat} {j m:Nat} {bs:List Nat}:allClash all (r::l) j (m::bs)=et (clashJ m r all 0 j) (allClash all l (j+1) bs):=(rfl)
@[simp] theorem clashJ_nil {m i j:Nat} {r:List Nat×List Nat}:clashJ m r [] i j=true:=(rfl)
@[simp] theorem clashJ_cons {m i j:Nat} {r q:List Nat×List Nat} {l:List (List Nat×List Nat)}:clashJ m r (q::l) i j=if i<j then ((tb m i||!(meet q.1 r.2||meet r.1 q.2))&&clashJ m r l (i+1) j)else true:=by
  show bi (Nat.blt i j) (et (bi (tb m i) true (nt (bi (meet q.1 r.2) true (meet r.1 q.2)))) (clashJ m r l (i+1) j)) true=_
  rw[bi_eq]
  simp only[blt_true,et_eq,nt_eq,bi_eq]
  by_cases h:i<j
  · rw[if_pos h,if_pos h]
    cases tb m i<;>cases meet q.1 r.2<;>simp
  · rw[if_neg h,if_neg h]
@[simp] theorem meet_nil {m:List Nat}:meet [] m=false:=(rfl)
@[simp] theorem meet_nil_r {l:List Nat}:meet l []=false:=by
  induction l with
  |nil=>rfl
  |cons x l ih=>show bi (memL x []) true (meet l [])=false;rw[ih];rfl
@[simp] theorem meet_one {x y:Nat}:meet [x] [y]=decide (x=y):=by
  show bi (bi (Nat.beq x y) true false) true false=_
  rw[beq_dec];by_cases h:x=y<;>simp[h]
@[simp] theorem tb_lit {m i:Nat}:tb m i=decide (m / 2 ^ i % 2=1):=by unfold tb;rw[beq_dec]
end
end Go.J
