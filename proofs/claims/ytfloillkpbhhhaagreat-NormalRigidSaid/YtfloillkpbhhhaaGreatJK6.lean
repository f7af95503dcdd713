import Derived.Test.YtfloillkpbhhhaaGreatJK5
import Derived.LoopNIn
set_option linter.all false
noncomputable section
namespace Go.J
variable {ps:Array (Nat×Operand)}{ts:Array TypeId}{tm:Array Value}{b dr:Bool}{s:ByteArray}{E:Env}{C a8 dt:HS}{k k':IntKind}{f g i j n o:Nat}{I:Nat->Value}{a ix q x:Operand}{P:Program}{p:Prop}{α β:Type}{e t u:TypeId}{v:Value}{c:Y Nat}{d:Y Tmp}{l:Z (Nat×Operand)}{X bs lk m y:Z Nat}{r:Z Nat×Z Nat}
section
variable {id:Nat}{T:PT V}{K:V->HS->Prop}{sz:Nat}
@[simp ↓] def zK5 {R:PT V->HS->Prop}:Rs E sz [] id T C R=R T C:=(rfl)
@[simp ↓] def zHY  {op:Op} {g:Y (Tmp×Bool)} {l:Z vm} {R:PT V->HS->Prop}:Rs E sz (⟨d,op,g⟩::l) id T C R=wpS E id T C ⟨d,op,g⟩ λv a8=>put sz T d v λT1=>Rs E sz l (id+1) T1 a8 R:=(rfl)
@[simp ↓] def zLh  {op:Op}:wpS E id T C ⟨d,op,none⟩ K=CE E id T C op K:=(rfl)
@[simp ↓] def zLi  {op:Op} {t:Tmp} {w:Bool}:wpS E id T C ⟨d,op,some (t,w)⟩ K=ok (T.get t) λv=>ok (v.lE w) λq=>br (q=w) (CE E id T C op K) (K oD C):=by
  simp only[zo2];rfl
@[simp ↓] def zCE {d:Tmp} {v:V} {R:PT V->Prop}:put sz T (some d) v R=(d<sz/\R (T.set d v)):=(rfl)
@[simp ↓] def zCG {v:V} {R:PT V->Prop}:put sz T none v R=R T:=(rfl)
def and_zero:((0:Nat)≠0->p)=True:=propext ⟨λ_=>trivial,λ_ h=>absurd rfl h⟩
theorem ztz:((2:Nat)≠0->p)=p:=propext ⟨λh=>h (by decide),λh _=>h⟩
theorem Ib{op:Op}(hc:dR op=0)(hd:CE E id T C op K=((dR op≠0->C.H.get id=none)/\ok (TP E.P false T C id (VI op)) λr=>K r.1 r.2)):CE E id T C op K=ok (TP E.P false T C id (VI op)) λr=>K r.1 r.2:=by
 grind
@[simp ↓] def wp_move :CE E id T C (.move x) K=ok (bV T x) λv=>K v C:=by
  rw[Ib rfl rfl];show ok (W (bV T x) λv=>some (v,C)) _=_;simp only[iQ,dP]
@[simp ↓] def wp_assign :CE E id T C (.assign x) K=ok (bV T x) λv=>K v C:=by
  rw[Ib rfl rfl];show ok (W (bV T x) λv=>some (v,C)) _=_;simp only[iQ,dP]
@[simp ↓] def zFz {c b:Operand}:CE E id T C (.pick c a b) K=ok (bV T c) λv=>ok v.bool? λq=>ok (bi q (bV T a) (bV T b)) λv=>K v C:=by
  rw[Ib rfl rfl];show ok (M8 T C c a b) _=_;simp only[M8,iQ,dP]
@[simp ↓] def zFA  :CE E id T C (.load t a) K=ok (ti E.P t) λi=>ok (bV T a) λp=>ok (Ha i C p) λv=>K v C:=by
  rw[Ib rfl rfl];show ok (Cf E.P T C t a) _=_;simp only[Cf,iQ,dP]
@[simp ↓] def zBv {b:BinOp}  {y:Operand}:CE E id T C (.binOp b t x y u) K=ok (bV T x) λp=>ok (bV T y) λq=>ok (bi (I5 y) (znt E.P b t p) (RN E.P b t p q)) λv=>K v C:=by
  rw[Ib rfl rfl];show ok (GN E.P T C b t x y) _=_;simp only[GN,iQ,dP]
@[simp ↓] def zFy {b:UnOp}  :CE E id T C (.unOp b t x) K=ok (Qe T C b x) λr=>K r.1 r.2:=by
  rw[Ib rfl rfl];rfl
@[simp ↓] def zqD   :CE E id T C (.fieldAddr t x f) K=ok (ti E.P t) λi=>ok (bD i f) λfd=>ok (ti E.P fd.type) λfi=>nt (Nat.beq fi.size 0)=true/\ok (bV T x) λv=>ok (pK fd.offset v) λr=>K r C:=by
  rw[Ib rfl rfl];show ok (qZ E.P T C t x f) _=_;simp only[qZ,iQ,wz,dP]
@[simp ↓] def zBu   :CE E id T C (.field t x f) K=ok (ti E.P t) λi=>ok (bD i f) λfd=>ok (ti E.P fd.type) λfi=>ok (bV T x) λv=>ok v.GW λcs=>ok (AA fi cs fd.offset) λv=>K v C:=by
  rw[Ib rfl rfl];show ok (LZ E.P T C t x f) _=_;simp only[LZ,iQ,dP]
@[simp ↓] def zqC  :CE E id T C (.indexAddr t x ix) K=ok (ti E.P t) λi=>ok (elemOf i.desc) λel=>ok (ti E.P el.1) λe=>ok (bV T x) λv=>ok (bV T ix) λn=>ok n.nat? λn=>ok (znY el.2 e n v) λr=>K r C:=by
  rw[Ib rfl rfl];show ok (qW E.P T C t x ix) _=_;simp only[qW,iQ,dP]
@[simp ↓] def zBt  :CE E id T C (.index t x ix) K=ok (ti E.P t) λi=>isStr i.desc=true/\ok (bV T x) λv=>ok v.sB λs=>ok (bV T ix) λn=>ok n.nat? λn=>ok (vQ s n) λb=>K (.int .u8 (Int.ofNat b)) C:=by
  rw[Ib rfl rfl];show ok (LU E.P T C t x ix) _=_;simp only[LU,iQ,wz,dP]
@[simp ↓] def zvx  {k:Nat}:CE E id T C (.extract x k) K=ok (bV T x) λv=>ok v.oy λvs=>ok (vQ vs k) λv=>K v C:=by
  rw[Ib rfl rfl];show ok (yw T C x k) _=_;simp only[yw,iQ,dP]
@[simp ↓] def ztY :CE E id T C (.nilCheck x) K=ok (bV T x) λv=>notNil v=true/\K v C:=by
  rw[Ib rfl rfl];show ok (uS T C x) _=_;simp only[uS,iQ,wz,dP]
@[simp ↓] def wp_build  :CE E id T C (.build t ps) K=ok (ti E.P t) λi=>ok (bi (iX i.desc) (gd (jH E.P (fieldsOf i.desc)) (Bu E.P T i ps.toList i.zero)) (W (zcX i.desc) λel=>W (ti E.P el) λe=>Cj T e.size ps.toList i.zero)) λcs=>K (.agg cs) C:=by
  rw[Ib rfl rfl];show ok (yD E.P T C t ps) _=_;unfold yD;simp only[iQ (ti E.P t)];congr 1;funext i;rw[iQ];congr 1;funext cs;rw[dP]
@[simp ↓] def zBs   {lo hi mx:Y Operand}:CE E id T C (.slice t x lo hi mx) K=ok (ti E.P t) λi=>ok (bV T x) λv=>ok (EE E.P T C i v lo hi mx) λr=>K r C:=by
  rw[Ib rfl rfl];show ok (CQ E.P T C t x lo hi mx) _=_;simp only[CQ,iQ,dP]
@[simp ↓] def zyT  {m k:Operand} :CE E id T C (.lookup t m k b) K=ok (mq E.P T C t m k b) λr=>K r.1 r.2:=by
  rw[Ib rfl rfl];rfl
@[simp ↓] def zvy {s d:TypeId} :CE E id T C (.convert s d x) K=ok (ti E.P s) λ_=>ok (ti E.P d) λj=>ok (bV T x) λv=>ok (zcy j.desc v) λr=>K r C:=by
  rw[Ib rfl rfl];show ok (U9 E.P T C s d x) _=_;simp only[U9,iQ,dP]
@[simp ↓] def ztZ {f:FuncId} {cs:Array Operand}:CE E id T C (.makeFunc (.func f) #[] cs) K=ok (ku T cs.toList) λl=>K (.func f l) C:=by
  rw[Ib rfl rfl];show ok (Cw T C (.func f) #[] cs) _=_;show ok (gd true (W (ku T cs.toList) λl=>some (V.func f l,C))) _=_;simp only[qY,iQ,dP]
theorem zlp{op:Op}(hc:dR op=1)(hd:CE E id T C op K=((dR op≠0->C.H.get id=none)/\ok (TP E.P false T C id (VI op)) λr=>K r.1 r.2)):CE E id T C op K=(C.H.get id=none/\ok (TP E.P false T C id (VI op)) λr=>K r.1 r.2):=by
 grind
theorem zBx{op:Op}(hc:dR op=2)(hd:CE E id T C op K=((dR op≠0->C.H.get id=none)/\ok (TP E.P false T C id (VI op)) λr=>K r.1 r.2)):CE E id T C op K=(C.H.get id=none/\ok (TP E.P false T C id (VI op)) λr=>K r.1 r.2):=by
 grind
@[simp ↓] def zBw :CE E id T C (.alloc t) K=(C.H.get id=none/\ok (ti E.P t) λi=>Nat.beq (dA i.zero) i.size=true/\K (.ptr id 0 0) (C.put id (.arr i.size 0 [i.zero] true false false))):=by
  rw[zlp rfl rfl];show (_/\ok (Bv E.P C id t) _)=_;simp only[Bv,iQ,wz,dP]
@[simp ↓] def zH8  :CE E id T C (.box t x) K=(C.H.get id=none/\ok (bV T x) λv=>K (.ptr id 0 0) (C.put id (.arr (dA v.cells) 0 [v.cells] true false false))):=by
  rw[zlp rfl rfl];show (_/\ok (Wn T C id x) _)=_;simp only[Wn,iQ,dP]
@[simp ↓] def HC   :CE E id T C (.buildSlice t n ps) K=(C.H.get id=none/\ok (jT E.P false T C id t n ps) λr=>K r.1 r.2):=by
  rw[zlp rfl rfl];rfl
@[simp ↓] def zqB  {l c:Operand}:CE E id T C (.makeSlice t l c) K=(C.H.get id=none/\ok (mo E.P T C id t l c) λr=>K r.1 r.2):=by
  rw[zlp rfl rfl];rfl
@[simp ↓] def zvw :CE E id T C (.makeMap t none) K=(C.H.get id=none/\K (.map id) (C.put id (.mp []))):=by
  rw[zlp rfl rfl];show (_/\ok (gd true (some (V.map id,C.put id (.mp [])))) _)=_;simp only[qY,dP]
@[simp ↓] def zBr  :CE E id T C (.store t a x) K=(C.H.get id=none/\ok (ti E.P t) λi=>ok (bV T a) λp=>ok (bV T x) λv=>ok (EA i C p v) λa8=>K oD a8):=by
  rw[zBx rfl rfl];show (_/\ok (nz E.P T C t a x) _)=_;simp only[nz,iQ,dP]
@[simp ↓] def zqA  {m k:Operand}:CE E id T C (.mapUpdate t m k x) K=(C.H.get id=none/\ok (ik E.P T C t m k x) λr=>K r.1 r.2):=by
  rw[zBx rfl rfl];rfl
@[simp ↓] def zFB  {xs:Array Operand} :CE E id T C (.call ⟨.value x,xs,ts⟩) K=(C.H.get id=none/\ok (bV T x) λv=>ok (funcOf v) λp=>ok (ku T xs.toList) λvs=>ok (E.dE p.1 (jY vs p.2) C) λr=>K r.1 r.2):=(rfl)
@[simp ↓] def zH7 {xs:Array Operand} :CE E id T C (.call ⟨.builtin .len,xs,ts⟩) K=ok (ku T xs.toList) λvs=>ok (IZ E.P C ts.toList vs) λr=>K r.1 r.2:=by
  show ((dR (.call ⟨.builtin .len,xs,ts⟩)≠0->_)/\_)=_;rw[show dR (.call ⟨.builtin .len,xs,ts⟩)=0 from rfl,and_zero,true_and];rfl
@[simp ↓] def zH5 {xs:Array Operand} :CE E id T C (.call ⟨.builtin .min,xs,ts⟩) K=ok (ku T xs.toList) λvs=>ok (uT C true vs) λr=>K r.1 r.2:=by
  show ((dR (.call ⟨.builtin .min,xs,ts⟩)≠0->_)/\_)=_;rw[show dR (.call ⟨.builtin .min,xs,ts⟩)=0 from rfl,and_zero,true_and];rfl
@[simp ↓] def zH6 {xs:Array Operand} :CE E id T C (.call ⟨.builtin .max,xs,ts⟩) K=ok (ku T xs.toList) λvs=>ok (uT C false vs) λr=>K r.1 r.2:=by
  show ((dR (.call ⟨.builtin .max,xs,ts⟩)≠0->_)/\_)=_;rw[show dR (.call ⟨.builtin .max,xs,ts⟩)=0 from rfl,and_zero,true_and];rfl
@[simp ↓] def zyU {xs:Array Operand} :CE E id T C (.call ⟨.builtin .append,xs,ts⟩) K=(C.H.get id=none/\ok (ku T xs.toList) λvs=>ok (z8 E.P C id ts.toList vs) λr=>K r.1 r.2):=by
  show ((dR (.call ⟨.builtin .append,xs,ts⟩)≠0->_)/\_)=_;rw[show dR (.call ⟨.builtin .append,xs,ts⟩)=2 from rfl,ztz];rfl
attribute [simp ↓] zhB zcO
@[congr] def zCX  {x y:Y α} {K:α->Prop} (h:x=y):ok x K=ok y K:=by rw[h]
@[congr] def zFw {rd:Bool} {s:SC} {T T':PT V}  {Q:Ex->PT V->HS->Prop} (M:T=T') (O:C=a8):Js E rd sz s T C Q=Js E rd sz s T' a8 Q:=by rw[M,O]
@[congr] def ztO  {fn:Func} {K:V->HS->Prop} {ex zMs:Ex} {T T':PT V}  (h0:ex=zMs) (M:T=T') (O:C=a8):Leaves P fn K ex T C=Leaves P fn K zMs T' a8:=by rw[h0,M,O]
@[congr] def zCZ  {x y:Y α} {f:α->Y β} (h:x=y):W x f=W y f:=by rw[h]
@[congr] def zEy  {c d:Bool} {x:Y β} (h:c=d):gd c x=gd d x:=by rw[h]
@[congr] def zzz  {z:β} {f:α->β} {x y:Y α} (h:x=y):vP z f x=vP z f y:=by rw[h]
@[congr] def zFc  {c d:Bool} {x y:α} (h:c=d):bi c x y=bi d x y:=by rw[h]
@[simp] theorem zKU   [Decidable p] {x y:α}:bi (decide p) x y=if p then x else y:=by rw[iO];simp
@[simp ↓] def zzA  (a:α) (K:α->Prop):ok (some a) K=K a:=dP a K
@[simp ↓] def zGq  (x:Y α) (f:α->Y β) (K:β->Prop):ok (W x f) K=ok x λa=>ok (f a) K:=iQ x f K
@[simp ↓] def zGr  (c:Bool) (x:Y α) (K:α->Prop):ok (gd c x) K=(c=true/\ok x K):=wz c x K
@[simp ↓] def zzH  (a:α) (f:α->Y β):W (some a) f=f a:=(rfl)
@[simp ↓] def zwy  (z:β) (f:α->β) (a:α):vP z f (some a)=f a:=(rfl)
@[simp ↓] def zAY  (x y:α):bi true x y=x:=(rfl)
@[simp ↓] def zyo  (x y:α):bi false x y=y:=(rfl)
@[simp] def zAk {t:Tmp}:bV T (.tmp t)=T.get t:=(rfl)
@[simp] def zve :bV T (.const v)=ofConst v:=(rfl)
@[simp] def zxI {f:FuncId}:bV T (.func f)=some (.func f []):=(rfl)
@[simp] def zrM :ofConst (.bool b)=some (.bool b):=(rfl)
@[simp] def zuz  {n:Int}:ofConst (.int k n)=some (.int k n):=(rfl)
@[simp] def zuy :ofConst (.string s)=some (.str (bytesOf s)):=(rfl)
@[simp] def znm:ofConst (.pointer none)=some .c9:=(rfl)
@[simp] def zrL:ofConst (.slice none 0 0)=some .aE:=(rfl)
@[simp] def zle:ofConst .nilFunc=some .nilFunc:=(rfl)
@[simp] def Pu {w:Bool}:(V.bool b).lE w=some b:=(rfl)
@[simp] def LR {w:Bool}:oD.lE w=some (!w):=(rfl)
@[simp] def bool?_bool :(V.bool b).bool?=some b:=(rfl)
@[simp] def int?_int  {n:Int}:(V.int k n).int?=some (k,n):=(rfl)
@[simp] def nat?_cast  :(V.int k (n:Int)).nat?=some n:=(rfl)
@[simp] def nat?_zero :(V.int k 0).nat?=some 0:=(rfl)
@[simp] def nat?_one :(V.int k 1).nat?=some 1:=(rfl)
@[simp] def str?_str {s:Z Nat}:(V.str s).sB=some s:=(rfl)
@[simp] def agg?_agg {s:Z V}:(V.agg s).GW=some s:=(rfl)
@[simp] def JT {s:Z V}:(V.tuple s).oy=some s:=(rfl)
@[simp] def zAM {s:Z V}:(V.agg s).cells=s:=(rfl)
@[simp] def zAL  {n:Int}:(V.int k n).cells=[.int k n]:=(rfl)
@[simp] def zya :(V.bool b).cells=[.bool b]:=(rfl)
@[simp] def zAH {b:Z Nat}:(V.str b).cells=[.str b]:=(rfl)
@[simp] def zx9:V.aE.cells=[.aE]:=(rfl)
@[simp] def zE1 {es:Z (Z V)} {t:Bool}:(V.sl es t).cells=[.sl es t]:=(rfl)
@[simp] def zAJ {a b c d:Nat} {t:Y Nat}:(V.own a b c d t).cells=[.own a b c d t]:=(rfl)
@[simp] def zAK {a:Nat}:(V.map a).cells=[.map a]:=(rfl)
@[simp] def zAI {a b c:Nat}:(V.ptr a b c).cells=[.ptr a b c]:=(rfl)
@[simp] def cells_func  {c:Z V}:(V.func f c).cells=[.func f c]:=(rfl)
@[simp] def zu7 {f:FuncId} {c:Z V}:funcOf (.func f c)=some (f,c):=(rfl)
@[simp] def zFk:Jz []=true:=(rfl)
@[simp] def zkW {v:V} {l:Z V}:Jz (v::l)=et v.mM (Jz l):=(rfl)
@[simp] def zw8  {n:Int}:(V.int k n).mM=true:=(rfl)
@[simp] def zuU :(V.bool b).mM=true:=(rfl)
@[simp] def zw5 {b:Z Nat}:(V.str b).mM=true:=(rfl)
@[simp] def zuS:V.aE.mM=true:=(rfl)
@[simp] def zz2 {es:Z (Z V)} {t:Bool}:(V.sl es t).mM=true:=(rfl)
@[simp] def zw6 {a b c d:Nat} {t:Y Nat}:(V.own a b c d t).mM=true:=(rfl)
@[simp] def zw7 {a:Nat}:(V.map a).mM=true:=(rfl)
@[simp] def zuT  {c:Z V}:(V.func f c).mM=true:=(rfl)
@[simp] def zz0 {i:TI} {a off:Nat}:Ha i C (.ptr a g off)=W (mP C a g) λr=>R6 i r off:=(rfl)
@[simp] def zzZ {i:TI} {cs:Z V}:Ha i C (.ref cs)=AA i cs 0:=(rfl)
@[simp] def zqs {a off:Nat}:pK n (.ptr a g off)=some (.ptr a g (off+n)):=(rfl)
@[simp] def zqr  {cs:Z V}:pK n (.ref cs)=some (.ref (KV n cs)):=(rfl)
@[simp] def zso {e:TI}  {es:Z (Z V)} {t:Bool}:zK e n (.sl es t)=gd (bj e.size es) (W (vQ es n) λc=>some (.ref c)):=(rfl)
@[simp] def zqi {e:TI} {a off len:Nat} :zK e n (.own a g off len c)=gd (Nat.blt n len) (some (.ptr a g (off+n*e.size))):=(rfl)
@[simp] def zwb {i:TI} {a off:Nat} {v:V}:EA i C (.ptr a g off) v=bi (pr C a) (W (ng v C) λr=>qy i a g off r.1 r.2) (qy i a g off v C):=(rfl)
@[simp] def arr?_arr {s:Nat} {es:Z (Z V)} {a c:Bool}:(Obj.arr s g es a b c).wi=some (s,g,es,a,b,c):=(rfl)
@[simp] def mp?_mp {es:Z (V×V)}:(Obj.mp es).mp?=some es:=(rfl)
@[simp] def zLM {o:Obj} {k:Nat}:(C.put k o).n=C.n:=(rfl)
@[simp] def zMJ {o:Obj} {k:Nat}:(C.wr k o).n=C.n:=(rfl)
@[simp] def zAt :elemOf (.slice e)=some (e,none):=(rfl)
@[simp] def zz6 {e:TI}  {v:V}:znY none e n v=zK e n v:=(rfl)
@[simp] def zwj :sH (.slice e)=some e:=(rfl)
@[simp] def zDw {k:TypeId}:mapOf (.map k e)=some (k,e):=(rfl)
@[simp] def zFb  {b:BinOp}   {m n:Int}:RN P b t (.int k m) (.int k' n)=bi (qV b) (Tk b k m n) (gd (Df k k') (arith b k m n)):=(rfl)
@[simp] def zuF :Df k k=true:=by cases k<;>rfl
@[simp] def zFa  {b:BinOp}  {n:Z Nat}:RN P b t (.str m) (.str n)=Qg b m n:=(rfl)
@[simp] def zAW  {b:BinOp}  {m n:Bool}:RN P b t (.bool m) (.bool n)=R4 P b t (.bool m) (.bool n):=(rfl)
end
@[simp] theorem bU  (a:α) (f:α->Y β):W (some a) f=f a:=(rfl)
@[simp] def zAg  (x:Y β):gd true x=x:=(rfl)
@[simp] def zAX  (x y:α):bi true x y=x:=(rfl)
@[simp] def zyn  (x y:α):bi false x y=y:=(rfl)
@[simp] def zwx  (z:β) (f:α->β) (a:α):vP z f (some a)=f a:=(rfl)
@[simp] def zwz  (z:β) (f:α->β):vP z f none=z:=(rfl)
@[simp] def zxE  (n:Nat):(PT.leaf:PT α).get n=none:=(rfl)
@[simp] def zch {T:PT V}:ku T []=some []:=(rfl)
@[simp] def ZB {T:PT V} (o:Operand) (l:Z Operand):ku T (o::l)=W (bV T o) λv=>W (ku T l) λr=>some (v::r):=(rfl)
attribute [simp] dP iQ wz PT.cK ma Ey dI sI xQ yx oo YD YI FN
@[simp] def ztu {a b:Nat}:Nat.beq a b=decide (a=b):=by rw[dF];simp
@[simp] def zHQ {a b:Nat}:Nat.ble a b=decide (a<=b):=by rw[dF];simp
@[simp] def zHO {a b:Nat}:Nat.blt a b=decide (a<b):=by rw[dF,J.gz];simp
@[simp ↓] def zuf {K:PT V->HS->Prop} {Q:Ex->PT V->HS->Prop} {T:PT V} :Ex.then K Q .normal T C=K T C:=(rfl)
@[simp ↓] def zCa {K:PT V->HS->Prop} {Q:Ex->PT V->HS->Prop} {T:PT V} :Ex.then K Q .ret T C=Q .ret T C:=(rfl)
@[simp ↓] def zy3  {K:PT V->HS->Prop} {Q:Ex->PT V->HS->Prop} {T:PT V} :Ex.then K Q (.exit i) T C=Q (.exit i) T C:=(rfl)
@[simp ↓] def zym {id:Nat} {Q:Ex->PT V->HS->Prop} {T:PT V} :Ex.inBlock id Q .normal T C=Q .normal T C:=(rfl)
@[simp ↓] def zHP {id:Nat} {Q:Ex->PT V->HS->Prop} {T:PT V} :Ex.inBlock id Q .ret T C=Q .ret T C:=(rfl)
@[simp ↓] def zE9 {id:Nat} {Q:Ex->PT V->HS->Prop} {T:PT V} :Ex.inBlock id Q (.exit i) T C=if i=id then Q .normal T C else Q (.exit i) T C:=(rfl)
@[simp] def zCq  {T:PT V} :MZ P T C []=some []:=(rfl)
@[simp] def zCp  {T:PT V}  {t:Tmp} {l:Z ResultVar}:MZ P T C (.tmp t::l)=W (T.get t) λv=>W (MZ P T C l) λr=>some (v::r):=(rfl)
@[simp] def zzl  {T:PT V}  {a:Tmp}  {l:Z ResultVar}:MZ P T C (.cell a t::l)=W (W (ti P t) λi=>W (T.get a) λp=>Ha i C p) λv=>W (MZ P T C l) λr=>some (v::r):=(rfl)
@[simp] def zv0 {v:V}:xO [v]=v:=(rfl)
@[simp] def zvZ {v u:V} {l:Z V}:xO (v::u::l)=.tuple (v::u::l):=(rfl)
attribute [simp] VF Ld
attribute [simp] Xn KI Nk zhd H9
@[simp] def zHt {a b:Int}:ub a b=decide (a=b):=by rw[dF,NF];simp
@[simp] def zuR:qV .add=false:=(rfl)
@[simp] def zuH:qV .sub=false:=(rfl)
@[simp] def zuJ:qV .rem=false:=(rfl)
@[simp] def zuP:qV .eql=false:=(rfl)
@[simp] def zuK:qV .neq=false:=(rfl)
@[simp] def zuL:qV .lss=false:=(rfl)
@[simp] def zuM:qV .leq=false:=(rfl)
@[simp] def zuN:qV .gtr=false:=(rfl)
@[simp] def zuO:qV .geq=false:=(rfl)
@[simp] def zuQ:qV .and=false:=(rfl)
section
variable {a b:Int}{T:PT V}
@[simp] def zA9:arith .add k a b=some (.int k (Ia k (a+b))):=(rfl)
@[simp] def zA0:arith .sub k a b=some (.int k (Ia k (a-b))):=(rfl)
@[simp] def zA1:arith .rem k a b=gd (nt (ub b 0)) (some (.int k (a.tmod b))):=(rfl)
@[simp] def zA7:arith .eql k a b=some (.bool (ub a b)):=(rfl)
@[simp] def zA2:arith .neq k a b=some (.bool (nt (ub a b))):=(rfl)
@[simp] def zA3:arith .lss k a b=some (.bool (AW a b)):=(rfl)
@[simp] def zA4:arith .leq k a b=some (.bool (leI a b)):=(rfl)
@[simp] def zA5:arith .gtr k a b=some (.bool (AW b a)):=(rfl)
@[simp] def zuI:qV .shr=true:=(rfl)
@[simp] def zwl:Tk .shr k a b=W (SP b) λm=>some (.int k (a.fdiv (2 ^ min m k.bits))):=(rfl)
@[simp] def zA8:arith .and k a b=some (.int k (ZU k a b)):=(rfl)
@[simp] def zA6:arith .geq k a b=some (.bool (leI b a)):=(rfl)
@[simp] def zy9 {x:Z Nat}:Qg .eql x y=some (.bool (ND x y)):=(rfl)
@[simp] def zy6 {x:Z Nat}:Qg .neq x y=some (.bool (nt (ND x y))):=(rfl)
@[simp] def zy7 {x:Z Nat}:Qg .lss x y=some (.bool (Km x y)):=(rfl)
@[simp] def zy8 {x:Z Nat}:Qg .gtr x y=some (.bool (bi (Km x y) false (nt (ND x y)))):=(rfl)
@[simp] def zux  {x y:V}:R4 P .neq t x y=W (Iv P t x y) λb=>some (.bool (nt b)):=(rfl)
@[simp] def zEE {x y:V}:zEF .bool x y=W x.bool? λa=>W y.bool? λb=>some (zZ a b):=(rfl)
@[simp] def zMt  {x y:V}:Iv P t x y=W (ti P t) λi=>zEC P t i.desc x y:=(rfl)
@[simp] def zEB  {x y:V}:zEC P t .bool x y=zEF .bool x y:=(rfl)
@[simp] def zw2 {k:Nat}:I5 (.tmp k)=false:=(rfl)
@[simp] def zw3  {n:Int}:I5 (.const (.int k n))=false:=(rfl)
@[simp] def zqg :I5 (.const (.string s))=false:=(rfl)
@[simp] def zsm {a:Y Addr} {c:Nat}:I5 (.const (.slice a n c))=false:=(rfl)
@[simp] def zAf :mP C i g=W (C.H.get i) λo=>W o.wi λa=>gd (et (Nat.beq g a.2.1) (nt (Nat.beq a.1 0))) (some (a.1,a.2.2)):=(rfl)
@[simp] def zDC :pr C i=vP false (λo=>vP false (λa=>a.2.2.2.2.2) o.wi) (C.H.get i):=(rfl)
@[simp] def zzY {i:TI} {a:Nat×Z (Z V)×Bool×Bool×Bool} {off:Nat}:R6 i a off=W (vQ a.2.1 (off / a.1)) λe=>AA i e (off % a.1):=(rfl)
@[simp] def zGo {i:TI} {cs:Z V} {off:Nat}:AA i cs off=bi (kG i.desc) (zpr i.size (Ij i.size (KV off cs))) (vQ cs off):=(rfl)
@[simp] def zKZ  {r:Z V}:zpr n r=gd (Nat.beq (dA r) n) (some (.agg r)):=(rfl)
@[simp] def zwa {i:TI} {id off:Nat} {v:V}:qy i id g off v C=W (mP C id g) λa=>gd (nt a.2.2.2.1) (gd (et (Jz v.cells) (et (Nat.beq (dA v.cells) i.size) (Nat.ble (off % a.1+i.size) a.1)))
 (W (vQ a.2.1 (off / a.1)) λe=>some (C.wr id (.arr a.1 g (VY a.2.1 (off / a.1) (kI e (off % a.1) v.cells)) a.2.2.1 false a.2.2.2.2)))):=(rfl)
@[simp] def zzy  (n:Nat) (l:Z α):kI ([]:Z α) n l=[]:=(rfl)
@[simp] def zne  (x:α) (t:Z α):kI (x::t) 0 []=x::t:=(rfl)
@[simp] def zld  (x:α) (t:Z α) (y:α) (ys:Z α):kI (x::t) 0 (y::ys)=y::kI t 0 ys:=(rfl)
@[simp] def zei  (x:α) (t:Z α) (n:Nat) (l:Z α):kI (x::t) (n+1) l=x::kI t n l:=(rfl)
@[simp] def zGG {ts:Z TypeId} {vs:Z V}:IZ P C ts vs=W (zeS P ts) λi=>W (YW vs) λx=>W (N2 C i.desc x) λn=>some (.int .i64 (Int.ofNat n),C):=(rfl)
@[simp] def zDp {l:Bool} {vs:Z V}:uT C l vs=W (Yo vs) λp=>W p.1.int? λa=>W p.2.int? λb=>some (.int a.1 (bi (bi l (AW b.2 a.2) (AW a.2 b.2)) b.2 a.2),C):=(rfl)
@[simp] def zu5  {l:Z TypeId}:zeS P (t::l)=ti P t:=(rfl)
@[simp] def zLN  {o:Obj}:(C.put i o).H=C.H.set i o:=(rfl)
@[simp] def zGb  {o:Obj}:(C.put i o).log=C.log:=(rfl)
@[simp] def zMK  {o:Obj}:(C.wr i o).H=C.H.set i o:=(rfl)
@[simp] def zH3  {o:Obj}:(C.wr i o).log=i::C.log:=(rfl)
@[simp] def zCV {v:V}:YW [v]=some v:=(rfl)
@[simp] def zB3 {v u:V}:Yo [v,u]=some (v,u):=(rfl)
@[simp] def zDz {s:Z Nat}:N2 C .string (.str s)=some (dA s):=(rfl)
@[simp] def zz1 :N2 C (.slice e) .aE=some 0:=(rfl)
@[simp] def zGH  {es:Z (Z V)} {t:Bool}:N2 C (.slice e) (.sl es t)=some (dA es):=(rfl)
@[simp] def zDA   :N2 C (.slice e) (.own i g o n c)=some n:=(rfl)
@[simp] def zB0 :Qe T C .not x=W (bV T x) λv=>W v.bool? λb=>some (.bool (nt b),C):=(rfl)
@[simp] def zAA {v:V}:zcy (.int k) v=W v.int? λp=>some (.int k (Ia k p.2)):=(rfl)
@[simp] def zwK :notNil (.ptr i g o)=true:=(rfl)
@[simp] def zz5:kG (.int k)=false:=(rfl)
@[simp] def zw9:kG .bool=false:=(rfl)
@[simp] def zz3:kG .string=false:=(rfl)
@[simp] def zuV :kG (.slice e)=false:=(rfl)
@[simp] def zz4 {f:TypeId}:kG (.map e f)=false:=(rfl)
@[simp] def zqh :kG (.pointer e)=false:=(rfl)
end
section
variable {T:PT V}{id:Nat}
@[simp] def zCl {b:Nat}:xU n b=decide (n*b<=1048576):=by show Nat.ble _ _=_;simp
@[simp] def zqe  {l c:Operand}:mo P T C id t l c=W (ti P t) λi=>W (bV T l) λa=>W (bV T c) λb=>wY P i C id a b:=(rfl)
@[simp] def zuE {i:TI} {l c:V}:wY P i C id l c=W (sH i.desc) λel=>W (ti P el) λe=>W l.nat? λl=>W c.nat? λc =>
 gd (et (Nat.ble l c) (et (xU c e.bytes) (et (Nat.ble (c*e.size) 1048576) (et (nt (Nat.beq e.size 0)) (et (Nat.beq (dA e.zero) e.size) (Jy e.zero))))))
  (some (.own id 0 0 l (some c),C.put id (.arr e.size 0 (ziX e.zero c) true false true))):=(rfl)
@[simp] def zti {i:TI} {cells:Z V}:Bu P T i [] cells=some cells:=(rfl)
@[simp] def zqv {i:TI} {k:Nat} {o:Operand}  {cells:Z V}:Bu P T i ((k,o)::l) cells=W (bD i k) λfd=>W (ti P fd.type) λfi=>W (bV T o) λv =>
 gd (et (Nat.beq (dA v.cells) fi.size) (Nat.ble (fd.offset+fi.size) (dA cells))) (Bu P T i l (kI cells fd.offset v.cells)):=(rfl)
@[simp] def zrI  {e:TI} {len:Nat} {es:Z (Z V)}:zF dr T e len [] C es=some (es,C):=(rfl)
@[simp] def zqb  {e:TI} {len k:Nat} {o:Operand}  {es:Z (Z V)}:zF dr T e len ((k,o)::l) C es=W (bV T o) λv=>W (Dv dr v C) λr =>
 gd (et (Nat.beq (dA r.1.cells) e.size) (Nat.blt k len)) (zF dr T e len l r.2 (VY es k r.1.cells)):=(rfl)
@[simp] def zte {v:V}:Dv false v C=ng v C:=(rfl)
@[simp] def zvm {v:V}:Dv true v C=gd v.pure (some (v,C)):=(rfl)
@[simp] def zo1   {len:Nat} :jT P dr T C id t len ps=W (ti P t) λi=>W (sH i.desc) λel=>W (ti P el) λe =>
 gd (et (Nat.ble (len*e.size) 1048576) (et (nt (Nat.beq e.size 0)) (et (Nat.beq (dA e.zero) e.size) (Jy e.zero))))
  (W (zF dr T e len ps.toList C (ziX e.zero len)) λr=>some (bi (Nat.beq e.bytes 128) (.own id 0 0 len (some len)) (.sl r.1 true),r.2.put id (bi (Nat.beq e.bytes 128) (.arr e.size 0 r.1 true false true) (.mp [])))):=(rfl)
@[simp] def zvh  {l:Z TypeId}:ZG P (t::l)=W (ti P t) λi=>W (sH i.desc) λel=>ti P el:=(rfl)
@[simp] def zsl :yt [t,u]=some u:=(rfl)
@[simp] def zyu {ts:Z TypeId} {vs:Z V}:z8 P C id ts vs=W (Yo vs) λp=>W (ZG P ts) λe=>W (yt ts) λu=>W (ti P u) λj=>W (sH j.desc) λ_=>Ck e C id p.1 p.2:=(rfl)
@[simp] def append_nil {e:TI} {x:V}:Ck e C id .aE x=W (zW C e.size x) λnew=>gd (et (bj e.size new) (et (kS new) (et (nt (Nat.beq e.size 0)) (et (nt (Nat.beq e.bytes 0)) (Nat.beq (dA e.zero) e.size))))) (FR e C id new):=(rfl)
@[simp] def zBa {e:TI} {es:Z (Z V)} {t:Bool} {x:V}:Ck e C id (.sl es t) x=W (zW C e.size x) λnew=>gd (et (bj e.size new) (et (kS new) (et (nt (Nat.beq e.size 0)) (et (nt (Nat.beq e.bytes 0)) (Nat.beq (dA e.zero) e.size))))) (Jw e C id es t new):=(rfl)
@[simp] def zys {e:TI}   {x:V}:Ck e C id (.own i g o n c) x=W (zW C e.size x) λnew=>gd (et (bj e.size new) (et (kS new) (et (nt (Nat.beq e.size 0)) (et (nt (Nat.beq e.bytes 0)) (Nat.beq (dA e.zero) e.size))))) (CB e C id i g o n c new):=(rfl)
@[simp] def zvp {e:TI} {new:Z (Z V)}:FR e C id new=bi (Nat.beq (dA new) 0) (some (.aE,C)) (gd (xU (dA new) e.bytes) (Da e C id (dA new) new)):=(rfl)
@[simp] def zyt {e:TI} {es new:Z (Z V)} {t:Bool}:Jw e C id es t new=bi (Nat.beq (dA new) 0) (some (.sl es t,C)) (gd (et t (et (xU (dA es+dA new) e.bytes) (bj e.size es))) (Da e C id (dA es+dA new) (jY es new))):=(rfl)
@[simp] def zGA {e:TI}  {es:Z (Z V)}:Da e C id n es=some (.own id 0 0 n none,C.put id (.arr e.size 0 es false false true)):=(rfl)
@[simp] def zpk {e:TI}  {new:Z (Z V)}:CB e C id i g o n none new=W (mP C i g) λa=>gd (et a.2.2.2.2 (et (Nat.beq a.1 e.size) (et (Nat.beq (o % a.1) 0) (xU (n+dA new) e.bytes))))
 (bi (Nat.ble (o / a.1+n+dA new) (dA a.2.1)) (yH C i g o n none a new)
     (gd (et (nt a.2.2.2.1) (et (Nat.beq o 0) (Nat.ble n (dA a.2.1)))) (some (.own i (g+1) 0 (n+dA new) none,C.wr i (.arr a.1 (g+1) (jY (Ij n a.2.1) new) false false true))))):=(rfl)
@[simp] def zpj {e:TI} {c:Nat} {new:Z (Z V)}:CB e C id i g o n (some c) new=W (mP C i g) λa=>gd (et a.2.2.2.2 (et (Nat.beq a.1 e.size) (et (Nat.beq (o % a.1) 0) (xU (n+dA new) e.bytes))))
 (bi (Nat.ble (n+dA new) c) (yH C i g o n (some c) a new) (W (Bp a.1 o n a.2.1) λgg=>Da e C id (n+dA new) (jY gg new))):=(rfl)
@[simp] def zyv   {a:Nat×Z (Z V)×Bool×Bool×Bool} {new:Z (Z V)}:yH C i g o n c a new=gd (et (nt a.2.2.2.1) (Nat.ble (o / a.1+n+dA new) (dA a.2.1)))
 (some (.own i g o (n+dA new) c,C.wr i (.arr a.1 g (kI a.2.1 (o / a.1+n) new) a.2.2.1 false a.2.2.2.2))):=(rfl)
@[simp] def zEX {size off len:Nat} {es:Z (Z V)}:Bp size off len es=gd (et (Nat.beq (off % size) 0) (Nat.ble (off / size+len) (dA es))) (some (Ij len (KV (off / size) es))):=(rfl)
@[simp] def zvg :zW C n .aE=some []:=(rfl)
@[simp] def zAs  {es:Z (Z V)} {t:Bool}:zW C n (.sl es t)=some es:=(rfl)
@[simp] def zxS {k:Nat} :zW C n (.own i g o k c)=W (mP C i g) λa=>gd (et a.2.2.2.2 (Nat.beq a.1 n)) (Bp a.1 o k a.2.1):=(rfl)
@[simp] def zCI {v:V}:ng v C=W (kP C v) λv'=>some (v',mr C v.cells):=(rfl)
@[simp] def zwe {l:Z V}:kP C (.agg l)=W (Bf C l) λl=>some (.agg l):=(rfl)
@[simp] def zrh:Bf C []=some []:=(rfl)
@[simp] def zp5 {v:V} {l:Z V}:Bf C (v::l)=W (tY C v) λv'=>W (Bf C l) λl'=>some (v'::l'):=(rfl)
@[simp] def zrk  :tY C (.own i g o n c)=W (mP C i g) λa=>gd a.2.2.2.2 (W (Bp a.1 o n a.2.1) λl=>some (.sl l false)):=(rfl)
@[simp] def zwg  {n:Int}:tY C (.int k n)=some (.int k n):=(rfl)
@[simp] def zuo :tY C (.bool b)=some (.bool b):=(rfl)
@[simp] def zwf {b:Z Nat}:tY C (.str b)=some (.str b):=(rfl)
@[simp] def zzb {es:Z (Z V)} :tY C (.sl es b)=some (.sl es b):=(rfl)
@[simp] def zun:tY C .aE=some .aE:=(rfl)
@[simp] def zqq:mr C []=C:=(rfl)
@[simp] def zou {v:V} {l:Z V}:mr C (v::l)=nI (mr C l) v:=(rfl)
@[simp] def zva  :nI C (.own i g o n c)=iF C i:=(rfl)
@[simp] def zvb  {n:Int}:nI C (.int k n)=C:=(rfl)
@[simp] def zsK :nI C (.bool b)=C:=(rfl)
@[simp] def zu9 {b:Z Nat}:nI C (.str b)=C:=(rfl)
@[simp] def zxG {es:Z (Z V)} :nI C (.sl es b)=C:=(rfl)
@[simp] def zsJ:nI C .aE=C:=(rfl)
@[simp] def zu8 :iF C i=vP C (λo=>vP C (λa=>C.wr i (.arr a.1 a.2.1 a.2.2.1 a.2.2.2.1 true a.2.2.2.2.2)) o.wi) (C.H.get i):=(rfl)
@[simp] def zzc :bj n []=true:=(rfl)
@[simp] def zwk  {x:Z V} {l:Z (Z V)}:bj n (x::l)=et (Nat.beq (dA x) n) (bj n l):=(rfl)
@[simp] def ztF:kS []=true:=(rfl)
@[simp] def zqx {x:Z V} {l:Z (Z V)}:kS (x::l)=et (Jz x) (kS l):=(rfl)
end
section
variable {r:V}
@[simp] def zri:lT C []=some []:=(rfl)
@[simp] def zp6 {v:V} {l:Z V}:lT C (v::l)=W (kP C v) λv'=>W (lT C l) λl'=>some (v'::l'):=(rfl)
@[simp] def zrj  :kP C (.own i g o n c)=tY C (.own i g o n c):=(rfl)
@[simp] def zwd  {n:Int}:kP C (.int k n)=some (.int k n):=(rfl)
@[simp] def zum :kP C (.bool b)=some (.bool b):=(rfl)
@[simp] def zwc {b:Z Nat}:kP C (.str b)=some (.str b):=(rfl)
@[simp] def zza {es:Z (Z V)} :kP C (.sl es b)=some (.sl es b):=(rfl)
@[simp] def zul:kP C .aE=some .aE:=(rfl)
end
abbrev Spec:=Z V->HS->Y (V×HS)
def WU(s:Z V->Y V):Spec:=λvs C=>gd (cu vs) (W (s vs) λv=>some (v,C))
def zoM(L:Z (Nat×Spec))(f:FuncId)(vs:Z V)(C:HS):Y (V×HS):=lr none (λp _ ih=>bi (Nat.beq f p.1) (p.2 vs C) ih) L
def zkg(P:Program)(wx:FuncId->Nat)(L:Z (Nat×Spec)):Env:={ P:=P,wx:=wx,dE:=zoM L }
structure Valid(I:Nat->Value)(P:Program)(f:Nat)(s:Spec):Prop where
 fn:wh P f
 ok:∀ {vs C v a8},s vs C=some (v,a8)->aT I P f vs C v a8
 kept:∀ {vs C r},s vs C=some r->Kept C r.2
theorem zkq(p:Nat×Spec)(L:Z (Nat×Spec))(f:FuncId):zoM (p::L) f=if f=p.1 then p.2 else zoM L f:=by
 funext vs C
 show bi (Nat.beq f p.1) (p.2 vs C) (zoM L f vs C)=_
 grind [iO,beq_true]
theorem ag{wx:FuncId->Nat}:∀ {L:Z (Nat×Spec)},(∀ p∈L,Valid I P p.1 p.2)->bH I (zkg P wx L):=by
 intro L h
 have key:∀ (cJ:Z (Nat×Spec)),(∀ p∈cJ,p∈L)->∀ {f vs C q},zoM cJ f vs C=some q->∃ p∈L,p.1=f/\p.2 vs C=some q:=by
  intro cJ
  induction cJ with
  |nil=>intro _ f vs C q hq;cases hq
  | cons p cJ ih =>
    intro hM f vs C q hq;rw[zkq]at hq
    grind
 refine⟨?_,?_,?_⟩
 . intro f vs C v a8 hq;obtain⟨p,hp,rfl,O⟩:=key L (λ_ h=>h) hq;exact(h p hp).ok O
 . intro f vs C q hq;obtain⟨p,hp,rfl,O⟩:=key L (λ_ h=>h) hq;exact(h p hp).kept O
 . intro f vs C q hq;obtain⟨p,hp,rfl,O⟩:=key L (λ_ h=>h) hq;exact(h p hp).fn
def aG:∀ p∈([]:Z (Nat×Spec)),Valid I P p.1 p.2:=λp h=>by cases h
theorem ae{s:Spec}{L:Z (Nat×Spec)}(h:Valid I P f s)(hl:∀ p∈L,Valid I P p.1 p.2):∀ p∈(f,s)::L,Valid I P p.1 p.2:=by
 grind
def Valid.pure(hρ:Good I)(hP:P.follows .mixedOrders=true)(hN:vK P){s:Z V->Y V}(hf:wh P f)
 (h:∀ vs v,cu vs=true->s vs=some v->∃ E n,bH I E/\E.P=P/\ziM E n f vs=some v):Valid I P f (WU s) where
 fn:=hf
 ok:=by
  intro vs C v a8 hq;simp only[WU,bE,aA]at hq;obtain⟨hp,v',hv,hq⟩:=hq;cases hq;obtain⟨E,n,hc,rfl,hr⟩:=h vs v hp hv;exact IK hρ hc hP hN hr hp
 kept:=by
  intro vs C q hq;simp only[WU,bE,aA]at hq;obtain⟨_,v',_,hq⟩:=hq;cases hq;exact .refl _
section
variable {vs:Z V}{s:Z V->Y V}{K:V×HS->Prop}
@[simp] def zp9:mf [] C=some ([],C):=(rfl)
@[simp] def zm4 {v:V} {l:Z V}:mf (v::l) C=W (ng v C) λr=>W (mf l r.2) λq=>some (r.1::q.1,q.2):=(rfl)
@[simp] def zvq:cu []=true:=(rfl)
@[simp] def ztD {v:V} {l:Z V}:cu (v::l)=(v.pure&&cu l):=by rw[<- Xn];rfl
@[simp] def zCL {l:Z V}:(V.agg l).pure=Jy l:=(rfl)
@[simp] def zFj:Jy []=true:=(rfl)
@[simp] def zBb {v:V} {l:Z V}:Jy (v::l)=(v.bM&&Jy l):=by rw[<- Xn];rfl
@[simp] def zCK  {n:Int}:(V.int k n).pure=true:=(rfl)
@[simp] def zzs :(V.bool b).pure=true:=(rfl)
@[simp] def zCJ {b:Z Nat}:(V.str b).pure=true:=(rfl)
@[simp] def zGc {es:Z (Z V)} {t:Bool}:(V.sl es t).pure=true:=(rfl)
@[simp] def zzr:V.aE.pure=true:=(rfl)
@[simp] def zzu  {n:Int}:(V.int k n).bM=true:=(rfl)
@[simp] def zwv :(V.bool b).bM=true:=(rfl)
@[simp] def zzt {b:Z Nat}:(V.str b).bM=true:=(rfl)
@[simp] def zCM {es:Z (Z V)} {t:Bool}:(V.sl es t).bM=true:=(rfl)
@[simp] def zwu:V.aE.bM=true:=(rfl)
end
def V.xW(π:Nat->Nat):V->V
 |.ptr id g off=>.ptr (π id) g off
 |.own id g off len cap=>.own (π id) g off len cap
 |.map id=>.map (π id)
 |.ly id=>.ly (π id)
 |v=>v
def V.jl(π:Nat->Nat):V->V
 |.agg cs=>.agg (cs.map (V.xW π))
 |.func f cs=>.func f (cs.map (V.xW π))
 |.iface t v=>.iface t (v.xW π)
 |v=>v.xW π
def V.cq(π:Nat->Nat):V->V
 |.tuple cs=>.tuple (cs.map (V.jl π))
 |v=>v.jl π
def V.Mr(A:Nat->Bool):V->Bool
 |.ptr id _ _=>A id
 |.own id _ _ _ _=>A id
 |.map id=>A id
 |.ly id=>A id
 |v=>v.bM
def V.zM(A:Nat->Bool):V->Bool
 |.agg cs=>cs.all (V.Mr A)
 |.func _ cs=>cs.all (V.Mr A)
 |.iface _ v=>v.Mr A
 |v=>v.Mr A
def V.tJ(A:Nat->Bool):V->Bool
 |.tuple cs=>cs.all (V.zM A)
 |v=>v.zM A
def Obj.cq(π:Nat->Nat):Obj->Obj
 |.arr size gen es ex fz row=>.arr size gen (es.map λe=>e.map (V.jl π)) ex fz row
 |o=>o
def Obj.in(A:Nat->Bool):Obj->Bool
 |.arr _ _ es _ _ row=>es.all λe=>e.all λv=>if row then v.bM else v.zM A
 |.mp _=>true
 |.lp _ _ _ _ _ _=>false
section
variable {w w':World}{F F':Nat->Prop}{μ μ':Nat->Nat->Y MI}{π:Nat->Nat}{A:Nat->Bool}
theorem V.jP{v:V}(h:v.bM=true):v.jl π=v:=by
 cases v with
 | func f cs=>cases cs with
   |nil=>rfl
   |cons _ _=>cases h
 | iface t v =>
   replace h:v.CX=true:=h;cases v<;>first|rfl|cases h
 |agg _=>cases h
 |_=>first|rfl|cases h
def dV.zhN{v:V}{x:Value}(h:dV I w F μ (v.xW π) x)(hA:v.Mr A=true)(hμ:∀ id,A id=true->∀ g m,μ (π id) g=some m->μ' id g=some m):dV I w F μ' v x:=by
 cases v with
 | ptr id g off =>
   obtain⟨m,M,rfl⟩:=dV.yc I h;exact .ptr id g off m (hμ id hA g m M)
 | own id g off len cap =>
   obtain⟨m,c,M,rfl,O,h3,h4,h5⟩:=dV.wM I h;exact .own id g off len cap c m (hμ id hA g m M) O h3 h4 h5
 | map id =>
   obtain⟨m,M,rfl⟩:=dV.Gm I h;exact .map id m (hμ id hA 0 m M)
 | ly id =>
   obtain⟨m,M,rfl⟩:=dV.Mt I h;exact .ly id m (hμ id hA 0 m M)
 |_=>exact .pure (dV.bM I h hA)
def dV.zhM{v:V}{x:Value}(h:dV I w F μ (v.jl π) x)(hA:v.zM A=true)(hμ:∀ id,A id=true->∀ g m,μ (π id) g=some m->μ' id g=some m):dV I w F μ' v x:=by
 cases v with
 | agg cs =>
   obtain⟨ys,rfl,M,O⟩:=dV.wQ I h;replace hA:cs.all (V.Mr A)=true:=hA;rw[aj]at hA;refine .agg cs ys (by simpa using M) λi v hi=>?_
   exact(O i (v.xW π) (by simp[hi])).zhN (hA v (aC hi)) hμ
 | func f cs =>
   obtain⟨ys,rfl,M,O⟩:=dV.AP I h;replace hA:cs.all (V.Mr A)=true:=hA;rw[aj]at hA;refine .func f cs ys (by simpa using M) λi v hi=>?_
   exact(O i (v.xW π) (by simp[hi])).zhN (hA v (aC hi)) hμ
 | iface t v =>
   obtain⟨y,rfl,hy⟩:=dV.Cx I h;exact .iface t v y (hy.zhN hA hμ)
 |_=>exact dV.zhN (π:=π) h hA hμ
theorem dV.AN{v:V}{x:Value}(h:dV I w F μ (v.cq π) x)(hA:v.tJ A=true)(hμ:∀ id,A id=true->∀ g m,μ (π id) g=some m->μ' id g=some m):dV I w F μ' v x:=by
 cases v with
 | tuple cs =>
   obtain⟨ys,rfl,M,O⟩:=dV.qx I h;replace hA:cs.all (V.zM A)=true:=hA;rw[aj]at hA;refine .tuple cs ys (by simpa using M) λi v hi=>?_
   exact(O i (v.jl π) (by simp[hi])).zhM (hA v (aC hi)) hμ
 |_=>exact dV.zhM (π:=π) h hA hμ
def dV.zhG{v:V}{x:Value}(h:dV I w F μ v x)(hA:v.Mr A=true)(hμ:∀ id,A id=true->∀ g m,μ id g=some m->μ' (π id) g=some m):dV I w F μ' (v.xW π) x:=by
 cases v with
 | ptr id g off =>
   obtain⟨m,M,rfl⟩:=dV.yc I h;exact .ptr _ g off m (hμ id hA g m M)
 | own id g off len cap =>
   obtain⟨m,c,M,rfl,O,h3,h4,h5⟩:=dV.wM I h;exact .own _ g off len cap c m (hμ id hA g m M) O h3 h4 h5
 | map id =>
   obtain⟨m,M,rfl⟩:=dV.Gm I h;exact .map _ m (hμ id hA 0 m M)
 | ly id =>
   obtain⟨m,M,rfl⟩:=dV.Mt I h;exact .ly _ m (hμ id hA 0 m M)
 |_=>exact .pure (dV.bM I h hA)
def dV.zhF{v:V}{x:Value}(h:dV I w F μ v x)(hA:v.zM A=true)(hμ:∀ id,A id=true->∀ g m,μ id g=some m->μ' (π id) g=some m):dV I w F μ' (v.jl π) x:=by
 cases v with
 | agg cs =>
   obtain⟨ys,rfl,M,O⟩:=dV.wQ I h;replace hA:cs.all (V.Mr A)=true:=hA;rw[aj]at hA;refine .agg _ ys (by simpa using M) λi v hi=>?_
   rw[bC,bG]at hi;obtain⟨u,hu,rfl⟩:=hi;exact(O i u hu).zhG (hA u (aC hu)) hμ
 | func f cs =>
   obtain⟨ys,rfl,M,O⟩:=dV.AP I h;replace hA:cs.all (V.Mr A)=true:=hA;rw[aj]at hA;refine .func f _ ys (by simpa using M) λi v hi=>?_
   rw[bC,bG]at hi;obtain⟨u,hu,rfl⟩:=hi;exact(O i u hu).zhG (hA u (aC hu)) hμ
 | iface t v =>
   obtain⟨y,rfl,hy⟩:=dV.Cx I h;exact .iface t _ y (hy.zhG hA hμ)
 |_=>exact dV.zhG (π:=π) h hA hμ
theorem dV.back{v:V}{x:Value}(h:dV I w F μ v x)(hA:v.tJ A=true)(hμ:∀ id,A id=true->∀ g m,μ id g=some m->μ' (π id) g=some m):dV I w F μ' (v.cq π) x:=by
 cases v with
 | tuple cs =>
   obtain⟨ys,rfl,M,O⟩:=dV.qx I h;replace hA:cs.all (V.zM A)=true:=hA;rw[aj]at hA;refine .tuple _ ys (by simpa using M) λi v hi=>?_
   rw[bC,bG]at hi;obtain⟨u,hu,rfl⟩:=hi;exact(O i u hu).zhF (hA u (aC hu)) hμ
 |_=>exact dV.zhF (π:=π) h hA hμ
theorem Obj.Gc(o:Obj):(o.cq π).gen=o.gen:=by cases o<;>rfl
theorem Obj.YJ(o:Obj):(o.cq π).fz=o.fz:=by cases o<;>rfl
theorem o9.AN {id:Nat} {o:Obj} (h:o9 I w F μ P (π id) (o.cq π)) (gS:o.in A=true) (hg:∀ g m,μ' id g=some m->μ (π id) g=some m)
 (hμ:∀ id,A id=true->∀ g m,μ (π id) g=some m->μ' id g=some m):o9 I w F μ' P id o:=by
 cases o with
 | arr size gen es exact fz row =>
   intro m hm;have a:=h m (hg _ _ hm);replace gS:(es.all λe=>e.all λv=>if row then v.bM else v.zM A)=true:=gS;rw[aj]at gS;obtain⟨cells,el,c1,c2,c3,c4,c5⟩:=a.cells;refine⟨a.eV,λe he=>?_,⟨cells,el,c1,c2,by simpa using c3,by simpa using c4,λk e j v he hv=>?_⟩,a.hf,a.hn⟩
   . have:=a.hlen (e.map (V.jl π)) (aI.2 ⟨e,he,rfl⟩);simpa using this
   . have gw:=gS e (aC he);rw[aj]at gw;have gE:=gw v (aC hv);obtain⟨y,y1,y2,y3⟩:=c5 k (e.map (V.jl π)) j (v.jl π) (by simp[he]) (by simp[hv])
     cases row with
     | true =>
       replace gE:v.bM=true:=gE;rw[V.jP gE]at y3;exact⟨y,y1,.pure (y3 rfl),y3⟩
     | false =>
       replace gE:v.zM A=true:=gE;exact⟨y,y1,y2.zhM gE hμ,λh=>by cases h⟩
 |mp es=>exactλm hm=>h m (hg _ _ hm)
 |lp a b c d e f=>cases gS
theorem o9.back {id:Nat} {o:Obj} (h:o9 I w F μ P id o) (gS:o.in A=true) (hg:∀ g m,μ' (π id) g=some m->μ id g=some m)
 (hμ:∀ id,A id=true->∀ g m,μ id g=some m->μ' (π id) g=some m):o9 I w F μ' P (π id) (o.cq π):=by
 cases o with
 | arr size gen es exact fz row =>
   intro m hm;have a:=h m (hg _ _ hm);replace gS:(es.all λe=>e.all λv=>if row then v.bM else v.zM A)=true:=gS;rw[aj]at gS;obtain⟨cells,el,c1,c2,c3,c4,c5⟩:=a.cells;refine⟨a.eV,λe he=>?_,⟨cells,el,c1,c2,by simpa using c3,by simpa using c4,λk e j v he hv=>?_⟩,a.hf,a.hn⟩
   . obtain⟨e0,h0,rfl⟩:=aI.1 he;simpa using a.hlen e0 h0
   . rw[bC,bG]at he;obtain⟨e0,HM,rfl⟩:=he;rw[bC,bG]at hv;obtain⟨v0,ov,rfl⟩:=hv;have gw:=gS e0 (aC HM);rw[aj]at gw;have gE:=gw v0 (aC ov);obtain⟨y,y1,y2,y3⟩:=c5 k e0 j v0 HM ov
     cases row with
     | true =>
       replace gE:v0.bM=true:=gE;rw[V.jP gE];exact⟨y,y1,.pure (y3 rfl),y3⟩
     | false =>
       replace gE:v0.zM A=true:=gE;exact⟨y,y1,y2.zhF gE hμ,λh=>by cases h⟩
 |mp es=>exactλm hm=>h m (hg _ _ hm)
 |lp a b c d e f=>cases gS
end
mutual
def gX:V->V
 |.aE=>.sl [] false
 |.sl es _=>.sl (gT es) false
 |.ref cs=>.ref (fI cs)
 |.agg cs=>.agg (fI cs)
 |.tuple cs=>.tuple (fI cs)
 |.iface t v=>.iface t (gX v)
 |v=>v
def fI:Z V->Z V
 | []=>[]
 |v::l=>gX v::fI l
def gT:Z (Z V)->Z (Z V)
 | []=>[]
 |v::l=>fI v::gT l
end
theorem mK:∀ l,fI l=l.map gX:=by
 intro l
 induction l with
 |nil=>simp[fI]
 |cons v l ih=>simp[fI,ih]
def Cv:∀ l,gT l=l.map fI:=by
 intro l
 induction l with
 |nil=>simp[gT]
 |cons v l ih=>simp[gT,ih]
section
variable {w:World}{F:Nat->Prop}
def fG.norm{v:V}{x:Value}(h:fG I w F v x):fG I w F (gX v) x:=by
 induction h with
 |bool b=>exact .bool b
 |int k n=>exact .int k n
 |str s=>exact .str s
 |c9=>exact .c9
 |aE=>exact .po none 0 false (λh=>by cases h)
 |dj=>exact .dj
 |nilFunc=>exact .nilFunc
 |nilIface=>exact .nilIface
 |sym k=>exact .sym k
 |func f=>exact .func f
 |iface t v y _ ih=>exact .iface t _ y ih
 | ref cs b off ys hb hc _ ih =>
   show fG I w F (.ref (fI cs)) _;rw[mK];refine .ref _ b off ys hb (λi v hi=>?_) (λi v hi=>?_)
   . rw[bC,bG]at hi;obtain⟨u,hu,rfl⟩:=hi;exact hc i u hu
   . rw[bC,bG]at hi;obtain⟨u,hu,rfl⟩:=hi;exact ih i u hu
 |po a c t h=>exact .po a c false (λh=>by cases h)
 | qe es b off size c t ys hb hl hc _ M O ih =>
   show fG I w F (.sl (gT es) false) _;rw[Cv];have hlen:(es.map fI).length=es.length:=aL ..;rw[<- hlen]
   have FF:∀ (i:Nat) (e:Z V),(es.map fI)[i]?=some e->∃ e0:Z V,es[i]?=some e0/\e=e0.map gX:=by
    intro i e hi;rw[bC,bG]at hi;obtain⟨e0,h0,rfl⟩:=hi;exact⟨e0,h0,mK _⟩
   refine .qe _ b off size c false ys hb (λe he=>?_) (λi e j v hi hj=>?_) (λi e j v hi hj=>?_) (by rw[hlen];exact M) (λh=>by cases h)
   . obtain⟨e0,h0,rfl⟩:=aI.1 he;rw[mK,aL];exact hl e0 h0
   . obtain⟨e0,h0,rfl⟩:=FF i e hi;rw[bC,bG]at hj;obtain⟨u,hu,rfl⟩:=hj;exact hc i e0 j u h0 hu
   . obtain⟨e0,h0,rfl⟩:=FF i e hi;rw[bC,bG]at hj;obtain⟨u,hu,rfl⟩:=hj;exact ih i e0 j u h0 hu
 | agg cs ys C _ ih =>
   show fG I w F (.agg (fI cs)) _;rw[mK];refine .agg _ ys (by simpa using C) λi v hi=>?_
   rw[bC,bG]at hi;obtain⟨u,hu,rfl⟩:=hi;exact ih i u hu
 | tuple cs ys C _ ih =>
   show fG I w F (.tuple (fI cs)) _;rw[mK];refine .tuple _ ys (by simpa using C) λi v hi=>?_
   rw[bC,bG]at hi;obtain⟨u,hu,rfl⟩:=hi;exact ih i u hu
end
section
variable {w w':World}{F F':Nat->Prop}{μ μ':Nat->Nat->Y MI}
theorem dV.norm{v:V}{x:Value}(h:dV I w F μ v x):dV I w F μ (gX v) x:=by
 induction h with
 |pure h=>exact .pure h.norm
 |ptr id g off m hm=>simpa [gX]using dV.ptr id g off m hm
 |own id g off len cap c m hm M O h3 h4=>simpa [gX]using dV.own id g off len cap c m hm M O h3 h4
 |map id m hm=>simpa [gX]using dV.map id m hm
 |ly id m hm=>simpa [gX]using dV.ly id m hm
 |func f cs ys M O _=>simpa [gX]using dV.func f cs ys M O
 |iface t v y _ ih=>simpa [gX]using dV.iface t _ y ih
 | agg cs ys M _ ih =>
   simp only[gX,mK];refine .agg _ ys (by simpa using M) λi v hi=>?_
   grind
 | tuple cs ys M _ ih =>
   simp only[gX,mK];refine .tuple _ ys (by simpa using M) λi v hi=>?_
   grind
def TW:Obj->Obj
 |.arr s g es x z r=>.arr s g (es.map fI) x z r
 |o=>o
def zjr(o:Obj):(TW o).gen=o.gen:=by cases o<;>rfl
def znr(o:Obj):(TW o).fz=o.fz:=by cases o<;>rfl
def o9.norm{id:Nat}{o:Obj}(h:o9 I w F μ P id o):o9 I w F μ P id (TW o):=by
 cases o with
 | arr size gen es exact fz row =>
   intro m hm;have a:=h m hm;obtain⟨cells,el,c1,c2,c3,c4,c5⟩:=a.cells;refine⟨a.eV,λe he=>?_,⟨cells,el,c1,c2,by simpa using c3,by simpa using c4,λk e j v he hv=>?_⟩,a.hf,a.hn⟩
   . obtain⟨e0,h0,rfl⟩:=aI.1 he;rw[mK,aL];exact a.hlen e0 h0
   . rw[bC,bG]at he;obtain⟨e0,HM,rfl⟩:=he;rw[mK,bC,bG]at hv;obtain⟨v0,ov,rfl⟩:=hv;obtain⟨y,y1,y2,y3⟩:=c5 k e0 j v0 HM ov;exact⟨y,y1,y2.norm,λhr=>(y3 hr).norm⟩
 |mp es=>exact h
 |lp a b c d e f=>exact h
end
section
variable {w w':World}{F F':Nat->Prop}{μ μ':Nat->Nat->Y MI}{π:Nat->Nat}{A:Nat->Bool}
structure Start where
 dy:Nat->Prop
 w:World
 F:Nat->Prop
 k:Nat
 μ:Nat->Nat->Option MI
structure Loc(s:Start)(w:World)(F:Nat->Prop)(μ:Nat->Nat->Option MI)(C:HS):Prop where
 io:Io s.w w
 size:s.w.heap.size<=w.heap.size
 bw:∀ b,b<s.w.heap.size->¬ s.dy b->w.heap[b]?=s.w.heap[b]?
 fm:∀ b,s.F b->F b
 Ci:∀ b,F b->s.F b\/s.w.heap.size<=b\/s.dy b
 mm:∀ id g m,id<s.k->s.μ id g=some m->μ id g=some m
 own:∀ b,zu C μ b->s.dy b\/s.w.heap.size<=b
 zrF:∀ id,id<s.k->C.H.get id≠none
 dm:∀ id,id<s.k->(∀ g,s.μ id g=none)->∀ g,μ id g=none
 mn:∀ id g m,μ id g=some m->s.w.heap.size<=m.b\/∃ i j m0,s.μ i j=some m0/\m0.b=m.b
theorem Loc.step{s:Start}(h:Loc s w F μ C)(f:Fr w F μ C w' F' μ' a8):Loc s w' F' μ' a8 where
 io:=h.io.trans f.io
 size:=aO h.size f.size
 bw b hb hn:=by
  rw[f.bw b (bY hb h.size) (λho=>(h.own b ho).elim hn (λqS=>by omega)),h.bw b hb hn]
 fm b hb:=f.fm b (h.fm b hb)
 Ci b hb:=by
  rcases f.Ci b hb with M|M|M
  . exact h.Ci b M
  . exact .inr (.inl (aO h.size M))
  . rcases h.own b M with O|O
    . exact .inr (.inr O)
    . exact .inr (.inl O)
 mm id g m hk hm:=f.mm _ _ _ (h.mm _ _ _ hk hm)
 own b hb:=by
  rcases f.own b hb with M|M
  . exact h.own b M
  . exact .inr (aO h.size M)
 zrF id hk:=f.hm id (h.zrF id hk)
 dm id hk hg:=f.dm id (h.zrF id hk) (h.dm id hk hg)
 mn id g m hm:=by
  rcases f.mn id g m hm with M|⟨i,j,m0,M,O⟩
  . exact .inl (aO h.size M)
  . rcases h.mn i j m0 M with h3|⟨i',j',m1,h3,h4⟩
    . exact .inl (O ▸ h3)
    . exact .inr ⟨i',j',m1,h3,h4.trans O⟩
def Z9(μ:Nat->Nat->Y MI)(C:HS):Prop:=∀ id g,μ id g≠none->C.H.get id≠none
theorem Z9.cr(h:Z9 μ C):Ol (λ_=>False) μ C:=⟨λid g hg=>.inl (h id g hg),λ_ _ h=>h⟩
def Ol.zKD(h:Ol (λ_=>False) μ C):Z9 μ C:=λid g hg=>(h.1 id g hg).elim (λh=>h) False.elim
def Lt (I:Nat->Value) (P:Program) (k:Nat) (rd:Bool) (sz:Nat) (c:Code) (T:PT V) (C:HS) (Q:Ex->PT V->HS->Prop):Prop :=
 ∀ (s:Start) (N:NB) (r:Y Nat) (w:World) (F:Nat->Prop) (μ:Nat->Nat->Y MI) (a:Act) (K:Exit->Act->World->Prop),s.k=k->((rd=false->r=none)/\N.plain=false)->Loc s w F μ C->R I w F μ P C->Z9 μ C->kH I w F μ T a.tmps->sz<=a.tmps.size->Marks N w a.defers ->
   (∀ ex T' a8 a' w' F' μ',Q ex T' a8->Loc s w' F' μ' a8->R I w' F' μ' P a8->Z9 μ' a8->kH I w' F' μ' T' a'.tmps->a'.tmps.size=a.tmps.size->Marks N w' a'.defers->K (zoB ex) a' w')->c.wpIn (Wr r) 0 P K a w
variable {k:Nat}{rd:Bool}{sz:Nat}{c:Code}{T:PT V}{Q Q':Ex->PT V->HS->Prop}
def zhQ(h:Lt I P k rd sz c T C Q)(hq:∀ e T C,Q e T C->Q' e T C):Lt I P k rd sz c T C Q' :=
 λs N r w F μ a K hk hr hL hR hD hT b8 hM hK=>h s N r w F μ a K hk hr hL hR hD hT b8 hM λex T' a8 a' w' F' μ' q=>hK ex T' a8 a' w' F' μ' (hq _ _ _ q)
def zyF(hρ:Good I)(aq:bH I E)(hP:E.P.follows .mixedOrders=true)(hN:vK E.P){ex:Ex}{T':PT V}(h:(rF E n).code rd sz c T C=some (ex,T',a8))(hq:Q ex T' a8):Lt I E.P k rd sz c T C Q:=by
 intro s N r w F μ a K hk hr hL hR hD hT b8 hM hK;have cE:=zoC hρ aq hP hN n;refine cE.code h N (λ_=>False) r w F μ a K hr hR hD.cr (pj.no _) hT b8 hM ?_;intro a' w' F' μ' tM hT' Fm hM' AG;exact hK ex T' a8 a' w' F' μ' hq (hL.step AG) tM (AG.cr (cE.kept.code h).le hD.cr).zKD hT' Fm hM'
def ztH(h:Q .normal T C):Lt I P k rd sz .skip T C Q :=
 λ_ _ _ w F μ a _ _ _ hL hR hD hT _ hM hK=>wpIn_skip (hK _ _ _ a w F μ h hL hR hD hT rfl hM)
def ztK(h:Q (.exit i) T C):Lt I P k rd sz (.exit i) T C Q :=
 λ_ _ _ w F μ a _ _ _ hL hR hD hT _ hM hK=>wpIn_exit (hK _ _ _ a w F μ h hL hR hD hT rfl hM)
def zyG(h:Q .ret T C):Lt I P k rd sz .ret T C Q :=
 λ_ _ _ w F μ a _ _ _ hL hR hD hT _ hM hK=>wpIn_ret (hK _ _ _ a w F μ h hL hR hD hT rfl hM)
theorem zyE{x y:Code}(h:Lt I P k rd sz x T C (Ex.then (λT C=>Lt I P k rd sz y T C Q) Q)):Lt I P k rd sz (.seq x y) T C Q:=by
 intro s N r w F μ a K hk hr hL hR hD hT b8 hM hK;refine wpIn_seq (h s N r w F μ a _ hk hr hL hR hD hT b8 hM ?_);intro ex T1 cm a1 w1 F1 μ1 q sx F5 tP j8 eE qT
 cases ex with
 | normal =>
   refine q s N r w1 F1 μ1 a1 K hk hr sx F5 tP j8 (by rw[eE];exact b8) qT ?_
   grind
 |ret=>exact hK .ret T1 cm a1 w1 F1 μ1 q sx F5 tP j8 eE qT
 |exit i=>exact hK (.exit i) T1 cm a1 w1 F1 μ1 q sx F5 tP j8 eE qT
def ztL{x y:Code}{t:Bool}(hq:bV T q=some (.bool t))(h:if t=true then Lt I P k rd sz x T C Q else Lt I P k rd sz y T C Q):Lt I P k rd sz (.cond q x y) T C Q:=by
 intro s N r w F μ a K hk hr hL hR hD hT b8 hM hK;refine wpIn_cond (dJ (a:=a) hT hq).uE ?_
 cases t with
 |true=>exact h s N r w F μ a K hk hr hL hR hD hT b8 hM hK
 |false=>exact h s N r w F μ a K hk hr hL hR hD hT b8 hM hK
def zpx{x:Code}(h:Lt I P k rd sz x T C (Ex.inBlock i Q)):Lt I P k rd sz (.block i x) T C Q:=by
 intro s N r w F μ a K hk hr hL hR hD hT b8 hM hK;refine wpIn_block (h s N r w F μ a _ hk hr hL hR hD hT b8 hM ?_);intro ex T1 cm a1 w1 F1 μ1 q sx F5 tP j8 eE qT
 cases ex with
 |normal=>exact hK .normal T1 cm a1 w1 F1 μ1 q sx F5 tP j8 eE qT
 |ret=>exact hK .ret T1 cm a1 w1 F1 μ1 q sx F5 tP j8 eE qT
 | exit j =>
   show (if j=i then K .normal a1 w1 else K (.exit j) a1 w1);replace q:(if j=i then Q .normal T1 cm else Q (.exit j) T1 cm):=q;split
   . rename_i e;rw[if_pos e]at q;exact hK .normal T1 cm a1 w1 F1 μ1 q sx F5 tP j8 eE qT
   . rename_i e;rw[if_neg e]at q;exact hK (.exit j) T1 cm a1 w1 F1 μ1 q sx F5 tP j8 eE qT
def zK8(I:Nat->Value)(P:Program)(k:Nat)(rd:Bool)(sz:Nat)(c:Code)(Q:Ex->PT V->HS->Prop):Nat->PT V->HS->Prop
 | 0,_,_=>False
 |n+1,T,C=>Lt I P k rd sz c T C (Ex.then (zK8 I P k rd sz c Q n) Q)
theorem ztJ(h:zK8 I P k rd sz c Q n T C):Lt I P k rd sz (.loop c) T C Q:=by
 intro s N r w F μ a K hk hr hL hR hD hT b8 hM hK;refine wpIn_loop_rounds n ?_
 induction n generalizing T C w F μ a with
 |zero=>exact h.elim
 | succ n ih =>
   refine h s N r w F μ a _ hk hr hL hR hD hT b8 hM ?_;intro ex T1 cm a1 w1 F1 μ1 q sx F5 tP j8 eE qT
   cases ex with
   | normal =>
     refine ih q w1 F1 μ1 a1 sx F5 tP j8 (by rw[eE];exact b8) qT ?_
     grind
   |ret=>exact hK .ret T1 cm a1 w1 F1 μ1 q sx F5 tP j8 eE qT
   |exit i=>exact hK (.exit i) T1 cm a1 w1 F1 μ1 q sx F5 tP j8 eE qT
structure aw(k:Nat)(T:PT V)(C:HS)(T2:PT V)(dt:HS):Prop where
 ex:∃ (π:Nat->Nat) (A:Nat->Bool),(∀ id,A id=true↔dt.H.get id≠none)/\(∀ t v,T2.get t=some v->v.tJ A=true/\∃ u,T.get t=some u/\(u=v.cq π\/gX u=v.cq π)) /\
  (∀ id o,dt.H.get id=some o->o.in A=true/\∃ q,C.H.get (π id)=some q/\(q=o.cq π\/TW q=o.cq π))/\(∀ i j,A i=true->A j=true->π i=π j->i=j)/\(∀ id,id<k->π id=id/\A id=true)
theorem aw.state{s:Start}{T2:PT V}(h:aw s.k T C T2 dt)(hL:Loc s w F μ C)(hR:R I w F μ P C)(hT:kH I w F μ T tm) :
 ∃ μ2,Loc s w F μ2 dt/\R I w F μ2 P dt/\Z9 μ2 dt/\kH I w F μ2 T2 tm:=by
 obtain⟨π,A,hA,M,LO,h3,h4⟩:=h.ex
 have O:∀ id o,dt.H.get id=some o->o.in A=true/\∃ q,C.H.get (π id)=some q/\q.gen=(o.cq π).gen/\q.fz=(o.cq π).fz/\o9 I w F μ P (π id) (o.cq π):=by
  intro id o ho;obtain⟨g1,q,g2,g3⟩:=LO id o ho;refine⟨g1,q,g2,?_⟩;rcases g3 with g3|g3
  . subst g3;exact⟨rfl,rfl,hR.obj _ _ g2⟩
  . rw[<- g3];exact⟨(zjr q).symm,(znr q).symm,(hR.obj _ _ g2).norm⟩
 refine⟨λid g=>if A id=true then μ (π id) g else none,?_,?_,?_,?_⟩
 . refine⟨hL.io,hL.size,hL.bw,hL.fm,hL.Ci,λid g m hk hm=>?_,?_,λid hk=>(hA id).1 (h4 id hk).2,λid hk hg g=>?_,λid g m hm=>?_⟩
   . show (if A id=true then μ (π id) g else none)=_;rw[if_pos (h4 id hk).2,(h4 id hk).1];exact hL.mm id g m hk hm
   . rintro b ⟨id,o,m,ho,hz,hm,rfl⟩;have zAe:=(hA id).2 (by rw[ho];simp);replace hm:(if A id=true then μ (π id) o.gen else none)=some m:=hm;rw[if_pos zAe]at hm;obtain⟨_,q,q1,q2,q3,_⟩:=O id o ho;exact hL.own _ ⟨π id,q,m,q1,by rw[q3,Obj.YJ];exact hz,by rw[q2,Obj.Gc];exact hm,rfl⟩
   . show (if A id=true then μ (π id) g else none)=_;rw[if_pos (h4 id hk).2,(h4 id hk).1];exact hL.dm id hk hg g
   . replace hm:(if A id=true then μ (π id) g else none)=some m:=hm;split at hm
     . exact hL.mn _ g m hm
     . cases hm
 . refine⟨λid g m hm=>?_,hR.Bj,λid o ho=>?_,λid jx o o' m m' ho h1 hm eR hb=>?_,λid o ho g hg=>?_,hR.gl⟩
   . replace hm:(if A id=true then μ (π id) g else none)=some m:=hm;split at hm
     . exact hR.lt _ g m hm
     . cases hm
   . grind [id,o9.AN]
   . have zAe:=(hA id).2 (by rw[ho];simp);have zEu:=(hA jx).2 (by rw[h1];simp);replace hm:(if A id=true then μ (π id) o.gen else none)=some m:=hm;replace eR:(if A jx=true then μ (π jx) o'.gen else none)=some m':=eR;rw[if_pos zAe]at hm;rw[if_pos zEu]at eR;obtain⟨_,q,q1,q2,_⟩:=O id o ho;obtain⟨_,q',q1',q2',_⟩:=O jx o' h1;exact h3 _ _ zAe zEu (hR.inj _ _ _ _ m m' q1 q1' (by rw[q2,Obj.Gc];exact hm) (by rw[q2',Obj.Gc];exact eR) hb)
   . have zAe:=(hA id).2 (by rw[ho];simp);show (if A id=true then _ else _)=_;rw[if_pos zAe];obtain⟨_,q,q1,q2,_⟩:=O id o ho;exact hR.y7 _ _ q1 g (by rw[q2,Obj.Gc];exact hg)
 . intro id g hg
   grind
 . intro t v hv;obtain⟨g1,u,g2,g3⟩:=M t v hv;obtain⟨x,hx,hr⟩:=hT t _ g2
   have C6:dV I w F μ (v.cq π) x:=by
    rcases g3 with g3|g3
    . grind
    . rw[<- g3];exact hr.norm
   refine⟨x,hx,C6.AN g1 λi hi g m hm=>?_⟩
   grind
def zhR{T2:PT V}(h:aw k T C T2 dt)(hl:Lt I P k rd sz c T2 dt Q):Lt I P k rd sz c T C Q:=by
 intro s N r w F μ a K hk hr hL hR hD hT b8 hM hK;subst hk;obtain⟨μ2,sY,o4,Z2,AT⟩:=h.state hL hR hT;exact hl s N r w F μ2 a K rfl hr sY o4 Z2 AT b8 hM hK
theorem ztI{Q':Ex->PT V->HS->Prop}(hl:Lt I P k rd sz c T C Q')(h:∀ ex T1 cm,Q' ex T1 cm->∃ T2 dt,aw k T1 cm T2 dt/\Q ex T2 dt):Lt I P k rd sz c T C Q:=by
 intro s N r w F μ a K hk hr hL hR hD hT b8 hM hK;subst hk;refine hl s N r w F μ a K rfl hr hL hR hD hT b8 hM ?_;intro ex T1 cm a1 w1 F1 μ1 q sx F5 tP j8 eE qT;obtain⟨T2,dt,O,q2⟩:=h ex T1 cm q;obtain⟨μ2,sY,o4,Z2,AT⟩:=O.state sx F5 j8
 grind
end
section
variable {id:Nat}{T:PT V}{K:V->HS->Z Nat×Z Nat->Prop}{sz:Nat}{acc:Z (Z Nat×Z Nat)}{R:PT V->HS->Z (Z Nat×Z Nat)->Prop}
@[simp ↓] def zK6:Rd E sz [] id T C acc R=R T C acc:=(rfl)
@[simp ↓] theorem zHZ  {op:Op} {g:Y (Tmp×Bool)}  {l:Z SD}:Rd E sz (⟨d,op,g,lk⟩::l) id T C acc R=S8 E id (iA T lk) C ⟨d,op,g,lk⟩ λv a8 rw=>put sz T d v λT1=>Rd E sz l (id+1) T1 a8 (acc++[rw]) R:=by
  show (S8 E id (iA T lk) C ⟨d,op,g,lk⟩ λv a8 rw=>put sz T d v λT1=>Rd E sz l (id+1) T1 a8 (jY acc [rw]) R)=_
  simp_all
@[simp ↓] def zH9  {op:Op} :S8 E id T C ⟨d,op,none,lk⟩ K=Om E id T C op K:=(rfl)
@[simp ↓] def zIa  {op:Op} {t:Tmp} {w:Bool} :S8 E id T C ⟨d,op,some (t,w),lk⟩ K=ok (T.get t) λv=>ok (v.lE w) λq=>br (q=w) (Om E id T C op K) (K oD C ([],[])):=by
  simp only[zo2];rfl
def lf:HS:={ H:=.leaf,n:=0,log:=[] }
@[simp] def zNC:lf.H=.leaf:=(rfl)
def part(C:HS)(l:Z Nat):HS:={ H:=iA C.H l,n:=0,log:=[] }
@[simp] def zCT {l:Z Nat} {k:Nat}:(part C l).H.get k=if k∈l then C.H.get k else none:=zD _ _ _
@[simp] def zuu  {T:PT α} {l:Z Nat} {t:Nat}:(iA T l).get t=if t∈l then T.get t else none:=zD T l t
def bare(C:HS):HS:={ H:=C.H,n:=C.n,log:=[] }
@[simp] def zKX:(bare C).H=C.H:=(rfl)
@[simp] def zKW:(bare C).n=C.n:=(rfl)
@[simp] def zFd:(bare C).log=[]:=(rfl)
def zBy{op:Op}(h:lF op=false):Om E id T C op K=zls E id T C op K:=by
 cases op<;>first|rfl|cases h
def VP{op:Op}(hc:dR op=0)(hn:qE op=none)(hr:cN T op=[]):Om E id T C op K=ok (TP E.P true T lf id (VI op)) λr=>K r.1 C ([],[]):=by
 rw[zBy (by cases op<;>first|rfl|cases hc)];unfold zls;rw[hc,hr];cases op<;>first|rfl|(cases hn;done)|(cases hc;done)|(show ok (TP E.P true T { H:=iA C.H (cN T _),n:=0,log:=[] } id _) (λr=>K r.1 C (cN T _,[]))=_;rw[hr];rfl)
@[simp ↓] def zFE :Om E id T C (.move x) K=ok (bV T x) λv=>K v C ([],[]):=by
  rw[VP rfl rfl rfl];show ok (W (bV T x) λv=>some (v,lf)) _=_;simp only[iQ,dP]
@[simp ↓] def zyV :Om E id T C (.assign x) K=ok (bV T x) λv=>K v C ([],[]):=by
  rw[VP rfl rfl rfl];show ok (W (bV T x) λv=>some (v,lf)) _=_;simp only[iQ,dP]
@[simp ↓] def zFD {c b:Operand}:Om E id T C (.pick c a b) K=ok (bV T c) λv=>ok v.bool? λq=>ok (bi q (bV T a) (bV T b)) λv=>K v C ([],[]):=by
  rw[VP rfl rfl rfl];show ok (M8 T lf c a b) _=_;simp only[M8,iQ,dP]
@[simp ↓] def zBB {b:BinOp}  {y:Operand}:Om E id T C (.binOp b t x y u) K=ok (bV T x) λp=>ok (bV T y) λq=>ok (bi (I5 y) (znt E.P b t p) (RN E.P b t p q)) λv=>K v C ([],[]):=by
  rw[VP rfl rfl rfl];show ok (GN E.P T lf b t x y) _=_;simp only[GN,iQ,dP]
@[simp ↓] def zFC {b:UnOp}  :Om E id T C (.unOp b t x) K=ok (Qe T lf b x) λr=>K r.1 C ([],[]):=by
  rw[VP rfl rfl rfl];rfl
@[simp ↓] def zqG   :Om E id T C (.fieldAddr t x f) K=ok (ti E.P t) λi=>ok (bD i f) λfd=>ok (ti E.P fd.type) λfi=>nt (Nat.beq fi.size 0)=true/\ok (bV T x) λv=>ok (pK fd.offset v) λr=>K r C ([],[]):=by
  rw[VP rfl rfl rfl];show ok (qZ E.P T lf t x f) _=_;simp only[qZ,iQ,wz,dP]
@[simp ↓] def zqF  :Om E id T C (.indexAddr t x ix) K=ok (ti E.P t) λi=>ok (elemOf i.desc) λel=>ok (ti E.P el.1) λe=>ok (bV T x) λv=>ok (bV T ix) λn=>ok n.nat? λn=>ok (znY el.2 e n v) λr=>K r C ([],[]):=by
  rw[VP rfl rfl rfl];show ok (qW E.P T lf t x ix) _=_;simp only[qW,iQ,dP]
@[simp ↓] def zvB  {k:Nat}:Om E id T C (.extract x k) K=ok (bV T x) λv=>ok v.oy λvs=>ok (vQ vs k) λv=>K v C ([],[]):=by
  rw[VP rfl rfl rfl];show ok (yw T lf x k) _=_;simp only[yw,iQ,dP]
@[simp ↓] def zt0 :Om E id T C (.nilCheck x) K=ok (bV T x) λv=>notNil v=true/\K v C ([],[]):=by
  rw[VP rfl rfl rfl];show ok (uS T lf x) _=_;simp only[uS,iQ,wz,dP]
@[simp ↓] def zBA  :Om E id T C (.build t ps) K=ok (ti E.P t) λi=>ok (bi (iX i.desc) (gd (jH E.P (fieldsOf i.desc)) (Bu E.P T i ps.toList i.zero)) (W (zcX i.desc) λel=>W (ti E.P el) λe=>Cj T e.size ps.toList i.zero)) λcs=>K (.agg cs) C ([],[]):=by
  rw[VP rfl rfl rfl];show ok (yD E.P T lf t ps) _=_;unfold yD;simp only[iQ (ti E.P t)];congr 1;funext i;rw[iQ];congr 1;funext cs;rw[dP]
@[simp ↓] def zFF  :Om E id T C (.load t a) K=ok (ti E.P t) λi=>ok (bV T a) λp=>ok (Ha i (part C (oW p)) p) λv=>K v C (oW p,[]):=by
  show ok (Cf E.P T { H:=iA C.H (vP [] oW (bV T a)),n:=0,log:=[] } t a) (λr=>K r.1 C (vP [] oW (bV T a),[]))=_;simp only[Cf,iQ,dP]
  cases bV T a with
  | none =>
    congr 1;funext i
    exact propext ⟨λ⟨_,h,_⟩=>(by cases h),λ⟨_,h,_⟩=>(by cases h)⟩
  |some p=>simp only[dP,lJ];rfl
@[simp ↓] def zId  :Om E id T C (.call ⟨.builtin .len,#[a],ts⟩) K=ok (bV T a) λv=>ok (IZ E.P (part C (oW v)) ts.toList [v]) λr=>K r.1 C (oW v,[]):=by
  show (ok (ku T [a]) λvs=>ok (IZ E.P { H:=iA C.H (vP [] oW (bV T a)),n:=0,log:=[] } ts.toList vs) λr=>K r.1 C (vP [] oW (bV T a),[]))=_;simp only[ZB,zch,iQ,dP]
  cases bV T a with
  |none=>exact propext ⟨λ⟨_,h,_⟩=>(by cases h),λ⟨_,h,_⟩=>(by cases h)⟩
  |some p=>simp only[dP,lJ];rfl
@[simp ↓] def zIb {xs:Array Operand} :Om E id T C (.call ⟨.builtin .min,xs,ts⟩) K=ok (ku T xs.toList) λvs=>ok (uT lf true vs) λr=>K r.1 C ([],[]):=(rfl)
@[simp ↓] def zIc {xs:Array Operand} :Om E id T C (.call ⟨.builtin .max,xs,ts⟩) K=ok (ku T xs.toList) λvs=>ok (uT lf false vs) λr=>K r.1 C ([],[]):=(rfl)
def zm2{k:Nat}{o:Obj}:(C.put k o).H.get k=some o:=by rw[ma,if_pos rfl]
@[simp ↓] def zBC :Om E id T C (.alloc t) K=(C.H.get id=none/\ok (ti E.P t) λi=>Nat.beq (dA i.zero) i.size=true/\K (.ptr id 0 0) (C.put id (.arr i.size 0 [i.zero] true false false)) ([id],[])):=by
  show (_/\ok (Bv E.P lf id t) λr=>ok (r.2.H.get id) λo'=>o'.fz=false/\K r.1 (C.put id o') ([id],[]))=_;simp[Bv,iQ,wz,dP,zm2,Obj.fz]
@[simp ↓] def zp3   :Om E id T C (.buildSlice t n ps) K=(C.H.get id=none/\ok (jT E.P true T lf id t n ps) λr=>ok (r.2.H.get id) λo'=>o'.fz=false/\K r.1 (C.put id o') ([id],[])):=(rfl)
@[simp ↓] def zqE  {l c:Operand}:Om E id T C (.makeSlice t l c) K=(C.H.get id=none/\ok (mo E.P T lf id t l c) λr=>ok (r.2.H.get id) λo'=>o'.fz=false/\K r.1 (C.put id o') ([id],[])):=(rfl)
@[simp] def zCH {H H2:PT Obj}:II H H2 []=H:=(rfl)
@[simp] def zzq {H H2:PT Obj} {k:Nat} :II H H2 (k::X)=vP (II H H2 X) (λo=>(II H H2 X).set k o) (H2.get k):=(rfl)
@[simp] def zDN:Wd []=[]:=(rfl)
@[simp] def zz7 {c:V} {l:Z V}:Wd (c::l)=oW c++Wd l:=by show jY (oW c) (Wd l)=_;rw[oo]
@[simp] def zzG  {n:Int}:oW (.int k n)=[]:=(rfl)
@[simp] def zwE :oW (.bool b)=[]:=(rfl)
@[simp] def zzC {b:Z Nat}:oW (.str b)=[]:=(rfl)
@[simp] def zCY {b:Z (Z V)} {t:Bool}:oW (.sl b t)=[]:=(rfl)
@[simp] def zwD:oW .aE=[]:=(rfl)
@[simp] def zCk :zr C (.ptr i g o)=pr C i:=(rfl)
def zgE(C:HS)(p v:V):Z Nat:=oW p++bi (zr C p) (Wd v.cells) []
@[simp] def zFZ {p v:V}:zgE C p v=oW p++bi (zr C p) (Wd v.cells) []:=(rfl)
@[simp ↓] def zBz  :Om E id T C (.store t a x) K=(C.H.get id=none/\ok (ti E.P t) λi=>ok (bV T a) λp=>ok (bV T x) λv=>ok (EA i (part C (zgE C p v)) p v) λO =>
 K oD { H:=II C.H O.H (zgE C p v),n:=C.n,log:=O.log++C.log } (zgE C p v,O.log)):=by
  show (_/\ok (nz E.P T { H:=iA C.H (vP [] (λp=>jY (oW p) (bi (zr C p) (vP [] (λv=>Wd v.cells) (bV T x)) [])) (bV T a)),n:=0,log:=[] } t a x) λr=>K r.1 { H:=II C.H r.2.H (vP [] (λp=>jY (oW p) (bi (zr C p) (vP [] (λv=>Wd v.cells) (bV T x)) [])) (bV T a)),n:=C.n,log:=jY r.2.log C.log } (vP [] (λp=>jY (oW p) (bi (zr C p) (vP [] (λv=>Wd v.cells) (bV T x)) [])) (bV T a),r.2.log))=_;simp only[nz,iQ,dP,oo]
  cases bV T a with
  |none=>congr 1;exact propext ⟨λ⟨_,_,_,h,_⟩=>(by cases h),λ⟨_,_,_,h,_⟩=>(by cases h)⟩
  | some p =>
    cases bV T x with
    |none=>congr 1;exact propext ⟨λ⟨_,_,_,_,_,h,_⟩=>(by cases h),λ⟨_,_,_,_,_,h,_⟩=>(by cases h)⟩
    |some v=>simp only[dP,lJ];rfl
@[simp ↓] theorem zFG  {xs:Array Operand} :Om E id T C (.call ⟨.value x,xs,ts⟩) K=(C.H.get id=none/\ok (bV T x) λv=>ok (funcOf v) λp=>ok (ku T xs.toList) λvs=>ok (E.dE p.1 (jY vs p.2) (bare C)) λr=>K r.1 { H:=r.2.H,n:=r.2.n,log:=r.2.log++C.log } ([],r.2.log)):=by
  show (_/\ok (bV T x) λv=>ok (funcOf v) λp=>ok (ku T xs.toList) λvs=>ok (E.dE p.1 (jY vs p.2) (bare C)) λr=>K r.1 { H:=r.2.H,n:=r.2.n,log:=jY r.2.log C.log } ([],r.2.log))=_
  simp_all
@[simp ↓] theorem zyW {xs:Array Operand} :Om E id T C (.call ⟨.builtin .append,xs,ts⟩) K=(C.H.get id=none/\ok (ku T xs.toList) λvs=>ok (z8 E.P (bare C) id ts.toList vs) λr=>K r.1 { H:=r.2.H,n:=r.2.n,log:=r.2.log++C.log } ([],r.2.log)):=by
  show (_/\ok (ku T xs.toList) λvs=>ok (z8 E.P (bare C) id ts.toList vs) λr=>K r.1 { H:=r.2.H,n:=r.2.n,log:=jY r.2.log C.log } ([],r.2.log))=_
  simp_all
@[simp] def zzE :oW (.ptr i g o)=[i]:=(rfl)
@[simp] def zzF  :oW (.own i g o n c)=[i]:=(rfl)
@[simp] def zzD {c:Z V}:oW (.ref c)=[]:=(rfl)
@[simp] def ztE {all:Z (Z Nat×Z Nat)}  :wG all [] j bs=true:=(rfl)
@[simp] def zqw {all l:Z (Z Nat×Z Nat)}  {m:Nat} :wG all (r::l) j (m::bs)=et (GK m r all 0 j) (wG all l (j+1) bs):=(rfl)
@[simp] def zvn {m:Nat} {q:Z Nat×Z Nat} {l:Z (Z Nat×Z Nat)}:GK m r (q::l) i j=if i<j then ((tb m i||!(meet q.1 r.2||meet r.1 q.2))&&GK m r l (i+1) j)else true:=by
  show bi (Nat.blt i j) (et (bi (tb m i) true (nt (bi (meet q.1 r.2) true (meet r.1 q.2)))) (GK m r l (i+1) j)) true=_;simp[iO,gz,Xn,KI,tb,meet]
@[simp] def zDs :meet [] m=false:=(rfl)
@[simp] def zwZ {l:Z Nat}:meet l []=false:=by
  induction l with
  |nil=>rfl
  |cons x l ih=>show bi (Kl x []) true (meet l [])=false;rw[ih];rfl
@[simp] theorem zDr {x y:Nat}:meet [x] [y]=decide (x=y):=by
  show bi (bi (Nat.beq x y) true false) true false=_
  simp_all
@[simp] theorem zIB {m:Nat}:tb m i=decide (m / 2 ^ i % 2=1):=by unfold tb;rw[ztu]
end
end Go.J
universe u
namespace Go.J
inductive Tg {α:Sort u} (a:α):Type where
 |mk
def Cu{α:Type}(x:Y α)(K:α->Prop)(_t:Tg K:=.mk):Prop:=ok x K
def zHM(c A B:Prop)(_t:Tg A:=.mk)(_u:Tg B:=.mk):Prop:=br c A B
@[simp ↓ high] def zNv {α:Type} (x:Y α) (K:α->Prop):ok x K=Cu x K:=(rfl)
@[simp ↓ high] def zOn (c A B:Prop):br c A B=zHM c A B:=(rfl)
@[simp ↓] def znl {α:Type} (a:α) (K:α->Prop):Cu (some a) K=K a:=dP a K
@[simp ↓] def zwA {α β:Type} (x:Y α) (f:α->Y β) (K:β->Prop):Cu (W x f) K=Cu x λa=>Cu (f a) K:=iQ x f K
@[simp ↓] def zwB {α:Type} (c:Bool) (x:Y α) (K:α->Prop):Cu (gd c x) K=(c=true/\Cu x K):=wz c x K
attribute [simp] znl zwA zwB
@[simp ↓] def zo3 (A B:Prop):zHM True A B=A:=zhB A B
@[simp ↓] def zkJ (A B:Prop):zHM False A B=B:=zcO A B
attribute [simp] zo3 zkJ
def EU{c A B:Prop}(M:c->A)(O:¬ c->B):zHM c A B:=⟨M,O⟩
def dW{α:Type}:Z (Nat×α)->PT α
 | []=>.leaf
 |p::l=>(dW l).set p.1 p.2
def cr{α:Type}(l:Z (Nat×α))(id:Nat):Bool:=l.any λp=>Nat.beq p.1 id
theorem Ag{α:Type}:∀ {l:Z (Nat×α)} {t:Nat} {v:α},(dW l).get t=some v->(t,v)∈l:=by
 intro l
 induction l with
 |nil=>intro t v h;cases h
 | cons p l ih =>
   intro t v h;replace h:((dW l).set p.1 p.2).get t=some v:=h;rw[PT.cK]at h
   grind
theorem zgZ{α:Type}:∀ {l:Z (Nat×α)} {id:Nat},cr l id=true↔(dW l).get id≠none:=by
 intro l
 induction l with
 |nil=>intro id;exact⟨λh=>(by cases h),λh=>absurd rfl h⟩
 | cons p l ih =>
   intro id;show (Nat.beq p.1 id||cr l id)=true↔((dW l).set p.1 p.2).get id≠none;rw[PT.cK,iJ,beq_true,ih]
   grind
def cd:Z Nat->Bool
 | []=>true
 |x::l=>!(l.any (Nat.beq x))&&cd l
theorem O1:∀ {l:Z Nat},cd l=true->l.Nodup:=by
 intro l
 induction l with
 |nil=>intro _;exact kL
 | cons x l ih =>
   intro h;simp only[cd,aQ,Bool.not_eq_true']at h
   grind [List.nodup_cons,Nat.beq,List.any_eq_true,beq_true]
def V.zrA(v:V):v.xW id=v:=by cases v<;>rfl
def V.zmZ:V.xW id=id:=funext V.zrA
def V.zgL(v:V):v.jl id=v:=by
 cases v<;>first|rfl|(simp[V.jl,V.zmZ])
def V.zbn:V.jl id=id:=funext V.zgL
theorem V.zd3(v:V):v.cq id=v:=by
 cases v<;>first|exact V.zgL _|(simp[V.cq,V.zbn])
theorem Obj.zd3(o:Obj):o.cq id=o:=by
 cases o<;>first|rfl|(simp[Obj.cq,V.zbn])
section
variable {k:Nat}{T:PT V}{C:HS}
def aw.lit (π:Nat->Nat) {TL:Z (Nat×V)} {HL:Z (Nat×Obj)} (n:Nat) (hT:∀ p∈TL,p.2.tJ (cr HL)=true/\T.get p.1=some (p.2.cq π))
 (hH:∀ p∈HL,p.2.in (cr HL)=true/\C.H.get (π p.1)=some (p.2.cq π)) (hi:cd (HL.map λp=>π p.1)=true) (hk:(List.range k).all (λi=>Nat.beq (π i) i&&cr HL i)=true) :
 aw k T C (dW TL) { H:=dW HL,n:=n,log:=[] } where
 ex := by
  refine⟨π,cr HL,λid=>zgZ,λt v hv=>⟨(hT (t,v) (Ag hv)).1,_,(hT (t,v) (Ag hv)).2,.inl rfl⟩,λid o ho=>⟨(hH (id,o) (Ag ho)).1,_,(hH (id,o) (Ag ho)).2,.inl rfl⟩,?_,λid hid=>?_⟩
  . intro i j ss qt e;have eN:=O1 hi
    have key:∀ (l:Z (Nat×Obj)),(l.map λp=>π p.1).Nodup->cr l i=true->cr l j=true->i=j:=by
     intro l
     induction l with
     |nil=>intro _ h;cases h
     | cons p l ih =>
       intro eN M O;rw[aR,iH]at eN;replace M:(Nat.beq p.1 i||cr l i)=true:=M;replace O:(Nat.beq p.1 j||cr l j)=true:=O;rw[iJ,beq_true]at M O
       have hm:∀ a,cr l a=true->π a∈l.map λp=>π p.1:=by
        intro a ha;obtain⟨q,hq,zJN⟩:=di.1 ha;exact aI.2 ⟨q,hq,by rw[beq_true.1 zJN]⟩
       rcases M with M|M<;>rcases O with O|O
       . rw[<- M,<- O]
       . exact absurd (by rw[M,e];exact hm j O) eN.1
       . exact absurd (by rw[O,<- e];exact hm i M) eN.1
       . exact ih eN.2 M O
    exact key HL eN ss qt
  . have:=aj.1 hk id (dB.2 hid);rw[aQ,beq_true]at this;exact this
theorem aw.bw{TL:Z (Nat×V)}{HL:Z (Nat×Obj)}(n:Nat)(hT:∀ p∈TL,p.2.tJ (cr HL)=true/\T.get p.1=some p.2)
 (hH:∀ p∈HL,p.2.in (cr HL)=true/\C.H.get p.1=some p.2) (hi:cd (HL.map λp=>p.1)=true) (hk:(List.range k).all (λi=>cr HL i)=true) :
 aw k T C (dW TL) { H:=dW HL,n:=n,log:=[] }:=by
 refine aw.lit id n (λp hp=>?_) (λp hp=>?_) hi ?_
 . grind [V.zd3]
 . grind [Obj.zd3]
 simp_all
end
section
variable {I:Nat->Value}{E:Env}{k sz:Nat}{s:SC}{T:PT V}{C:HS}{Q Q':Ex->PT V->HS->Prop}
def Ls(I:Nat->Value)(E:Env)(k sz:Nat)(s:SC)(T:PT V)(C:HS)(Q:Ex->PT V->HS->Prop)(_t:Tg Q:=.mk):Prop:=∀ c,aU c=some s->Lt I E.P k false sz c T C Q
def ua(I:Nat->Value)(E:Env)(k sz:Nat)(s:SC)(Q:Ex->PT V->HS->Prop)(n:Nat)(T:PT V)(C:HS)(_t:Tg Q:=.mk):Prop:=∀ c,aU c=some s->zK8 I E.P k false sz c Q n T C
def ru{n:Nat}(h:ua I E k sz s Q n T C):Ls I E k sz (.loop s) T C Q:=λc hc=>by
 obtain⟨x,rfl,hx⟩:=jf hc;exact ztJ (h x hx)
def Sl{T2:PT V}{dt:HS}(h:aw k T C T2 dt)(hl:Ls I E k sz s T2 dt Q):Ls I E k sz s T C Q:=λc hc=>zhR h (hl c hc)
def ztM(hl:Ls I E k sz s T C Q')(h:∀ ex T1 cm,Q' ex T1 cm->∃ T2 dt,aw k T1 cm T2 dt/\Q ex T2 dt):Ls I E k sz s T C Q:=λc hc=>ztI (hl c hc) h
def zdc(hρ:Good I)(aq:bH I E)(hP:E.P.follows .mixedOrders=true)(hN:vK E.P)(h:Js E false sz s T C Q):Ls I E k sz s T C Q:=λc hc=>by
 obtain⟨n,ex,T',a8,M,O⟩:=h c hc;exact zyF hρ aq hP hN M O
def zBc(I:Nat->Value)(E:Env)(k sz:Nat):SC->PT V->HS->(Ex->PT V->HS->Prop)->Prop
 |.skip,T,C,Q=>Q .normal T C
 |.ret,T,C,Q=>Q .ret T C
 |.exit i,T,C,Q=>Q (.exit i) T C
 |.w7 l,T,C,Q=>Rs E sz l C.n T { H:=C.H,n:=C.n+l.length,log:=C.log } λT C=>Q .normal T C
 |.draw l bs,T,C,Q=>Rd E sz l C.n T { H:=C.H,n:=C.n+l.length,log:=C.log } [] λT C acc=>wG acc acc 0 bs=true/\Q .normal T C
 |.seq a b,T,C,Q=>zBc I E k sz a T C (Ex.then (λT C=>zBc I E k sz b T C Q) Q)
 |.cond q a b,T,C,Q=>ok (bV T q) λv=>ok v.bool? λt=>if t=true then zBc I E k sz a T C Q else zBc I E k sz b T C Q
 |.block i a,T,C,Q=>zBc I E k sz a T C (Ex.inBlock i Q)
 |.loop a,T,C,Q=>Ls I E k sz (.loop a) T C Q
 |.range g ps a b,T,C,Q=>Ls I E k sz (.range g ps a b) T C Q
def Wp(I:Nat->Value)(E:Env)(k sz:Nat)(s:SC)(T:PT V)(C:HS)(Q:Ex->PT V->HS->Prop)(_t:Tg Q:=.mk):Prop:=zBc I E k sz s T C Q
theorem DF(hρ:Good I)(aq:bH I E)(hP:E.P.follows .mixedOrders=true)(hN:vK E.P):∀ {s:SC} {T:PT V} {C:HS} {Q:Ex->PT V->HS->Prop},Wp I E k sz s T C Q->Ls I E k sz s T C Q:=by
 intro s
 induction s with
 |skip=>intro T C Q h c hc;have e:c=.skip:=jf hc;subst e;exact ztH h
 |ret=>intro T C Q h c hc;have e:c=.ret:=jf hc;subst e;exact zyG h
 |exit i=>intro T C Q h c hc;have e:c=.exit i:=jf hc;subst e;exact ztK h
 |w7 l=>intro T C Q h;exact zdc hρ aq hP hN (PW h)
 |draw l bs=>intro T C Q h;exact zdc hρ aq hP hN (zhV h)
 | seq a b Fl UP =>
   intro T C Q h c hc;obtain⟨x,y,rfl,hx,hy⟩:=jf hc;refine zyE (zhQ (Fl h x hx) λe T C q=>?_)
   cases e with
   |normal=>exact UP q y hy
   |ret=>exact q
   |exit i=>exact q
 | cond q a b Fl UP =>
   intro T C Q h c hc;obtain⟨x,y,rfl,hx,hy⟩:=jf hc;obtain⟨v,hv,t,ht,h⟩:=h;rw[V.fL]at ht;subst ht;refine ztL hv ?_;split
   . rename_i e;rw[if_pos e]at h;exact Fl h x hx
   . rename_i e;rw[if_neg e]at h;exact UP h y hy
 | block i a Fl =>
   intro T C Q h c hc;obtain⟨x,rfl,hx⟩:=jf hc;exact zpx (Fl h x hx)
 |loop a _=>intro T C Q h;exact h
 |range g ps a b _ _=>intro T C Q h;exact h
def VE(hρ:Good I)(aq:bH I E)(hP:E.P.follows .mixedOrders=true)(hN:vK E.P){n:Nat}(h:∀ K:PT V->HS->Prop,(∀ T C,ua I E k sz s Q n T C->K T C)->Wp I E k sz s T C (Ex.then K Q)):ua I E k sz s Q (n+1) T C:=λc hc =>
 zhQ (DF hρ aq hP hN (h _ λ_ _ h=>h) c hc) λe T C q=>by
  cases e with
  |normal=>exact q c hc
  |ret=>exact q
  |exit i=>exact q
def gD{n:Nat}{T2:PT V}{dt:HS}(h:aw k T C T2 dt)(hl:ua I E k sz s Q n T2 dt):ua I E k sz s Q n T C:=λc hc=>by
 cases n with
 |zero=>exact(hl c hc).elim
 |succ n=>exact zhR h (hl c hc)
end
section
variable {I:Nat->Value}{E:Env}{k sz:Nat}{T:PT V}{C:HS}{Q:Ex->PT V->HS->Prop}
@[simp ↓] def zHT:Wp I E k sz .skip T C Q=Q .normal T C:=(rfl)
@[simp ↓] def zK2:Wp I E k sz .ret T C Q=Q .ret T C:=(rfl)
@[simp ↓] def zHV {i:Nat}:Wp I E k sz (.exit i) T C Q=Q (.exit i) T C:=(rfl)
@[simp ↓] def zK3 {l:Z vm}:Wp I E k sz (.w7 l) T C Q=Rs E sz l C.n T { H:=C.H,n:=C.n+l.length,log:=C.log } λT C=>Q .normal T C:=(rfl)
@[simp ↓] def zHW {l:Z SD} {bs:Z Nat}:Wp I E k sz (.draw l bs) T C Q=Rd E sz l C.n T { H:=C.H,n:=C.n+l.length,log:=C.log } [] λT C acc=>wG acc acc 0 bs=true/\Q .normal T C:=(rfl)
@[simp ↓] def zK1 {a b:SC}:Wp I E k sz (.seq a b) T C Q=Wp I E k sz a T C (Ex.then (λT C=>Wp I E k sz b T C Q) Q):=(rfl)
@[simp ↓] def zHX {q:Operand} {a b:SC}:Wp I E k sz (.cond q a b) T C Q=ok (bV T q) λv=>ok v.bool? λt=>br (t=true) (Wp I E k sz a T C Q) (Wp I E k sz b T C Q):=by
  simp only[zo2];rfl
@[simp ↓] def zFo {i:Nat} {a:SC}:Wp I E k sz (.block i a) T C Q=Wp I E k sz a T C (Ex.inBlock i Q):=(rfl)
@[simp ↓] def zFm {g:Operand} {ps:Array Tmp} {a b:SC}:Wp I E k sz (.range g ps a b) T C Q=Ls I E k sz (.range g ps a b) T C Q:=(rfl)
@[simp ↓] def zHU {a:SC}:Wp I E k sz (.loop a) T C Q=Ls I E k sz (.loop a) T C Q:=(rfl)
@[congr] def zFn {s:SC} {T':PT V} {a8:HS} (M:T=T') (O:C=a8):Wp I E k sz s T C Q=Wp I E k sz s T' a8 Q:=by rw[M,O]
@[congr] def zFu {s:SC} {T':PT V} {a8:HS} (M:T=T') (O:C=a8):Ls I E k sz s T C Q=Ls I E k sz s T' a8 Q:=by rw[M,O]
@[simp] def zGB {α:Type}:dW ([]:Z (Nat×α))=.leaf:=(rfl)
@[simp] def zDn {α:Type} {p:Nat×α} {l:Z (Nat×α)}:dW (p::l)=(dW l).set p.1 p.2:=(rfl)
end
section
variable {I:Nat->Value}{P:Program}{w w':World}{F F':Nat->Prop}{μ μ':Nat->Nat->Y MI}{C a8:HS}{T:PT V}
theorem zey{s:Start}{fn:Func}{tm:Array Value}{Rp:Ending->World->Prop}{N:Nat}(hN:s.w.heap.size<=N)
 (cH:∀ w,R I w F μ P C->kH I w F μ T tm->Loc s w F μ C->∃ v,(results fn tm).run P w=.ok v w/\Rp (.returned v) w):∀ (rs:Z Nat) (w:World),R I w F μ P C->kH I w F μ T tm->Loc s w F μ C->rs.Nodup ->
 (∀ r∈rs,N<=r/\w.heap[r]?=some (.deferred (some [])))->LeavesInM (Wr none) 0 P fn tm Rp (rs.map (λr=>{ target:=.collected r,args:=#[] })) .returning w:=by
 intro rs
 induction rs with
 |nil=>intro w hR hT hf _ _;exact cH w hR hT hf
 | cons r rs ih =>
   intro w hR hT hf eN b6;have hr:=b6 r (aD ..);refine⟨by simp,.inl ⟨r,qR w r,rfl,im hr.2,?_⟩⟩;have sL:=iH.1 eN;refine ih _ (hR.zlU hr.2) (λt v hv=>?_) ?_ sL.2 (λs C=>⟨(b6 s (aF _ C)).1,?_⟩)
   . obtain⟨x,hx,h⟩:=hT t v hv;exact⟨x,hx,h.cells (F7 hr.2)⟩
   . refine⟨hf.io,by simpa [qR]using hf.size,λb hb hn=>?_,hf.fm,hf.Ci,hf.mm,hf.own,hf.zrF,hf.dm,hf.mn⟩;rw[pG (by have:=hr.1;omega)];exact hf.bw b hb hn
   grind [pG,List.mem_cons_of_mem]
def Hr(I:Nat->Value)(P:Program)(s:Start)(K:V->HS->Prop):Ending->World->Prop
 |.returned x,w'=>∃ v a8 F' μ',K v a8/\Loc s w' F' μ' a8/\R I w' F' μ' P a8/\Z9 μ' a8/\dV I w' F' μ' v x
 |_,_=>False
def zcQ{E:Env}{f:FuncId}{fn:Func}{sc:SC}{vs:Z V}{k:Nat}{K:V->HS->Prop}(hf:E.P.funcs[f]?=some fn)(hb:fn.body.bind aU=some sc)(he:jE fn.ntmps vs 0 .leaf=some T)
 (h:Ls I E k fn.ntmps sc T C (Leaves E.P fn K)) {s:Start} {xs:Array Value} (hk:s.k=k) (hL:Loc s w F μ C) (hR:R I w F μ E.P C) (hD:Z9 μ C) (hA:Mq I w F μ vs xs):CallsIn Fence.wide 0 E.P f xs w (Hr I E.P s K):=by
 cases hc:fn.body with
 |none=>rw[hc]at hb;cases hb
 |some c =>
 rw[hc]at hb;refine callsIn_of_wp_marks hf hc trivial ?_;have b8:fn.ntmps<=(xs++Array.replicate (fn.ntmps-xs.size) undef).size:=by simp;omega
 have hT0:kH I w F μ T (xs++Array.replicate (fn.ntmps-xs.size) undef):=by
  refine Xr he (λt u hu=>by cases hu) λk u hk=>?_
  obtain⟨x,hx,hr⟩:=hA.2 k u hk;exact⟨x,by rw[gI,mH (dX.1 hx).1];exact hx,hr⟩
 refine h c hb s ⟨w.heap.size,[],false⟩ none w F μ _ _ hk ⟨λ_=>rfl,rfl⟩ hL hR hD hT0 b8 (Marks.nil (af _)) ?_;intro ex T1 cm a' w' F' μ' q hL' tM hD' hT' _ hM;obtain⟨cb,l,hl,hK⟩:=q
 have rI:LeavesInM (Wr none) 0 E.P fn a'.tmps (Hr I E.P s K) a'.defers .returning w':=by
  obtain⟨hN,rs,⟨r1,_⟩,r2,r3⟩:=hM;rw[r2,show ∀ l:Z Deferred,l++(NB.mk w.heap.size [] false).base=l from j5];refine zey (N:=w.heap.size) hL.size (λw2 o4 AT vc=>?_) rs w' tM hT' hL' r1 r3;obtain⟨ys,M,O,h3⟩:=zgJ o4 AT hl;refine⟨_,?_,xO l,cm,F',μ',hK,vc,o4,hD',WA (xs:=ys.toArray) (by simpa using O) (λi u hi=>by simpa using h3 i u hi)⟩;unfold results;rw[Sem.run_bind,Array.mapM_eq_mapM_toList];rw[Sem.run_map];exact Eq.trans (congrArg (λz:Result (Z Value)=>(z.andThen λa w'=>Result.ok a.toArray w').andThen λa w'=>Sem.run E.P (pure (if h:a.size=1 then a[0]else Value.tuple a)) w') M) rfl
 cases ex with
 |normal=>exact rI
 |ret=>exact rI
 |exit i=>exact absurd rfl (cb i)
def Fa(r:V)(v:V)(C:HS):Prop:=ok (still C v) λv'=>gX v'=r
def zkE{E:Env}{f:FuncId}{fn:Func}{sc:SC}{vs:Z V}{r:V}(hf:E.P.funcs[f]?=some fn)(hb:fn.body.bind aU=some sc)(he:jE fn.ntmps vs 0 .leaf=some T)
 (h:Ls I E 0 fn.ntmps sc T { H:=.leaf,n:=0,log:=[] } (Leaves E.P fn (Fa r))) (hp:cu vs=true) (C:HS):aT I E.P f vs C r C:=by
 intro X w F μ xs hR hD hO hA
 have m8:Mq I w F (λ_ _=>none) vs xs:=⟨hA.1,λi u hi=>by
  obtain⟨x,hx,hr⟩:=hA.2 i u hi
  exact⟨x,hx,.pure (hr.BZ I (jM hp u (aC hi)))⟩⟩
 have hL:Loc ⟨λ_=>False,w,F,0,λ_ _=>none⟩ w F (λ_ _=>none) ji :=
  ⟨⟨rfl,rfl,rfl⟩,af _,λ_ _ _=>rfl,λ_ h=>h,λ_ h=>.inl h,λ_ _ _ h=>absurd h (lQ _),λb hb=>absurd hb (ug b _),λ_ h=>absurd h (lQ _),λ_ h=>absurd h (lQ _),λ_ _ _ h=>by cases h⟩
 refine(zcQ hf hb he h rfl hL (R.empty hR.Bj hR.gl) (λ_ _ h=>absurd rfl h) m8).mono λe w' he=>?_
 cases e with
 | returned x =>
   obtain⟨v1,cm,F1,μ1,hK,sx,g1,_,g2⟩:=he;obtain⟨v',O,rfl⟩:=hK;have iS:∀ b,b<w.heap.size->w'.heap[b]?=w.heap[b]?:=λb hb=>sx.bw b hb (λh=>h)
   obtain⟨a1,a2⟩:=alone hR sx.io sx.size iS;refine⟨_,μ,a1,.pure (OD g1 g2 O ?_ ?_).norm,a2⟩
   . intro b hb;have cC:=g1.Bj b hb;rcases sx.Ci b hb with h|h|h
     . exact .inl h
     . exact .inr ⟨h,cC⟩
     . exact h.elim
   . intro id g m hm;rcases sx.mn id g m hm with h|⟨i,j,m0,h,_⟩
     . exact .inr ⟨h,g1.lt _ _ _ hm⟩
     . cases h
 |panicked c=>exact he
 |outgrown=>exact he
end
def dH(s:Z V->Y V):Spec:=λvs C=>W (mf vs C) λq=>gd (cu q.1) (W (s (fI q.1)) λv=>some (v,q.2))
def KU(s:Z V->Y V):Spec:=λvs C=>W (lT C vs) λjt=>gd (cu jt) (W (s (fI jt)) λv=>gd v.N0 (some (v,C)))
section
variable {I:Nat->Value}{P:Program}{f:Nat}{s:Z V->Y V}
def aT.norm{vs:Z V}{C a8:HS}{v:V}(hp:cu vs=true)(h:aT I P f (fI vs) C v a8):aT I P f vs C v a8:=by
 intro X w F μ xs hR hD hO hA;refine h X w F μ xs hR hD hO ⟨by rw[mK,aL];exact hA.1,λi u hi=>?_⟩;rw[mK,bC,bG]at hi;obtain⟨u0,h0,rfl⟩:=hi;obtain⟨x,hx,hr⟩:=hA.2 i u0 h0;exact⟨x,hx,.pure (hr.BZ I (jM hp u0 (aC h0))).norm⟩
def Valid.dH (hf:wh P f) (h:∀ vs v,s vs=some v->∀ C,aT I P f vs C v C):Valid I P f (dH s) where
 fn:=hf
 ok := by
  intro vs C v a8 hq;simp only[J.dH,bE,aA]at hq;obtain⟨⟨jt,cm⟩,hp,Hd,v',hv,hq⟩:=hq;cases hq;intro X w F μ xs hR hD hO hA;obtain⟨F',k1,k2,k3,k4,k5⟩:=CW (xs:=xs.toList) hp hR (λi u hi=>by simpa using hA.2 i u hi);have hc:aT I P f jt cm v cm:=(h _ _ hv cm).norm Hd;refine(hc X w F' μ xs k1 (k2.cr k3.le hD) hO ⟨by rw[k4];exact hA.1,λi u hi=>?_⟩).mono λe w' he=>?_
  . obtain⟨x,hx,hr⟩:=k5 i u hi;exact⟨x,by simpa using hx,.pure hr⟩
  . cases e with
    | returned x =>
      obtain⟨F2,μ2,g1,g2,g3⟩:=he;exact⟨F2,μ2,g1,g2,k2.trans g3⟩
    |panicked c=>exact he
    |outgrown=>exact he
 kept:=by
  intro vs C q hq;simp only[J.dH,bE,aA]at hq;obtain⟨⟨jt,cm⟩,hp,_,v',_,hq⟩:=hq;cases hq;exact xZ hp
def Valid.KU(hf:wh P f)(h:∀ vs v,s vs=some v->∀ C,aT I P f vs C v C):Valid I P f (KU s) where
 fn:=hf
 ok:=by
  intro vs C v a8 hq;simp only[J.KU,bE,aA]at hq;obtain⟨jt,eC,hp,v',hv,hsc,hq⟩:=hq;cases hq;intro X w F μ xs hR hD hO hA;obtain⟨hlen,b6⟩:=JO hR (F':=λb=>b<w.heap.size) hR.Bj eC (λ_ _ _ _ id g off len cap _ m hm=>hR.lt id g m hm)
  have m8:Mq I w (λb=>b<w.heap.size) (λ_ _=>none) jt xs:=⟨hA.1.trans hlen.symm,λi u hi=>by
   obtain⟨u0,hu0,hr⟩:=b6 i u hi;obtain⟨x,hx,xa⟩:=hA.2 i u0 hu0
   exact⟨x,hx,.pure (hr x xa)⟩⟩
  have hc:aT I P f jt ji v ji:=(h _ _ hv _).norm hp;refine(hc _ w _ (λ_ _=>none) xs (R.empty (λ_ h=>h) (hR.gl.bw hR.Bj λ_ _=>rfl)) Ol.empty (pj.no _) m8).mono λe w' he=>?_
  cases e with
  | returned x =>
    obtain⟨F1,μ1,g1,g2,g3⟩:=he;have iS:∀ b,b<w.heap.size->w'.heap[b]?=w.heap[b]?:=λb hb=>g3.bw b hb (ug b _)
    obtain⟨a1,a2⟩:=alone hR g3.io g3.size iS;exact⟨_,μ,a1,.pure (zbg g2 hsc),a2⟩
  |panicked c=>exact he
  |outgrown=>exact he
 kept:=by
  intro vs C q hq;simp only[J.KU,bE,aA]at hq;obtain⟨_,_,_,_,_,_,hq⟩:=hq;cases hq;exact .refl _
end
section
variable {I:Nat->Value}{P:Program}{E:Env}{k sz:Nat}{s:SC}{T:PT V}{C:HS}{Q Q':Ex->PT V->HS->Prop}
def bO(k:Nat)(Q:Ex->PT V->HS->Prop)(e:Ex)(T:PT V)(C:HS):Prop:=∃ T2 dt,aw k T C T2 dt/\Q e T2 dt
def nX(h:Ls I E k sz s T C (bO k Q)):Ls I E k sz s T C Q:=ztM h λ_ _ _ q=>q
def bO.mk{e:Ex}{T2:PT V}{dt:HS}(h:aw k T C T2 dt)(q:Q e T2 dt):bO k Q e T C:=⟨T2,dt,h,q⟩
end
end Go.J
