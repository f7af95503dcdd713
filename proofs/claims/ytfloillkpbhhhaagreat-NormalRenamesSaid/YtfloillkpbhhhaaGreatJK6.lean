import Derived.Test.YtfloillkpbhhhaaGreatJK5
import Derived.LoopNIn
set_option linter.all false
noncomputable section
namespace Go.J
variable {ps:Array (Nat×Operand)}{ts:Array TypeId}{tm:Array Value}{b dr:Bool}{s:ByteArray}{E:Env}{C a9 ea:HS}{k k':IntKind}{f g i j n o:Nat}{I:Nat->Value}{a ix q x:Operand}{P:Program}{p:Prop}{α β:Type}{e t u:TypeId}{v:Value}{c:Y Nat}{hi lo mx:Y Operand}{d:Y Tmp}{l:Z (Nat×Operand)}{X bs lk m y:Z Nat}{r:Z Nat×Z Nat}
section
variable {id:Nat}{T:PT V}{K:V->HS->Prop}{sz:Nat}
@[simp ↓] def zNh {R:PT V->HS->Prop}:Rs E sz [] id T C R=R T C:=(rfl)
@[simp ↓] def zJ0  {op:Op} {g:Y (Tmp×Bool)} {l:Z wA} {R:PT V->HS->Prop}:Rs E sz (⟨d,op,g⟩::l) id T C R=wpS E id T C ⟨d,op,g⟩ λv a9=>put sz T d v λT1=>Rs E sz l (id+1) T1 a9 R:=(rfl)
@[simp ↓] def zNt  {op:Op}:wpS E id T C ⟨d,op,none⟩ K=Dj E id T C op K:=(rfl)
@[simp ↓] def zNu  {op:Op} {t:Tmp} {w:Bool}:wpS E id T C ⟨d,op,some (t,w)⟩ K=ok (T.get t) λv=>ok (v.lA w) λq=>br (q=w) (Dj E id T C op K) (K oW C):=by
  simp only[zqm];rfl
@[simp ↓] def zEv {d:Tmp} {v:V} {R:PT V->Prop}:put sz T (some d) v R=(d<sz/\R (T.set d v)):=(rfl)
@[simp ↓] def zEx {v:V} {R:PT V->Prop}:put sz T none v R=R T:=(rfl)
def and_zero:((0:Nat)≠0->p)=True:=propext ⟨λ_=>trivial,λ_ h=>absurd rfl h⟩
theorem zva:((2:Nat)≠0->p)=p:=propext ⟨λh=>h (by decide),λh _=>h⟩
theorem IX{op:Op}(hc:dX op=0)(hd:Dj E id T C op K=((dX op≠0->C.H.get id=none)/\ok (UZ E.P false T C id (WY op)) λr=>K r.1 r.2)):Dj E id T C op K=ok (UZ E.P false T C id (WY op)) λr=>K r.1 r.2:=by
 grind
@[simp ↓] def wp_move :Dj E id T C (.move x) K=ok (bU T x) λv=>K v C:=by
  rw[IX rfl rfl];show ok (ob (bU T x) λv=>some (v,C)) _=_;simp only[iM,dL]
@[simp ↓] def wp_assign :Dj E id T C (.assign x) K=ok (bU T x) λv=>K v C:=by
  rw[IX rfl rfl];show ok (ob (bU T x) λv=>some (v,C)) _=_;simp only[iM,dL]
@[simp ↓] def zHv {c b:Operand}:Dj E id T C (.pick c a b) K=ok (bU T c) λv=>ok v.bool? λq=>ok (bi q (bU T a) (bU T b)) λv=>K v C:=by
  rw[IX rfl rfl];show ok (NY T C c a b) _=_;simp only[NY,iM,dL]
@[simp ↓] def zHw  :Dj E id T C (.load t a) K=ok (ti E.P t) λi=>ok (bU T a) λp=>ok (Ii i C p) λv=>K v C:=by
  rw[IX rfl rfl];show ok (CK E.P T C t a) _=_;simp only[CK,iM,dL]
@[simp ↓] def zDj {b:BinOp}  {y:Operand}:Dj E id T C (.binOp b t x y u) K=ok (bU T x) λp=>ok (bU T y) λq=>ok (bi (JE y) (zoy E.P b t p) (TB E.P b t p q)) λv=>K v C:=by
  rw[IX rfl rfl];show ok (Hu E.P T C b t x y) _=_;simp only[Hu,iM,dL]
@[simp ↓] def zHu {b:UnOp}  :Dj E id T C (.unOp b t x) K=ok (Rj T C b x) λr=>K r.1 r.2:=by
  rw[IX rfl rfl];rfl
@[simp ↓] def zrX   :Dj E id T C (.fieldAddr t x f) K=ok (ti E.P t) λi=>ok (bJ i f) λfd=>ok (ti E.P fd.type) λfi=>nt (Nat.beq fi.size 0)=true/\ok (bU T x) λv=>ok (pX fd.offset v) λr=>K r C:=by
  rw[IX rfl rfl];show ok (rF E.P T C t x f) _=_;simp only[rF,iM,vO,dL]
@[simp ↓] def zDi   :Dj E id T C (.field t x f) K=ok (ti E.P t) λi=>ok (bJ i f) λfd=>ok (ti E.P fd.type) λfi=>ok (bU T x) λv=>ok v.HT λcs=>ok (Bh fi cs fd.offset) λv=>K v C:=by
  rw[IX rfl rfl];show ok (MZ E.P T C t x f) _=_;simp only[MZ,iM,dL]
@[simp ↓] def zrW  :Dj E id T C (.indexAddr t x ix) K=ok (ti E.P t) λi=>ok (elemOf i.desc) λel=>ok (ti E.P el.1) λe=>ok (bU T x) λv=>ok (bU T ix) λn=>ok n.nat? λn=>ok (zo8 el.2 e n v) λr=>K r C:=by
  rw[IX rfl rfl];show ok (rC E.P T C t x ix) _=_;simp only[rC,iM,dL]
@[simp ↓] def zDh  :Dj E id T C (.index t x ix) K=ok (ti E.P t) λi=>isStr i.desc=true/\ok (bU T x) λv=>ok v.s7 λs=>ok (bU T ix) λn=>ok n.nat? λn=>ok (wu s n) λb=>K (.int .u8 (Int.ofNat b)) C:=by
  rw[IX rfl rfl];show ok (MP E.P T C t x ix) _=_;simp only[MP,iM,vO,dL]
@[simp ↓] def zw3  {k:Nat}:Dj E id T C (.extract x k) K=ok (bU T x) λv=>ok v.o4 λvs=>ok (wu vs k) λv=>K v C:=by
  rw[IX rfl rfl];show ok (yR T C x k) _=_;simp only[yR,iM,dL]
@[simp ↓] def zvz :Dj E id T C (.nilCheck x) K=ok (bU T x) λv=>notNil v=true/\K v C:=by
  rw[IX rfl rfl];show ok (vo T C x) _=_;simp only[vo,iM,vO,dL]
@[simp ↓] def wp_build  :Dj E id T C (.build t ps) K=ok (ti E.P t) λi=>ok (bi (jg i.desc) (gd (jK E.P (fieldsOf i.desc)) (Cb E.P T i ps.toList i.zero)) (ob (zd5 i.desc) λel=>ob (ti E.P el) λe=>CU T e.size ps.toList i.zero)) λcs=>K (.agg cs) C:=by
  rw[IX rfl rfl];show ok (yV E.P T C t ps) _=_;unfold yV;simp only[iM (ti E.P t)];congr 1;funext i;rw[iM];congr 1;funext cs;rw[dL]
@[simp ↓] def zDg   :Dj E id T C (.slice t x lo hi mx) K=ok (ti E.P t) λi=>ok (bU T x) λv=>ok (xE E.P T C i v lo hi mx) λr=>K r C:=by
  rw[IX rfl rfl];show ok (yB E.P T C t x lo hi mx) _=_;simp only[yB,iM,dL]
@[simp ↓] def zAD  {m k:Operand} :Dj E id T C (.lookup t m k b) K=ok (mM E.P T C t m k b) λr=>K r.1 r.2:=by
  rw[IX rfl rfl];rfl
@[simp ↓] def zw4 {s d:TypeId} :Dj E id T C (.convert s d x) K=ok (ti E.P s) λ_=>ok (ti E.P d) λj=>ok (bU T x) λv=>ok (zdF j.desc v) λr=>K r C:=by
  rw[IX rfl rfl];show ok (Wj E.P T C s d x) _=_;simp only[Wj,iM,dL]
@[simp ↓] def zvA {f:FuncId} {cs:Array Operand}:Dj E id T C (.makeFunc (.func f) #[] cs) K=ok (kG T cs.toList) λl=>K (.func f l) C:=by
  rw[IX rfl rfl];show ok (Db T C (.func f) #[] cs) _=_;show ok (gd true (ob (kG T cs.toList) λl=>some (V.func f l,C))) _=_;simp only[rE,iM,dL]
theorem zmK{op:Op}(hc:dX op=1)(hd:Dj E id T C op K=((dX op≠0->C.H.get id=none)/\ok (UZ E.P false T C id (WY op)) λr=>K r.1 r.2)):Dj E id T C op K=(C.H.get id=none/\ok (UZ E.P false T C id (WY op)) λr=>K r.1 r.2):=by
 grind
theorem zDl{op:Op}(hc:dX op=2)(hd:Dj E id T C op K=((dX op≠0->C.H.get id=none)/\ok (UZ E.P false T C id (WY op)) λr=>K r.1 r.2)):Dj E id T C op K=(C.H.get id=none/\ok (UZ E.P false T C id (WY op)) λr=>K r.1 r.2):=by
 grind
@[simp ↓] def zDk :Dj E id T C (.alloc t) K=(C.H.get id=none/\ok (ti E.P t) λi=>Nat.beq (dB i.zero) i.size=true/\K (.ptr id 0 0) (C.put id (.arr i.size 0 [i.zero] true false false))):=by
  rw[zmK rfl rfl];show (_/\ok (Cc E.P C id t) _)=_;simp only[Cc,iM,vO,dL]
@[simp ↓] def zKa  :Dj E id T C (.box t x) K=(C.H.get id=none/\ok (bU T x) λv=>K (.ptr id 0 0) (C.put id (.arr (dB v.cells) 0 [v.cells] true false false))):=by
  rw[zmK rfl rfl];show (_/\ok (XC T C id x) _)=_;simp only[XC,iM,dL]
@[simp ↓] def IT   :Dj E id T C (.buildSlice t n ps) K=(C.H.get id=none/\ok (jU E.P false T C id t n ps) λr=>K r.1 r.2):=by
  rw[zmK rfl rfl];rfl
@[simp ↓] def zrV  {l c:Operand}:Dj E id T C (.makeSlice t l c) K=(C.H.get id=none/\ok (mK E.P T C id t l c) λr=>K r.1 r.2):=by
  rw[zmK rfl rfl];rfl
@[simp ↓] def zw2 :Dj E id T C (.makeMap t none) K=(C.H.get id=none/\K (.map id) (C.put id (.mp []))):=by
  rw[zmK rfl rfl];show (_/\ok (gd true (some (V.map id,C.put id (.mp [])))) _)=_;simp only[rE,dL]
@[simp ↓] def zDf  :Dj E id T C (.store t a x) K=(C.H.get id=none/\ok (ti E.P t) λi=>ok (bU T a) λp=>ok (bU T x) λv=>ok (E9 i C p v) λa9=>K oW a9):=by
  rw[zDl rfl rfl];show (_/\ok (nL E.P T C t a x) _)=_;simp only[nL,iM,dL]
@[simp ↓] def zrU  {m k:Operand}:Dj E id T C (.mapUpdate t m k x) K=(C.H.get id=none/\ok (iw E.P T C t m k x) λr=>K r.1 r.2):=by
  rw[zDl rfl rfl];rfl
@[simp ↓] def zHx  {xs:Array Operand} :Dj E id T C (.call ⟨.value x,xs,ts⟩) K=(C.H.get id=none/\ok (bU T x) λv=>ok (funcOf v) λp=>ok (kG T xs.toList) λvs=>ok (E.dA p.1 (kg vs p.2) C) λr=>K r.1 r.2):=(rfl)
@[simp ↓] def zJ9 {xs:Array Operand} :Dj E id T C (.call ⟨.builtin .len,xs,ts⟩) K=ok (kG T xs.toList) λvs=>ok (JC E.P C ts.toList vs) λr=>K r.1 r.2:=by
  show ((dX (.call ⟨.builtin .len,xs,ts⟩)≠0->_)/\_)=_;rw[show dX (.call ⟨.builtin .len,xs,ts⟩)=0 from rfl,and_zero,true_and];rfl
@[simp ↓] def zJ7 {xs:Array Operand} :Dj E id T C (.call ⟨.builtin .min,xs,ts⟩) K=ok (kG T xs.toList) λvs=>ok (vz C true vs) λr=>K r.1 r.2:=by
  show ((dX (.call ⟨.builtin .min,xs,ts⟩)≠0->_)/\_)=_;rw[show dX (.call ⟨.builtin .min,xs,ts⟩)=0 from rfl,and_zero,true_and];rfl
@[simp ↓] def zJ8 {xs:Array Operand} :Dj E id T C (.call ⟨.builtin .max,xs,ts⟩) K=ok (kG T xs.toList) λvs=>ok (vz C false vs) λr=>K r.1 r.2:=by
  show ((dX (.call ⟨.builtin .max,xs,ts⟩)≠0->_)/\_)=_;rw[show dX (.call ⟨.builtin .max,xs,ts⟩)=0 from rfl,and_zero,true_and];rfl
@[simp ↓] def zAE {xs:Array Operand} :Dj E id T C (.call ⟨.builtin .append,xs,ts⟩) K=(C.H.get id=none/\ok (kG T xs.toList) λvs=>ok (AJ E.P C id ts.toList vs) λr=>K r.1 r.2):=by
  show ((dX (.call ⟨.builtin .append,xs,ts⟩)≠0->_)/\_)=_;rw[show dX (.call ⟨.builtin .append,xs,ts⟩)=2 from rfl,zva];rfl
attribute [simp ↓] ziN zdV
@[congr] def zEO  {x y:Y α} {K:α->Prop} (h:x=y):ok x K=ok y K:=by rw[h]
@[congr] def zHs {rd:Bool} {s:SC} {T T':PT V}  {Q:Ex->PT V->HS->Prop} (M:T=T') (O:C=a9):Js E rd sz s T C Q=Js E rd sz s T' a9 Q:=by rw[M,O]
@[congr] def zvp  {fn:Func} {K:V->HS->Prop} {ex zOG:Ex} {T T':PT V}  (h0:ex=zOG) (M:T=T') (O:C=a9):Leaves P fn K ex T C=Leaves P fn K zOG T' a9:=by rw[h0,M,O]
@[congr] def zEQ  {x y:Y α} {f:α->Y β} (h:x=y):ob x f=ob y f:=by rw[h]
@[congr] def zGt  {c d:Bool} {x:Y β} (h:c=d):gd c x=gd d x:=by rw[h]
@[congr] def zBl  {z:β} {f:α->β} {x y:Y α} (h:x=y):u6 z f x=u6 z f y:=by rw[h]
@[congr] def zG6  {c d:Bool} {x y:α} (h:c=d):bi c x y=bi d x y:=by rw[h]
@[simp] theorem zM5   [Decidable p] {x y:α}:bi (decide p) x y=if p then x else y:=by rw[iV];simp
@[simp ↓] def zBm  (a:α) (K:α->Prop):ok (some a) K=K a:=dL a K
@[simp ↓] def zIm  (x:Y α) (f:α->Y β) (K:β->Prop):ok (ob x f) K=ok x λa=>ok (f a) K:=iM x f K
@[simp ↓] def zIn  (c:Bool) (x:Y α) (K:α->Prop):ok (gd c x) K=(c=true/\ok x K):=vO c x K
@[simp ↓] def zBt  (a:α) (f:α->Y β):ob (some a) f=f a:=(rfl)
@[simp ↓] def zx6  (z:β) (f:α->β) (a:α):u6 z f (some a)=f a:=(rfl)
@[simp ↓] def zCL  (x y:α):bi true x y=x:=(rfl)
@[simp ↓] def zz9  (x y:α):bi false x y=y:=(rfl)
@[simp] def zB7 {t:Tmp}:bU T (.tmp t)=T.get t:=(rfl)
@[simp] def zwK :bU T (.const v)=ofConst v:=(rfl)
@[simp] def zzq {f:FuncId}:bU T (.func f)=some (.func f []):=(rfl)
@[simp] def zs5 :ofConst (.bool b)=some (.bool b):=(rfl)
@[simp] def zv4  {n:Int}:ofConst (.int k n)=some (.int k n):=(rfl)
@[simp] def zv3 :ofConst (.string s)=some (.str (bytesOf s)):=(rfl)
@[simp] def zoq:ofConst (.pointer none)=some .de:=(rfl)
@[simp] def zs4:ofConst (.slice none 0 0)=some .a8:=(rfl)
@[simp] def zmx:ofConst .nilFunc=some .nilFunc:=(rfl)
@[simp] def T6 {w:Bool}:(V.bool b).lA w=some b:=(rfl)
@[simp] def PJ {w:Bool}:oW.lA w=some (!w):=(rfl)
@[simp] def bool?_bool :(V.bool b).bool?=some b:=(rfl)
@[simp] def int?_int  {n:Int}:(V.int k n).int?=some (k,n):=(rfl)
@[simp] def nat?_cast  :(V.int k (n:Int)).nat?=some n:=(rfl)
@[simp] def nat?_zero :(V.int k 0).nat?=some 0:=(rfl)
@[simp] def nat?_one :(V.int k 1).nat?=some 1:=(rfl)
@[simp] def str?_str {s:Z Nat}:(V.str s).s7=some s:=(rfl)
@[simp] def agg?_agg {s:Z V}:(V.agg s).HT=some s:=(rfl)
@[simp] def N4 {s:Z V}:(V.tuple s).o4=some s:=(rfl)
@[simp] def zCz {s:Z V}:(V.agg s).cells=s:=(rfl)
@[simp] def zCy  {n:Int}:(V.int k n).cells=[.int k n]:=(rfl)
@[simp] def zzT :(V.bool b).cells=[.bool b]:=(rfl)
@[simp] def zCu {b:Z Nat}:(V.str b).cells=[.str b]:=(rfl)
@[simp] def zzS:V.a8.cells=[.a8]:=(rfl)
@[simp] def zGV {es:Z (Z V)} {t:Bool}:(V.sl es t).cells=[.sl es t]:=(rfl)
@[simp] def zCw {a b c d:Nat} {t:Y Nat}:(V.own a b c d t).cells=[.own a b c d t]:=(rfl)
@[simp] def zCx {a:Nat}:(V.map a).cells=[.map a]:=(rfl)
@[simp] def zCv {a b c:Nat}:(V.ptr a b c).cells=[.ptr a b c]:=(rfl)
@[simp] def cells_func  {c:Z V}:(V.func f c).cells=[.func f c]:=(rfl)
@[simp] def zwD {f:FuncId} {c:Z V}:funcOf (.func f c)=some (f,c):=(rfl)
@[simp] def zHf:Ka []=true:=(rfl)
@[simp] def zme {v:V} {l:Z V}:Ka (v::l)=et v.mY (Ka l):=(rfl)
@[simp] def zyL  {n:Int}:(V.int k n).mY=true:=(rfl)
@[simp] def zwq :(V.bool b).mY=true:=(rfl)
@[simp] def zyI {b:Z Nat}:(V.str b).mY=true:=(rfl)
@[simp] def zwo:V.a8.mY=true:=(rfl)
@[simp] def zBP {es:Z (Z V)} {t:Bool}:(V.sl es t).mY=true:=(rfl)
@[simp] def zyJ {a b c d:Nat} {t:Y Nat}:(V.own a b c d t).mY=true:=(rfl)
@[simp] def zyK {a:Nat}:(V.map a).mY=true:=(rfl)
@[simp] def zwp  {c:Z V}:(V.func f c).mY=true:=(rfl)
@[simp] def zBN {i:TI} {a off:Nat}:Ii i C (.ptr a g off)=ob (ng C a g) λr=>TP i r off:=(rfl)
@[simp] def zBM {i:TI} {cs:Z V}:Ii i C (.ref cs)=Bh i cs 0:=(rfl)
@[simp] def zrL {a off:Nat}:pX n (.ptr a g off)=some (.ptr a g (off+n)):=(rfl)
@[simp] def zrK  {cs:Z V}:pX n (.ref cs)=some (.ref (LC n cs)):=(rfl)
@[simp] def ztR {e:TI}  {es:Z (Z V)} {t:Bool}:Ag e n (.sl es t)=gd (bj e.size es) (ob (wu es n) λc=>some (.ref c)):=(rfl)
@[simp] def zrC {e:TI} {a off len:Nat} :Ag e n (.own a g off len c)=gd (Nat.blt n len) (some (.ptr a g (off+n*e.size))):=(rfl)
@[simp] def zxI {i:TI} {a off:Nat} {v:V}:E9 i C (.ptr a g off) v=bi (pZ C a) (ob (nE v C) λr=>qG i a g off r.1 r.2) (qG i a g off v C):=(rfl)
@[simp] def arr?_arr {s:Nat} {es:Z (Z V)} {a c:Bool}:(Obj.arr s g es a b c).ye=some (s,g,es,a,b,c):=(rfl)
@[simp] def mp?_mp {es:Z (V×V)}:(Obj.mp es).mp?=some es:=(rfl)
@[simp] def zNW {o:Obj} {k:Nat}:(C.put k o).n=C.n:=(rfl)
@[simp] def zO1 {o:Obj} {k:Nat}:(C.wr k o).n=C.n:=(rfl)
@[simp] def zCg :elemOf (.slice e)=some (e,none):=(rfl)
@[simp] def zBT {e:TI}  {v:V}:zo8 none e n v=Ag e n v:=(rfl)
@[simp] def zxQ :sN (.slice e)=some e:=(rfl)
@[simp] def zFn {k:TypeId}:mapOf (.map k e)=some (k,e):=(rfl)
@[simp] def zG5  {b:BinOp}   {m n:Int}:TB P b t (.int k m) (.int k' n)=bi (qp b) (Uz b k m n) (gd (DK k k') (arith b k m n)):=(rfl)
@[simp] def zwa :DK k k=true:=by cases k<;>rfl
@[simp] def zG4  {b:BinOp}  {n:Z Nat}:TB P b t (.str m) (.str n)=Ia b m n:=(rfl)
@[simp] def zCJ  {b:BinOp}  {m n:Bool}:TB P b t (.bool m) (.bool n)=TM P b t (.bool m) (.bool n):=(rfl)
end
@[simp] def eQ  (a:α) (f:α->Y β):ob (some a) f=f a:=(rfl)
@[simp] def zB3  (x:Y β):gd true x=x:=(rfl)
@[simp] def zCK  (x y:α):bi true x y=x:=(rfl)
@[simp] def zz8  (x y:α):bi false x y=y:=(rfl)
@[simp] def zx5  (z:β) (f:α->β) (a:α):u6 z f (some a)=f a:=(rfl)
@[simp] def zx7  (z:β) (f:α->β):u6 z f none=z:=(rfl)
@[simp] def zzl  (n:Nat):(PT.leaf:PT α).get n=none:=(rfl)
@[simp] def zdq {T:PT V}:kG T []=some []:=(rfl)
@[simp] def zaV {T:PT V} (o:Operand) (l:Z Operand):kG T (o::l)=ob (bU T o) λv=>ob (kG T l) λr=>some (v::r):=(rfl)
attribute [simp] dL iM vO PT.cZ mJ EZ dH sP yA yS oN ZM ZT Gg
@[simp] def zu5 {a b:Nat}:Nat.beq a b=decide (a=b):=by rw[dI];simp
@[simp] def zJS {a b:Nat}:Nat.ble a b=decide (a<=b):=by rw[dI];simp
@[simp] def zJQ {a b:Nat}:Nat.blt a b=decide (a<b):=by rw[dI,J.gz];simp
@[simp ↓] def zvO {K:PT V->HS->Prop} {Q:Ex->PT V->HS->Prop} {T:PT V} :Ex.then K Q .normal T C=K T C:=(rfl)
@[simp ↓] def zDZ {K:PT V->HS->Prop} {Q:Ex->PT V->HS->Prop} {T:PT V} :Ex.then K Q .ret T C=Q .ret T C:=(rfl)
@[simp ↓] def zAN  {K:PT V->HS->Prop} {Q:Ex->PT V->HS->Prop} {T:PT V} :Ex.then K Q (.exit i) T C=Q (.exit i) T C:=(rfl)
@[simp ↓] def zz7 {id:Nat} {Q:Ex->PT V->HS->Prop} {T:PT V} :Ex.inBlock id Q .normal T C=Q .normal T C:=(rfl)
@[simp ↓] def zJR {id:Nat} {Q:Ex->PT V->HS->Prop} {T:PT V} :Ex.inBlock id Q .ret T C=Q .ret T C:=(rfl)
@[simp ↓] def zG3 {id:Nat} {Q:Ex->PT V->HS->Prop} {T:PT V} :Ex.inBlock id Q (.exit i) T C=if i=id then Q .normal T C else Q (.exit i) T C:=(rfl)
@[simp] def zEf  {T:PT V} :NL P T C []=some []:=(rfl)
@[simp] def zEe  {T:PT V}  {t:Tmp} {l:Z ResultVar}:NL P T C (.tmp t::l)=ob (T.get t) λv=>ob (NL P T C l) λr=>some (v::r):=(rfl)
@[simp] def zA5  {T:PT V}  {a:Tmp}  {l:Z ResultVar}:NL P T C (.cell a t::l)=ob (ob (ti P t) λi=>ob (T.get a) λp=>Ii i C p) λv=>ob (NL P T C l) λr=>some (v::r):=(rfl)
@[simp] def zxA {v:V}:yx [v]=v:=(rfl)
@[simp] def zxz {v u:V} {l:Z V}:yx (v::u::l)=.tuple (v::u::l):=(rfl)
attribute [simp] WV L9
attribute [simp] YA Ll Oj zij IW
@[simp] def zJv {a b:Int}:ue a b=decide (a=b):=by rw[dI,OH];simp
@[simp] def zwn:qp .add=false:=(rfl)
@[simp] def zwc:qp .sub=false:=(rfl)
@[simp] def zwf:qp .quo=false:=(rfl)
@[simp] def zwe:qp .rem=false:=(rfl)
@[simp] def zwl:qp .eql=false:=(rfl)
@[simp] def zwg:qp .neq=false:=(rfl)
@[simp] def zwh:qp .lss=false:=(rfl)
@[simp] def zwi:qp .leq=false:=(rfl)
@[simp] def zwj:qp .gtr=false:=(rfl)
@[simp] def zwk:qp .geq=false:=(rfl)
@[simp] def zwm:qp .and=false:=(rfl)
section
variable {a b:Int}{T:PT V}
@[simp] def zCX:arith .add k a b=some (.int k (H8 k (a+b))):=(rfl)
@[simp] def zCN:arith .sub k a b=some (.int k (H8 k (a-b))):=(rfl)
@[simp] def zCP:arith .quo k a b=gd (nt (ue b 0)) (some (.int k (H8 k (a.tdiv b)))):=(rfl)
@[simp] def zCO:arith .rem k a b=gd (nt (ue b 0)) (some (.int k (a.tmod b))):=(rfl)
@[simp] def zCV:arith .eql k a b=some (.bool (ue a b)):=(rfl)
@[simp] def zCQ:arith .neq k a b=some (.bool (nt (ue a b))):=(rfl)
@[simp] def zCR:arith .lss k a b=some (.bool (B5 a b)):=(rfl)
@[simp] def zCS:arith .leq k a b=some (.bool (leI a b)):=(rfl)
@[simp] def zCT:arith .gtr k a b=some (.bool (B5 b a)):=(rfl)
@[simp] def zwd:qp .shr=true:=(rfl)
@[simp] def zxS:Uz .shr k a b=ob (Z3 b) λm=>some (.int k (a.fdiv (2 ^ min m k.bits))):=(rfl)
@[simp] def zCW:arith .and k a b=some (.int k (Mu k a b)):=(rfl)
@[simp] def zCU:arith .geq k a b=some (.bool (leI b a)):=(rfl)
@[simp] def zAT {x:Z Nat}:Ia .eql x y=some (.bool (OG x y)):=(rfl)
@[simp] def zAQ {x:Z Nat}:Ia .neq x y=some (.bool (nt (OG x y))):=(rfl)
@[simp] def zAR {x:Z Nat}:Ia .lss x y=some (.bool (KY x y)):=(rfl)
@[simp] def zAS {x:Z Nat}:Ia .gtr x y=some (.bool (bi (KY x y) false (nt (OG x y)))):=(rfl)
@[simp] def zv2  {x y:V}:TM P .neq t x y=ob (Kx P t x y) λb=>some (.bool (nt b)):=(rfl)
@[simp] def zGz {x y:V}:zGA .bool x y=ob x.bool? λa=>ob y.bool? λb=>some (Az a b):=(rfl)
@[simp] def zOH  {x y:V}:Kx P t x y=ob (ti P t) λi=>zGx P t i.desc x y:=(rfl)
@[simp] def zGw  {x y:V}:zGx P t .bool x y=zGA .bool x y:=(rfl)
@[simp] def zyF {k:Nat}:JE (.tmp k)=false:=(rfl)
@[simp] def zyG  {n:Int}:JE (.const (.int k n))=false:=(rfl)
@[simp] def zrA :JE (.const (.string s))=false:=(rfl)
@[simp] def ztP {a:Y Addr} {c:Nat}:JE (.const (.slice a n c))=false:=(rfl)
@[simp] def zB2 :ng C i g=ob (C.H.get i) λo=>ob o.ye λa=>gd (et (Nat.beq g a.2.1) (nt (Nat.beq a.1 0))) (some (a.1,a.2.2)):=(rfl)
@[simp] def zFt :pZ C i=u6 false (λo=>u6 false (λa=>a.2.2.2.2.2) o.ye) (C.H.get i):=(rfl)
@[simp] def zBL {i:TI} {a:Nat×Z (Z V)×Bool×Bool×Bool} {off:Nat}:TP i a off=ob (wu a.2.1 (off / a.1)) λe=>Bh i e (off % a.1):=(rfl)
@[simp] def zIk {i:TI} {cs:Z V} {off:Nat}:Bh i cs off=bi (kP i.desc) (zqM i.size (I7 i.size (LC off cs))) (wu cs off):=(rfl)
@[simp] def zNa  {r:Z V}:zqM n r=gd (Nat.beq (dB r) n) (some (.agg r)):=(rfl)
@[simp] def zxH {i:TI} {id off:Nat} {v:V}:qG i id g off v C=ob (ng C id g) λa=>gd (nt a.2.2.2.1) (gd (et (Ka v.cells) (et (Nat.beq (dB v.cells) i.size) (Nat.ble (off % a.1+i.size) a.1)))
 (ob (wu a.2.1 (off / a.1)) λe=>some (C.wr id (.arr a.1 g (Xm a.2.1 (off / a.1) (kF e (off % a.1) v.cells)) a.2.2.1 false a.2.2.2.2)))):=(rfl)
@[simp] def zBk  (n:Nat) (l:Z α):kF ([]:Z α) n l=[]:=(rfl)
@[simp] def zoi  (x:α) (t:Z α):kF (x::t) 0 []=x::t:=(rfl)
@[simp] def zmw  (x:α) (t:Z α) (y:α) (ys:Z α):kF (x::t) 0 (y::ys)=y::kF t 0 ys:=(rfl)
@[simp] def zfn  (x:α) (t:Z α) (n:Nat) (l:Z α):kF (x::t) (n+1) l=x::kF t n l:=(rfl)
@[simp] def zIG {ts:Z TypeId} {vs:Z V}:JC P C ts vs=ob (zfX P ts) λi=>ob (MT vs) λx=>ob (SU C i.desc x) λn=>some (.int .i64 (Int.ofNat n),C):=(rfl)
@[simp] def zFg {l:Bool} {vs:Z V}:vz C l vs=ob (ZA vs) λp=>ob p.1.int? λa=>ob p.2.int? λb=>some (.int a.1 (bi (bi l (B5 b.2 a.2) (B5 a.2 b.2)) b.2 a.2),C):=(rfl)
@[simp] def zwB  {l:Z TypeId}:zfX P (t::l)=ti P t:=(rfl)
@[simp] def zNX  {o:Obj}:(C.put i o).H=C.H.set i o:=(rfl)
@[simp] def zH6  {o:Obj}:(C.put i o).log=C.log:=(rfl)
@[simp] def zO2  {o:Obj}:(C.wr i o).H=C.H.set i o:=(rfl)
@[simp] def zJ5  {o:Obj}:(C.wr i o).log=i::C.log:=(rfl)
@[simp] def zEM {v:V}:MT [v]=some v:=(rfl)
@[simp] def zDS {v u:V}:ZA [v,u]=some (v,u):=(rfl)
@[simp] def zFq {s:Z Nat}:SU C .string (.str s)=some (dB s):=(rfl)
@[simp] def zBO :SU C (.slice e) .a8=some 0:=(rfl)
@[simp] def zIH  {es:Z (Z V)} {t:Bool}:SU C (.slice e) (.sl es t)=some (dB es):=(rfl)
@[simp] def zFr   :SU C (.slice e) (.own i g o n c)=some n:=(rfl)
@[simp] def zDP :Rj T C .not x=ob (bU T x) λv=>ob v.bool? λb=>some (.bool (nt b),C):=(rfl)
@[simp] def zCn {v:V}:zdF (.int k) v=ob v.int? λp=>some (.int k (H8 k p.2)):=(rfl)
@[simp] def zyi :notNil (.ptr i g o)=true:=(rfl)
@[simp] def zBS:kP (.int k)=false:=(rfl)
@[simp] def zyM:kP .bool=false:=(rfl)
@[simp] def zBQ:kP .string=false:=(rfl)
@[simp] def zwr :kP (.slice e)=false:=(rfl)
@[simp] def zBR {f:TypeId}:kP (.map e f)=false:=(rfl)
@[simp] def zrB :kP (.pointer e)=false:=(rfl)
end
section
variable {T:PT V}{id:Nat}
@[simp] def zEa {b:Nat}:yE n b=decide (n*b<=1048576):=by show Nat.ble _ _=_;simp
@[simp] def zry  {l c:Operand}:mK P T C id t l c=ob (ti P t) λi=>ob (bU T l) λa=>ob (bU T c) λb=>xK P i C id a b:=(rfl)
@[simp] def zv9 {i:TI} {l c:V}:xK P i C id l c=ob (sN i.desc) λel=>ob (ti P el) λe=>ob l.nat? λl=>ob c.nat? λc =>
 gd (et (Nat.ble l c) (et (yE c e.bytes) (et (Nat.ble (c*e.size) 1048576) (et (nt (Nat.beq e.size 0)) (et (Nat.beq (dB e.zero) e.size) (J9 e.zero))))))
  (some (.own id 0 0 l (some c),C.put id (.arr e.size 0 (zj7 e.zero c) true false true))):=(rfl)
@[simp] def zuS {i:TI} {cells:Z V}:Cb P T i [] cells=some cells:=(rfl)
@[simp] def zrO {i:TI} {k:Nat} {o:Operand}  {cells:Z V}:Cb P T i ((k,o)::l) cells=ob (bJ i k) λfd=>ob (ti P fd.type) λfi=>ob (bU T o) λv =>
 gd (et (Nat.beq (dB v.cells) fi.size) (Nat.ble (fd.offset+fi.size) (dB cells))) (Cb P T i l (kF cells fd.offset v.cells)):=(rfl)
@[simp] def zs1  {e:TI} {len:Nat} {es:Z (Z V)}:Aa dr T e len [] C es=some (es,C):=(rfl)
@[simp] def zru  {e:TI} {len k:Nat} {o:Operand}  {es:Z (Z V)}:Aa dr T e len ((k,o)::l) C es=ob (bU T o) λv=>ob (D5 dr v C) λr =>
 gd (et (Nat.beq (dB r.1.cells) e.size) (Nat.blt k len)) (Aa dr T e len l r.2 (Xm es k r.1.cells)):=(rfl)
@[simp] def zuM {v:V}:D5 false v C=nE v C:=(rfl)
@[simp] def zwS {v:V}:D5 true v C=gd v.pure (some (v,C)):=(rfl)
@[simp] def zql   {len:Nat} :jU P dr T C id t len ps=ob (ti P t) λi=>ob (sN i.desc) λel=>ob (ti P el) λe =>
 gd (et (Nat.ble (len*e.size) 1048576) (et (nt (Nat.beq e.size 0)) (et (Nat.beq (dB e.zero) e.size) (J9 e.zero))))
  (ob (Aa dr T e len ps.toList C (zj7 e.zero len)) λr=>some (bi (Nat.beq e.bytes 128) (.own id 0 0 len (some len)) (.sl r.1 true),r.2.put id (bi (Nat.beq e.bytes 128) (.arr e.size 0 r.1 true false true) (.mp [])))):=(rfl)
@[simp] def zwN  {l:Z TypeId}:za0 P (t::l)=ob (ti P t) λi=>ob (sN i.desc) λel=>ti P el:=(rfl)
@[simp] def ztO :yN [t,u]=some u:=(rfl)
@[simp] def zAe {ts:Z TypeId} {vs:Z V}:AJ P C id ts vs=ob (ZA vs) λp=>ob (za0 P ts) λe=>ob (yN ts) λu=>ob (ti P u) λj=>ob (sN j.desc) λ_=>CV e C id p.1 p.2:=(rfl)
@[simp] def append_nil {e:TI} {x:V}:CV e C id .a8 x=ob (Av C e.size x) λnew=>gd (et (bj e.size new) (et (kJ new) (et (nt (Nat.beq e.size 0)) (et (nt (Nat.beq e.bytes 0)) (Nat.beq (dB e.zero) e.size))))) (Gj e C id new):=(rfl)
@[simp] def zCY {e:TI} {es:Z (Z V)} {t:Bool} {x:V}:CV e C id (.sl es t) x=ob (Av C e.size x) λnew=>gd (et (bj e.size new) (et (kJ new) (et (nt (Nat.beq e.size 0)) (et (nt (Nat.beq e.bytes 0)) (Nat.beq (dB e.zero) e.size))))) (J8 e C id es t new):=(rfl)
@[simp] def zAc {e:TI}   {x:V}:CV e C id (.own i g o n c) x=ob (Av C e.size x) λnew=>gd (et (bj e.size new) (et (kJ new) (et (nt (Nat.beq e.size 0)) (et (nt (Nat.beq e.bytes 0)) (Nat.beq (dB e.zero) e.size))))) (Di e C id i g o n c new):=(rfl)
@[simp] def zwV {e:TI} {new:Z (Z V)}:Gj e C id new=bi (Nat.beq (dB new) 0) (some (.a8,C)) (gd (yE (dB new) e.bytes) (DD e C id (dB new) new)):=(rfl)
@[simp] def zAd {e:TI} {es new:Z (Z V)} {t:Bool}:J8 e C id es t new=bi (Nat.beq (dB new) 0) (some (.sl es t,C)) (gd (et t (et (yE (dB es+dB new) e.bytes) (bj e.size es))) (DD e C id (dB es+dB new) (kg es new))):=(rfl)
@[simp] def zIA {e:TI}  {es:Z (Z V)}:DD e C id n es=some (.own id 0 0 n none,C.put id (.arr e.size 0 es false false true)):=(rfl)
@[simp] def zqE {e:TI}  {new:Z (Z V)}:Di e C id i g o n none new=ob (ng C i g) λa=>gd (et a.2.2.2.2 (et (Nat.beq a.1 e.size) (et (Nat.beq (o % a.1) 0) (yE (n+dB new) e.bytes))))
 (bi (Nat.ble (o / a.1+n+dB new) (dB a.2.1)) (yY C i g o n none a new)
     (gd (et (nt a.2.2.2.1) (et (Nat.beq o 0) (Nat.ble n (dB a.2.1)))) (some (.own i (g+1) 0 (n+dB new) none,C.wr i (.arr a.1 (g+1) (kg (I7 n a.2.1) new) false false true))))):=(rfl)
@[simp] def zqD {e:TI} {c:Nat} {new:Z (Z V)}:Di e C id i g o n (some c) new=ob (ng C i g) λa=>gd (et a.2.2.2.2 (et (Nat.beq a.1 e.size) (et (Nat.beq (o % a.1) 0) (yE (n+dB new) e.bytes))))
 (bi (Nat.ble (n+dB new) c) (yY C i g o n (some c) a new) (ob (BU a.1 o n a.2.1) λcb=>DD e C id (n+dB new) (kg cb new))):=(rfl)
@[simp] def zAf   {a:Nat×Z (Z V)×Bool×Bool×Bool} {new:Z (Z V)}:yY C i g o n c a new=gd (et (nt a.2.2.2.1) (Nat.ble (o / a.1+n+dB new) (dB a.2.1)))
 (some (.own i g o (n+dB new) c,C.wr i (.arr a.1 g (kF a.2.1 (o / a.1+n) new) a.2.2.1 false a.2.2.2.2))):=(rfl)
@[simp] def zGR {size off len:Nat} {es:Z (Z V)}:BU size off len es=gd (et (Nat.beq (off % size) 0) (Nat.ble (off / size+len) (dB es))) (some (I7 len (LC (off / size) es))):=(rfl)
@[simp] def zwM :Av C n .a8=some []:=(rfl)
@[simp] def zCf  {es:Z (Z V)} {t:Bool}:Av C n (.sl es t)=some es:=(rfl)
@[simp] def zzz {k:Nat} :Av C n (.own i g o k c)=ob (ng C i g) λa=>gd (et a.2.2.2.2 (Nat.beq a.1 n)) (BU a.1 o k a.2.1):=(rfl)
@[simp] def zEz {v:V}:nE v C=ob (kV C v) λv'=>some (v',mO C v.cells):=(rfl)
@[simp] def zxL {l:Z V}:kV C (.agg l)=ob (BM C l) λl=>some (.agg l):=(rfl)
@[simp] def zsw:BM C []=some []:=(rfl)
@[simp] def zro {v:V} {l:Z V}:BM C (v::l)=ob (uo C v) λv'=>ob (BM C l) λl'=>some (v'::l'):=(rfl)
@[simp] def zsz  :uo C (.own i g o n c)=ob (ng C i g) λa=>gd a.2.2.2.2 (ob (BU a.1 o n a.2.1) λl=>some (.sl l false)):=(rfl)
@[simp] def zxN  {n:Int}:uo C (.int k n)=some (.int k n):=(rfl)
@[simp] def zvV :uo C (.bool b)=some (.bool b):=(rfl)
@[simp] def zxM {b:Z Nat}:uo C (.str b)=some (.str b):=(rfl)
@[simp] def zAV {es:Z (Z V)} :uo C (.sl es b)=some (.sl es b):=(rfl)
@[simp] def zvU:uo C .a8=some .a8:=(rfl)
@[simp] def zrJ:mO C []=C:=(rfl)
@[simp] def zpJ {v:V} {l:Z V}:mO C (v::l)=nU (mO C l) v:=(rfl)
@[simp] def zwG  :nU C (.own i g o n c)=iO C i:=(rfl)
@[simp] def zwH  {n:Int}:nU C (.int k n)=C:=(rfl)
@[simp] def zug :nU C (.bool b)=C:=(rfl)
@[simp] def zwF {b:Z Nat}:nU C (.str b)=C:=(rfl)
@[simp] def zzn {es:Z (Z V)} :nU C (.sl es b)=C:=(rfl)
@[simp] def zuf:nU C .a8=C:=(rfl)
@[simp] def zwE :iO C i=u6 C (λo=>u6 C (λa=>C.wr i (.arr a.1 a.2.1 a.2.2.1 a.2.2.2.1 true a.2.2.2.2.2)) o.ye) (C.H.get i):=(rfl)
@[simp] def zAW :bj n []=true:=(rfl)
@[simp] def zxR  {x:Z V} {l:Z (Z V)}:bj n (x::l)=et (Nat.beq (dB x) n) (bj n l):=(rfl)
@[simp] def zvg:kJ []=true:=(rfl)
@[simp] def zrQ {x:Z V} {l:Z (Z V)}:kJ (x::l)=et (Ka x) (kJ l):=(rfl)
end
section
variable {r:V}
@[simp] def zsx:mf C []=some []:=(rfl)
@[simp] def zrp {v:V} {l:Z V}:mf C (v::l)=ob (kV C v) λv'=>ob (mf C l) λl'=>some (v'::l'):=(rfl)
@[simp] def zsy  :kV C (.own i g o n c)=uo C (.own i g o n c):=(rfl)
@[simp] def zxK  {n:Int}:kV C (.int k n)=some (.int k n):=(rfl)
@[simp] def zvT :kV C (.bool b)=some (.bool b):=(rfl)
@[simp] def zxJ {b:Z Nat}:kV C (.str b)=some (.str b):=(rfl)
@[simp] def zAU {es:Z (Z V)} :kV C (.sl es b)=some (.sl es b):=(rfl)
@[simp] def zvS:kV C .a8=some .a8:=(rfl)
end
abbrev Spec:=Z V->HS->Y (V×HS)
def X5(s:Z V->Y V):Spec:=λvs C=>gd (bX vs) (ob (s vs) λv=>some (v,C))
def zp3(L:Z (Nat×Spec))(f:FuncId)(vs:Z V)(C:HS):Y (V×HS):=lr none (λp _ ih=>bi (Nat.beq f p.1) (p.2 vs C) ih) L
def zlw(P:Program)(zj:FuncId->Nat)(L:Z (Nat×Spec)):Env:={ P:=P,zj:=zj,dA:=zp3 L }
structure Valid(I:Nat->Value)(P:Program)(f:Nat)(s:Spec):Prop where
 fn:vM P f
 ok:∀ {vs C v a9},s vs C=some (v,a9)->aS I P f vs C v a9
 kept:∀ {vs C r},s vs C=some r->Kept C r.2
theorem zlF(p:Nat×Spec)(L:Z (Nat×Spec))(f:FuncId):zp3 (p::L) f=if f=p.1 then p.2 else zp3 L f:=by
 funext vs C;show bi (Nat.beq f p.1) (p.2 vs C) (zp3 L f vs C)=_;grind [iV,beq_true]
theorem aj{zj:FuncId->Nat}:∀ {L:Z (Nat×Spec)},(∀ p∈L,Valid I P p.1 p.2)->bK I (zlw P zj L):=by
 intro L h
 have key:∀ (cI:Z (Nat×Spec)),(∀ p∈cI,p∈L)->∀ {f vs C q},zp3 cI f vs C=some q->∃ p∈L,p.1=f/\p.2 vs C=some q:=by
  intro cI
  induction cI with
  |nil=>intro _ f vs C q hq;cases hq
  | cons p cI ih =>intro hM f vs C q hq;rw[zlF]at hq;grind
 refine⟨?_,?_,?_⟩;intro f vs C v a9 hq;obtain⟨p,hp,rfl,O⟩:=key L (λ_ h=>h) hq;exact(h p hp).ok O;intro f vs C q hq;obtain⟨p,hp,rfl,O⟩:=key L (λ_ h=>h) hq;exact(h p hp).kept O;intro f vs C q hq;obtain⟨p,hp,rfl,O⟩:=key L (λ_ h=>h) hq;exact(h p hp).fn
def aH:∀ p∈([]:Z (Nat×Spec)),Valid I P p.1 p.2:=λp h=>by cases h
theorem ae{s:Spec}{L:Z (Nat×Spec)}(h:Valid I P f s)(hl:∀ p∈L,Valid I P p.1 p.2):∀ p∈(f,s)::L,Valid I P p.1 p.2:=by
 grind
def Valid.pure(hρ:Good I)(hP:P.follows .mixedOrders=true)(hN:vX P){s:Z V->Y V}(hf:vM P f)
 (h:∀ vs v,bX vs=true->s vs=some v->∃ E n,bK I E/\E.P=P/\zjX E n f vs=some v):Valid I P f (X5 s) where
 fn:=hf
 ok:=by intro vs C v a9 hq;simp only[X5,bI,aC]at hq;let⟨hp,v',hv,hq⟩:=hq;cases hq;obtain⟨E,n,hc,rfl,hr⟩:=h vs v hp hv;exact Jr hρ hc hP hN hr hp
 kept:=by
  intro vs C q hq;simp only[X5,bI,aC]at hq;let⟨_,v',_,hq⟩:=hq;cases hq;exact .refl _
section
variable {vs:Z V}{s:Z V->Y V}{K:V×HS->Prop}
@[simp] def zrs:kK [] C=some ([],C):=(rfl)
@[simp] def zoa {v:V} {l:Z V}:kK (v::l) C=ob (nE v C) λr=>ob (kK l r.2) λq=>some (r.1::q.1,q.2):=(rfl)
@[simp] def zwW:bX []=true:=(rfl)
@[simp] def zve {v:V} {l:Z V}:bX (v::l)=(v.pure&&bX l):=by rw[<- YA];rfl
@[simp] def zEC {l:Z V}:(V.agg l).pure=J9 l:=(rfl)
@[simp] def zHe:J9 []=true:=(rfl)
@[simp] def zCZ {v:V} {l:Z V}:J9 (v::l)=(v.bN&&J9 l):=by rw[<- YA];rfl
@[simp] def zEB  {n:Int}:(V.int k n).pure=true:=(rfl)
@[simp] def zBd :(V.bool b).pure=true:=(rfl)
@[simp] def zEA {b:Z Nat}:(V.str b).pure=true:=(rfl)
@[simp] def zH7 {es:Z (Z V)} {t:Bool}:(V.sl es t).pure=true:=(rfl)
@[simp] def zBc:V.a8.pure=true:=(rfl)
@[simp] def zBf  {n:Int}:(V.int k n).bN=true:=(rfl)
@[simp] def zx3 :(V.bool b).bN=true:=(rfl)
@[simp] def zBe {b:Z Nat}:(V.str b).bN=true:=(rfl)
@[simp] def zED {es:Z (Z V)} {t:Bool}:(V.sl es t).bN=true:=(rfl)
@[simp] def zx2:V.a8.bN=true:=(rfl)
end
def V.xI(π:Nat->Nat):V->V
 |.ptr id g off=>.ptr (π id) g off
 |.own id g off len cap=>.own (π id) g off len cap
 |.map id=>.map (π id)
 |.lx id=>.lx (π id)
 |v=>v
def V.jr(π:Nat->Nat):V->V
 |.agg cs=>.agg (cs.map (V.xI π))
 |.func f cs=>.func f (cs.map (V.xI π))
 |.iface t v=>.iface t (v.xI π)
 |v=>v.xI π
def V.cw(π:Nat->Nat):V->V
 |.tuple cs=>.tuple (cs.map (V.jr π))
 |v=>v.jr π
def V.MQ(A:Nat->Bool):V->Bool
 |.ptr id _ _=>A id
 |.own id _ _ _ _=>A id
 |.map id=>A id
 |.lx id=>A id
 |v=>v.bN
def V.Ai(A:Nat->Bool):V->Bool
 |.agg cs=>cs.all (V.MQ A)
 |.func _ cs=>cs.all (V.MQ A)
 |.iface _ v=>v.MQ A
 |v=>v.MQ A
def V.sS(A:Nat->Bool):V->Bool
 |.tuple cs=>cs.all (V.Ai A)
 |v=>v.Ai A
def Obj.cw(π:Nat->Nat):Obj->Obj
 |.arr size gen es ex fz row=>.arr size gen (es.map λe=>e.map (V.jr π)) ex fz row
 |o=>o
def Obj.in(A:Nat->Bool):Obj->Bool
 |.arr _ _ es _ _ row=>es.all λe=>e.all λv=>if row then v.bN else v.Ai A
 |.mp _=>true
 |.lp _ _ _ _ _ _=>false
section
variable {w w':World}{F F':Nat->Prop}{μ μ':Nat->Nat->Y MI}{π:Nat->Nat}{A:Nat->Bool}
theorem V.jF{v:V}(h:v.bN=true):v.jr π=v:=by
 cases v with
 | func f cs=>cases cs with
   |nil=>rfl
   |cons _ _=>cases h
 | iface t v =>
   replace h:v.Dw=true:=h;cases v<;>first|rfl|cases h
 |agg _=>cases h
 |_=>first|rfl|cases h
def dZ.zi0{v:V}{x:Value}(h:dZ I w F μ (v.xI π) x)(hA:v.MQ A=true)(hμ:∀ id,A id=true->∀ g m,μ (π id) g=some m->μ' id g=some m):dZ I w F μ' v x:=by
 cases v with
 | ptr id g off =>obtain⟨m,M,rfl⟩:=dZ.yI I h;exact .ptr id g off m (hμ id hA g m M)
 | own id g off len cap =>obtain⟨m,c,M,rfl,O,h3,h4,h5⟩:=dZ.xe I h;exact .own id g off len cap c m (hμ id hA g m M) O h3 h4 h5
 | map id =>obtain⟨m,M,rfl⟩:=dZ.GR I h;exact .map id m (hμ id hA 0 m M)
 | lx id =>obtain⟨m,M,rfl⟩:=dZ.Nn I h;exact .lx id m (hμ id hA 0 m M)
 |_=>exact .pure (dZ.bN I h hA)
def dZ.ziZ{v:V}{x:Value}(h:dZ I w F μ (v.jr π) x)(hA:v.Ai A=true)(hμ:∀ id,A id=true->∀ g m,μ (π id) g=some m->μ' id g=some m):dZ I w F μ' v x:=by
 cases v with
 | agg cs =>obtain⟨ys,rfl,M,O⟩:=dZ.xy I h;replace hA:cs.all (V.MQ A)=true:=hA;rw[au]at hA;refine .agg cs ys (by simpa using M) λi v hi=>?_;exact(O i (v.xI π) (by simp[hi])).zi0 (hA v (aI hi)) hμ
 | func f cs =>obtain⟨ys,rfl,M,O⟩:=dZ.Br I h;replace hA:cs.all (V.MQ A)=true:=hA;rw[au]at hA;refine .func f cs ys (by simpa using M) λi v hi=>?_;exact(O i (v.xI π) (by simp[hi])).zi0 (hA v (aI hi)) hμ
 | iface t v =>obtain⟨y,rfl,hy⟩:=dZ.Dc I h;exact .iface t v y (hy.zi0 hA hμ)
 |_=>exact dZ.zi0 (π:=π) h hA hμ
theorem dZ.B0{v:V}{x:Value}(h:dZ I w F μ (v.cw π) x)(hA:v.sS A=true)(hμ:∀ id,A id=true->∀ g m,μ (π id) g=some m->μ' id g=some m):dZ I w F μ' v x:=by
 cases v with
 | tuple cs =>obtain⟨ys,rfl,M,O⟩:=dZ.qF I h;replace hA:cs.all (V.Ai A)=true:=hA;rw[au]at hA;refine .tuple cs ys (by simpa using M) λi v hi=>?_;exact(O i (v.jr π) (by simp[hi])).ziZ (hA v (aI hi)) hμ
 |_=>exact dZ.ziZ (π:=π) h hA hμ
def dZ.ziS{v:V}{x:Value}(h:dZ I w F μ v x)(hA:v.MQ A=true)(hμ:∀ id,A id=true->∀ g m,μ id g=some m->μ' (π id) g=some m):dZ I w F μ' (v.xI π) x:=by
 cases v with
 | ptr id g off =>obtain⟨m,M,rfl⟩:=dZ.yI I h;exact .ptr _ g off m (hμ id hA g m M)
 | own id g off len cap =>obtain⟨m,c,M,rfl,O,h3,h4,h5⟩:=dZ.xe I h;exact .own _ g off len cap c m (hμ id hA g m M) O h3 h4 h5
 | map id =>obtain⟨m,M,rfl⟩:=dZ.GR I h;exact .map _ m (hμ id hA 0 m M)
 | lx id =>obtain⟨m,M,rfl⟩:=dZ.Nn I h;exact .lx _ m (hμ id hA 0 m M)
 |_=>exact .pure (dZ.bN I h hA)
def dZ.ziR{v:V}{x:Value}(h:dZ I w F μ v x)(hA:v.Ai A=true)(hμ:∀ id,A id=true->∀ g m,μ id g=some m->μ' (π id) g=some m):dZ I w F μ' (v.jr π) x:=by
 cases v with
 | agg cs =>obtain⟨ys,rfl,M,O⟩:=dZ.xy I h;replace hA:cs.all (V.MQ A)=true:=hA;rw[au]at hA;refine .agg _ ys (by simpa using M) λi v hi=>?_;rw[bC,bH]at hi;obtain⟨u,hu,rfl⟩:=hi;exact(O i u hu).ziS (hA u (aI hu)) hμ
 | func f cs =>obtain⟨ys,rfl,M,O⟩:=dZ.Br I h;replace hA:cs.all (V.MQ A)=true:=hA;rw[au]at hA;refine .func f _ ys (by simpa using M) λi v hi=>?_;rw[bC,bH]at hi;obtain⟨u,hu,rfl⟩:=hi;exact(O i u hu).ziS (hA u (aI hu)) hμ
 | iface t v =>obtain⟨y,rfl,hy⟩:=dZ.Dc I h;exact .iface t _ y (hy.ziS hA hμ)
 |_=>exact dZ.ziS (π:=π) h hA hμ
theorem dZ.back{v:V}{x:Value}(h:dZ I w F μ v x)(hA:v.sS A=true)(hμ:∀ id,A id=true->∀ g m,μ id g=some m->μ' (π id) g=some m):dZ I w F μ' (v.cw π) x:=by
 cases v with
 | tuple cs =>obtain⟨ys,rfl,M,O⟩:=dZ.qF I h;replace hA:cs.all (V.Ai A)=true:=hA;rw[au]at hA;refine .tuple _ ys (by simpa using M) λi v hi=>?_;rw[bC,bH]at hi;obtain⟨u,hu,rfl⟩:=hi;exact(O i u hu).ziR (hA u (aI hu)) hμ
 |_=>exact dZ.ziR (π:=π) h hA hμ
theorem Obj.GD(o:Obj):(o.cw π).gen=o.gen:=by cases o<;>rfl
theorem Obj.ZU(o:Obj):(o.cw π).fz=o.fz:=by cases o<;>rfl
theorem pO.B0 {id:Nat} {o:Obj} (h:pO I w F μ P (π id) (o.cw π)) (h1:o.in A=true) (hg:∀ g m,μ' id g=some m->μ (π id) g=some m)
 (hμ:∀ id,A id=true->∀ g m,μ (π id) g=some m->μ' id g=some m):pO I w F μ' P id o:=by
 cases o with
 | arr size gen es exact fz row =>
   intro m hm;have a:=h m (hg _ _ hm);replace h1:(es.all λe=>e.all λv=>if row then v.bN else v.Ai A)=true:=h1;rw[au]at h1;let⟨cells,el,c1,c2,c3,c4,c5⟩:=a.cells;refine⟨a.fg,λe he=>?_,⟨cells,el,c1,c2,by simpa using c3,by simpa using c4,λk e j v he hv=>?_⟩,a.hf,a.hn⟩;have:=a.hlen (e.map (V.jr π)) (aF.2 ⟨e,he,rfl⟩);simpa using this;have gR:=h1 e (aI he);rw[au]at gR;have hs:=gR v (aI hv);let⟨y,y1,y2,y3⟩:=c5 k (e.map (V.jr π)) j (v.jr π) (by simp[he]) (by simp[hv])
   cases row with
   | true =>replace hs:v.bN=true:=hs;rw[V.jF hs]at y3;exact⟨y,y1,.pure (y3 rfl),y3⟩
   | false =>replace hs:v.Ai A=true:=hs;exact⟨y,y1,y2.ziZ hs hμ,λh=>by cases h⟩
 |mp es=>exactλm hm=>h m (hg _ _ hm)
 |lp a b c d e f=>cases h1
theorem pO.back {id:Nat} {o:Obj} (h:pO I w F μ P id o) (h1:o.in A=true) (hg:∀ g m,μ' (π id) g=some m->μ id g=some m)
 (hμ:∀ id,A id=true->∀ g m,μ id g=some m->μ' (π id) g=some m):pO I w F μ' P (π id) (o.cw π):=by
 cases o with
 | arr size gen es exact fz row =>
   intro m hm;have a:=h m (hg _ _ hm);replace h1:(es.all λe=>e.all λv=>if row then v.bN else v.Ai A)=true:=h1;rw[au]at h1;let⟨cells,el,c1,c2,c3,c4,c5⟩:=a.cells;refine⟨a.fg,λe he=>?_,⟨cells,el,c1,c2,by simpa using c3,by simpa using c4,λk e j v he hv=>?_⟩,a.hf,a.hn⟩;obtain⟨e0,h0,rfl⟩:=aF.1 he;simpa using a.hlen e0 h0;rw[bC,bH]at he;obtain⟨e0,Kd,rfl⟩:=he;rw[bC,bH]at hv;obtain⟨v0,ka,rfl⟩:=hv;have gR:=h1 e0 (aI Kd);rw[au]at gR;have hs:=gR v0 (aI ka);let⟨y,y1,y2,y3⟩:=c5 k e0 j v0 Kd ka
   cases row with
   | true =>replace hs:v0.bN=true:=hs;rw[V.jF hs];exact⟨y,y1,.pure (y3 rfl),y3⟩
   | false =>replace hs:v0.Ai A=true:=hs;exact⟨y,y1,y2.ziR hs hμ,λh=>by cases h⟩
 |mp es=>exactλm hm=>h m (hg _ _ hm)
 |lp a b c d e f=>cases h1
end
mutual
def ig:V->V
 |.a8=>.sl [] false
 |.sl es _=>.sl (gP es) false
 |.ref cs=>.ref (fF cs)
 |.agg cs=>.agg (fF cs)
 |.tuple cs=>.tuple (fF cs)
 |.iface t v=>.iface t (ig v)
 |v=>v
def fF:Z V->Z V
 | []=>[]
 |v::l=>ig v::fF l
def gP:Z (Z V)->Z (Z V)
 | []=>[]
 |v::l=>fF v::gP l
end
theorem mX:∀ l,fF l=l.map ig:=by
 intro l
 induction l with
 |nil=>simp[fF]
 |cons v l ih=>simp[fF,ih]
def Da:∀ l,gP l=l.map fF:=by
 intro l
 induction l with
 |nil=>simp[gP]
 |cons v l ih=>simp[gP,ih]
section
variable {w:World}{F:Nat->Prop}
def fJ.norm{v:V}{x:Value}(h:fJ I w F v x):fJ I w F (ig v) x:=by
 induction h with
 |bool b=>exact .bool b
 |int k n=>exact .int k n
 |str s=>exact .str s
 |de=>exact .de
 |a8=>exact .pT none 0 false (λh=>by cases h)
 |dy=>exact .dy
 |nilFunc=>exact .nilFunc
 |nilIface=>exact .nilIface
 |sym k=>exact .sym k
 |func f=>exact .func f
 |iface t v y _ ih=>exact .iface t _ y ih
 | ref cs b off ys hb hc _ ih =>show fJ I w F (.ref (fF cs)) _;rw[mX];refine .ref _ b off ys hb (λi v hi=>?_) (λi v hi=>?_);rw[bC,bH]at hi;obtain⟨u,hu,rfl⟩:=hi;exact hc i u hu;rw[bC,bH]at hi;obtain⟨u,hu,rfl⟩:=hi;exact ih i u hu
 |pT a c t h=>exact .pT a c false (λh=>by cases h)
 | rj es b off size c t ys hb hl hc _ M O ih =>show fJ I w F (.sl (gP es) false) _;rw[Da];have hlen:(es.map fF).length=es.length:=aN ..;rw[<- hlen];have HH:∀ (i:Nat) (e:Z V),(es.map fF)[i]?=some e->∃ e0:Z V,es[i]?=some e0/\e=e0.map ig:=(by intro i e hi;rw[bC,bH]at hi;obtain⟨e0,h0,rfl⟩:=hi;exact⟨e0,h0,mX _⟩);refine .rj _ b off size c false ys hb (λe he=>?_) (λi e j v hi hj=>?_) (λi e j v hi hj=>?_) (by rw[hlen];exact M) (λh=>by cases h);obtain⟨e0,h0,rfl⟩:=aF.1 he;rw[mX,aN];exact hl e0 h0;obtain⟨e0,h0,rfl⟩:=HH i e hi;rw[bC,bH]at hj;obtain⟨u,hu,rfl⟩:=hj;exact hc i e0 j u h0 hu;obtain⟨e0,h0,rfl⟩:=HH i e hi;rw[bC,bH]at hj;obtain⟨u,hu,rfl⟩:=hj;exact ih i e0 j u h0 hu
 | agg cs ys C _ ih =>show fJ I w F (.agg (fF cs)) _;rw[mX];refine .agg _ ys (by simpa using C) λi v hi=>?_;rw[bC,bH]at hi;obtain⟨u,hu,rfl⟩:=hi;exact ih i u hu
 | tuple cs ys C _ ih =>
   show fJ I w F (.tuple (fF cs)) _;rw[mX];refine .tuple _ ys (by simpa using C) λi v hi=>?_;rw[bC,bH]at hi;obtain⟨u,hu,rfl⟩:=hi;exact ih i u hu
end
section
variable {w w':World}{F F':Nat->Prop}{μ μ':Nat->Nat->Y MI}
theorem dZ.norm{v:V}{x:Value}(h:dZ I w F μ v x):dZ I w F μ (ig v) x:=by
 induction h with
 |pure h=>exact .pure h.norm
 |ptr id g off m hm=>simpa [ig]using dZ.ptr id g off m hm
 |own id g off len cap c m hm M O h3 h4=>simpa [ig]using dZ.own id g off len cap c m hm M O h3 h4
 |map id m hm=>simpa [ig]using dZ.map id m hm
 |lx id m hm=>simpa [ig]using dZ.lx id m hm
 |func f cs ys M O _=>simpa [ig]using dZ.func f cs ys M O
 |iface t v y _ ih=>simpa [ig]using dZ.iface t _ y ih
 | agg cs ys M _ ih =>simp only[ig,mX];refine .agg _ ys (by simpa using M) λi v hi=>?_;grind
 | tuple cs ys M _ ih =>
   simp only[ig,mX];refine .tuple _ ys (by simpa using M) λi v hi=>?_;grind
def U7:Obj->Obj
 |.arr s g es x z r=>.arr s g (es.map fF) x z r
 |o=>o
def zkA(o:Obj):(U7 o).gen=o.gen:=by cases o<;>rfl
def zou(o:Obj):(U7 o).fz=o.fz:=by cases o<;>rfl
def pO.norm{id:Nat}{o:Obj}(h:pO I w F μ P id o):pO I w F μ P id (U7 o):=by
 cases o with
 | arr size gen es exact fz row =>intro m hm;have a:=h m hm;let⟨cells,el,c1,c2,c3,c4,c5⟩:=a.cells;refine⟨a.fg,λe he=>?_,⟨cells,el,c1,c2,by simpa using c3,by simpa using c4,λk e j v he hv=>?_⟩,a.hf,a.hn⟩;obtain⟨e0,h0,rfl⟩:=aF.1 he;rw[mX,aN];exact a.hlen e0 h0;rw[bC,bH]at he;obtain⟨e0,Kd,rfl⟩:=he;rw[mX,bC,bH]at hv;obtain⟨v0,ka,rfl⟩:=hv;let⟨y,y1,y2,y3⟩:=c5 k e0 j v0 Kd ka;exact⟨y,y1,y2.norm,λhr=>(y3 hr).norm⟩
 |mp es=>exact h
 |lp a b c d e f=>exact h
end
section
variable {w w':World}{F F':Nat->Prop}{μ μ':Nat->Nat->Y MI}{π:Nat->Nat}{A:Nat->Bool}
structure Start where
 db:Nat->Prop
 w:World
 F:Nat->Prop
 k:Nat
 μ:Nat->Nat->Option MI
structure Loc(s:Start)(w:World)(F:Nat->Prop)(μ:Nat->Nat->Option MI)(C:HS):Prop where
 io:Io s.w w
 size:s.w.heap.size<=w.heap.size
 bw:∀ b,b<s.w.heap.size->¬ s.db b->w.heap[b]?=s.w.heap[b]?
 fm:∀ b,s.F b->F b
 CQ:∀ b,F b->s.F b\/s.w.heap.size<=b\/s.db b
 mm:∀ id g m,id<s.k->s.μ id g=some m->μ id g=some m
 own:∀ b,zS C μ b->s.db b\/s.w.heap.size<=b
 zsW:∀ id,id<s.k->C.H.get id≠none
 dm:∀ id,id<s.k->(∀ g,s.μ id g=none)->∀ g,μ id g=none
 mn:∀ id g m,μ id g=some m->s.w.heap.size<=m.b\/∃ i j m0,s.μ i j=some m0/\m0.b=m.b
theorem Loc.step{s:Start}(h:Loc s w F μ C)(f:Fr w F μ C w' F' μ' a9):Loc s w' F' μ' a9 where
 io:=h.io.trans f.io
 size:=aO h.size f.size
 bw b hb hn:=by rw[f.bw b (cu hb h.size) (λho=>(h.own b ho).elim hn (λrK=>by omega)),h.bw b hb hn]
 fm b hb:=f.fm b (h.fm b hb)
 CQ b hb:=by rcases f.CQ b hb with M|M|M;exact h.CQ b M;exact .inr (.inl (aO h.size M));rcases h.own b M with O|O;exact .inr (.inr O);exact .inr (.inl O)
 mm id g m hk hm:=f.mm _ _ _ (h.mm _ _ _ hk hm)
 own b hb:=by rcases f.own b hb with M|M;exact h.own b M;exact .inr (aO h.size M)
 zsW id hk:=f.hm id (h.zsW id hk)
 dm id hk hg:=f.dm id (h.zsW id hk) (h.dm id hk hg)
 mn id g m hm:=by
  rcases f.mn id g m hm with M|⟨i,j,m0,M,O⟩;exact .inl (aO h.size M);rcases h.mn i j m0 M with h3|⟨i',j',m1,h3,h4⟩;exact .inl (O ▸ h3);exact .inr ⟨i',j',m1,h3,h4.trans O⟩
def Mb(μ:Nat->Nat->Y MI)(C:HS):Prop:=∀ id g,μ id g≠none->C.H.get id≠none
theorem Mb.cx(h:Mb μ C):Py (λ_=>False) μ C:=⟨λid g hg=>.inl (h id g hg),λ_ _ h=>h⟩
def Py.zMO(h:Py (λ_=>False) μ C):Mb μ C:=λid g hg=>(h.1 id g hg).elim (λh=>h) False.elim
def Lt (I:Nat->Value) (P:Program) (k:Nat) (rd:Bool) (sz:Nat) (c:Code) (T:PT V) (C:HS) (Q:Ex->PT V->HS->Prop):Prop :=
 ∀ (s:Start) (N:NB) (r:Y Nat) (w:World) (F:Nat->Prop) (μ:Nat->Nat->Y MI) (a:Act) (K:Exit->Act->World->Prop),s.k=k->((rd=false->r=none)/\N.plain=false)->Loc s w F μ C->R I w F μ P C->Mb μ C->kR I w F μ T a.tmps->sz<=a.tmps.size->Marks N w a.defers ->
   (∀ ex T' a9 a' w' F' μ',Q ex T' a9->Loc s w' F' μ' a9->R I w' F' μ' P a9->Mb μ' a9->kR I w' F' μ' T' a'.tmps->a'.tmps.size=a.tmps.size->Marks N w' a'.defers->K (zpR ex) a' w')->c.wpIn (Wr r) 0 P K a w
variable {k:Nat}{rd:Bool}{sz:Nat}{c:Code}{T:PT V}{Q Q':Ex->PT V->HS->Prop}
def zi3(h:Lt I P k rd sz c T C Q)(hq:∀ e T C,Q e T C->Q' e T C):Lt I P k rd sz c T C Q' :=
 λs N r w F μ a K hk hr hL hR hD hT cd hM hK=>h s N r w F μ a K hk hr hL hR hD hT cd hM λex T' a9 a' w' F' μ' q=>hK ex T' a9 a' w' F' μ' (hq _ _ _ q)
theorem zAo(hρ:Good I)(aq:bK I E)(hP:E.P.follows .mixedOrders=true)(hN:vX E.P){ex:Ex}{T':PT V}(h:(rV E n).code rd sz c T C=some (ex,T',a9))(hq:Q ex T' a9):Lt I E.P k rd sz c T C Q:=by
 intro s N r w F μ a K hk hr hL hR hD hT cd hM hK;have cH:=zpS hρ aq hP hN n;refine cH.code h N (λ_=>False) r w F μ a K hr hR hD.cx (pP.no _) hT cd hM ?_;intro a' w' F' μ' vf hT' HC hM' Bx;exact hK ex T' a9 a' w' F' μ' hq (hL.step Bx) vf (Bx.cx (cH.kept.code h).le hD.cx).zMO hT' HC hM'
def zvi(h:Q .normal T C):Lt I P k rd sz .skip T C Q :=
 λ_ _ _ w F μ a _ _ _ hL hR hD hT _ hM hK=>wpIn_skip (hK _ _ _ a w F μ h hL hR hD hT rfl hM)
def zvl(h:Q (.exit i) T C):Lt I P k rd sz (.exit i) T C Q :=
 λ_ _ _ w F μ a _ _ _ hL hR hD hT _ hM hK=>wpIn_exit (hK _ _ _ a w F μ h hL hR hD hT rfl hM)
def zAp(h:Q .ret T C):Lt I P k rd sz .ret T C Q :=
 λ_ _ _ w F μ a _ _ _ hL hR hD hT _ hM hK=>wpIn_ret (hK _ _ _ a w F μ h hL hR hD hT rfl hM)
theorem zAn{x y:Code}(h:Lt I P k rd sz x T C (Ex.then (λT C=>Lt I P k rd sz y T C Q) Q)):Lt I P k rd sz (.seq x y) T C Q:=by
 intro s N r w F μ a K hk hr hL hR hD hT cd hM hK;refine wpIn_seq (h s N r w F μ a _ hk hr hL hR hD hT cd hM ?_);intro ex T1 cp a1 w1 F1 μ1 q s5 Gv vj ir eL rL
 cases ex with
 | normal =>refine q s N r w1 F1 μ1 a1 K hk hr s5 Gv vj ir (by rw[eL];exact cd) rL ?_;grind
 |ret=>exact hK .ret T1 cp a1 w1 F1 μ1 q s5 Gv vj ir eL rL
 |exit i=>exact hK (.exit i) T1 cp a1 w1 F1 μ1 q s5 Gv vj ir eL rL
theorem zvm{x y:Code}{t:Bool}(hq:bU T q=some (.bool t))(h:if t=true then Lt I P k rd sz x T C Q else Lt I P k rd sz y T C Q):Lt I P k rd sz (.cond q x y) T C Q:=by
 intro s N r w F μ a K hk hr hL hR hD hT cd hM hK;refine wpIn_cond (dM (a:=a) hT hq).uL ?_
 cases t with
 |true=>exact h s N r w F μ a K hk hr hL hR hD hT cd hM hK
 |false=>exact h s N r w F μ a K hk hr hL hR hD hT cd hM hK
theorem zqR{x:Code}(h:Lt I P k rd sz x T C (Ex.inBlock i Q)):Lt I P k rd sz (.block i x) T C Q:=by
 intro s N r w F μ a K hk hr hL hR hD hT cd hM hK;refine wpIn_block (h s N r w F μ a _ hk hr hL hR hD hT cd hM ?_);intro ex T1 cp a1 w1 F1 μ1 q s5 Gv vj ir eL rL
 cases ex with
 |normal=>exact hK .normal T1 cp a1 w1 F1 μ1 q s5 Gv vj ir eL rL
 |ret=>exact hK .ret T1 cp a1 w1 F1 μ1 q s5 Gv vj ir eL rL
 | exit j =>
   show (if j=i then K .normal a1 w1 else K (.exit j) a1 w1);replace q:(if j=i then Q .normal T1 cp else Q (.exit j) T1 cp):=q;split;rename_i e;rw[if_pos e]at q;exact hK .normal T1 cp a1 w1 F1 μ1 q s5 Gv vj ir eL rL;rename_i e;rw[if_neg e]at q;exact hK (.exit j) T1 cp a1 w1 F1 μ1 q s5 Gv vj ir eL rL
def zNk(I:Nat->Value)(P:Program)(k:Nat)(rd:Bool)(sz:Nat)(c:Code)(Q:Ex->PT V->HS->Prop):Nat->PT V->HS->Prop
 | 0,_,_=>False
 |n+1,T,C=>Lt I P k rd sz c T C (Ex.then (zNk I P k rd sz c Q n) Q)
theorem zvk(h:zNk I P k rd sz c Q n T C):Lt I P k rd sz (.loop c) T C Q:=by
 intro s N r w F μ a K hk hr hL hR hD hT cd hM hK;refine wpIn_loop_rounds n ?_
 induction n generalizing T C w F μ a with
 |zero=>exact h.elim
 | succ n ih =>
   refine h s N r w F μ a _ hk hr hL hR hD hT cd hM ?_;intro ex T1 cp a1 w1 F1 μ1 q s5 Gv vj ir eL rL
   cases ex with
   | normal =>refine ih q w1 F1 μ1 a1 s5 Gv vj ir (by rw[eL];exact cd) rL ?_;grind
   |ret=>exact hK .ret T1 cp a1 w1 F1 μ1 q s5 Gv vj ir eL rL
   |exit i=>exact hK (.exit i) T1 cp a1 w1 F1 μ1 q s5 Gv vj ir eL rL
structure aw(k:Nat)(T:PT V)(C:HS)(T2:PT V)(ea:HS):Prop where
 ex:∃ (π:Nat->Nat) (A:Nat->Bool),(∀ id,A id=true↔ea.H.get id≠none)/\(∀ t v,T2.get t=some v->v.sS A=true/\∃ u,T.get t=some u/\(u=v.cw π\/ig u=v.cw π)) /\
  (∀ id o,ea.H.get id=some o->o.in A=true/\∃ q,C.H.get (π id)=some q/\(q=o.cw π\/U7 q=o.cw π))/\(∀ i j,A i=true->A j=true->π i=π j->i=j)/\(∀ id,id<k->π id=id/\A id=true)
theorem aw.state{s:Start}{T2:PT V}(h:aw s.k T C T2 ea)(hL:Loc s w F μ C)(hR:R I w F μ P C)(hT:kR I w F μ T tm) :
 ∃ μ2,Loc s w F μ2 ea/\R I w F μ2 P ea/\Mb μ2 ea/\kR I w F μ2 T2 tm:=by
 let⟨π,A,hA,M,PF,h3,h4⟩:=h.ex;have O:∀ id o,ea.H.get id=some o->o.in A=true/\∃ q,C.H.get (π id)=some q/\q.gen=(o.cw π).gen/\q.fz=(o.cw π).fz/\pO I w F μ P (π id) (o.cw π):=by intro id o ho;let⟨g1,q,g2,g3⟩:=PF id o ho;refine⟨g1,q,g2,?_⟩;rcases g3 with g3|g3;subst g3;exact⟨rfl,rfl,hR.obj _ _ g2⟩;rw[<- g3];exact⟨(zkA q).symm,(zou q).symm,(hR.obj _ _ g2).norm⟩
 refine⟨λid g=>if A id=true then μ (π id) g else none,?_,?_,?_,?_⟩;refine⟨hL.io,hL.size,hL.bw,hL.fm,hL.CQ,λid g m hk hm=>?_,?_,λid hk=>(hA id).1 (h4 id hk).2,λid hk hg g=>?_,λid g m hm=>?_⟩;show (if A id=true then μ (π id) g else none)=_;rw[if_pos (h4 id hk).2,(h4 id hk).1];exact hL.mm id g m hk hm;rintro b ⟨id,o,m,ho,hz,hm,rfl⟩;have zB1:=(hA id).2 (by rw[ho];simp);replace hm:(if A id=true then μ (π id) o.gen else none)=some m:=hm;rw[if_pos zB1]at hm;let⟨_,q,q1,q2,q3,_⟩:=O id o ho;exact hL.own _ ⟨π id,q,m,q1,by rw[q3,Obj.ZU];exact hz,by rw[q2,Obj.GD];exact hm,rfl⟩;show (if A id=true then μ (π id) g else none)=_;rw[if_pos (h4 id hk).2,(h4 id hk).1];exact hL.dm id hk hg g;replace hm:(if A id=true then μ (π id) g else none)=some m:=hm;split at hm;exact hL.mn _ g m hm;cases hm;refine⟨λid g m hm=>?_,hR.BR,λid o ho=>?_,λid j9 o o' m m' ho im hm eW hb=>?_,λid o ho g hg=>?_,hR.gl⟩;replace hm:(if A id=true then μ (π id) g else none)=some m:=hm;split at hm;exact hR.lt _ g m hm;cases hm;grind [id,pO.B0];have zB1:=(hA id).2 (by rw[ho];simp);have zGp:=(hA j9).2 (by rw[im];simp);replace hm:(if A id=true then μ (π id) o.gen else none)=some m:=hm;replace eW:(if A j9=true then μ (π j9) o'.gen else none)=some m':=eW;rw[if_pos zB1]at hm;rw[if_pos zGp]at eW;let⟨_,q,q1,q2,_⟩:=O id o ho;let⟨_,q',q1',q2',_⟩:=O j9 o' im;exact h3 _ _ zB1 zGp (hR.inj _ _ _ _ m m' q1 q1' (by rw[q2,Obj.GD];exact hm) (by rw[q2',Obj.GD];exact eW) hb);have zB1:=(hA id).2 (by rw[ho];simp);show (if A id=true then _ else _)=_;rw[if_pos zB1];let⟨_,q,q1,q2,_⟩:=O id o ho;exact hR.zL _ _ q1 g (by rw[q2,Obj.GD];exact hg);intro id g hg;grind;intro t v hv;let⟨g1,u,g2,g3⟩:=M t v hv;let⟨x,W,hr⟩:=hT t _ g2;have E2:dZ I w F μ (v.cw π) x:=by rcases g3 with g3|g3;grind;rw[<- g3];exact hr.norm
 refine⟨x,W,E2.B0 g1 λi hi g m hm=>?_⟩;grind
theorem zi4{T2:PT V}(h:aw k T C T2 ea)(hl:Lt I P k rd sz c T2 ea Q):Lt I P k rd sz c T C Q:=by
 intro s N r w F μ a K hk hr hL hR hD hT cd hM hK;subst hk;let⟨μ2,tp,pL,hD2,B4⟩:=h.state hL hR hT;exact hl s N r w F μ2 a K rfl hr tp pL hD2 B4 cd hM hK
theorem zvj{Q':Ex->PT V->HS->Prop}(hl:Lt I P k rd sz c T C Q')(h:∀ ex T1 cp,Q' ex T1 cp->∃ T2 ea,aw k T1 cp T2 ea/\Q ex T2 ea):Lt I P k rd sz c T C Q:=by
 intro s N r w F μ a K hk hr hL hR hD hT cd hM hK;subst hk;refine hl s N r w F μ a K rfl hr hL hR hD hT cd hM ?_;intro ex T1 cp a1 w1 F1 μ1 q s5 Gv vj ir eL rL;let⟨T2,ea,O,q2⟩:=h ex T1 cp q;let⟨μ2,tp,pL,hD2,B4⟩:=O.state s5 Gv ir;grind
end
section
variable {id:Nat}{T:PT V}{K:V->HS->Z Nat×Z Nat->Prop}{sz:Nat}{acc:Z (Z Nat×Z Nat)}{R:PT V->HS->Z (Z Nat×Z Nat)->Prop}
@[simp ↓] def zNi:Rd E sz [] id T C acc R=R T C acc:=(rfl)
@[simp ↓] theorem zJ1  {op:Op} {g:Y (Tmp×Bool)}  {l:Z SD}:Rd E sz (⟨d,op,g,lk⟩::l) id T C acc R=zex E id (iC T lk) C ⟨d,op,g,lk⟩ λv a9 rw=>put sz T d v λT1=>Rd E sz l (id+1) T1 a9 (acc++[rw]) R:=by
  show (zex E id (iC T lk) C ⟨d,op,g,lk⟩ λv a9 rw=>put sz T d v λT1=>Rd E sz l (id+1) T1 a9 (kg acc [rw]) R)=_;simp_all
@[simp ↓] def zKb  {op:Op} :zex E id T C ⟨d,op,none,lk⟩ K=Np E id T C op K:=(rfl)
@[simp ↓] def zKc  {op:Op} {t:Tmp} {w:Bool} :zex E id T C ⟨d,op,some (t,w),lk⟩ K=ok (T.get t) λv=>ok (v.lA w) λq=>br (q=w) (Np E id T C op K) (K oW C ([],[])):=by
  simp only[zqm];rfl
def lf:HS:={ H:=.leaf,n:=0,log:=[] }
@[simp] def zPW:lf.H=.leaf:=(rfl)
def part(C:HS)(l:Z Nat):HS:={ H:=iC C.H l,n:=0,log:=[] }
@[simp] def zEK {l:Z Nat} {k:Nat}:(part C l).H.get k=if k∈l then C.H.get k else none:=z8 _ _ _
@[simp] def zv0  {T:PT α} {l:Z Nat} {t:Nat}:(iC T l).get t=if t∈l then T.get t else none:=z8 T l t
def bare(C:HS):HS:={ H:=C.H,n:=C.n,log:=[] }
@[simp] def zM8:(bare C).H=C.H:=(rfl)
@[simp] def zM7:(bare C).n=C.n:=(rfl)
@[simp] def zG7:(bare C).log=[]:=(rfl)
def zDm{op:Op}(h:lS op=false):Np E id T C op K=zmN E id T C op K:=by
 cases op<;>first|rfl|cases h
def Xe{op:Op}(hc:dX op=0)(hn:qN op=none)(hr:cP T op=[]):Np E id T C op K=ok (UZ E.P true T lf id (WY op)) λr=>K r.1 C ([],[]):=by
 rw[zDm (by cases op<;>first|rfl|cases hc)];unfold zmN;rw[hc,hr];cases op<;>first|rfl|(cases hn;done)|(cases hc;done)|(show ok (UZ E.P true T { H:=iC C.H (cP T _),n:=0,log:=[] } id _) (λr=>K r.1 C (cP T _,[]))=_;rw[hr];rfl)
@[simp ↓] def zHA :Np E id T C (.move x) K=ok (bU T x) λv=>K v C ([],[]):=by
  rw[Xe rfl rfl rfl];show ok (ob (bU T x) λv=>some (v,lf)) _=_;simp only[iM,dL]
@[simp ↓] def zAF :Np E id T C (.assign x) K=ok (bU T x) λv=>K v C ([],[]):=by
  rw[Xe rfl rfl rfl];show ok (ob (bU T x) λv=>some (v,lf)) _=_;simp only[iM,dL]
@[simp ↓] def zHz {c b:Operand}:Np E id T C (.pick c a b) K=ok (bU T c) λv=>ok v.bool? λq=>ok (bi q (bU T a) (bU T b)) λv=>K v C ([],[]):=by
  rw[Xe rfl rfl rfl];show ok (NY T lf c a b) _=_;simp only[NY,iM,dL]
@[simp ↓] def zDq {b:BinOp}  {y:Operand}:Np E id T C (.binOp b t x y u) K=ok (bU T x) λp=>ok (bU T y) λq=>ok (bi (JE y) (zoy E.P b t p) (TB E.P b t p q)) λv=>K v C ([],[]):=by
  rw[Xe rfl rfl rfl];show ok (Hu E.P T lf b t x y) _=_;simp only[Hu,iM,dL]
@[simp ↓] def zHy {b:UnOp}  :Np E id T C (.unOp b t x) K=ok (Rj T lf b x) λr=>K r.1 C ([],[]):=by
  rw[Xe rfl rfl rfl];rfl
@[simp ↓] def zr0   :Np E id T C (.fieldAddr t x f) K=ok (ti E.P t) λi=>ok (bJ i f) λfd=>ok (ti E.P fd.type) λfi=>nt (Nat.beq fi.size 0)=true/\ok (bU T x) λv=>ok (pX fd.offset v) λr=>K r C ([],[]):=by
  rw[Xe rfl rfl rfl];show ok (rF E.P T lf t x f) _=_;simp only[rF,iM,vO,dL]
@[simp ↓] def zrZ  :Np E id T C (.indexAddr t x ix) K=ok (ti E.P t) λi=>ok (elemOf i.desc) λel=>ok (ti E.P el.1) λe=>ok (bU T x) λv=>ok (bU T ix) λn=>ok n.nat? λn=>ok (zo8 el.2 e n v) λr=>K r C ([],[]):=by
  rw[Xe rfl rfl rfl];show ok (rC E.P T lf t x ix) _=_;simp only[rC,iM,dL]
@[simp ↓] def zw7  {k:Nat}:Np E id T C (.extract x k) K=ok (bU T x) λv=>ok v.o4 λvs=>ok (wu vs k) λv=>K v C ([],[]):=by
  rw[Xe rfl rfl rfl];show ok (yR T lf x k) _=_;simp only[yR,iM,dL]
@[simp ↓] def zvB :Np E id T C (.nilCheck x) K=ok (bU T x) λv=>notNil v=true/\K v C ([],[]):=by
  rw[Xe rfl rfl rfl];show ok (vo T lf x) _=_;simp only[vo,iM,vO,dL]
@[simp ↓] def zDp  :Np E id T C (.build t ps) K=ok (ti E.P t) λi=>ok (bi (jg i.desc) (gd (jK E.P (fieldsOf i.desc)) (Cb E.P T i ps.toList i.zero)) (ob (zd5 i.desc) λel=>ob (ti E.P el) λe=>CU T e.size ps.toList i.zero)) λcs=>K (.agg cs) C ([],[]):=by
  rw[Xe rfl rfl rfl];show ok (yV E.P T lf t ps) _=_;unfold yV;simp only[iM (ti E.P t)];congr 1;funext i;rw[iM];congr 1;funext cs;rw[dL]
@[simp ↓] def zHB  :Np E id T C (.load t a) K=ok (ti E.P t) λi=>ok (bU T a) λp=>ok (Ii i (part C (nM p)) p) λv=>K v C (nM p,[]):=by
  show ok (CK E.P T { H:=iC C.H (u6 [] nM (bU T a)),n:=0,log:=[] } t a) (λr=>K r.1 C (u6 [] nM (bU T a),[]))=_;simp only[CK,iM,dL]
  cases bU T a with
  | none =>congr 1;funext i;exact propext ⟨λ⟨_,h,_⟩=>(by cases h),λ⟨_,h,_⟩=>(by cases h)⟩
  |some p=>simp only[dL,kX];rfl
@[simp ↓] def zDo   :Np E id T C (.slice t x lo hi mx) K=ok (ti E.P t) λi=>ok (bU T x) λv=>ok (xE E.P T (part C (nM v)) i v lo hi mx) λr=>K r C (nM v,[]):=by
  show ok (yB E.P T { H:=iC C.H (u6 [] nM (bU T x)),n:=0,log:=[] } t x lo hi mx) (λr=>K r.1 C (u6 [] nM (bU T x),[]))=_;simp only[yB,iM,dL]
  cases bU T x with
  | none =>congr 1;funext i;exact propext ⟨λ⟨_,h,_⟩=>(by cases h),λ⟨_,h,_⟩=>(by cases h)⟩
  |some p=>simp only[dL,kX];rfl
@[simp ↓] def zKf  :Np E id T C (.call ⟨.builtin .len,#[a],ts⟩) K=ok (bU T a) λv=>ok (JC E.P (part C (nM v)) ts.toList [v]) λr=>K r.1 C (nM v,[]):=by
  show (ok (kG T [a]) λvs=>ok (JC E.P { H:=iC C.H (u6 [] nM (bU T a)),n:=0,log:=[] } ts.toList vs) λr=>K r.1 C (u6 [] nM (bU T a),[]))=_;simp only[zaV,zdq,iM,dL]
  cases bU T a with
  |none=>exact propext ⟨λ⟨_,h,_⟩=>(by cases h),λ⟨_,h,_⟩=>(by cases h)⟩
  |some p=>simp only[dL,kX];rfl
@[simp ↓] def zKd {xs:Array Operand} :Np E id T C (.call ⟨.builtin .min,xs,ts⟩) K=ok (kG T xs.toList) λvs=>ok (vz lf true vs) λr=>K r.1 C ([],[]):=(rfl)
@[simp ↓] def zKe {xs:Array Operand} :Np E id T C (.call ⟨.builtin .max,xs,ts⟩) K=ok (kG T xs.toList) λvs=>ok (vz lf false vs) λr=>K r.1 C ([],[]):=(rfl)
def zn8{k:Nat}{o:Obj}:(C.put k o).H.get k=some o:=by rw[mJ,if_pos rfl]
@[simp ↓] def zDr :Np E id T C (.alloc t) K=(C.H.get id=none/\ok (ti E.P t) λi=>Nat.beq (dB i.zero) i.size=true/\K (.ptr id 0 0) (C.put id (.arr i.size 0 [i.zero] true false false)) ([id],[])):=by
  show (_/\ok (Cc E.P lf id t) λr=>ok (r.2.H.get id) λo'=>o'.fz=false/\K r.1 (C.put id o') ([id],[]))=_;simp[Cc,iM,vO,dL,zn8,Obj.fz]
@[simp ↓] def zrn   :Np E id T C (.buildSlice t n ps) K=(C.H.get id=none/\ok (jU E.P true T lf id t n ps) λr=>ok (r.2.H.get id) λo'=>o'.fz=false/\K r.1 (C.put id o') ([id],[])):=(rfl)
@[simp ↓] def zrY  {l c:Operand}:Np E id T C (.makeSlice t l c) K=(C.H.get id=none/\ok (mK E.P T lf id t l c) λr=>ok (r.2.H.get id) λo'=>o'.fz=false/\K r.1 (C.put id o') ([id],[])):=(rfl)
@[simp] def zEy {H H2:PT Obj}:Jp H H2 []=H:=(rfl)
@[simp] def zBb {H H2:PT Obj} {k:Nat} :Jp H H2 (k::X)=u6 (Jp H H2 X) (λo=>(Jp H H2 X).set k o) (H2.get k):=(rfl)
@[simp] def zFE:Xx []=[]:=(rfl)
@[simp] def zBU {c:V} {l:Z V}:Xx (c::l)=nM c++Xx l:=by show kg (nM c) (Xx l)=_;rw[oN]
@[simp] def zBs  {n:Int}:nM (.int k n)=[]:=(rfl)
@[simp] def zyc :nM (.bool b)=[]:=(rfl)
@[simp] def zBo {b:Z Nat}:nM (.str b)=[]:=(rfl)
@[simp] def zEP {b:Z (Z V)} {t:Bool}:nM (.sl b t)=[]:=(rfl)
@[simp] def zyb:nM .a8=[]:=(rfl)
@[simp] def zD9 :AT C (.ptr i g o)=pZ C i:=(rfl)
def zhI(C:HS)(p v:V):Z Nat:=nM p++bi (AT C p) (Xx v.cells) []
@[simp] def zHV {p v:V}:zhI C p v=nM p++bi (AT C p) (Xx v.cells) []:=(rfl)
@[simp ↓] def zDn  :Np E id T C (.store t a x) K=(C.H.get id=none/\ok (ti E.P t) λi=>ok (bU T a) λp=>ok (bU T x) λv=>ok (E9 i (part C (zhI C p v)) p v) λO =>
 K oW { H:=Jp C.H O.H (zhI C p v),n:=C.n,log:=O.log++C.log } (zhI C p v,O.log)):=by
  show (_/\ok (nL E.P T { H:=iC C.H (u6 [] (λp=>kg (nM p) (bi (AT C p) (u6 [] (λv=>Xx v.cells) (bU T x)) [])) (bU T a)),n:=0,log:=[] } t a x) λr=>K r.1 { H:=Jp C.H r.2.H (u6 [] (λp=>kg (nM p) (bi (AT C p) (u6 [] (λv=>Xx v.cells) (bU T x)) [])) (bU T a)),n:=C.n,log:=kg r.2.log C.log } (u6 [] (λp=>kg (nM p) (bi (AT C p) (u6 [] (λv=>Xx v.cells) (bU T x)) [])) (bU T a),r.2.log))=_;simp only[nL,iM,dL,oN]
  cases bU T a with
  |none=>congr 1;exact propext ⟨λ⟨_,_,_,h,_⟩=>(by cases h),λ⟨_,_,_,h,_⟩=>(by cases h)⟩
  | some p =>
    cases bU T x with
    |none=>congr 1;exact propext ⟨λ⟨_,_,_,_,_,h,_⟩=>(by cases h),λ⟨_,_,_,_,_,h,_⟩=>(by cases h)⟩
    |some v=>simp only[dL,kX];rfl
@[simp ↓] theorem zHC  {xs:Array Operand} :Np E id T C (.call ⟨.value x,xs,ts⟩) K=(C.H.get id=none/\ok (bU T x) λv=>ok (funcOf v) λp=>ok (kG T xs.toList) λvs=>ok (E.dA p.1 (kg vs p.2) (bare C)) λr=>K r.1 { H:=r.2.H,n:=r.2.n,log:=r.2.log++C.log } ([],r.2.log)):=by
  show (_/\ok (bU T x) λv=>ok (funcOf v) λp=>ok (kG T xs.toList) λvs=>ok (E.dA p.1 (kg vs p.2) (bare C)) λr=>K r.1 { H:=r.2.H,n:=r.2.n,log:=kg r.2.log C.log } ([],r.2.log))=_;simp_all
@[simp ↓] theorem zAG {xs:Array Operand} :Np E id T C (.call ⟨.builtin .append,xs,ts⟩) K=(C.H.get id=none/\ok (kG T xs.toList) λvs=>ok (AJ E.P (bare C) id ts.toList vs) λr=>K r.1 { H:=r.2.H,n:=r.2.n,log:=r.2.log++C.log } ([],r.2.log)):=by
  show (_/\ok (kG T xs.toList) λvs=>ok (AJ E.P (bare C) id ts.toList vs) λr=>K r.1 { H:=r.2.H,n:=r.2.n,log:=kg r.2.log C.log } ([],r.2.log))=_;simp_all
@[simp] def zBq :nM (.ptr i g o)=[i]:=(rfl)
@[simp] def zBr  :nM (.own i g o n c)=[i]:=(rfl)
@[simp] def zBp {c:Z V}:nM (.ref c)=[]:=(rfl)
@[simp] def zvf {all:Z (Z Nat×Z Nat)}  :wV all [] j bs=true:=(rfl)
@[simp] def zrP {all l:Z (Z Nat×Z Nat)}  {m:Nat} :wV all (r::l) j (m::bs)=et (Ho m r all 0 j) (wV all l (j+1) bs):=(rfl)
@[simp] def zwT {m:Nat} {q:Z Nat×Z Nat} {l:Z (Z Nat×Z Nat)}:Ho m r (q::l) i j=if i<j then ((tb m i||!(meet q.1 r.2||meet r.1 q.2))&&Ho m r l (i+1) j)else true:=by
  show bi (Nat.blt i j) (et (bi (tb m i) true (nt (bi (meet q.1 r.2) true (meet r.1 q.2)))) (Ho m r l (i+1) j)) true=_;simp[iV,gz,YA,Ll,tb,meet]
@[simp] def zFj :meet [] m=false:=(rfl)
@[simp] def zyy {l:Z Nat}:meet l []=false:=by
  induction l with
  |nil=>rfl
  |cons x l ih=>show bi (KX x []) true (meet l [])=false;rw[ih];rfl
@[simp] theorem zFi {x y:Nat}:meet [x] [y]=decide (x=y):=by
  show bi (bi (Nat.beq x y) true false) true false=_;simp_all
@[simp] theorem zKD {m:Nat}:tb m i=decide (m / 2 ^ i % 2=1):=by unfold tb;rw[zu5]
end
end Go.J
universe u
namespace Go.J
inductive Tg {α:Sort u} (a:α):Type where
 |mk
def BO{α:Type}(x:Y α)(K:α->Prop)(_t:Tg K:=.mk):Prop:=ok x K
def zJO(c A B:Prop)(_t:Tg A:=.mk)(_u:Tg B:=.mk):Prop:=br c A B
@[simp ↓ high] def zPP {α:Type} (x:Y α) (K:α->Prop):ok x K=BO x K:=(rfl)
@[simp ↓ high] def zQT (c A B:Prop):br c A B=zJO c A B:=(rfl)
@[simp ↓] def zop {α:Type} (a:α) (K:α->Prop):BO (some a) K=K a:=dL a K
@[simp ↓] def zx8 {α β:Type} (x:Y α) (f:α->Y β) (K:β->Prop):BO (ob x f) K=BO x λa=>BO (f a) K:=iM x f K
@[simp ↓] def zx9 {α:Type} (c:Bool) (x:Y α) (K:α->Prop):BO (gd c x) K=(c=true/\BO x K):=vO c x K
attribute [simp] zop zx8 zx9
@[simp ↓] def zqn (A B:Prop):zJO True A B=A:=ziN A B
@[simp ↓] def zl0 (A B:Prop):zJO False A B=B:=zdV A B
attribute [simp] zqn zl0
def Fz{c A B:Prop}(M:c->A)(O:¬ c->B):zJO c A B:=⟨M,O⟩
def dP{α:Type}:Z (Nat×α)->PT α
 | []=>.leaf
 |p::l=>(dP l).set p.1 p.2
def cx{α:Type}(l:Z (Nat×α))(id:Nat):Bool:=l.any λp=>Nat.beq p.1 id
theorem AX{α:Type}:∀ {l:Z (Nat×α)} {t:Nat} {v:α},(dP l).get t=some v->(t,v)∈l:=by
 intro l
 induction l with
 |nil=>intro t v h;cases h
 | cons p l ih =>
   intro t v h;replace h:((dP l).set p.1 p.2).get t=some v:=h;rw[PT.cZ]at h;grind
theorem zh4{α:Type}:∀ {l:Z (Nat×α)} {id:Nat},cx l id=true↔(dP l).get id≠none:=by
 intro l
 induction l with
 |nil=>intro id;exact⟨λh=>(by cases h),λh=>absurd rfl h⟩
 | cons p l ih =>
   intro id;show (Nat.beq p.1 id||cx l id)=true↔((dP l).set p.1 p.2).get id≠none;rw[PT.cZ,iQ,beq_true,ih];grind
def cj:Z Nat->Bool
 | []=>true
 |x::l=>!(l.any (Nat.beq x))&&cj l
theorem Qg:∀ {l:Z Nat},cj l=true->l.Nodup:=by
 intro l
 induction l with
 |nil=>intro _;exact jP
 | cons x l ih =>
   intro h;simp only[cj,aW,Bool.not_eq_true']at h;grind [List.nodup_cons,Nat.beq,List.any_eq_true,beq_true]
def V.zsP(v:V):v.xI id=v:=by cases v<;>rfl
def V.zn5:V.xI id=id:=funext V.zsP
def V.zhR(v:V):v.jr id=v:=by
 cases v<;>first|rfl|(simp[V.jr,V.zn5])
def V.zct:V.jr id=id:=funext V.zhR
theorem V.ze7(v:V):v.cw id=v:=by
 cases v<;>first|exact V.zhR _|(simp[V.cw,V.zct])
theorem Obj.ze7(o:Obj):o.cw id=o:=by
 cases o<;>first|rfl|(simp[Obj.cw,V.zct])
section
variable {k:Nat}{T:PT V}{C:HS}
def aw.lit (π:Nat->Nat) {TL:Z (Nat×V)} {HL:Z (Nat×Obj)} (n:Nat) (hT:∀ p∈TL,p.2.sS (cx HL)=true/\T.get p.1=some (p.2.cw π))
 (hH:∀ p∈HL,p.2.in (cx HL)=true/\C.H.get (π p.1)=some (p.2.cw π)) (hi:cj (HL.map λp=>π p.1)=true) (hk:(List.range k).all (λi=>Nat.beq (π i) i&&cx HL i)=true) :
 aw k T C (dP TL) { H:=dP HL,n:=n,log:=[] } where
 ex := by
  refine⟨π,cx HL,λid=>zh4,λt v hv=>⟨(hT (t,v) (AX hv)).1,_,(hT (t,v) (AX hv)).2,.inl rfl⟩,λid o ho=>⟨(hH (id,o) (AX ho)).1,_,(hH (id,o) (AX ho)).2,.inl rfl⟩,?_,λid hid=>?_⟩;intro i j sY rB e;have eV:=Qg hi
  have key:∀ (l:Z (Nat×Obj)),(l.map λp=>π p.1).Nodup->cx l i=true->cx l j=true->i=j:=by
   intro l
   induction l with
   |nil=>intro _ h;cases h
   | cons p l ih =>
     intro eV M O;rw[aX,gK]at eV;replace M:(Nat.beq p.1 i||cx l i)=true:=M;replace O:(Nat.beq p.1 j||cx l j)=true:=O;rw[iQ,beq_true]at M O;have hm:∀ a,cx l a=true->π a∈l.map λp=>π p.1:=(by intro a ha;let⟨q,hq,zLR⟩:=dN.1 ha;exact aF.2 ⟨q,hq,by rw[beq_true.1 zLR]⟩);rcases M with M|M<;>rcases O with O|O
     rw[<- M,<- O];exact absurd (by rw[M,e];exact hm j O) eV.1;exact absurd (by rw[O,<- e];exact hm i M) eV.1;exact ih eV.2 M O
  exact key HL eV sY rB;have:=au.1 hk id (dh.2 hid);rw[aW,beq_true]at this;exact this
theorem aw.bw{TL:Z (Nat×V)}{HL:Z (Nat×Obj)}(n:Nat)(hT:∀ p∈TL,p.2.sS (cx HL)=true/\T.get p.1=some p.2)
 (hH:∀ p∈HL,p.2.in (cx HL)=true/\C.H.get p.1=some p.2) (hi:cj (HL.map λp=>p.1)=true) (hk:(List.range k).all (λi=>cx HL i)=true) :
 aw k T C (dP TL) { H:=dP HL,n:=n,log:=[] }:=by
 refine aw.lit id n (λp hp=>?_) (λp hp=>?_) hi ?_;grind [V.ze7];grind [Obj.ze7];simp_all
end
section
variable {I:Nat->Value}{E:Env}{k sz:Nat}{s:SC}{T:PT V}{C:HS}{Q Q':Ex->PT V->HS->Prop}
def Ls(I:Nat->Value)(E:Env)(k sz:Nat)(s:SC)(T:PT V)(C:HS)(Q:Ex->PT V->HS->Prop)(_t:Tg Q:=.mk):Prop:=∀ c,aV c=some s->Lt I E.P k false sz c T C Q
def v5(I:Nat->Value)(E:Env)(k sz:Nat)(s:SC)(Q:Ex->PT V->HS->Prop)(n:Nat)(T:PT V)(C:HS)(_t:Tg Q:=.mk):Prop:=∀ c,aV c=some s->zNk I E.P k false sz c Q n T C
def qy{n:Nat}(h:v5 I E k sz s Q n T C):Ls I E k sz (.loop s) T C Q:=λc hc=>by
 obtain⟨x,rfl,W⟩:=jl hc;exact zvk (h x W)
def TZ{T2:PT V}{ea:HS}(h:aw k T C T2 ea)(hl:Ls I E k sz s T2 ea Q):Ls I E k sz s T C Q:=λc hc=>zi4 h (hl c hc)
def zvn(hl:Ls I E k sz s T C Q')(h:∀ ex T1 cp,Q' ex T1 cp->∃ T2 ea,aw k T1 cp T2 ea/\Q ex T2 ea):Ls I E k sz s T C Q:=λc hc=>zvj (hl c hc) h
def zei(hρ:Good I)(aq:bK I E)(hP:E.P.follows .mixedOrders=true)(hN:vX E.P)(h:Js E false sz s T C Q):Ls I E k sz s T C Q:=λc hc=>by
 let⟨n,ex,T',a9,M,O⟩:=h c hc;exact zAo hρ aq hP hN M O
def zC0(I:Nat->Value)(E:Env)(k sz:Nat):SC->PT V->HS->(Ex->PT V->HS->Prop)->Prop
 |.skip,T,C,Q=>Q .normal T C
 |.ret,T,C,Q=>Q .ret T C
 |.exit i,T,C,Q=>Q (.exit i) T C
 |.zE l,T,C,Q=>Rs E sz l C.n T { H:=C.H,n:=C.n+l.length,log:=C.log } λT C=>Q .normal T C
 |.draw l bs,T,C,Q=>Rd E sz l C.n T { H:=C.H,n:=C.n+l.length,log:=C.log } [] λT C acc=>wV acc acc 0 bs=true/\Q .normal T C
 |.seq a b,T,C,Q=>zC0 I E k sz a T C (Ex.then (λT C=>zC0 I E k sz b T C Q) Q)
 |.cond q a b,T,C,Q=>ok (bU T q) λv=>ok v.bool? λt=>if t=true then zC0 I E k sz a T C Q else zC0 I E k sz b T C Q
 |.block i a,T,C,Q=>zC0 I E k sz a T C (Ex.inBlock i Q)
 |.loop a,T,C,Q=>Ls I E k sz (.loop a) T C Q
 |.range g ps a b,T,C,Q=>Ls I E k sz (.range g ps a b) T C Q
def Wp(I:Nat->Value)(E:Env)(k sz:Nat)(s:SC)(T:PT V)(C:HS)(Q:Ex->PT V->HS->Prop)(_t:Tg Q:=.mk):Prop:=zC0 I E k sz s T C Q
theorem Eb(hρ:Good I)(aq:bK I E)(hP:E.P.follows .mixedOrders=true)(hN:vX E.P):∀ {s:SC} {T:PT V} {C:HS} {Q:Ex->PT V->HS->Prop},Wp I E k sz s T C Q->Ls I E k sz s T C Q:=by
 intro s
 induction s with
 |skip=>intro T C Q h c hc;have e:c=.skip:=jl hc;subst e;exact zvi h
 |ret=>intro T C Q h c hc;have e:c=.ret:=jl hc;subst e;exact zAp h
 |exit i=>intro T C Q h c hc;have e:c=.exit i:=jl hc;subst e;exact zvl h
 |zE l=>intro T C Q h;exact zei hρ aq hP hN (QZ h)
 |draw l bs=>intro T C Q h;exact zei hρ aq hP hN (zi8 h)
 | seq a b HA ihb =>
   intro T C Q h c hc;obtain⟨x,y,rfl,W,hy⟩:=jl hc;refine zAn (zi3 (HA h x W) λe T C q=>?_)
   cases e with
   |normal=>exact ihb q y hy
   |ret=>exact q
   |exit i=>exact q
 | cond q a b HA ihb =>intro T C Q h c hc;obtain⟨x,y,rfl,W,hy⟩:=jl hc;let⟨v,hv,t,ht,h⟩:=h;rw[V.fv]at ht;subst ht;refine zvm hv ?_;split;rename_i e;rw[if_pos e]at h;exact HA h x W;rename_i e;rw[if_neg e]at h;exact ihb h y hy
 | block i a HA =>intro T C Q h c hc;obtain⟨x,rfl,W⟩:=jl hc;exact zqR (HA h x W)
 |loop a _=>intro T C Q h;exact h
 |range g ps a b _ _=>intro T C Q h;exact h
def WU(hρ:Good I)(aq:bK I E)(hP:E.P.follows .mixedOrders=true)(hN:vX E.P){n:Nat}(h:∀ K:PT V->HS->Prop,(∀ T C,v5 I E k sz s Q n T C->K T C)->Wp I E k sz s T C (Ex.then K Q)):v5 I E k sz s Q (n+1) T C:=λc hc =>
 zi3 (Eb hρ aq hP hN (h _ λ_ _ h=>h) c hc) λe T C q=>by
  cases e with
  |normal=>exact q c hc
  |ret=>exact q
  |exit i=>exact q
def gD{n:Nat}{T2:PT V}{ea:HS}(h:aw k T C T2 ea)(hl:v5 I E k sz s Q n T2 ea):v5 I E k sz s Q n T C:=λc hc=>by
 cases n with
 |zero=>exact(hl c hc).elim
 |succ n=>exact zi4 h (hl c hc)
end
section
variable {I:Nat->Value}{E:Env}{k sz:Nat}{T:PT V}{C:HS}{Q:Ex->PT V->HS->Prop}
@[simp ↓] def zJV:Wp I E k sz .skip T C Q=Q .normal T C:=(rfl)
@[simp ↓] def zNe:Wp I E k sz .ret T C Q=Q .ret T C:=(rfl)
@[simp ↓] def zJX {i:Nat}:Wp I E k sz (.exit i) T C Q=Q (.exit i) T C:=(rfl)
@[simp ↓] def zNf {l:Z wA}:Wp I E k sz (.zE l) T C Q=Rs E sz l C.n T { H:=C.H,n:=C.n+l.length,log:=C.log } λT C=>Q .normal T C:=(rfl)
@[simp ↓] def zJY {l:Z SD} {bs:Z Nat}:Wp I E k sz (.draw l bs) T C Q=Rd E sz l C.n T { H:=C.H,n:=C.n+l.length,log:=C.log } [] λT C acc=>wV acc acc 0 bs=true/\Q .normal T C:=(rfl)
@[simp ↓] def zNd {a b:SC}:Wp I E k sz (.seq a b) T C Q=Wp I E k sz a T C (Ex.then (λT C=>Wp I E k sz b T C Q) Q):=(rfl)
@[simp ↓] def zJZ {q:Operand} {a b:SC}:Wp I E k sz (.cond q a b) T C Q=ok (bU T q) λv=>ok v.bool? λt=>br (t=true) (Wp I E k sz a T C Q) (Wp I E k sz b T C Q):=by
  simp only[zqm];rfl
@[simp ↓] def zHj {i:Nat} {a:SC}:Wp I E k sz (.block i a) T C Q=Wp I E k sz a T C (Ex.inBlock i Q):=(rfl)
@[simp ↓] def zHh {g:Operand} {ps:Array Tmp} {a b:SC}:Wp I E k sz (.range g ps a b) T C Q=Ls I E k sz (.range g ps a b) T C Q:=(rfl)
@[simp ↓] def zJW {a:SC}:Wp I E k sz (.loop a) T C Q=Ls I E k sz (.loop a) T C Q:=(rfl)
@[congr] def zHi {s:SC} {T':PT V} {a9:HS} (M:T=T') (O:C=a9):Wp I E k sz s T C Q=Wp I E k sz s T' a9 Q:=by rw[M,O]
@[congr] def zHq {s:SC} {T':PT V} {a9:HS} (M:T=T') (O:C=a9):Ls I E k sz s T C Q=Ls I E k sz s T' a9 Q:=by rw[M,O]
@[simp] def zIB {α:Type}:dP ([]:Z (Nat×α))=.leaf:=(rfl)
@[simp] def zFe {α:Type} {p:Nat×α} {l:Z (Nat×α)}:dP (p::l)=(dP l).set p.1 p.2:=(rfl)
end
section
variable {I:Nat->Value}{P:Program}{w w':World}{F F':Nat->Prop}{μ μ':Nat->Nat->Y MI}{C a9:HS}{T:PT V}
theorem zfD{s:Start}{fn:Func}{tm:Array Value}{Rp:Ending->World->Prop}{N:Nat}(hN:s.w.heap.size<=N)
 (cM:∀ w,R I w F μ P C->kR I w F μ T tm->Loc s w F μ C->∃ v,(results fn tm).run P w=.ok v w/\Rp (.returned v) w):∀ (rs:Z Nat) (w:World),R I w F μ P C->kR I w F μ T tm->Loc s w F μ C->rs.Nodup ->
 (∀ r∈rs,N<=r/\w.heap[r]?=some (.deferred (some [])))->LeavesInM (Wr none) 0 P fn tm Rp (rs.map (λr=>{ target:=.collected r,args:=#[] })) .returning w:=by
 intro rs
 induction rs with
 |nil=>intro w hR hT hf _ _;exact cM w hR hT hf
 | cons r rs ih =>
   intro w hR hT hf eV b7;have hr:=b7 r (aB ..);refine⟨by simp,.inl ⟨r,ru w r,rfl,iu hr.2,?_⟩⟩;have tc:=gK.1 eV;refine ih _ (hR.zne hr.2) (λt v hv=>?_) ?_ tc.2 (λs C=>⟨(b7 s (aD _ C)).1,?_⟩);let⟨x,W,h⟩:=hT t v hv;exact⟨x,W,h.cells (Gy hr.2)⟩;refine⟨hf.io,by simpa [ru]using hf.size,λb hb hn=>?_,hf.fm,hf.CQ,hf.mm,hf.own,hf.zsW,hf.dm,hf.mn⟩;rw[pU (by have:=hr.1;omega)];exact hf.bw b hb hn;grind [pU,List.mem_cons_of_mem]
def Iz(I:Nat->Value)(P:Program)(s:Start)(K:V->HS->Prop):Ending->World->Prop
 |.returned x,w'=>∃ v a9 F' μ',K v a9/\Loc s w' F' μ' a9/\R I w' F' μ' P a9/\Mb μ' a9/\dZ I w' F' μ' v x
 |_,_=>False
def zdX{E:Env}{f:FuncId}{fn:Func}{sc:SC}{vs:Z V}{k:Nat}{K:V->HS->Prop}(hf:E.P.funcs[f]?=some fn)(hb:fn.body.bind aV=some sc)(he:jH fn.ntmps vs 0 .leaf=some T)
 (h:Ls I E k fn.ntmps sc T C (Leaves E.P fn K)) {s:Start} {xs:Array Value} (hk:s.k=k) (hL:Loc s w F μ C) (hR:R I w F μ E.P C) (hD:Mb μ C) (hA:Nk I w F μ vs xs):CallsIn Fence.wide 0 E.P f xs w (Iz I E.P s K):=by
 cases hc:fn.body with
 |none=>rw[hc]at hb;cases hb
 |some c =>
 rw[hc]at hb;refine callsIn_of_wp_marks hf hc trivial ?_;have cd:fn.ntmps<=(xs++Array.replicate (fn.ntmps-xs.size) undef).size:=by simp;omega
 have hT0:kR I w F μ T (xs++Array.replicate (fn.ntmps-xs.size) undef):=by refine YC he (λt u hu=>by cases hu) λk u hk=>?_;let⟨x,W,hr⟩:=hA.2 k u hk;exact⟨x,by rw[fV,mU (d9.1 W).1];exact W,hr⟩
 refine h c hb s ⟨w.heap.size,[],false⟩ none w F μ _ _ hk ⟨λ_=>rfl,rfl⟩ hL hR hD hT0 cd (Marks.nil (af _)) ?_;intro ex T1 cp a' w' F' μ' q hL' vf hD' hT' _ hM;let⟨cg,l,hl,hK⟩:=q;have ss:LeavesInM (Wr none) 0 E.P fn a'.tmps (Iz I E.P s K) a'.defers .returning w':=by let⟨hN,rs,⟨r1,_⟩,r2,r3⟩:=hM;rw[r2,show ∀ l:Z Deferred,l++(NB.mk w.heap.size [] false).base=l from fq];refine zfD (N:=w.heap.size) hL.size (λw2 pL B4 wj=>?_) rs w' vf hT' hL' r1 r3;let⟨ys,M,O,h3⟩:=zhP pL B4 hl;refine⟨_,?_,yx l,cp,F',μ',hK,wj,pL,hD',XP (xs:=ys.toArray) (by simpa using O) (λi u hi=>by simpa using h3 i u hi)⟩;unfold results;rw[Sem.run_bind,Array.mapM_eq_mapM_toList];rw[Sem.run_map];exact Eq.trans (congrArg (λz:Result (Z Value)=>(z.andThen λa w'=>Result.ok a.toArray w').andThen λa w'=>Sem.run E.P (pure (if h:a.size=1 then a[0]else Value.tuple a)) w') M) rfl
 cases ex with
 |normal=>exact ss
 |ret=>exact ss
 |exit i=>exact absurd rfl (cg i)
def Ej(r:V)(v:V)(C:HS):Prop:=ok (still C v) λv'=>ig v'=r
def zlV{E:Env}{f:FuncId}{fn:Func}{sc:SC}{vs:Z V}{r:V}(hf:E.P.funcs[f]?=some fn)(hb:fn.body.bind aV=some sc)(he:jH fn.ntmps vs 0 .leaf=some T)
 (h:Ls I E 0 fn.ntmps sc T { H:=.leaf,n:=0,log:=[] } (Leaves E.P fn (Ej r))) (hp:bX vs=true) (C:HS):aS I E.P f vs C r C:=by
 intro X w F μ xs hR hD hO hA
 have mA:Nk I w F (λ_ _=>none) vs xs:=⟨hA.1,λi u hi=>by
  let⟨x,W,hr⟩:=hA.2 i u hi
  exact⟨x,W,.pure (hr.CF I (jo hp u (aI hi)))⟩⟩
 have hL:Loc ⟨λ_=>False,w,F,0,λ_ _=>none⟩ w F (λ_ _=>none) jv :=
  ⟨⟨rfl,rfl,rfl⟩,af _,λ_ _ _=>rfl,λ_ h=>h,λ_ h=>.inl h,λ_ _ _ h=>absurd h (l9 _),λb hb=>absurd hb (uw b _),λ_ h=>absurd h (l9 _),λ_ h=>absurd h (l9 _),λ_ _ _ h=>by cases h⟩
 refine(zdX hf hb he h rfl hL (R.empty hR.BR hR.gl) (λ_ _ h=>absurd rfl h) mA).mono λe w' he=>?_
 cases e with
 | returned x =>let⟨v1,cp,F1,μ1,hK,s5,g1,_,g2⟩:=he;obtain⟨v',O,rfl⟩:=hK;have jt:∀ b,b<w.heap.size->w'.heap[b]?=w.heap[b]?:=λb hb=>s5.bw b hb (λh=>h);let⟨a1,a2⟩:=alone hR s5.io s5.size jt;refine⟨_,μ,a1,.pure (PR g1 g2 O ?_ ?_).norm,a2⟩;intro b hb;have cG:=g1.BR b hb;rcases s5.CQ b hb with h|h|h;exact .inl h;exact .inr ⟨h,cG⟩;exact h.elim;intro id g m hm;rcases s5.mn id g m hm with h|⟨i,j,m0,h,_⟩;exact .inr ⟨h,g1.lt _ _ _ hm⟩;cases h
 |panicked c=>exact he
 |outgrown=>exact he
end
def dC(s:Z V->Y V):Spec:=λvs C=>ob (kK vs C) λq=>gd (bX q.1) (ob (s (fF q.1)) λv=>some (v,q.2))
def K4(s:Z V->Y V):Spec:=λvs C=>ob (mf C vs) λij=>gd (bX ij) (ob (s (fF ij)) λv=>gd v.SP (some (v,C)))
section
variable {I:Nat->Value}{P:Program}{f:Nat}{s:Z V->Y V}
def aS.norm{vs:Z V}{C a9:HS}{v:V}(hp:bX vs=true)(h:aS I P f (fF vs) C v a9):aS I P f vs C v a9:=by
 intro X w F μ xs hR hD hO hA;refine h X w F μ xs hR hD hO ⟨by rw[mX,aN];exact hA.1,λi u hi=>?_⟩;rw[mX,bC,bH]at hi;obtain⟨u0,h0,rfl⟩:=hi;let⟨x,W,hr⟩:=hA.2 i u0 h0;exact⟨x,W,.pure (hr.CF I (jo hp u0 (aI h0))).norm⟩
def Valid.dC (hf:vM P f) (h:∀ vs v,s vs=some v->∀ C,aS I P f vs C v C):Valid I P f (dC s) where
 fn:=hf
 ok := by
  intro vs C v a9 hq;simp only[J.dC,bI,aC]at hq;let⟨⟨ij,cp⟩,hp,DR,v',hv,hq⟩:=hq;cases hq;intro X w F μ xs hR hD hO hA;let⟨F',k1,k2,k3,k4,k5⟩:=zZ (xs:=xs.toList) hp hR (λi u hi=>by simpa using hA.2 i u hi);have hc:aS I P f ij cp v cp:=(h _ _ hv cp).norm DR;refine(hc X w F' μ xs k1 (k2.cx k3.le hD) hO ⟨by rw[k4];exact hA.1,λi u hi=>?_⟩).mono λe w' he=>?_;let⟨x,W,hr⟩:=k5 i u hi;exact⟨x,by simpa using W,.pure hr⟩
  cases e with
  | returned x =>let⟨F2,μ2,g1,g2,g3⟩:=he;exact⟨F2,μ2,g1,g2,k2.trans g3⟩
  |panicked c=>exact he
  |outgrown=>exact he
 kept:=by
  intro vs C q hq;simp only[J.dC,bI,aC]at hq;let⟨⟨ij,cp⟩,hp,_,v',_,hq⟩:=hq;cases hq;exact uY hp
def Valid.K4(hf:vM P f)(h:∀ vs v,s vs=some v->∀ C,aS I P f vs C v C):Valid I P f (K4 s) where
 fn:=hf
 ok:=by
  intro vs C v a9 hq;simp only[J.K4,bI,aC]at hq;let⟨ij,eK,hp,v',hv,hsc,hq⟩:=hq;cases hq;intro X w F μ xs hR hD hO hA;let⟨hlen,b7⟩:=Ko hR (F':=λb=>b<w.heap.size) hR.BR eK (λ_ _ _ _ id g off len cap _ m hm=>hR.lt id g m hm)
  have mA:Nk I w (λb=>b<w.heap.size) (λ_ _=>none) ij xs:=⟨hA.1.trans hlen.symm,λi u hi=>by
   let⟨u0,hu0,hr⟩:=b7 i u hi;let⟨x,W,z7⟩:=hA.2 i u0 hu0
   exact⟨x,W,.pure (hr x z7)⟩⟩
  have hc:aS I P f ij jv v jv:=(h _ _ hv _).norm hp;refine(hc _ w _ (λ_ _=>none) xs (R.empty (λ_ h=>h) (hR.gl.bw hR.BR λ_ _=>rfl)) Py.empty (pP.no _) mA).mono λe w' he=>?_
  cases e with
  | returned x =>let⟨F1,μ1,g1,g2,g3⟩:=he;have jt:∀ b,b<w.heap.size->w'.heap[b]?=w.heap[b]?:=λb hb=>g3.bw b hb (uw b _);let⟨a1,a2⟩:=alone hR g3.io g3.size jt;exact⟨_,μ,a1,.pure (zck g2 hsc),a2⟩
  |panicked c=>exact he
  |outgrown=>exact he
 kept:=by
  intro vs C q hq;simp only[J.K4,bI,aC]at hq;let⟨_,_,_,_,_,_,hq⟩:=hq;cases hq;exact .refl _
end
section
variable {I:Nat->Value}{P:Program}{E:Env}{k sz:Nat}{s:SC}{T:PT V}{C:HS}{Q Q':Ex->PT V->HS->Prop}
def bM(k:Nat)(Q:Ex->PT V->HS->Prop)(e:Ex)(T:PT V)(C:HS):Prop:=∃ T2 ea,aw k T C T2 ea/\Q e T2 ea
def oJ(h:Ls I E k sz s T C (bM k Q)):Ls I E k sz s T C Q:=zvn h λ_ _ _ q=>q
def bM.mk{e:Ex}{T2:PT V}{ea:HS}(h:aw k T C T2 ea)(q:Q e T2 ea):bM k Q e T C:=⟨T2,ea,h,q⟩
end
end Go.J
