import Derived.Test.YtfloillkpbhhhaaGreatJK1
import Derived.Laws.Sem
import Derived.Laws.Cells
import Derived.Laws.Entries
import Derived.Laws.Strings
import Derived.Laws.BitsLemmas
import Derived.ChangeKeysEq
import Derived.IntWalk
import Derived.Laws.Tables
import Derived.Lib.Strings
import Derived.Laws.CopyRow
set_option linter.all false
noncomputable section
namespace Go.J
variable {a:Act}{cx ys:Array Value}{b:Bool}{s u:ByteArray}{a8:HS}{k k':IntKind}{p:IntKind×Int}{m:MI}{f g j n o:Nat}{F':Nat->Prop}{o1 o2 y:Operand}{P:Program}{fi i:TI}{α:Type}{d:TypeDesc}{el t:TypeId}{e:TypeId×TypeId}{X x kf z:Value}{lo mx r:Y Operand}{l:Z Nat}{vs:Z Value}
theorem DZ(h:ti P t=some i) :
 ∃ info z,P.info? t=some info/\P.underlying t=some i.desc/\info.size=i.size/\info.bytes=i.bytes/\info.zero=some z/\zH z.cells.toList=some i.zero:=by
 grind [ti,aA]
section
variable (h:ti P t=some i)(w:World)
include h
def gP:(underlying t).run P w=.ok i.desc w:=by
 obtain⟨info,z,M,O,h3,h4,h5,h6⟩:=DZ h;exact Go.run_underlying O w
def zmR:∃ info,(typeInfo t).run P w=.ok info w/\info.size=i.size/\info.bytes=i.bytes:=by
 obtain⟨info,z,M,O,h3,h4,h5,h6⟩:=DZ h;exact⟨info,by simp[typeInfo,M],h3,h4⟩
def uf:(sizeOf t).run P w=.ok i.size w:=by
 obtain⟨info,M,O,_⟩:=zmR h w;simp[sizeOf,M,O]
def WS:(isAgg t).run P w=.ok (kG i.desc) w:=by
 simp only[isAgg,Sem.run_bind,gP h,Result.andThen_ok];cases i.desc<;>rfl
end
section
variable {I:Nat->Value}{w:World}{F:Nat->Prop}{μ:Nat->Nat->Y MI}{C:HS}{T:PT V}
def KH{v:V}(h:IQ x=some v):fG I w F v x:=by
 unfold IQ at h;split at h<;>cases h
 . exact .bool _
 . exact .int _ _
 . exact .str _
 . exact .c9
 . exact .aE
 . exact .dj
 . exact .nilFunc
 . exact .nilIface
def V6:zH []=some []:=rfl
def TR(x:Value)(l:Z Value):zH (x::l)=W (IQ x) λv=>W (zH l) λr=>some (v::r):=rfl
def yf:∀ {l:Z Value} {vs:Z V},zH l=some vs->l.length=vs.length/\∀ (j:Nat) (v:V),vs[j]?=some v->∃ x,l[j]?=some x/\fG I w F v x:=by
 intro l
 induction l with
 |nil=>intro vs h;rw[V6]at h;cases h;exact⟨rfl,λj v hj=>by simp at hj⟩
 | cons x l ih =>
   intro vs h;rw[TR]at h;simp only[aA]at h;obtain⟨v,M,r,O,h3⟩:=h;cases h3;obtain⟨hl,ha⟩:=ih O;refine⟨by simp[hl],λj u hj=>?_⟩
   cases j with
   |zero=>simp at hj;subst hj;exact⟨x,by simp,KH M⟩
   |succ j=>simp at hj;obtain⟨y,hy,hr⟩:=ha j u hj;exact⟨y,by simpa using hy,hr⟩
theorem YX{v:V}(h:ofConst x=some v):fG I w F v x:=by
 unfold ofConst at h;split at h
 . rename_i cs;simp only[aA]at h;obtain⟨l,M,O⟩:=h;cases O;obtain⟨hl,ha⟩:=yf (I:=I) (w:=w) (F:=F) M;refine .agg l cs (by simpa using hl) λj u hj=>?_
   obtain⟨y,hy,hr⟩:=ha j u hj
   simp_all
 . exact KH h
def dJ(hT:kH I w F μ T a.tmps){o:Operand}{v:V}(h:bV T o=some v):dV I w F μ v (a.eval o):=by
 cases o with
 | tmp t =>
   obtain⟨x,hx,hr⟩:=hT t v h;have:a.eval (.tmp t)=x:=by simp[Act.eval,bR,hx]
   rw[this];exact hr
 |const c=>exact .pure (YX h)
 |global g=>cases h
 |func f=>cases h;exact .pure (.func f)
def zkf:ku T []=some []:=rfl
def ze8(o:Operand)(l:Z Operand):ku T (o::l)=W (bV T o) λv=>W (ku T l) λr=>some (v::r):=rfl
def Xm(hT:kH I w F μ T a.tmps):∀ {l:Z Operand} {vs:Z V},ku T l=some vs ->
 l.length=vs.length/\∀ (j:Nat) (v:V),vs[j]?=some v->∃ o,l[j]?=some o/\dV I w F μ v (a.eval o):=by
 intro l
 induction l with
 |nil=>intro vs h;rw[zkf]at h;cases h;exact⟨rfl,λj v hj=>by simp at hj⟩
 | cons x l ih =>
   intro vs h;rw[ze8]at h;simp only[aA]at h;obtain⟨v,M,r,O,h3⟩:=h;cases h3;obtain⟨hl,ha⟩:=ih O;refine⟨by simp[hl],λj u hj=>?_⟩
   cases j with
   |zero=>simp at hj;subst hj;exact⟨x,by simp,dJ hT M⟩
   |succ j=>simp at hj;obtain⟨y,hy,hr⟩:=ha j u hj;exact⟨y,by simpa using hy,hr⟩
def eI(b o n:Nat):(⟨b,o,none⟩:Addr).add n=⟨b,o+n,none⟩:=by
 unfold Addr.add;split
 . rename_i h;subst h;rfl
 . rfl
theorem zbS   (hi:ti P t=some i) {b:Nat} {cs:Z V}
 (h:∀ (j:Nat) (v:V),cs[j]?=some v->∃ y,w.cell? ⟨b,o+j,none⟩=some y/\dV I w F μ v y) {off:Nat} {v:V} (hp:AA i cs off=some v) :
 ∃ x,(loadVar t ⟨b,o+off,none⟩).run P w=.ok x w/\dV I w F μ v x:=by
 unfold AA at hp;unfold loadVar;simp only[Sem.run_bind,WS hi,Result.andThen_ok]
 cases hd:kG i.desc with
 | true =>
   rw[hd,iL]at hp;simp only[zpr,bE,beq_true,dI,xQ,yx]at hp;obtain⟨hl,hv⟩:=hp;cases hv
   have hex:∀ j,j<i.size->∃ u y,cs[off+j]?=some u/\w.cell? ⟨b,o+(off+j),none⟩=some y/\dV I w F μ u y:=by
    intro j hj
    have cC:off+j<cs.length:=by
     grind
    simp_all
   have db:=run_loadCells (P:=P) w ⟨b,o+off,none⟩ i.size (λj=>(w.cell? ⟨b,o+(off+j),none⟩).getD undef) (by
    intro j hj;obtain⟨u,y,_,hy,_⟩:=hex j hj
    rw[eI,eD,hy];rfl)
   simp only[if_true,Sem.run_bind,uf hi,Result.andThen_ok,db,Sem.run_pure];refine⟨_,rfl,.agg _ _ (by simpa using hl.symm) λj u hj=>?_⟩
   have js:j<i.size:=by
    grind
   have hu:cs[off+j]?=some u:=by
    grind
   obtain⟨u',y,hu',hy,hr⟩:=hex j js
   simp_all
 | false =>
   rw[hd,gZ,sI]at hp;obtain⟨y,hy,hr⟩:=h off v hp
   simp_all
theorem TM   (hi:ti P t=some i) {cs:Z V}  (C:ys.size=cs.length)
 (h:∀ (j:Nat) (v:V),cs[j]?=some v->dV I w F μ v (ys.getD j undef)) {off:Nat} {v:V} (hp:AA i cs off=some v) :
 ∃ x,(part t ys off).run P w=.ok x w/\dV I w F μ v x:=by
 unfold AA at hp;unfold part;simp only[Sem.run_bind,WS hi,Result.andThen_ok]
 cases hd:kG i.desc with
 | true =>
   rw[hd,iL]at hp;simp only[zpr,bE,beq_true,dI,xQ,yx]at hp;obtain⟨hl,hv⟩:=hp;cases hv;simp only[if_true,Sem.run_bind,uf hi,Result.andThen_ok,Sem.run_pure];have hle:off+i.size<=cs.length\/i.size=0:=by simp at hl;omega
   refine⟨_,rfl,.agg _ _ (by simp at hl ⊢;omega) λj u hj=>?_⟩
   have js:j<i.size:=by
    grind
   have hu:cs[off+j]?=some u:=by
    grind
   have hr:=h _ u hu
   have e:(ys.extract off (off+i.size)).getD j undef=ys.getD (off+j) undef:=by
    have cC:off+j<ys.size:=by
     omega
    rw[bR,bR,Array.getElem?_extract,if_pos (by omega)]
   grind
 | false =>
   rw[hd,gZ,sI]at hp;have hr:=h off v hp;obtain⟨cC,_⟩:=aM.1 hp
   simp_all
theorem qO{id:Nat}{a:Nat×Z (Z V)×Bool×Bool×Bool}(h:mP C id g=some a) :
 C.H.get id=some (.arr a.1 g a.2.1 a.2.2.1 a.2.2.2.1 a.2.2.2.2)/\a.1≠0:=by
 simp only[mP,aA,bE,dx,jN,beq_true,beq_false]at h;obtain⟨o,M,b,O,⟨h3,h4⟩,h5⟩:=h;cases h5
 cases o with
 | arr s g' es ex fz row =>
   cases O
   grind
 |_=>cases O
def R.row(hR:R I w F μ P C){id:Nat}{a:Nat×Z (Z V)×Bool×Bool×Bool}(h:mP C id g=some a)(hm:μ id g=some m) :
 zac I w F μ m a.1 a.2.1 a.2.2.1 a.2.2.2.1 a.2.2.2.2:=hR.obj id _ (qO h).1 m hm
def zac.cell{size:Nat}{es:Z (Z V)}{ex fz row:Bool}(h:zac I w F μ m size es ex fz row){k:Nat}{e:Z V}{v:V}(hk:es[k]?=some e)(hj:e[j]?=some v) :
 ∃ y,w.cell? ⟨m.b,k*size+j,none⟩=some y/\dV I w F μ v y/\(row=true->fG I w F v y):=by
 obtain⟨cells,el,hc,_,_,_,b6⟩:=h.cells;obtain⟨y,hy,hr⟩:=b6 k e j v hk hj;exact⟨y,by simp[World.cell?,hc,hy],hr⟩
def xJ(I:Nat->Value)(P:Program)(w:World)(F:Nat->Prop)(μ:Nat->Nat->Y MI)(s:Sem Value)(v:V):Prop:=∃ x,s.run P w=.ok x w/\dV I w F μ v x
def zhb(hR:R I w F μ P C)(hi:ti P t=some i){p v:V}(hx:dV I w F μ p x)(h:Ha i C p=some v) :
 xJ I P w F μ (Instr.loadAt t x) v:=by
 unfold Ha at h;split at h
 . rename_i id g off;obtain⟨m,hm,rfl⟩:=hx.yc;simp only[aA,R6,sI]at h;obtain⟨a,ha,e,he,hp⟩:=h;have hr:=hR.row ha hm
   obtain⟨x,db,iv⟩:=zbS (μ:=μ) (I:=I) (F:=F) (w:=w) hi (b:=m.b) (o:=off / a.1*a.1) (cs:=e) (λj u hj=>by
    obtain⟨y,hy,hr,_⟩:=hr.cell he hj;exact⟨y,hy,hr⟩) hp
   rw[show off / a.1*a.1+off % a.1=off by rw[jV];exact lS off a.1]at db;exact⟨x,by simp[Instr.loadAt,Instr.sureAddr,db],iv⟩
 . rename_i cs;have hx:=hx.Gd
   cases hx with
   | ref _ b off ys hb hc hr =>
     obtain⟨x,db,iv⟩:=zbS (μ:=μ) (I:=I) (F:=F) (w:=w) hi (b:=b) (o:=off) (cs:=cs) (λj u hj=>⟨_,hc j u hj,.pure (hr j u hj)⟩) h;exact⟨x,by simpa [Instr.loadAt,Instr.sureAddr]using db,iv⟩
 . cases h
end
def zr1{n:Int}{m:Nat}:SP n=some m↔n=(m:Int):=by
 cases n with
 |ofNat a=>simp[SP];omega
 |negSucc a=>simp[SP]
theorem V.fp {v:V}:v.int?=some p↔v=.int p.1 p.2:=by
 cases v<;>simp[V.int?]
 grind
def V.fL {v:V}:v.bool?=some b↔v=.bool b:=by cases v<;>simp[V.bool?]
def V.lO {v:V}{s:Z Nat}:v.sB=some s↔v=.str s:=by cases v<;>simp[V.sB]
def V.L1 {v:V}{s:Z V}:v.GW=some s↔v=.agg s:=by cases v<;>simp[V.GW]
def V.C3 {v:V}{s:Z V}:v.oy=some s↔v=.tuple s:=by cases v<;>simp[V.oy]
def V.qq {v:V}:v.nat?=some n↔∃ k,v=.int k (n:Int):=by
 simp[V.nat?,aA,V.fp,zr1]
def zy{e:TypeId}:sH d=some e↔d=.slice e:=by cases d<;>simp[sH]
def zbN:mapOf d=some e↔d=.map e.1 e.2:=by
 cases d<;>simp[mapOf]
 cases e;simp
theorem LY{fd:Field}:bD i f=some fd↔∃ fs,i.desc=.struct fs/\fs[f]?=some fd:=by
 grind [bD]
theorem zeC{a b:IntKind}(h:Us a=Us b):a=b:=by cases a<;>cases b<;>first|rfl|(simp[Us]at h)
theorem Ee{a b:IntKind}:Df a b=true↔a=b:=by
 grind [Df,beq_true,zeC]
def NF{a b:Int}:ub a b=true↔a=b:=by
 cases a<;>cases b<;>simp[ub]<;>omega
def ZE(a b:Int):ub a b=(a == b):=by
 rw[dF,NF];simp
def znH{a b:Int}:AW a b=true↔a<b:=by
 cases a<;>cases b<;>simp[AW]<;>omega
def Nk(a b:Int):AW a b=decide (a<b):=by
 rw[dF,znH];simp
def zhd(a b:Int):leI a b=decide (a<=b):=by
 unfold leI;rw[KI,Nk,dF];simp
def H9(k:IntKind)(n:Int):Ia k n=k.wrap n:=by
 unfold Ia;split
 . rename_i m
   cases h:Nat.blt m 9223372036854775808 with
   |true=>rw[iL,IntWalk.i64_in];have:=gz.1 h;simp;omega
   |false=>rw[gZ]
 . rename_i m
   cases h:Nat.blt m 9223372036854775808 with
   |true=>rw[iL,IntWalk.i64_in];have:=gz.1 h;omega
   |false=>rw[gZ]
 . rfl
theorem FN(a b:Bool):zZ a b=(a == b):=by cases a<;>cases b<;>rfl
theorem QY {t:ByteArray}:bytesOf s=bytesOf t↔s=t:=by
 constructor
 . intro h
   have h':s.data.toList=t.data.toList:=by
    have inj:∀ (l m:Z UInt8),l.map UInt8.toNat=m.map UInt8.toNat->l=m:=by
     intro l
     induction l with
     |nil=>intro m h;cases m<;>simp_all
     | cons x l ih=>intro m h;cases m with
       |nil=>simp at h
       |cons y m=>simp at h;rw[ih m (by simpa using h.2),UInt8.toNat_inj.1 h.1]
    exact inj _ _ h
   cases s;cases t
   simp_all
 grind
def Cz{m:Z Nat}:ND l m=true↔l=m:=by
 induction l generalizing m with
 | nil=>cases m with
   |nil=>exact⟨λ_=>rfl,λ_=>rfl⟩
   |cons y m=>exact⟨(λh=>by cases h),(λh=>by cases h)⟩
 | cons x l ih=>cases m with
   |nil=>exact⟨(λh=>by cases h),(λh=>by cases h)⟩
   | cons y m =>
     show et (Nat.beq x y) (ND l m)=true↔_;rw[dx,beq_true,ih];simp
def UO(s t:ByteArray):ND (bytesOf s) (bytesOf t)=(s.toList == t.toList):=by
 rw[dF,Cz,QY];simp only[ByteArray.toList_eq,beq_iff_eq];constructor
 . rintro rfl;rfl
 . intro h;exact ByteArray.ext (Array.toList_inj.1 h)
def zck(s t:ByteArray):ND (bytesOf s) (bytesOf t)=(s == t):=by
 rw[dF,Cz,QY];have e:(s == t)=(s.data == t.data):=by cases s;cases t;rfl
 rw[e,beq_iff_eq];exact⟨λh=>h ▸ rfl,λh=>ByteArray.ext h⟩
theorem zbQ:∀ (l m:Z UInt8),Km (l.map UInt8.toNat) (m.map UInt8.toNat)=Op.bytesLess l m:=by
 intro l
 induction l with
 |nil=>intro m;cases m<;>rfl
 | cons x l ih=>intro m;cases m with
   |nil=>rfl
   | cons y m =>
     show bi (Nat.blt x.toNat y.toNat) true (et (Nat.beq x.toNat y.toNat) (Km (l.map UInt8.toNat) (m.map UInt8.toNat)))=(x<y||(x == y&&Op.bytesLess l m));rw[ih];have M:Nat.blt x.toNat y.toNat=decide (x<y):=by rw[dF,gz];simp[UInt8.lt_iff_toNat_lt]
     have O:Nat.beq x.toNat y.toNat=(x == y):=by rw[dF,beq_true,beq_iff_eq];exact UInt8.toNat_inj
     grind [Xn,iL,gZ]
def Ul(s t:ByteArray):Km (bytesOf s) (bytesOf t)=Op.bytesLess s.toList t.toList:=by
 rw[ByteArray.toList_eq,ByteArray.toList_eq];exact zbQ _ _
def xD(s:ByteArray):(bytesOf s).length=s.size:=by unfold bytesOf;rw[aL,jB];rfl
def zcJ(s:ByteArray)(n b:Nat)(h:(bytesOf s)[n]?=some b):∃ u:UInt8,s[n]?=some u/\u.toNat=b:=by
 have cC:n<s.size:=by
  obtain⟨cC,_⟩:=aM.1 h
  rwa [xD]at cC
 refine⟨s[n],ByteArray.getElem?_lt' s n cC,?_⟩;simp only[bytesOf,bC,bG]at h;obtain⟨u,hu,rfl⟩:=h;rw[gy]at hu;obtain⟨M,O⟩:=dX.1 hu;exact congrArg UInt8.toNat O
section
variable {I:Nat->Value}{w:World}{F:Nat->Prop}{μ:Nat->Nat->Y MI}{C:HS}{T:PT V}
def fG.zbo{cs:Z V}{b off:Nat}(h:fG I w F (.ref cs) (.pointer (some ⟨b,off,none⟩))):fG I w F (.ref (cs.drop n)) (.pointer (some ⟨b,off+n,none⟩)):=by
 cases h with
 | ref _ _ _ ys hb hc hr =>
   refine .ref _ b (off+n) (λi=>ys (n+i)) hb (λi v hi=>?_) (λi v hi=>?_)
   . rw[nZ]at hi;rw[eD];exact hc _ v hi
   . rw[nZ]at hi;exact hr _ v hi
def ZA{fd:Field}(hi:ti P t=some i)(hf:bD i f=some fd)(s9:ti P fd.type=some fi)(cb:fi.size≠0){v r:V}
 (hx:dV I w F μ v x) (h:pK fd.offset v=some r):xJ I P w F μ (Instr.fieldAt t x f) r:=by
 obtain⟨fs,hd,Ly⟩:=LY.1 hf
 have key:∀ b off,(Instr.fieldAt t (.pointer (some ⟨b,off,none⟩)) f).run P w=.ok (.pointer (some ⟨b,off+fd.offset,none⟩)) w:=by
  intro b off;simp only[Instr.fieldAt,Sem.run_bind,gP hi,Result.andThen_ok,hd,Ly,Instr.sureAddr,Sem.run_pure,fieldPlace,uf s9,if_neg cb,eI]
 unfold pK at h;split at h
 . rename_i id g off;cases h;obtain⟨m,hm,rfl⟩:=hx.yc;exact⟨_,key _ _,.ptr id g _ m hm⟩
 . rename_i cs;cases h;have hx:=hx.Gd;have tj:=hx
   cases hx with
   | ref _ b off ys hb hc hr =>
     refine⟨_,key _ _,.pure ?_⟩;rw[yx];exact tj.zbo
 . cases h
def zoA{fd:Field}(hi:ti P t=some i)(hf:bD i f=some fd)(s9:ti P fd.type=some fi){cs:Z V}{r:V}
 (hx:dV I w F μ (.agg cs) x) (h:AA fi cs fd.offset=some r):xJ I P w F μ (Instr.field t x f) r:=by
 obtain⟨fs,hd,Ly⟩:=LY.1 hf;obtain⟨ys,rfl,C,hc⟩:=hx.wQ;obtain⟨y,hy,hr⟩:=TM s9 C hc h;exact⟨y,by simp only[Instr.field,Sem.run_bind,gP hi,Result.andThen_ok,hd,Ly,asAgg,Sem.run_pure,hy],hr⟩
def Zf{e:TI}(hi:ti P t=some i)(hd:sH i.desc=some el)(he:ti P el=some e){v r:V}
 (hx:dV I w F μ v x) (h:zK e n v=some r):xJ I P w F μ (Instr.indexAt t x (.int k (n:Int))) r:=by
 rw[zy]at hd
 have key:∀ b off len c,n<len->(Instr.indexAt t (.slice (some ⟨b,off,none⟩) len c) (.int k (n:Int))).run P w=.ok (.pointer (some ⟨b,off+n*e.size,none⟩)) w:=by
  intro b off len c cC;have M:(0:Int)<=(n:Int)/\(n:Int)<(len:Int):=⟨by omega,by omega⟩;simp only[Instr.indexAt,asIntOf,Sem.run_bind,Sem.run_pure,gP hi,Result.andThen_ok,hd,M,and_self,if_true,uf he,eI,bP]
 unfold zK at h;split at h
 . rename_i es t';simp only[bE,aA,sI]at h;obtain⟨b8,c,hc,hr⟩:=h;cases hr;have Fm:=lI.1 b8;have ew:=aC hc;have hx:=hx.CR
   cases hx with
   |po a c' _ ht=>simp at hc
   | qe _ b off size c' _ ys hb hl fc iv hle ht =>
     have e1:size=e.size:=by rw[<- hl c ew,Fm c ew]
     subst e1;obtain⟨cC,_⟩:=aM.1 hc;refine⟨_,key _ _ _ _ cC,.pure (.ref c b _ (λj=>ys n j) hb (λj v hj=>fc n c j v hc hj) (λj v hj=>iv n c j v hc hj))⟩
 . rename_i id g off len cap;simp only[bE,gz]at h;obtain⟨cC,hr⟩:=h;cases hr;obtain⟨m,c,hm,rfl,M,O,h3,h4⟩:=hx.wM;exact⟨_,key _ _ _ _ cC,.ptr id g _ m hm⟩
 . cases h
def zxb  {el:TypeId×Y Nat} {e:TI} (hi:ti P t=some i) (hd:elemOf i.desc=some el) (he:ti P el.1=some e) {v r:V}   
 (hx:dV I w F μ v x) (h:znY el.2 e n v=some r):xJ I P w F μ (Instr.indexAt t x (.int k (n:Int))) r:=by
 unfold elemOf at hd;split at hd
 . rename_i s C;cases hd;exact Zf hi (by rw[C];rfl) he hx h
 . rename_i len s C;cases hd;have h:gd (Nat.blt n len) (pK (n*e.size) v)=some r:=h;simp only[bE,gz]at h;obtain⟨cC,h⟩:=h
   have key:∀ b off,(Instr.indexAt t (.pointer (some ⟨b,off,none⟩)) (.int k (n:Int))).run P w=.ok (.pointer (some ⟨b,off+n*e.size,none⟩)) w:=by
    intro b off;have M:(0:Int)<=(n:Int)/\(n:Int)<(len:Int):=⟨by omega,by omega⟩;simp only[Instr.indexAt,asIntOf,Sem.run_bind,Sem.run_pure,gP hi,Result.andThen_ok,C,Instr.sureAddr,M,and_self,if_true,uf he,eI,bP]
   unfold pK at h;split at h
   . rename_i id g off;cases h;obtain⟨m,hm,rfl⟩:=hx.yc;exact⟨_,key _ _,.ptr _ _ _ m hm⟩
   . rename_i cs;cases h;have hx:=hx.Gd;have tj:=hx
     cases hx with
     | ref _ b off ys hb hc hr =>
       refine⟨_,key _ _,.pure ?_⟩;rw[yx];exact tj.zbo
   . cases h
 . cases hd
theorem znV(hi:ti P t=some i)(hd:isStr i.desc=true){b:Nat}
 (hx:dV I w F μ (.str l) x) (h:vQ l n=some b):xJ I P w F μ (Instr.index t x (.int k (n:Int))) (.int .u8 (Int.ofNat b)):=by
 obtain⟨s,rfl,rfl⟩:=hx.BU;rw[sI]at h;obtain⟨u,hu,rfl⟩:=zcJ s n b h
 have xT:i.desc=.string:=by
  grind [isStr]
 refine⟨.int .u8 (u.toNat:Int),?_,.pure (.int _ _)⟩;simp[Instr.index,asIntOf,gP hi,xT,hu]
theorem ze7{vs:Z V}{k:Nat}{r:V}(hx:dV I w F μ (.tuple vs) x)(h:vQ vs k=some r):xJ I P w F μ (Instr.extract x k) r:=by
 obtain⟨ys,rfl,C,hc⟩:=hx.qx;rw[sI]at h;have hr:=hc k r h;obtain⟨cC,_⟩:=aM.1 h;have sR:k<ys.size:=by omega
 refine⟨ys[k],by simp[Instr.extract,sR],?_⟩
 simp_all
def TZ{v:V}(hx:dV I w F μ v x)(h:zrU v=some b):∃ a:Y Addr,x=.pointer a/\a.isNone=b:=by
 unfold zrU at h;split at h<;>cases h
 . exact⟨none,hx.zeo,rfl⟩
 . obtain⟨m,hm,rfl⟩:=hx.yc;exact⟨_,rfl,rfl⟩
 . have hx:=hx.Gd;cases hx;exact⟨_,rfl,rfl⟩
def TY{v:V}(hx:dV I w F μ v x)(h:zrT v=some b):∃ (a:Y Addr) (n c:Nat),x=.slice a n c/\a.isNone=b:=by
 unfold zrT at h;split at h<;>cases h
 . exact⟨none,0,0,hx.CO,rfl⟩
 . obtain⟨m,c,hm,rfl,_⟩:=hx.wM;exact⟨_,_,_,rfl,rfl⟩
 . have hx:=hx.CR
   cases hx with
   |qe _ b off size c' _ ys hb hl fc iv hle ht=>exact⟨_,_,_,rfl,rfl⟩
def T9{v:V}(hx:dV I w F μ v x)(h:zrV v=some b):∃ a:Y Nat,x=.map a/\a.isNone=b:=by
 unfold zrV at h;split at h<;>cases h
 . exact⟨none,hx.LC,rfl⟩
 . obtain⟨m,hm,rfl⟩:=hx.Gm;exact⟨_,rfl,rfl⟩
def Ua{v:V}(hx:dV I w F μ v x)(h:zrX v=some b):(x=.nilFunc/\b=true)\/((∃ f a c,x=.func f a c)/\b=false):=by
 unfold zrX at h;split at h<;>cases h
 . exact .inl ⟨hx.zbF,rfl⟩
 . obtain⟨ys,rfl,_⟩:=hx.AP;exact .inr ⟨⟨_,_,_,rfl⟩,rfl⟩
theorem AQ{a b:Y Bool}{r:Bool}(h:Xq a b=some r):∃ p q,a=some p/\b=some q/\((p=true/\r=q)\/(p=false/\q=true/\r=false)):=by
 simp_all [Xq,aA,iL,gZ]
theorem LX {d:Nat} {xs ys:Z V} {X kf:Array Value} (hX:X.size=xs.length) (hx:∀ (j:Nat) (v:V),xs[j]?=some v->dV I w F μ v (X.getD j undef)) (hY:kf.size=ys.length) (hy:∀ (j:Nat) (v:V),ys[j]?=some v->dV I w F μ v (kf.getD j undef)) :
 ∀ (fs : Z Field) (b:Bool),NC P fs xs ys=some b ->
   (forIn (m:=Sem) fs ((none:Y Bool),()) λf __s =>
     if f.name ≠ "_" then do
      let a <- part f.type X f.offset
      let c <- part f.type kf f.offset
      let e <- Op.equalIn (d+1) f.type a c
      if (!e)=true then pure (ForInStep.done (some false,()))
       else pure (ForInStep.yield (none,()))
     else pure (ForInStep.yield (none,()))).run P w=.ok (if b then (none,())else (some false,())) w:=by
 intro fs
 induction fs with
 |nil=>intro b h;cases h;rfl
 | cons f fs ih =>
   intro b h;simp only[NC,bE,aA,jN]at h;obtain⟨hn,i,hi,hd,a,ha,c,hc,p,hp,q,hq,hk,h⟩:=h;have hag:kG i.desc=false:=by cases ld:i.desc<;>simp_all [zeE,kG]
   have pl:∀ (zs:Z V) (v:V),vQ zs f.offset=some v->AA i zs f.offset=some v:=λzs v h=>by unfold AA;rw[hag];exact h
   obtain⟨x1,e1,r1⟩:=TM hi hX hx (pl _ _ ha);obtain⟨x2,e2,r2⟩:=TM hi hY hy (pl _ _ hc);rw[V.fp]at hp hq;subst hp hq;obtain⟨k1,n1⟩:=p;obtain⟨k2,n2⟩:=q;have q1:=r1.lG;have q2:=r2.lG;subst q1 q2;rw[Ee]at hk;simp only at hk;subst hk
   have cb : f.name ≠ "_" := by simpa using hn
   have heq:(Op.equalIn (d+1) f.type (.int k1 n1) (.int k1 n2)).run P w=.ok (n1 == n2) w:=by
    simp only[Op.equalIn,Sem.run_bind,gP hi,Result.andThen_ok];cases ld:i.desc<;>simp_all [zeE]
   rw[List.forIn_cons];simp only[if_pos cb,Sem.run_bind,e1,e2,heq,Result.andThen_ok];rw[iO,ZE]at h;by_cases he:n1=n2
   . subst he;rw[if_pos (by simp)]at h;simpa using ih b h
   . rw[if_neg (by simpa using he)]at h;cases h;simp[he]
theorem zxN  {x y:V}   (hx:dV I w F μ x X) (hy:dV I w F μ y kf) (h:Iv P t x y=some b) :
 (Op.equal t X kf).run P w=.ok b w:=by
 have key:∀ d,(Op.equalIn (d+2) t X kf).run P w=.ok b w:=?_
 . exact key 9998
 intro d;simp only[Iv,aA]at h;obtain⟨i,hi,h⟩:=h;unfold zEC at h;simp only[Op.equalIn,Sem.run_bind,gP hi,Result.andThen_ok];split at h
 . rename_i fs hd;unfold zKy at h;split at h
   . rename_i xs ys;simp only[bE,dx,jN]at h;obtain⟨⟨M,_⟩,h⟩:=h;obtain⟨X,rfl,hX,Bs⟩:=hx.wQ;obtain⟨kf,rfl,hY,hys⟩:=hy.wQ;rw[hd];have hp:Sem.run P program w=.ok P w:=rfl;have BY:=LX (d:=d) hX Bs hY hys fs.toList b h;simp only[Sem.run_bind,hp,Result.andThen_ok,M,lH,if_false];rw[<- Array.forIn_toList]
     erw[BY]
     cases b<;>rfl
   . cases h
 . unfold zEF at h;split at h
   . rename_i hd;simp only[aA,V.fL]at h;obtain⟨p,rfl,q,rfl,h⟩:=h;cases h;rw[hx.uE,hy.uE,hd];simp[FN]
   . rename_i e hd;obtain⟨p,q,hp,hq,hr⟩:=AQ h;obtain⟨a,rfl,ha⟩:=TZ hx hp;obtain⟨c,rfl,hc⟩:=TZ hy hq;rw[hd];rcases hr with⟨rfl,rfl⟩|⟨rfl,rfl,rfl⟩
     . simp_all
     . simp at hc;subst hc
       cases a with
       |none=>simp at ha
       |some a=>simp
   . rename_i e hd;obtain⟨p,q,hp,hq,hr⟩:=AQ h;obtain⟨a,n1,c1,rfl,ha⟩:=TY hx hp;obtain⟨c,n2,c2,rfl,hc⟩:=TY hy hq;rw[hd];rcases hr with⟨rfl,rfl⟩|⟨rfl,rfl,rfl⟩
     . simp_all
     . simp at hc;subst hc
       cases a with
       |none=>simp at ha
       |some a=>simp
   . rename_i e e' hd;obtain⟨p,q,hp,hq,hr⟩:=AQ h;obtain⟨a,rfl,ha⟩:=T9 hx hp;obtain⟨c,rfl,hc⟩:=T9 hy hq;rw[hd];rcases hr with⟨rfl,rfl⟩|⟨rfl,rfl,rfl⟩
     . simp_all
     . simp at hc;subst hc
       cases a with
       |none=>simp at ha
       |some a=>simp
   . rename_i e1 e2 e3 hd;obtain⟨p,q,hp,hq,hr⟩:=AQ h;rw[hd];rcases Ua hx hp with⟨rfl,e⟩|⟨⟨f,a,c,rfl⟩,e⟩<;>rcases Ua hy hq with⟨rfl,e'⟩|⟨⟨f',a',c',rfl⟩,e'⟩<;>subst e<;>subst e'<;>simp_all
   . cases h
theorem zU{op:BinOp}{x:Operand}(M:X≠.nilIface)(O:∀ a,X≠.agg a):(eqGuard op t x y X kf).run P w=.ok () w:=by
 unfold eqGuard
 simp_all
def zcl{op:BinOp}{x:Operand}{X:Array Value}(h:P.eqGuardType P.depth t=false):(eqGuard op t x y (.agg X) kf).run P w=.ok () w:=by
 have hp:Sem.run P program w=.ok P w:=rfl;unfold eqGuard;cases op<;>first|rfl|(cases kf<;>first|rfl|simp[Sem.run_bind,hp,h])
theorem zrW{op:BinOp}{x v:V}(hx:dV I w F μ x X)(h:znt P op t x=some v) :
 xJ I P w F μ (do eqGuard op t o1 (.const .nilIface) X .nilIface;binOp op t X .nilIface) v:=by
 unfold znt at h;simp only[aA,bE]at h;obtain⟨i,hi,hd,b,hb,h⟩:=h
 have W7:(eqGuard op t o1 (.const .nilIface) X .nilIface).run P w=.ok () w:=by
  unfold eqGuard;cases op<;>cases X<;>simp
 have zJ9:∀ d,(Op.equalIn (d+1) t X .nilIface).run P w=.ok b w:=by
  intro d;simp only[Op.equalIn,Sem.run_bind,gP hi,Result.andThen_ok];unfold zwQ at hb;split at hb
  . cases hb;have e:=hx.Nf;subst e;cases ld:i.desc<;>simp_all [isIface]
  . cases hb;obtain⟨z,rfl,_⟩:=hx.Cx;cases ld:i.desc<;>simp_all [isIface]
  . cases hb
 have heq:(Op.equal t X .nilIface).run P w=.ok b w:=zJ9 9999
 have hX:X=.nilIface\/∃ t z,X=.iface t z:=by
  unfold zwQ at hb;split at hb
  . exact .inl hx.Nf
  . obtain⟨z,rfl,_⟩:=hx.Cx;exact .inr ⟨_,_,rfl⟩
  . cases hb
 cases op<;>simp only[reduceCtorEq,mE]at h<;>subst h<;>rcases hX with rfl|⟨t',z,rfl⟩ <;>
  exact⟨_,by simp only[Sem.run_bind,W7,Result.andThen_ok];simp[binOp,heq];rfl,.pure (by first|exact .bool _|(rw[KI];exact .bool _))⟩
def zph{op:BinOp}{a b:Int}{v:V}(t:TypeId)(h:arith op k a b=some v)(C:qV op=false) :
 xJ I P w F μ (binOp op t (.int k a) (.int k b)) v:=by
 have key:∀ x:Value,(binOp op t (.int k a) (.int k b)).run P w=.ok x w->fG I w F v x->xJ I P w F μ (binOp op t (.int k a) (.int k b)) v:=λx h hx=>⟨x,h,.pure hx⟩
 unfold arith at h
 cases op<;>simp only[bE,mE,reduceCtorEq]at h<;>first
  |(cases h;done)
  |(simp[qV]at C;done)
  |(subst h;refine key _ (by simp[binOp,Op.intBits]<;>rfl) ?_;exact .int _ _)
  |(subst h;refine key _ (by simp[binOp,Op.intArith]<;>rfl) ?_;rw[H9];exact .int _ _)
  |(subst h;refine key _ (by simp[binOp,Op.intCmp]<;>rfl) ?_;simp only[ZE,Nk,zhd,KI,bne];exact .bool _)
  | (obtain⟨h0,h⟩:=h
     rw[jN]at h0;have hb:b≠0:=λe=>by rw[NF.2 e]at h0;cases h0
     subst h;refine key _ (by simp[binOp,Op.intDiv,hb]<;>rfl) ?_
     first|exact .int _ _|(rw[H9];exact .int _ _))
def ziG{op:BinOp}{a b:Int}{v:V}(t:TypeId)(h:Tk op k a b=some v) :
 xJ I P w F μ (binOp op t (.int k a) (.int k' b)) v:=by
 unfold Tk at h;split at h
 . simp only[aA]at h;obtain⟨m,hm,h⟩:=h;cases h
   cases b with
   | ofNat n =>
     cases hm;refine⟨.int k (a.fdiv (2 ^ min m k.bits)),?_,.pure (.int _ _)⟩;have:¬ (Int.ofNat m)<0:=Int.not_lt.2 (Int.natCast_nonneg m);simp only[binOp,Op.shift,if_neg this];rfl
   |negSucc n=>cases hm
 . cases h
def zmu{op:BinOp}{v:V}(t:TypeId)(h:Qg op (bytesOf s) (bytesOf u)=some v) :
 xJ I P w F μ (binOp op t (.string s) (.string u)) v:=by
 have key:∀ x:Value,(binOp op t (.string s) (.string u)).run P w=.ok x w->fG I w F v x->xJ I P w F μ (binOp op t (.string s) (.string u)) v:=λx h hx=>⟨x,h,.pure hx⟩
 unfold Qg at h
 cases op <;> simp only[bE,mE,reduceCtorEq]at h<;>first
  |(cases h;done)
  |(subst h;refine key _ (by simp[binOp,Op.stringOp]<;>rfl) ?_;simp only[UO,Ul,KI];exact .bool _)
  |(subst h;refine key _ (by simp[binOp,Op.stringOp]<;>rfl) ?_;simp only[UO,Ul,KI,iO];cases Op.bytesLess s.toList u.toList<;>exact .bool _)
  | (obtain⟨h0,h⟩:=h
     subst h;rw[gY,dI,dI,xD,xD]at h0;refine key (.string (s++u)) ?_ ?_
     . have:¬ ((s.size+u.size:Nat):Int)>IntKind.i64.max:=by
        have e:IntKind.i64.max=9223372036854775807:=by decide
        rw[e];omega
       simp only[binOp,Op.stringOp,if_neg this];rfl
     . have e:jY (bytesOf s) (bytesOf u)=bytesOf (s++u):=by
        rw[oo];simp[bytesOf]
       rw[e];exact .str _)
def zts {op:BinOp} {u:TypeId}  {x y v:V}  (hx:dV I w F μ x X) (hy:dV I w F μ y kf) (h:RN P op t x y=some v) :
 xJ I P w F μ (do eqGuard op t o1 o2 X kf;binOp op t X kf) v:=by
 have fin:X≠.nilIface->(∀ a,X≠.agg a)->xJ I P w F μ (binOp op t X kf) v->xJ I P w F μ (do eqGuard op t o1 o2 X kf;binOp op t X kf) v:=by
  rintro M O ⟨r,hr,iv⟩;exact⟨r,by simp only[Sem.run_bind,zU M O,Result.andThen_ok,hr],iv⟩
 unfold RN at h;split at h
 . rename_i k a;simp only[aA,V.fp]at h;obtain⟨⟨k',b⟩,rfl,h⟩:=h;have e1:=hx.lG;subst e1;have e2:=hy.lG;subst e2;refine fin (λe=>by cases e) (λ_ e=>by cases e) ?_;rw[iO]at h;split at h
   . exact ziG t h
   . rename_i D2;simp only[bE,Ee]at h;obtain⟨hk,h⟩:=h;dsimp only at hk h ⊢;subst hk;exact zph t h (by simpa using D2)
 . rename_i a;simp only[aA,V.lO]at h;obtain⟨b,rfl,h⟩:=h;obtain⟨s,rfl,rfl⟩:=hx.BU;obtain⟨s',rfl,rfl⟩:=hy.BU;exact fin (λe=>by cases e) (λ_ e=>by cases e) (zmu t h)
 . rename_i hni sq;unfold R4 at h
   have zn7:∀ b,Iv P t x y=some b->(eqGuard op t o1 o2 X kf).run P w=.ok () w/\(∀ k n,X≠.int k n)/\(∀ s,X≠.string s)/\(∀ k n,X≠.float k n)/\(∀ k n m,X≠.complex k n m):=by
    intro b hb;simp only[Iv,aA]at hb;obtain⟨i,hi,hb⟩:=hb;unfold zEC at hb;split at hb
    . unfold zKy at hb;split at hb
      . simp only[bE,dx,jN]at hb;obtain⟨A,rfl,_⟩:=hx.wQ;exact⟨zcl hb.1.2,by simp,by simp,by simp,by simp⟩
      . cases hb
    . unfold zEF at hb;split at hb
      . simp only[aA,V.fL]at hb;obtain⟨p,rfl,_⟩:=hb;rw[hx.uE];exact⟨zU (by simp) (by simp),by simp,by simp,by simp,by simp⟩
      . obtain⟨p,q,hp,hq,hr⟩:=AQ hb;obtain⟨a,rfl,ha⟩:=TZ hx hp;exact⟨zU (by simp) (by simp),by simp,by simp,by simp,by simp⟩
      . obtain⟨p,q,hp,hq,hr⟩:=AQ hb;obtain⟨a,_,_,rfl,ha⟩:=TY hx hp;exact⟨zU (by simp) (by simp),by simp,by simp,by simp,by simp⟩
      . obtain⟨p,q,hp,hq,hr⟩:=AQ hb;obtain⟨a,rfl,ha⟩:=T9 hx hp;exact⟨zU (by simp) (by simp),by simp,by simp,by simp,by simp⟩
      . obtain⟨p,q,hp,hq,hr⟩:=AQ hb;rcases Ua hx hp with⟨rfl,e⟩|⟨⟨f,a,c,rfl⟩,e⟩<;>exact⟨zU (by simp) (by simp),by simp,by simp,by simp,by simp⟩
      . cases hb
   have HN:∀ b,Iv P t x y=some b->(binOp .eql t X kf).run P w=.ok (.bool b) w/\(binOp .neq t X kf).run P w=.ok (.bool (!b)) w:=by
    intro b hb;obtain⟨g2,g3,g4,g5,g6⟩:=zn7 b hb;have he:=zxN hx hy hb
    cases X<;>first
     |(exact absurd rfl (g3 _ _))
     |(exact absurd rfl (g4 _))
     |(exact absurd rfl (g5 _ _))
     |(exact absurd rfl (g6 _ _ _))
     |(constructor<;>simp[binOp,he])
   cases op<;>simp only[aA,reduceCtorEq]at h
   . obtain⟨b,hb,h⟩:=h;cases h;exact⟨_,by simp only[Sem.run_bind,(zn7 b hb).1,Result.andThen_ok];exact(HN b hb).1,.pure (.bool _)⟩
   . obtain⟨b,hb,h⟩:=h;cases h;exact⟨_,by simp only[Sem.run_bind,(zn7 b hb).1,Result.andThen_ok];exact(HN b hb).2,.pure (by rw[KI];exact .bool _)⟩
theorem zs9{s d:TypeId}{j:TI}(hi:ti P s=some i)(hj:ti P d=some j){v r:V}(hx:dV I w F μ v x)(h:zcy j.desc v=some r) :
 xJ I P w F μ (convert s d x) r:=by
 unfold zcy at h;split at h
 . rename_i k hd;simp only[aA,V.fp]at h;obtain⟨p,rfl,h⟩:=h;cases h;have e:=hx.lG;subst e;refine⟨.int k (k.wrap p.2),?_,.pure (by rw[H9];exact .int _ _)⟩;simp only[convert,Sem.run_bind,gP hi,gP hj,Result.andThen_ok,hd];cases i.desc<;>rfl
 . rename_i hd;simp only[aA,V.lO]at h;obtain⟨l,rfl,h⟩:=h;cases h;have tj:=hx;obtain⟨s,rfl,rfl⟩:=hx.BU;refine⟨.string s,?_,tj⟩;simp only[convert,Sem.run_bind,gP hi,gP hj,Result.andThen_ok,hd]
   simp_all
 . cases h
def JV{a b:Int}(less:Bool)(ts:Array TypeId)(t:TypeId) :
 xJ I P w F μ (if less then Builtin.min_ ts t #[.int k a,.int k' b]else Builtin.max_ ts t #[.int k a,.int k' b]) (.int k (bi (bi less (AW b a) (AW a b)) b a)):=by
 cases less with
 | true =>
   refine⟨.int k (if b<a then b else a),by simp[Builtin.min_,Builtin.min2],.pure ?_⟩;rw[iL,iO,Nk];simp only[decide_eq_true_eq];exact .int _ _
 | false =>
   refine⟨.int k (if b>a then b else a),by simp[Builtin.max_,Builtin.max2],.pure ?_⟩;rw[gZ,iO,Nk];simp only[decide_eq_true_eq];exact .int _ _
end
def Nq{x:Y α}:fV x=true↔∃ a,x=some a:=by cases x<;>simp[fV]
def KN{x:Y α}:fV x=false↔x=none:=by cases x<;>simp[fV]
def Good(I:Nat->Value):Prop:=∀ k,(I k).oneCell'=true
section
variable {I:Nat->Value}{w:World}{F:Nat->Prop}{μ:Nat->Nat->Y MI}{C:HS}{T:PT V}
def uQ(hT:kH I w F μ T a.tmps){o:Y Operand}{y d r:Nat}(h:V5 T o y d=some r) :
 (o=none/\r=d)\/(∃ op k,o=some op/\a.eval op=.int k (r:Int)/\r<=y):=by
 cases o with
 |none=>left;exact⟨rfl,by have h:some d=some r:=h;cases h;rfl⟩
 | some op =>
   right;have h:(W (bV T op) λv=>W v.nat? λn=>gd (Nat.ble n y) (some n))=some r:=h;simp only[aA,bE,gY,V.qq]at h;obtain⟨v,hv,n,⟨k,rfl⟩,hle,hr⟩:=h;cases hr;exact⟨op,k,rfl,(dJ hT hv).lG,hle⟩
theorem pI(k:IntKind){y:Nat}(code:BoundsCode)(h:n<=y):(Instr.sliceBound (.int k (n:Int)) y code).run P w=.ok n w:=by
 have M:(0:Int)<=(n:Int)/\(n:Int)<=(y:Int):=⟨by omega,by omega⟩;simp only[Instr.sliceBound,asIntOf,Sem.run_bind,Sem.run_pure,Result.andThen_ok,if_pos M,bP]
def FM  (hT:kH I w F μ T a.tmps) {len zoX cap l h m:Nat} {hi:Y Operand} (b:Bool) (hb:bounds T len zoX lo hi mx=some (l,h,m)) (M:len<=zoX) (O:zoX<=cap) :
 ∃ m',(Instr.sliceBounds b len cap (lo.map a.eval) (hi.map a.eval) (mx.map a.eval)).run P w=.ok (l,h,m') w/\l<=h/\h<=m/\m<=zoX /\
   (fV mx=true->m'=m)/\(fV mx=false->m=zoX/\m'=cap):=by
 unfold bounds at hb;simp only[bE,aA]at hb;obtain⟨hmx,m1,hm,h',hh,l',hl,he⟩:=hb;cases he;unfold Instr.sliceBounds;rcases uQ hT hm with⟨rfl,rfl⟩|⟨om,km,rfl,em,eR⟩
 . have fX:l<=h:=by
    rcases uQ hT hl with⟨rfl,rfl⟩|⟨ol,kl,rfl,el,AF⟩
    . exact aW _
    . exact AF
   have hle:h<=m:=by
    rcases uQ hT hh with⟨rfl,rfl⟩|⟨oh,kh,rfl,eh,hh'⟩
    . exact M
    . exact hh'
   refine⟨cap,?_,fX,hle,af _,λh=>by simp[fV]at h,λ_=>⟨rfl,rfl⟩⟩;rcases uQ hT hh with⟨rfl,rfl⟩|⟨oh,kh,rfl,eh,hh'⟩
   . rcases uQ hT hl with⟨rfl,rfl⟩|⟨ol,kl,rfl,el,AF⟩
     . rfl
     . simp only[jv,lN,el,Sem.run_bind,Sem.run_pure,Result.andThen_ok,pI _ _ AF]
   . have zAb:=aO hh' O;rcases uQ hT hl with⟨rfl,rfl⟩|⟨ol,kl,rfl,el,AF⟩
     . simp only[jv,lN,eh,Sem.run_bind,Sem.run_pure,Result.andThen_ok,pI _ _ zAb]
     . simp only[jv,lN,eh,el,Sem.run_bind,Sem.run_pure,Result.andThen_ok,pI _ _ zAb,pI _ _ AF]
 . rw [show fV (some om)=true from rfl,iL,Nq]at hmx;obtain⟨oh,rfl⟩:=hmx;rcases uQ hT hh with⟨h0,_⟩|⟨oh',kh,e,eh,hh'⟩
   . cases h0
   . cases e
     have fX:l<=h:=by
      rcases uQ hT hl with⟨rfl,rfl⟩|⟨ol,kl,rfl,el,AF⟩
      . exact aW _
      . exact AF
     refine⟨m,?_,fX,hh',eR,λ_=>rfl,λh=>by simp[fV]at h⟩;simp only[jv,em,eh,Sem.run_bind,pI _ _ (aO eR O),pI _ _ hh',Result.andThen_ok];rcases uQ hT hl with⟨rfl,rfl⟩|⟨ol,kl,rfl,el,AF⟩
     . rfl
     . simp only[jv,el,Sem.run_bind,pI _ _ AF,Result.andThen_ok,Sem.run_pure]
def RJ(s:ByteArray)(l h:Nat):bytesOf (s.extract l h)=(((bytesOf s).drop l).take (h-l)):=by
 unfold bytesOf;rw[Lib.extract_data,uH,List.map_drop]
def zmF  (hR:R I w F μ P C) (hT:kH I w F μ T a.tmps)   (hi:ti P t=some i) {v r:V}  {cj:Y Operand}
 (hx:dV I w F μ v x) (h:EE P T C i v lo cj mx=some r):xJ I P w F μ (Instr.sliceAt t x (lo.map a.eval) (cj.map a.eval) (mx.map a.eval)) r:=by
 unfold EE at h;split at h
 . rename_i hd;simp only[aA,V.lO,za8,bE,jN,KN]at h;obtain⟨s,rfl,rfl,⟨l,hh,m⟩,hb,hr⟩:=h;cases hr;obtain⟨s,rfl,rfl⟩:=hx.BU;obtain⟨m',db,M,O,h3,_,h4⟩:=FM (P:=P) (w:=w) hT (cap:=s.size) false hb (af _) (by rw[dI,xD];exact af _);rw[dI,xD]at db;simp only[lN]at db;refine⟨.string (s.extract l hh),?_,.pure ?_⟩
   . simp only[Instr.sliceAt,Instr.slice,Sem.run_bind,gP hi,Result.andThen_ok,hd,lN,Option.isSome_none,lH,if_false,Sem.run_pure,db]
   . rw[xQ,yx,<- RJ];exact .str _
 . rename_i el hd;simp only[aA]at h;obtain⟨e,he,h⟩:=h
   have key:∀ (ad:Y Addr) (len cap l hh m':Nat),(Instr.sliceBounds true len cap (lo.map a.eval) (cj.map a.eval) (mx.map a.eval)).run P w=.ok (l,hh,m') w ->
    (Instr.sliceAt t (.slice ad len cap) (lo.map a.eval) (cj.map a.eval) (mx.map a.eval)).run P w=.ok (.slice (if m'=l then ad else ad.map (·.add (l*e.size))) (hh-l) (m'-l)) w:=by
    intro ad len cap l hh m' db;simp only[Instr.sliceAt,Instr.slice,Sem.run_bind,gP hi,Result.andThen_ok,hd,db,uf he,Sem.run_pure]
   split at h
   . simp only[za9,aA]at h;obtain⟨⟨l,hh,m⟩,hb,hr⟩:=h;cases hr;have e:=hx.CO;subst e;obtain⟨m',db,M,O,h3,h4,h5⟩:=FM (P:=P) (w:=w) hT (cap:=0) true hb (af _) (af _)
     have eR:m'=0:=by
      cases C:fV mx with
      |true=>have:=h4 C;omega
      |false=>exact(h5 C).2
     refine⟨_,key _ _ _ _ _ _ db,.pure ?_⟩;have e1:hh-l=0:=by omega
     have e2:m'-l=0:=by omega
     simp only[lN,ite_self,e1,e2];exact .aE
   . rename_i es tight;simp only[JP,bE,aA,lI,dI]at h;obtain⟨b8,⟨l,hh,m⟩,hb,hr⟩:=h;cases hr;have hx:=hx.CR;rw[xQ,yx]
     cases hx with
     | po ad c _ ht =>
       obtain⟨m',db,M,O,h3,h4,h5⟩:=FM (P:=P) (w:=w) hT (cap:=c) true hb (af _) (aW _);simp only[nO]at hb db h3 h4 h5;refine⟨_,key _ _ _ _ _ _ db,.pure ?_⟩;have e1:hh-l=0:=by omega
       rw[e1];simp only[List.drop_nil,List.take_nil];refine .po _ _ _ λhq=>?_
       cases C:fV mx with
       |true=>have:=h4 C;omega
       | false =>
         rw[C,gZ,dx]at hq;have:=(h5 C).2;have:=ht hq.1;omega
     | qe _ b off size c _ ys hb' hl fc iv hle ht =>
       obtain⟨m',db,M,O,h3,h4,h5⟩:=FM (P:=P) (w:=w) hT (cap:=c) true hb (af _) hle;have hlen:((es.drop l).take (hh-l)).length=hh-l:=by simp;omega
       have zxg:(bi (fV mx) (Nat.beq hh m) (et tight (Nat.beq hh es.length))=true)->m'-l=hh-l:=by
        intro hq
        cases C:fV mx with
        |true=>rw[C,iL,beq_true]at hq;have:=h4 C;omega
        | false =>
          rw[C,gZ,dx,beq_true]at hq;have:=(h5 C).2;have:=ht hq.1;omega
       refine⟨_,key _ _ _ _ _ _ db,.pure ?_⟩
       have tz:hh<=m':=by
        cases C:fV mx with
        |true=>have:=h4 C;omega
        |false=>have:=(h5 C).2;omega
       by_cases HM:m'=l
       . have e1:hh-l=0:=by omega
         rw[if_pos HM,e1,List.take_zero];exact .po _ _ _ λhq=>by omega
       . rw [if_neg HM];simp only[jv,eI];rw[show (Value.slice (some ⟨b,off+l*e.size,none⟩) (hh-l) (m'-l))=.slice (some ⟨b,off+l*e.size,none⟩) ((es.drop l).take (hh-l)).length (m'-l) by rw[hlen]]
         have gO:es=[]\/size=e.size:=by
          cases es with
          |nil=>exact .inl rfl
          |cons x es=>exact .inr (by rw[<- hl x (by simp),b8 x (by simp)])
         refine .qe _ b _ e.size _ _ (λi j=>ys (l+i) j) hb' (λx hx=>b8 x (mU (fK hx))) (λi x j v hi hj=>?_) (λi x j v hi hj=>?_) (by omega) (λhq=>by rw[hlen];exact zxg hq)
         . have cj:es[l+i]?=some x:=by
            rw[rT]at hi;split at hi
            . rwa [nZ]at hi
            . cases hi
           have:=fc (l+i) x j v cj hj;rcases gO with rfl|rfl
           . simp at cj
           . rw[show off+l*e.size+i*e.size+j=off+(l+i)*e.size+j by rw[gK];omega];exact this
         . have cj:es[l+i]?=some x:=by
            rw[rT]at hi;split at hi
            . rwa [nZ]at hi
            . cases hi
           exact iv (l+i) x j v cj hj
   . rename_i id g off len cap;simp only[MQ,aA,bE,beq_true]at h;obtain⟨row,fN,b8,⟨l,hh,m⟩,hb,hz,hr⟩:=h;cases hr;obtain⟨mi,c,hm,rfl,g1,g2,g3,g4⟩:=hx.wM;have ON:mi.size=e.size:=by rw[(hR.row fN hm).eV,b8]
     have oY:len<=vP len (λc=>c) cap/\vP len (λc=>c) cap<=c:=by
      cases cap with
      |none=>exact⟨af _,g1⟩
      |some k=>have:=g3 k rfl;subst this;exact⟨g1,af _⟩
     obtain⟨m',db,M,O,h3,h4,h5⟩:=FM (P:=P) (w:=w) hT (cap:=c) true hb oY.1 oY.2
     have tz:m<=m'/\m'<=c:=by
      cases C:fV mx with
      |true=>have:=h4 C;omega
      |false=>have:=h5 C;omega
     have HE:l=0\/l<m:=by
      cases hq:Nat.beq l 0 with
      |true=>exact .inl (beq_true.1 hq)
      |false=>dsimp only at hz;rw[hq,gZ,gz]at hz;exact .inr hz
     have had:(if m'=l then (some ⟨mi.b,off,none⟩:Y Addr)else (some ⟨mi.b,off,none⟩:Y Addr).map (·.add (l*e.size)))=some ⟨mi.b,off+l*e.size,none⟩:=by
      by_cases HM:m'=l
      . have:l=0:=by omega
        subst this;simp[HM]
      . rw[if_neg HM];simp[eI]
     refine⟨_,key _ _ _ _ _ _ db,?_⟩;rw[had]
     have eL:off+l*e.size+(m'-l)*mi.size=off+m'*mi.size:=by
      rw[<- ON,eD,<- gK];congr 2;omega
     refine .own id g _ _ _ _ mi hm (by dsimp only;omega) ?_ ?_ ?_
     . rw[eL];have:m'*mi.size<=c*mi.size:=aN _ tz.2;omega
     . intro k hk
       cases C:fV mx with
       |true=>rw[C,iL]at hk;cases hk;rw[h4 C]
       | false =>
         rw[C,gZ]at hk
         cases cap with
         |none=>cases hk
         | some k' =>
           have hk:some (k'-l)=some k:=hk;cases hk;have:=g3 k' rfl;rw[(h5 C).2];omega
     . intro hk
       cases C:fV mx with
       |true=>rw[C,iL]at hk;cases hk
       | false =>
         rw[C,gZ]at hk
         cases cap with
         |some k'=>cases hk
         |none=>rw[eL,(h5 C).2];exact g4 rfl
   . cases h
 . cases h
def PU(I:Nat->Value)(w:World)(F:Nat->Prop)(μ:Nat->Nat->Y MI)(cs:Z V)(ys:Array Value):Prop :=
 ys.size=cs.length/\∀ (i:Nat) (v:V),cs[i]?=some v->dV I w F μ v (ys.getD i undef)
def zgK(hρ:Good I){v:V}(h:dV I w F μ v x)(hv:∀ cs,v≠.agg cs):x.cells=#[x]:=by
 cases h with
 | pure h=>cases h with
   | sym k =>
     have:=hρ k;cases he:I k<;>rw[he]at this<;>first|rfl|(cases this)
   |agg cs ys C hc=>exact absurd rfl (hv cs)
   |_=>rfl
 |agg cs ys C hc=>exact absurd rfl (hv cs)
 |_=>rfl
def Kc(hρ:Good I){v:V}(h:dV I w F μ v x):PU I w F μ v.cells x.cells:=by
 by_cases hv:∃ cs,v=.agg cs
 . obtain⟨cs,rfl⟩:=hv;obtain⟨ys,rfl,C,hc⟩:=h.wQ;exact⟨C,hc⟩
 . have gE:∀ cs,v≠.agg cs:=λcs e=>hv ⟨cs,e⟩
   rw[zgK hρ h gE];have hc:v.cells=[v]:=by cases v<;>first|rfl|(exact absurd rfl (gE _))
   rw[hc];refine⟨rfl,λi u hi=>?_⟩
   cases i with
   |zero=>simp at hi;subst hi;exact h
   |succ i=>simp at hi
theorem Ve(hρ:Good I){v:V}(h:dV I w F μ v x)(hv:v.mM=true):x.oneCell'=true:=by
 cases h with
 | pure h=>cases h with
   |sym k=>exact hρ k
   |agg cs ys C hc=>cases hv
   |tuple cs ys C hc=>cases hv
   |_=>rfl
 |agg cs ys C hc=>cases hv
 |tuple cs ys C hc=>cases hv
 |_=>rfl
theorem zox(off:Nat):∀ (vs:Z Value) (s:Nat) (cells:Array Value),
 ((vs.zipIdx s).foldl (λcs p=>cs.setIfInBounds (off+p.2) p.1) cells).size=cells.size /\
 ∀ k,((vs.zipIdx s).foldl (λcs p=>cs.setIfInBounds (off+p.2) p.1) cells)[k]?=if off+s<=k/\k<off+s+vs.length/\k<cells.size then vs[k-(off+s)]? else cells[k]?:=by
 intro vs
 induction vs with
 |nil=>intro s cells;exact⟨rfl,λk=>by simp;intro M O;omega⟩
 | cons v vs ih =>
   intro s cells;simp only[List.zipIdx_cons,fQ]
   grind
theorem zcd(off:Nat)(xs cells:Array Value) :
 (xs.zipIdx.foldl (λcs (p:Value×Nat)=>cs.setIfInBounds (off+p.2) p.1) cells).size=cells.size /\
 ∀ k,(xs.zipIdx.foldl (λcs (p:Value×Nat)=>cs.setIfInBounds (off+p.2) p.1) cells)[k]?=if off<=k/\k<off+xs.size/\k<cells.size then xs[k-off]? else cells[k]?:=by
 have h:=zox off xs.toList 0 cells;simp only[Nat.add_zero,jB]at h
 grind [Array.toList_zipIdx]
theorem PU.J0{cs new:Z V}{xs:Array Value}(h:PU I w F μ cs ys)(hn:PU I w F μ new xs)(off:Nat) :
 PU I w F μ (kI cs off new) (xs.zipIdx.foldl (λcs (p:Value×Nat)=>cs.setIfInBounds (off+p.2) p.1) ys):=by
 obtain⟨M,O⟩:=zcd off xs ys;refine⟨by rw[M,uP];exact h.1,λk v hk=>?_⟩
 have cC:k<cs.length:=by
  grind [List.getElem?_eq_some_iff,uP]
 rw[Fw _ _ _ _ cC]at hk;rw[bR,O];have b8:=h.1;have la:=hn.1;by_cases hc:off<=k/\k<off+new.length
 . rw[if_pos hc]at hk;rw[if_pos ⟨hc.1,by omega,by omega⟩];have:=hn.2 _ v hk
   simp_all
 . rw[if_neg hc]at hk;rw[if_neg (by omega)];have:=h.2 _ v hk
   simp_all
def zfy(i:TI)(cells:Z V):Bu P T i [] cells=some cells:=rfl
def zcL(i:TI)(p:Nat×Operand)(l:Z (Nat×Operand))(cells:Z V):Bu P T i (p::l) cells =
 W (bD i p.1) λfd=>W (ti P fd.type) λfi=>W (bV T p.2) λv =>
  gd (et (Nat.beq (dA v.cells) fi.size) (Nat.ble (fd.offset+fi.size) (dA cells))) (Bu P T i l (kI cells fd.offset v.cells)):=rfl
theorem zfx(hρ:Good I)(hT:kH I w F μ T a.tmps){place:Nat->Y (Nat×Nat)}
 (HI:∀ f fd fi,bD i f=some fd->ti P fd.type=some fi->place f=some (fd.offset,fi.size)) :
 ∀ (l:Z (Nat×Operand)) (cs r:Z V) (cells:Array Value),Bu P T i l cs=some r->PU I w F μ cs cells ->
   ∃ cx,Instr.fill place cells (l.map λ(i,x)=>(i,a.eval x))=some cx/\PU I w F μ r cx:=by
 intro l
 induction l with
 |nil=>intro cs r cells h hc;rw[zfy]at h;cases h;exact⟨cells,rfl,hc⟩
 | cons p l ih =>
   intro cs r cells h hc;rw[zcL]at h;simp only[aA,bE,dx,beq_true,gY,dI]at h;obtain⟨fd,Zp,fi,s9,v,hv,⟨M,O⟩,h⟩:=h;have ez:=Kc hρ (dJ hT hv);have b8:=ez.1;have hcz:=hc.1;obtain⟨cx,zb5,hr⟩:=ih _ _ _ h (hc.J0 ez fd.offset);refine⟨cx,?_,hr⟩;obtain⟨pi,px⟩:=p;simp only[aR,Instr.fill,HI pi fd fi Zp s9]
   grind
theorem Rw{l:Z Field}(h:jH P l=true) :
 ∃ oB:Z (Nat×Nat),l.mapM (λf=>(P.info? f.type).map λi=>(f.offset,i.size))=some oB /\
   ∀ (k:Nat) (fd:Field) (fi:TI),l[k]?=some fd->ti P fd.type=some fi->oB[k]?=some (fd.offset,fi.size):=by
 have h':∀ f∈l,fV (ti P f.type)=true:=(Ml (λf:Field=>fV (ti P f.type)) l).1 h;clear h
 induction l with
 |nil=>exact⟨[],rfl,λk fd fi h=>by simp at h⟩
 | cons f l ih =>
   obtain⟨oB,hm,hp⟩:=ih (λx hx=>h' x (aF _ hx));obtain⟨i0,W6⟩:=Nq.1 (h' f (aD ..));obtain⟨info,z,M,O,h3,_⟩:=DZ W6;refine⟨(f.offset,info.size)::oB,by simp[List.mapM_cons,M,hm],λk fd fi hk s9=>?_⟩
   grind
def Sr(hi:ti P t=some i):∃ info z,P.info? t=some info/\P.underlying t=some i.desc/\info.zero=some z/\PU I w F μ i.zero z.cells/\(zeroValue t).run P w=.ok z w:=by
 obtain⟨info,z,M,O,h3,h4,h5,h6⟩:=DZ hi;obtain⟨hl,hz⟩:=yf (I:=I) (w:=w) (F:=F) h6;refine⟨info,z,M,O,h5,⟨by simpa using hl,λk v hk=>?_⟩,by simp[zeroValue,typeInfo,M,h5]⟩;obtain⟨x,hx,hr⟩:=hz k v hk;rw[gy]at hx;rw[bR,hx];exact .pure hr
theorem zo0(hρ:Good I)(hT:kH I w F μ T a.tmps)(hi:ti P t=some i){parts:Array (Nat×Operand)}{cs:Z V}(er:jH P (fieldsOf i.desc)=true)
 (eC:iX i.desc=true) (h:Bu P T i parts.toList i.zero=some cs):xJ I P w F μ (Instr.build t (parts.map λ(i,x)=>(i,a.eval x))) (.agg cs):=by
 obtain⟨info,z,M,O,h3,hz,HH⟩:=Sr (I:=I) (w:=w) (F:=F) (μ:=μ) hi;cases hd:i.desc<;>rw[hd]at eC<;>first|(cases eC;done)|skip
 rename_i fs;rw[hd]at er O;obtain⟨oB,HI,hp⟩:=Rw er
 obtain⟨cells,zb5,ez⟩:=zfx hρ hT (P:=P) (i:=i) (place:=(oB.toArray[·]?)) (λf fd fi hf s9=>by
  obtain⟨fs',xT,Ly⟩:=LY.1 hf;rw[hd]at xT;cases xT;have:=hp f fd fi (by simpa [fieldsOf]using Ly) s9
  simpa using this) _ _ _ _ h hz
 have hb:P.built t (parts.map λ(i,x)=>(i,a.eval x)).toList=some cells:=by
  unfold Program.built
  simp_all [fieldsOf]
 exact⟨.agg cells,run_build w t _ _ hb,.agg _ _ ez.1 ez.2⟩
def zcN(n:Nat)(cells:Z V):Cj T n [] cells=some cells:=rfl
def ZQ(n:Nat)(p:Nat×Operand)(l:Z (Nat×Operand))(cells:Z V):Cj T n (p::l) cells =
 W (bV T p.2) λv=>gd (et (Nat.beq (dA v.cells) n) (Nat.ble (p.1*n+n) (dA cells))) (Cj T n l (kI cells (p.1*n) v.cells)):=rfl
theorem zcM(hρ:Good I)(hT:kH I w F μ T a.tmps) :
 ∀ (l:Z (Nat×Operand)) (cs r:Z V) (cells:Array Value),Cj T n l cs=some r->PU I w F μ cs cells ->
   ∃ cx,Instr.fill (λi=>some (i*n,n)) cells (l.map λ(i,x)=>(i,a.eval x))=some cx/\PU I w F μ r cx:=by
 intro l
 induction l with
 |nil=>intro cs r cells h hc;rw[zcN]at h;cases h;exact⟨cells,rfl,hc⟩
 | cons p l ih =>
   intro cs r cells h hc;rw[ZQ]at h;simp only[aA,bE,dx,beq_true,gY,dI]at h;obtain⟨v,hv,⟨M,O⟩,h⟩:=h;have ez:=Kc hρ (dJ hT hv);have b8:=ez.1;have hcz:=hc.1;obtain⟨pi,px⟩:=p;obtain⟨cx,zb5,hr⟩:=ih _ _ _ h (hc.J0 ez (pi*n));refine⟨cx,?_,hr⟩;simp only[aR,Instr.fill]
   grind
theorem zkI(hρ:Good I)(hT:kH I w F μ T a.tmps){e:TI}(hi:ti P t=some i)(D4:zcX i.desc=some el)(he:ti P el=some e){parts:Array (Nat×Operand)}{cs:Z V}
 (h:Cj T e.size parts.toList i.zero=some cs):xJ I P w F μ (Instr.build t (parts.map λ(i,x)=>(i,a.eval x))) (.agg cs):=by
 obtain⟨info,z,M,O,h3,hz,HH⟩:=Sr (I:=I) (w:=w) (F:=F) (μ:=μ) hi;obtain⟨ie,ze,g1,g2,g3,_⟩:=DZ he
 have hd:∃ n,i.desc=.array n el:=by
  cases hd:i.desc<;>rw[hd]at D4<;>first|(cases D4;done)|skip
  cases D4
  grind
 obtain⟨n,hd⟩:=hd;rw[hd]at O;obtain⟨cells,zb5,ez⟩:=zcM hρ hT _ _ _ _ h hz
 have hb:P.built t (parts.map λ(i,x)=>(i,a.eval x)).toList=some cells:=by
  unfold Program.built
  simp_all
 exact⟨.agg cells,run_build w t _ _ hb,.agg _ _ ez.1 ez.2⟩
theorem Px{size off len:Nat}{es l:Z (Z V)}(h:Bp size off len es=some l):off % size=0/\off / size+len<=es.length/\l=(es.drop (off / size)).take len:=by
 grind [Bp,bE,dx,beq_true,gY,dI,xQ,yx,Option.some.injEq]
theorem zbj(hR:R I w F μ P C){id off len:Nat}{a:Nat×Z (Z V)×Bool×Bool×Bool}(ha:mP C id g=some a)(hm:μ id g=some m)(rp:off % a.1=0) :
 ∀ (i:Nat) (e:Z V) (j:Nat) (v:V),((a.2.1.drop (off / a.1)).take len)[i]?=some e->e[j]?=some v ->
   ∃ y,w.cell? ⟨m.b,off+i*a.1+j,none⟩=some y/\dV I w F μ v y/\(a.2.2.2.2=true->fG I w F v y):=by
 intro i e j v hi hj
 have cj:a.2.1[off / a.1+i]?=some e:=by
  grind
 obtain⟨y,hy,hr⟩:=(hR.row ha hm).cell cj hj
 grind [Nat.div_add_mod,Nat.add_mul,Nat.mul_comm]
theorem za0(hR:R I w F μ P C){id off len:Nat}{cap:Y Nat}{v':V}(hx:dV I w F μ (.own id g off len cap) x)(h:Ip C id g off len=some v')
  (hF:∀ b,F b->F' b) (hb:∀ m,μ id g=some m->F' m.b):fG I w F' v' x:=by
 simp only[Ip,aA,bE]at h;obtain⟨a,ha,fN,l,hl,hv⟩:=h;cases hv;obtain⟨rp,hlen,rfl⟩:=Px hl;obtain⟨m,c,hm,rfl,g1,g2,g3,g4⟩:=hx.wM
 have fX:((a.2.1.drop (off / a.1)).take len).length=len:=by
  simp;omega
 have hp:=zbj hR (len:=len) ha hm rp;rw[show (Value.slice (some ⟨m.b,off,none⟩) len c)=.slice (some ⟨m.b,off,none⟩) ((a.2.1.drop (off / a.1)).take len).length c by rw[fX]];refine .qe _ m.b off a.1 c false (λi j=>(w.cell? ⟨m.b,off+i*a.1+j,none⟩).getD undef) (hb m hm) (λe he=>(hR.row ha hm).hlen e (mU (fK he))) (λi e j v hi hj=>?_) (λi e j v hi hj=>?_) (by omega) (λh=>by cases h)
 . grind
 . obtain⟨y,hy,_,On⟩:=hp i e j v hi hj;rw[hy];exact(On fN).mono I hF (λ_ _=>rfl)
def zdb(μ:Nat->Nat->Y MI)(F':Nat->Prop)(v:V):Prop:=∀ id g off len cap,v=.own id g off len cap->∀ m,μ id g=some m->F' m.b
theorem WK(hR:R I w F μ P C){v v':V}(hx:dV I w F μ v x)(h:tY C v=some v')(hF:∀ b,F b->F' b)(hb:zdb μ F' v):fG I w F' v' x:=by
 unfold tY at h;split at h
 . exact za0 hR hx h hF (hb _ _ _ _ _ rfl)
 . simp only[bE]at h;obtain⟨hp,h⟩:=h;cases h;exact(dV.bM I hx hp).mono I hF (λ_ _=>rfl)
def zdP:Bf C []=some []:=rfl
theorem Qj(v:V)(l:Z V):Bf C (v::l)=W (tY C v) λv'=>W (Bf C l) λl'=>some (v'::l'):=rfl
theorem zit(hR:R I w F μ P C)(hF:∀ b,F b->F' b):∀ {l l':Z V},Bf C l=some l'->(∀ v∈l,zdb μ F' v) ->
 l'.length=l.length/\∀ (i:Nat) (v':V),l'[i]?=some v'->∃ v,l[i]?=some v/\∀ x,dV I w F μ v x->fG I w F' v' x:=by
 intro l
 induction l with
 |nil=>intro l' h _;rw[zdP]at h;cases h;exact⟨rfl,λi v' h=>by simp at h⟩
 | cons v l ih =>
   intro l' h gS;rw[Qj]at h;simp only[aA]at h
   grind [List.mem_cons_of_mem,WK,List.mem_cons_self]
theorem OE(hR:R I w F μ P C){v v':V}(hx:dV I w F μ v x)(h:kP C v=some v')(hF:∀ b,F b->F' b)(hb:∀ u∈v.cells,zdb μ F' u):fG I w F' v' x:=by
 unfold kP at h;split at h
 . rename_i cs;simp only[aA]at h;obtain⟨l,hl,h⟩:=h;cases h;obtain⟨ys,rfl,a8,hc⟩:=hx.wQ;obtain⟨hlen,ha⟩:=zit hR hF hl hb;refine .agg l ys (by omega) λi u hi=>?_
   grind
 . rename_i ox;have hc:v.cells=[v]:=by cases v<;>first|rfl|(exact absurd rfl (ox _))
   grind [WK]
def zdQ:lT C []=some []:=rfl
def za1(v:V)(l:Z V):lT C (v::l)=W (kP C v) λv'=>W (lT C l) λl'=>some (v'::l'):=rfl
theorem JO(hR:R I w F μ P C)(hF:∀ b,F b->F' b):∀ {l l':Z V},lT C l=some l'->(∀ v∈l,∀ u∈v.cells,zdb μ F' u) ->
 l'.length=l.length/\∀ (i:Nat) (v':V),l'[i]?=some v'->∃ v,l[i]?=some v/\∀ x,dV I w F μ v x->fG I w F' v' x:=by
 intro l
 induction l with
 |nil=>intro l' h _;rw[zdQ]at h;cases h;exact⟨rfl,λi v' h=>by simp at h⟩
 | cons v l ih =>
   intro l' h gS;rw[za1]at h;simp only[aA]at h
   grind [List.mem_cons_of_mem,OE,List.mem_cons_self]
theorem OD(hR:R I w F μ P C){v v':V}(hx:dV I w F μ v x)(h:still C v=some v')(hF:∀ b,F b->F' b)(hb:∀ id g m,μ id g=some m->F' m.b):fG I w F' v' x:=by
 have gS:∀ u,zdb μ F' u:=λu id g off len cap _ m hm=>hb id g m hm
 unfold still at h;split at h
 . rename_i cs;simp only[aA]at h;obtain⟨l,hl,h⟩:=h;cases h;obtain⟨ys,rfl,a8,hc⟩:=hx.qx;obtain⟨hlen,ha⟩:=JO hR hF hl (λv _ u _=>gS u);refine .tuple l ys (by omega) λi u hi=>?_
   grind
 . exact OE hR hx h hF (λu _=>gS u)
def pQ(C a8:HS):Prop:=a8.n=C.n/\∀ id,a8.H.get id=C.H.get id \/
 ∃ size gen es exact fz row,C.H.get id=some (.arr size gen es exact fz row)/\a8.H.get id=some (.arr size gen es exact true row)
theorem pQ.refl(C:HS):pQ C C:=⟨rfl,λ_=>.inl rfl⟩
def pQ.trans{a b c:HS}(h:pQ a b)(h':pQ b c):pQ a c:=by
 refine⟨h'.1.trans h.1,λid=>?_⟩;rcases h.2 id with M|⟨s,g,es,ex,fz,row,M,vj⟩<;>rcases h'.2 id with O|⟨s2,g2,EV,BM,zOi,zIT,O,LO⟩
 . exact .inl (O.trans M)
 . rw[M]at O;exact .inr ⟨s2,g2,EV,BM,zOi,zIT,O,LO⟩
 . exact .inr ⟨s,g,es,ex,fz,row,M,O.trans vj⟩
 . rw[vj]at O;cases O;exact .inr ⟨s,g,es,ex,fz,row,M,LO⟩
def Zw (hR:R I w F μ P C) (id:Nat):∃ F',R I w F' μ P (iF C id)/\Fr w F μ C w F' μ (iF C id)/\pQ C (iF C id) /\
 (∀ size gen es exact fz row m,C.H.get id=some (.arr size gen es exact fz row)->μ id gen=some m->F' m.b):=by
 cases ho:C.H.get id with
 | none =>
   have e:iF C id=C:=by simp only[iF,ho];rfl
   rw[e];exact⟨F,hR,Fr.refl ..,pQ.refl _,λsize gen es exact fz row m h _=>by cases h⟩
 | some o =>
   cases o with
   | arr size gen es exact fz row =>
     have e:iF C id=C.wr id (.arr size gen es exact true row):=by simp only[iF,ho];rfl
     rw[e];have h:=hR.freeze (a8:=C.wr id (.arr size gen es exact true row)) ho (λk=>Ey _ _ _ _);refine⟨_,h.1,h.2,⟨rfl,λk=>?_⟩,?_⟩
     . rw[Ey];by_cases e:k=id
       . subst e;rw[if_pos rfl];exact .inr ⟨_,_,_,_,_,_,ho,rfl⟩
       . rw[if_neg e];exact .inl rfl
     . intro s g cU ex fz' row' m M O;cases M;exact .inr ⟨m,O,rfl⟩
   | mp es =>
     have e:iF C id=C:=by simp only[iF,ho];rfl
     rw[e];exact⟨F,hR,Fr.refl ..,pQ.refl _,λsize gen es exact fz row m h _=>by cases h⟩
   | lp a b c d e f =>
     have e:iF C id=C:=by simp only[iF,ho];rfl
     rw[e];exact⟨F,hR,Fr.refl ..,pQ.refl _,λsize gen es exact fz row m h _=>by cases h⟩
def Gx(v:V)(l:Z V):mr C (v::l)=nI (mr C l) v:=rfl
def zeY (hR:R I w F μ P C):∀ l:Z V,∃ F',R I w F' μ P (mr C l)/\Fr w F μ C w F' μ (mr C l)/\pQ C (mr C l) /\
 (∀ v∈l,∀ id g off len cap,v=.own id g off len cap->∀ size es exact fz row m,C.H.get id=some (.arr size g es exact fz row)->μ id g=some m->F' m.b):=by
 intro l
 induction l with
 |nil=>exact⟨F,hR,Fr.refl ..,pQ.refl _,λv hv=>by simp at hv⟩
 | cons v l ih =>
   obtain⟨F1,M,O,h3,h4⟩:=ih;rw[Gx];unfold nI;split
   . rename_i id g off len cap;obtain⟨F2,g1,g2,g3,g4⟩:=Zw M id;refine⟨F2,g1,O.trans g2,h3.trans g3,λu hu jx g' T7 C5 cap' he size es exact fz row m hg hm=>?_⟩;rcases aB.1 hu with rfl|hu
     . cases he;rcases h3.2 id with hk|⟨s,g0,es0,ex0,fz0,row0,u9,xo⟩
       . exact g4 _ _ _ _ _ _ m (hk.trans hg) hm
       . rw[hg]at u9;cases u9;exact g4 _ _ _ _ _ _ m xo hm
     . exact g2.fm _ (h4 u hu jx g' T7 C5 cap' he size es exact fz row m hg hm)
   . rename_i kq;refine⟨F1,M,O,h3,λu hu jx g' T7 C5 cap' he=>?_⟩;rcases aB.1 hu with rfl|hu
     . exact absurd he (kq _ _ _ _ _)
     . exact h4 u hu jx g' T7 C5 cap' he
def zdS{id off len:Nat}{cap:Y Nat}{v':V}(h:tY C (.own id g off len cap)=some v'):∃ size es exact fz row,C.H.get id=some (.arr size g es exact fz row):=by
 have h:Ip C id g off len=some v':=h;simp only[Ip,aA]at h;obtain⟨a,ha,_⟩:=h;exact⟨_,_,_,_,_,(qO ha).1⟩
theorem zdO:∀ {l l':Z V},Bf C l=some l'->∀ v∈l,∃ v',tY C v=some v':=by
 intro l
 induction l with
 |nil=>intro l' _ v hv;simp at hv
 | cons u l ih =>
   grind [Qj,aA]
theorem zdR{v v':V}(h:kP C v=some v'):∀ u∈v.cells,∃ u',tY C u=some u':=by
 unfold kP at h;split at h
 . rename_i cs;simp only[aA]at h;obtain⟨l,hl,h⟩:=h;exact zdO hl
 . rename_i ox;have hc:v.cells=[v]:=by cases v<;>first|rfl|(exact absurd rfl (ox _))
   grind
theorem zC(hR:R I w F μ P C){v v':V}(hx:dV I w F μ v x)(h:ng v C=some (v',a8)) :
 ∃ F',R I w F' μ P a8/\Fr w F μ C w F' μ a8/\pQ C a8/\fG I w F' v' x:=by
 simp only[ng,aA]at h;obtain⟨u,hu,h⟩:=h;cases h;obtain⟨F',M,O,h3,h4⟩:=zeY hR v.cells;refine⟨F',M,O,h3,OE hR hx hu O.fm λc hc id g off len cap he m hm=>?_⟩;obtain⟨c',vf⟩:=zdR hu c hc;subst he;obtain⟨size,es,exact,fz,row,hg⟩:=zdS vf
 grind
end
section
variable {I:Nat->Value}{w w':World}{F:Nat->Prop}{μ:Nat->Nat->Y MI}{C:HS}{T:PT V}
def Wo(I:Nat->Value)(P:Program)(w:World)(F:Nat->Prop)(μ:Nat->Nat->Y MI)(C:HS)(s:Sem Value)(v:V)(a8:HS):Prop :=
 ∃ x w' F' μ',s.run P w=.ok x w'/\R I w' F' μ' P a8/\dV I w' F' μ' v x/\Fr w F μ C w' F' μ' a8
def H5(μ:Nat->Nat->Y MI)(C:HS)(id:Nat):Prop:=C.H.get id=none/\∀ g,μ id g=none
theorem Y2(hR:R I w F μ P C){id:Nat}(hid:H5 μ C id){size:Nat}{es:Z (Z V)}{exact row:Bool}{cells:Array Value}
 (b8:w'.heap.size=w.heap.size+1) (bc:w'.heap[w.heap.size]?=some (.cells cells el (0,0))) (hold:∀ b,b<w.heap.size->w'.heap[b]?=w.heap[b]?)
 (hlen:∀ e∈es,e.length=size) (hle:es.length*size<=cells.size) (hex:exact=true->cells.size=es.length*size)
 (b6:∀ (k:Nat) (e:Z V) (j:Nat) (v:V),es[k]?=some e->e[j]?=some v->∃ y,cells[k*size+j]?=some y/\dV I w F μ v y/\(row=true->fG I w F v y)) (CH:Io w w':=by exact⟨rfl,rfl,rfl⟩) :
 R I w' F (sA μ id 0 ⟨w.heap.size,size,cells.size⟩) P (C.put id (.arr size 0 es exact false row))/\Fr w F μ C w' F (sA μ id 0 ⟨w.heap.size,size,cells.size⟩) (C.put id (.arr size 0 es exact false row)):=by
 refine hR.alloc (a8:=C.put id (.arr size 0 es exact false row)) (o:=.arr size 0 es exact false row) hid.1 hid.2 rfl rfl (af _) (by show w.heap.size<_;omega) hold (λk=>ma _ _ _ _) ?_ CH;intro m hm;rw[cX]at hm;cases hm;refine⟨rfl,hlen,⟨cells,el,bc,rfl,hle,hex,λk e j v hk hj=>?_⟩,(λh=>by cases h),λ_ hF=>?_⟩
 . obtain⟨y,hy,hr,hp⟩:=b6 k e j v hk hj;refine⟨y,hy,hr.mono I (λ_ h=>h) (λb hb=>hold b (hR.Bj b hb)) (λi g m1 M=>?_),λh=>(hp h).mono I (λ_ h=>h) (λb hb=>hold b (hR.Bj b hb))⟩;rw[kr];exact M;rintro ⟨rfl,rfl⟩;rw[hid.2]at M;cases M
 . have:=hR.Bj _ hF
   grind
theorem zny (hR:R I w F μ P C) {id:Nat} (hid:H5 μ C id) {cs:Z V}  (el:TypeId) (hc:PU I w F μ cs ys) :
 ∃ μ',R I (qL w (.cells ys el)) F μ' P (C.put id (.arr cs.length 0 [cs] true false false))/\Fr w F μ C (qL w (.cells ys el)) F μ' (C.put id (.arr cs.length 0 [cs] true false false)) /\
   dV I (qL w (.cells ys el)) F μ' (.ptr id 0 0) (.pointer (some ⟨w.heap.size,0,none⟩)):=by
 have h:=Y2 hR hid (w':=qL w (.cells ys el)) (size:=cs.length) (es:=[cs]) (exact:=true) (row:=false) (cells:=ys) (el:=el) (nQ _ _) (uI _ _) (λb hb=>qp _ _ hb)
  (λe he=>by simp at he;rw[he]) (by simp;exact Nat.le_of_eq hc.1.symm) (λ_=>by simp;exact hc.1) (λk e j v hk hj=>by
    cases k with
    | zero =>
      simp at hk;subst hk
      have cC:j<ys.size:=by
       obtain⟨cC,_⟩:=aM.1 hj;rw[hc.1];exact cC
      have:=hc.2 j v hj
      simp_all
    |succ k=>simp at hk)
 exact⟨_,h.1,h.2,.ptr id 0 0 _ (cX ..)⟩
def zpp(hR:R I w F μ P C){id:Nat}(hid:H5 μ C id){v:V}(h:Bv P C id t=some (v,a8)):Wo I P w F μ C (Instr.alloc t true (.tuple #[])) v a8:=by
 simp only[Bv,aA,bE,beq_true,dI]at h;obtain⟨i,hi,hl,h⟩:=h;cases h;obtain⟨info,z,M,O,h3,hz,HH⟩:=Sr (I:=I) (w:=w) (F:=F) (μ:=μ) hi;obtain⟨μ',g1,g2,g3⟩:=zny hR hid t hz;rw[<- hl];refine⟨_,_,F,μ',?_,g1,g3,g2⟩;simp only[Instr.alloc,Sem.run_bind,HH,Result.andThen_ok,newVar,newRow,run_newObj,Sem.run_pure]
 first|done|rfl
def zyk(hρ:Good I)(hR:R I w F μ P C){id:Nat}(hid:H5 μ C id)(hT:kH I w F μ T a.tmps)(t:TypeId){x:Operand}{v:V}(h:Wn T C id x=some (v,a8)) :
 Wo I P w F μ C (Instr.box t (a.eval x)) v a8:=by
 simp only[Wn,aA,dI]at h;obtain⟨u,hu,h⟩:=h;cases h;obtain⟨μ',g1,g2,g3⟩:=zny hR hid t (Kc hρ (dJ hT hu));refine⟨_,_,F,μ',?_,g1,g3,g2⟩;simp only[Instr.box,Sem.run_bind,Result.andThen_ok,newVar,newRow,run_newObj,Sem.run_pure]
 first|done|rfl
def zew(hR:R I w F μ P C){id:Nat}(hid:H5 μ C id){v:V}(h:AL C id r=some (v,a8)) :
 Wo I P w F μ C (Instr.makeMap t (r.map a.eval)) v a8:=by
 simp only[AL,bE,jN,KN]at h;obtain⟨rfl,h⟩:=h;cases h
 have h:=hR.alloc (w':=qL w (.map #[] 0)) (a8:=C.put id (.mp [])) (o:=.mp []) (m:=⟨w.heap.size,0,0⟩) hid.1 hid.2 rfl rfl (af _) (by rw[nQ];exact iZ _) (λb hb=>qp _ _ hb) (λk=>ma _ _ _ _) (by
  intro m hm;rw[cX]at hm;cases hm
  exact⟨⟨#[],0,uI _ _,rfl,λi k v hi=>by simp at hi⟩,λhF=>Nat.lt_irrefl _ (hR.Bj _ hF)⟩)
 refine⟨.map (some w.heap.size),_,F,_,?_,h.1,.map id ⟨w.heap.size,0,0⟩ (cX ..),h.2⟩;simp[Instr.makeMap];rfl
theorem range_zero{zero:Array Value}{size k:Nat}(hz:zero.size=size)(hk:k<n)(hj:j<size) :
 ((Array.range (n*size)).map (zero[· % zero.size]!))[k*size+j]?=zero[j]?:=by
 have cC:k*size+j<n*size:=by
  have:(k+1)*size<=n*size:=aN _ hk
  grind
 have rp:(k*size+j) % size=j:=by rw[jV,Nat.mul_add_mod];exact vM hj
 grind
theorem Ws{e:TI}(he:ti P t=some e)(hl:e.zero.length=e.size)(hz:PU I w F μ e.zero z.cells)(n:Nat)(hpz:∀ (i:Nat) (v:V),e.zero[i]?=some v->fG I w F v (z.cells.getD i undef)) :
 ∀ (k:Nat) (c:Z V) (j:Nat) (v:V),(List.replicate n e.zero)[k]?=some c->c[j]?=some v->∃ y,((Array.range (n*e.size)).map (z.cells[· % z.cells.size]!))[k*e.size+j]?=some y/\fG I w F v y:=by
 intro k c j v hk hj;rw[List.getElem?_replicate]at hk;split at hk
 . rename_i hkn;cases hk;obtain⟨cC,_⟩:=aM.1 hj;have sR:j<z.cells.size:=by rw[hz.1];exact cC
   rw[range_zero (by rw[hz.1,hl]) hkn (by omega)];refine⟨z.cells[j],by simp[sR],?_⟩;have:=hpz j v hj
   simp_all
 . cases hk
theorem Oq(hi:ti P t=some i):∃ info z,P.info? t=some info/\info.zero=some z/\PU I w F μ i.zero z.cells/\(zeroValue t).run P w=.ok z w /\
 (∀ (k:Nat) (v:V),i.zero[k]?=some v->fG I w F v (z.cells.getD k undef))/\info.size=i.size/\info.bytes=i.bytes:=by
 obtain⟨info,z,M,O,h3,h4,h5,h6⟩:=DZ hi;obtain⟨hl,hz⟩:=yf (I:=I) (w:=w) (F:=F) h6
 have hp:∀ (k:Nat) (v:V),i.zero[k]?=some v->fG I w F v (z.cells.getD k undef):=by
  intro k v hk;obtain⟨x,hx,hr⟩:=hz k v hk
  simp_all
 exact⟨info,z,M,h5,⟨by simpa using hl,λk v hk=>.pure (hp k v hk)⟩,by simp[zeroValue,typeInfo,M,h5],hp,h3,h4⟩
theorem Y6(hR:R I w F μ P C){id:Nat}(hid:H5 μ C id)(hi:ti P t=some i){l c v:V}(hl:dV I w F μ l X)(hc:dV I w F μ c kf)
 (h:wY P i C id l c=some (v,a8)):Wo I P w F μ C (Instr.makeSlice t X kf) v a8:=by
 simp only[wY,aA,bE,dx,jN,beq_true,beq_false,gY,dI,zy,V.qq,xU]at h;obtain⟨el,hd,e,he,ln,⟨k1,rfl⟩,cn,⟨k2,rfl⟩,⟨hlc,eA,AH,cb,D1,hpz⟩,h⟩:=h;cases h;have e1:=hl.lG;subst e1;have e2:=hc.lG;subst e2;obtain⟨info,z,M,h3,hz,HH,zG4,b8,hby⟩:=Oq (I:=I) (w:=w) (F:=F) (μ:=μ) he
 have cQ:cn<=1048576:=by
  have:cn*1<=cn*e.size:=kK _ (by omega);omega
 have hw1:IntKind.i64.wrap (ln:Int)=ln:=IntWalk.i64_in _ (by omega);have cy:IntKind.i64.wrap (cn:Int)=cn:=IntWalk.i64_in _ (by omega);have b6:=Ws (w:=w) he D1 hz cn zG4
 have fN:=Y2 hR hid (w':=qL w (.cells ((Array.range (cn*e.size)).map (z.cells[· % z.cells.size]!)) el)) (size:=e.size) (es:=List.replicate cn e.zero) (exact:=true) (row:=true) (el:=el)
  (nQ _ _) (uI _ _) (λb hb=>qp _ _ hb) (λx hx=>by rw[List.eq_of_mem_replicate hx];exact D1) (by simp) (λ_=>by simp) (λk x j v hk hj=>by
    obtain⟨y,hy,hp⟩:=b6 k x j v hk hj
    exact⟨y,hy,.pure hp,λ_=>hp⟩)
 have An:¬ ((info.bytes:Int)*(cn:Int)>2 ^ 48):=by
  grind
 rw[<- YI]at fN;refine⟨.slice (some ⟨w.heap.size,0,none⟩) ln cn,qL w (.cells ((Array.range (cn*e.size)).map (z.cells[· % z.cells.size]!)) el),F,_,?_,fN.1,?_,fN.2⟩
 . have hti:(typeInfo el).run P w=.ok info w:=by simp[typeInfo,M]
   have c1:(decide ((cn:Int)<0)||decide ((info.bytes:Int)*(cn:Int)>2 ^ 48)||decide ((ln:Int)<0)||decide ((ln:Int)>(cn:Int)))=false:=by
    grind
   simp only[Instr.makeSlice,Sem.run_bind,gP hi,Result.andThen_ok,hd,asInt,asIntOf,Sem.run_pure,hti,hw1,cy,c1,run_askRoom,uf he,bP,lH,if_false];by_cases h0:cn*e.size=0
   . simp only[h0,if_true,Sem.run_pure,Result.andThen_ok,Go.newRow,Sem.run_bind,run_newObj];simp[qL,Array.range]
   . simp only[h0,if_false,Sem.run_bind,HH,Sem.run_pure,Result.andThen_ok,newRow,run_newObj];rfl
 . refine .own id 0 0 ln (some cn) cn _ (cX ..) hlc ?_ (λk hk=>by cases hk;rfl) (λh=>by cases h);simp
def TH(hρ:Good I){v:V}(h:fG I w F v x):x.cells.size=v.cells.length/\∀ (i:Nat) (u:V),v.cells[i]?=some u->fG I w F u (x.cells.getD i undef):=by
 by_cases hv:∃ cs,v=.agg cs
 . obtain⟨cs,rfl⟩:=hv;cases h with|agg _ ys C hc=>exact⟨C,hc⟩
 . have gE:∀ cs,v≠.agg cs:=λcs e=>hv ⟨cs,e⟩
   rw[zgK (μ:=λ_ _=>none) hρ (.pure h) gE];have hc:v.cells=[v]:=by cases v<;>first|rfl|(exact absurd rfl (gE _))
   rw[hc];refine⟨rfl,λi u hi=>?_⟩
   cases i with
   |zero=>simp at hi;subst hi;exact h
   |succ i=>simp at hi
def cover(cells:Array Value)(o:Nat)(vs:Z Value):Array Value:=(cells.toList.take o++vs++cells.toList.drop (o+vs.length)).toArray
theorem Mc{cells:Array Value}(h:o+vs.length<=cells.size):(cover cells o vs).size=cells.size:=by
 simp[cover];omega
theorem J8{cells:Array Value}(h:o+vs.length<=cells.size)(k:Nat) :
 (cover cells o vs)[k]?=if o<=k/\k<o+vs.length then vs[k-o]? else cells[k]?:=by
 unfold cover
 grind
theorem EB{b:Nat}{cells:Array Value}(hc:w.heap[b]?=some (.cells cells el (0,0)))(hle:o+vs.length<=cells.size)(sE:∀ v∈vs,v.oneCell'=true) :
 (storeCells ⟨b,o,none⟩ vs).run P w=.ok () (w.setRow b (cover cells o vs)):=by
 have:=run_storeCells_at (P:=P) b o el vs 0 cells w hc (by simpa using hle) sE;simpa [cover]using this
def Wt(hR:R I w F μ P C){id:Nat}{a:Nat×Z (Z V)×Bool×Bool×Bool}(ha:mP C id g=some a)(v9:a.2.2.2.1=false)(hm:μ id g=some m)
 {cells:Array Value}  (hc:w.heap[m.b]?=some (.cells cells el (0,0))) (b8:cx.size=cells.size) {cU:Z (Z V)}
 (hlen:∀ e∈cU,e.length=a.1) (hl:cU.length=a.2.1.length)
 (b6:∀ (k:Nat) (e:Z V) (j:Nat) (v:V),cU[k]?=some e->e[j]?=some v->∃ y,cx[k*a.1+j]?=some y/\dV I w F μ v y/\(a.2.2.2.2=true->fG I w F v y)) :
 R I (w.setRow m.b cx) F μ P (C.wr id (.arr a.1 g cU a.2.2.1 false a.2.2.2.2))/\Fr w F μ C (w.setRow m.b cx) F μ (C.wr id (.arr a.1 g cU a.2.2.1 false a.2.2.2.2)):=by
 obtain⟨de,cb⟩:=qO ha;have ez:=hR.row ha hm;have u5:=ez.hn v9;have hF:∀ b,F b->(w.setRow m.b cx).heap[b]?=w.heap[b]?:=λb hb=>setRow_other w m.b b cx (λe=>u5 (e ▸ hb))
 refine hR.write (a8:=C.wr id (.arr a.1 g cU a.2.2.1 false a.2.2.2.2)) (o':=.arr a.1 g cU a.2.2.1 false a.2.2.2.2) de v9 (m:=m) hm rfl rfl (by simp) (λb hb=>setRow_other w m.b b cx hb) (λk=>Ey _ _ _ _) ?_;intro m1 eg;rw[hm]at eg;cases eg;obtain⟨c0,zOl,vd,ht,hle,hex,_⟩:=ez.cells;rw[hc]at vd;cases vd;refine⟨ez.eV,hlen,⟨cx,el,setRow_heap w m.b _ _ _ _ hc,by omega,by rw[hl];exact hle,λh=>by rw[hl];exact hex h,λk e j v hk hj=>?_⟩,(λh=>by cases h),λ_=>u5⟩;obtain⟨y,hy,hr,hp⟩:=b6 k e j v hk hj;exact⟨y,hy,hr.mono I (λ_ h=>h) hF (λ_ _ _ h=>h),λh=>(hp h).mono I (λ_ h=>h) hF⟩
theorem Qh (hρ:Good I) (hR:R I w F μ P C)   (hi:ti P t=some i) {id off:Nat} {v:V}   (hX:dV I w F μ (.ptr id g off) X) (hx:dV I w F μ v x)
 (hp:∀ a,mP C id g=some a->a.2.2.2.2=true->fG I w F v x) (h:qy i id g off v C=some a8) :
 ∃ w',(Instr.storeAt t X x).run P w=.ok () w'/\R I w' F μ P a8/\Fr w F μ C w' F μ a8:=by
 simp only[qy,aA,bE,jN,dx,beq_true,gY,dI,sI,NV,YD]at h;obtain⟨a,ha,v9,⟨fc,lP,eA⟩,e,he,h⟩:=h;cases h;obtain⟨m,hm,rfl⟩:=hX.yc;have ez:=hR.row ha hm;obtain⟨de,cb⟩:=qO ha;obtain⟨cells,el,hc,ht,hle,hex,b6⟩:=ez.cells;have hcr:=Kc hρ hx;have zEi:=ez.hlen e (aC he);obtain⟨zsz,_⟩:=aM.1 he;have oR:off=(off / a.1)*a.1+off % a.1:=by rw[jV];exact(lS off a.1).symm
 have Lz:(off / a.1+1)*a.1<=a.2.1.length*a.1:=aN _ zsz;have hend':(off / a.1)*a.1+a.1<=a.2.1.length*a.1:=by rw[gK]at Lz;omega
 have Bs:x.cells.toList.length=i.size:=by simp[hcr.1,lP]
 have b4:off+x.cells.toList.length<=cells.size:=by rw[Bs];omega
 have sE:∀ u∈x.cells.toList,u.oneCell'=true:=by
  intro u hu;obtain⟨j,hj⟩:=qj hu
  have W1:j<v.cells.length:=by
   grind
  have hr:=hcr.2 j v.cells[j] (by simp[W1]);rw[gy]at hj;rw[bR,hj]at hr;exact Ve hρ hr (fc _ (az W1))
 have hw := Wt hR ha v9 hm hc (cx:=cover cells off x.cells.toList) (Mc b4) (cU:=a.2.1.set (off / a.1) (kI e (off % a.1) v.cells)) (λc vf=>by
  rcases gW vf with h|h
  . exact ez.hlen c h
  . rw[h,uP];exact zEi) (by simp) (λk c j u hk hj=>by
  rw[mG]at hk;by_cases me:off / a.1=k
  . rw [if_pos me,if_pos zsz]at hk;cases hk;subst me
    have kx:j<e.length:=by
     obtain⟨cC,_⟩:=aM.1 hj
     rwa [uP]at cC
    rw[Fw _ _ _ _ kx]at hj;rw[J8 b4,Bs];by_cases gS:off % a.1<=j/\j<off % a.1+v.cells.length
    . rw[if_pos gS]at hj;rw[if_pos (by omega)];have j7:off / a.1*a.1+j-off=j-off % a.1:=by omega
      have Lq:j-off % a.1<x.cells.size:=by rw[hcr.1];omega
      rw[j7,gy,fe Lq];refine⟨_,rfl,?_,λfN=>?_⟩
      . have:=hcr.2 _ u hj
        rwa [bR,fe Lq]at this
      . have:=(TH hρ (hp a ha fN)).2 _ u hj
        rwa [bR,fe Lq]at this
    . rw[if_neg gS]at hj;rw[if_neg (by omega)];exact b6 _ e j u he hj
  . rw [if_neg me]at hk;rw[J8 b4,Bs,if_neg]
    . exact b6 k c j u hk hj
    . have kx:j<a.1:=by
       obtain⟨cC,_⟩:=aM.1 hj;rw[ez.hlen c (aC hk)]at cC;exact cC
      rintro ⟨M,O⟩;rcases nY me with cC|cC
      . have:(off / a.1+1)*a.1<=k*a.1:=aN _ cC;rw[gK]at this;omega
      . have:(k+1)*a.1<=off / a.1*a.1:=aN _ cC
        rw[gK]at this;omega)
 refine⟨_,?_,hw.1,hw.2⟩;have eV:x.cells.size=i.size:=by rw[hcr.1,lP]
 simp only[Instr.storeAt,Instr.sureAddr,Sem.run_bind,Sem.run_pure,Result.andThen_ok,storeVar,uf hi,eV,ne_eq,not_true_eq_false,if_false]
 grind [EB]
def zbW{id:Nat}(h:pr C id=false){a:Nat×Z (Z V)×Bool×Bool×Bool}(ha:mP C id g=some a):a.2.2.2.2=false:=by
 obtain⟨de,_⟩:=qO ha;unfold pr at h;rw[de]at h;exact h
theorem zaZ(hρ:Good I)(hR:R I w F μ P C)(hi:ti P t=some i){p v:V}(hX:dV I w F μ p X)(hx:dV I w F μ v x)(h:EA i C p v=some a8) :
 ∃ w' F',(Instr.storeAt t X x).run P w=.ok () w'/\R I w' F' μ P a8/\Fr w F μ C w' F' μ a8:=by
 unfold EA at h;split at h
 . rename_i id g off
   cases fN:pr C id with
   | true =>
     rw[fN,iL]at h;simp only[aA]at h;obtain⟨⟨v',cm⟩,hp,h⟩:=h;obtain⟨F1,M,O,_,h3⟩:=zC hR hx hp;obtain⟨w',g1,g2,g3⟩:=Qh hρ M hi (O.rep hR hX) (.pure h3) (λ_ _ _=>h3) h;exact⟨w',F1,g1,g2,O.trans g3⟩
   | false =>
     rw[fN,gZ]at h;obtain⟨w',g1,g2,g3⟩:=Qh hρ hR hi hX hx (λa ha hr=>by rw[zbW fN ha]at hr;cases hr) h
     grind
 . cases h
def Q3{l:Z (Z V)}:kS l=true↔∀ e∈l,∀ v∈e,v.mM=true:=by
 refine(Ml Jz l).trans ?_;simp[NV]
def Flat(I:Nat->Value)(w:World)(F:Nat->Prop)(size:Nat)(es:Z (Z V))(arr:Array Value):Prop :=
 arr.size=es.length*size/\∀ (k:Nat) (e:Z V) (j:Nat) (v:V),es[k]?=some e->e[j]?=some v->∃ y,arr[k*size+j]?=some y/\fG I w F v y
theorem IY{b off size:Nat}{es:Z (Z V)}(hlen:∀ e∈es,e.length=size)(hn:es.length=n)(h:∀ (k:Nat) (e:Z V) (j:Nat) (v:V),es[k]?=some e->e[j]?=some v->∃ y,w.cell? ⟨b,off+k*size+j,none⟩=some y/\fG I w F v y) :
 ∃ arr,(loadCells ⟨b,off,none⟩ (n*size)).run P w=.ok arr w/\Flat I w F size es arr:=by
 subst hn
 have hex:∀ p,p<es.length*size->∃ y,w.cell? ⟨b,off+p,none⟩=some y:=by
  intro p hp;have C:0<size:=by rcases Nat.eq_zero_or_pos size with h0|h0;(subst h0;simp at hp);exact h0
  have hk:p / size<es.length:=Nat.div_lt_of_lt_mul (by rwa [jV]);have hj:p % size<size:=Nat.mod_lt _ C;have he:es[p / size]?=some es[p / size]:=by simp[hk]
  have D4:=hlen _ (az hk);obtain⟨y,hy,_⟩:=h (p / size) _ (p % size) (es[p / size][p % size]'(by omega)) he (by simp[D4,hj]);rw[show off+p / size*size+p % size=off+p by have:=lS p size;rw[jV]at this;omega]at hy
  grind
 have db:=run_loadCells (P:=P) w ⟨b,off,none⟩ (es.length*size) (λj=>(w.cell? ⟨b,off+j,none⟩).getD undef) (by
  intro j hj;obtain⟨y,hy⟩:=hex j hj
  rw[eI,hy];rfl)
 refine⟨_,db,by simp,λk e j v hk hj=>?_⟩;obtain⟨y,hy,hp⟩:=h k e j v hk hj;obtain⟨zsz,_⟩:=aM.1 hk;obtain⟨W1,_⟩:=aM.1 hj;have D4:=hlen e (aC hk)
 have cC:k*size+j<es.length*size:=by
  have:(k+1)*size<=es.length*size:=aN _ zsz
  grind
 grind
theorem UZ (hR:R I w F μ P C) {size:Nat} {x:V}  {es:Z (Z V)} (hx:dV I w F μ x X) (h:zW C size x=some es) (b8:∀ e∈es,e.length=size) :
 ∃ base c,X=.slice base es.length c/\∀ n,n<=es.length->∃ arr,(Builtin.firstCells size n X).run P w=.ok arr w/\Flat I w F size (es.take n) arr:=by
 unfold zW at h;split at h
 . cases h;have e:=hx.CO;subst e;exact⟨none,0,rfl,λn _=>⟨#[],rfl,by simp,λk e j v hk=>by simp at hk⟩⟩
 . cases h;have hx:=hx.CR
   cases hx with
   | po a c t ht =>
     refine⟨a,c,rfl,λn hn=>⟨#[],?_,by simp,λk e j v hk=>by simp at hk⟩⟩;have:n=0:=by simpa using hn
     subst this
     cases a with
     |none=>rfl
     |some a=>simp[Builtin.firstCells,loadCells,loadCellsFrom]
   | qe _ b off size' c t ys hb hl fc iv hle ht =>
     refine⟨_,c,rfl,λn hn=>?_⟩
     have Zs:∀ (k:Nat) (e:Z V) (j:Nat) (v:V),(es.take n)[k]?=some e->e[j]?=some v->∃ y,w.cell? ⟨b,off+k*size+j,none⟩=some y/\fG I w F v y:=by
      grind
     obtain⟨arr,M,O⟩:=IY (P:=P) (n:=n) (λe he=>b8 e (fK he)) (by simp;omega) Zs;exact⟨arr,by simpa [Builtin.firstCells]using M,O⟩
 . rename_i id g off len cap;simp only[aA,bE,dx,beq_true]at h;obtain⟨a,ha,⟨fN,a8⟩,LI⟩:=h;obtain⟨rp,hlen,rfl⟩:=Px LI;obtain⟨m,c,hm,rfl,g1,g2,g3,g4⟩:=hx.wM;subst a8;have fX:((a.2.1.drop (off / a.1)).take len).length=len:=by simp;omega
   refine⟨_,c,by rw[fX],λn hn=>?_⟩;rw[fX]at hn;have ht:((a.2.1.drop (off / a.1)).take len).take n=(a.2.1.drop (off / a.1)).take n:=by rw[List.take_take];congr 1;omega
   rw[ht]
   obtain⟨arr,M,O⟩:=IY (P:=P) (n:=n) (es:=(a.2.1.drop (off / a.1)).take n) (λe he=>(hR.row ha hm).hlen e (mU (fK he))) (by simp;omega) (λk e j v hk hj=>by
    obtain⟨y,hy,_,hp⟩:=zbj hR (len:=n) ha hm rp k e j v hk hj
    exact⟨y,hy,hp fN⟩)
   exact⟨arr,by simpa [Builtin.firstCells]using M,O⟩
 . cases h
theorem NH(hR:R I w F μ P C){size:Nat}{x:V}{es:Z (Z V)}(hx:dV I w F μ x X)(h:zW C size x=some es)(b8:∀ e∈es,e.length=size) :
 ∃ base c,X=.slice base es.length c/\∃ arr,(Builtin.firstCells size es.length X).run P w=.ok arr w/\Flat I w F size es arr:=by
 obtain⟨base,c,M,O⟩:=UZ (P:=P) hR hx h b8;obtain⟨arr,h3,h4⟩:=O _ (af _)
 grind
def Flat.one(hρ:Good I){size:Nat}{es:Z (Z V)}{arr:Array Value}(h:Flat I w F size es arr)(b8:∀ e∈es,e.length=size)(hc:∀ e∈es,∀ v∈e,v.mM=true) :
 ∀ y∈arr.toList,y.oneCell'=true:=by
 intro y hy;obtain⟨p,hp⟩:=qj hy;rw[gy]at hp;obtain⟨zD1,_⟩:=dX.1 hp;rw[h.1]at zD1;have C:0<size:=by rcases Nat.eq_zero_or_pos size with h0|h0;(subst h0;simp at zD1);exact h0
 have hk:p / size<es.length:=Nat.div_lt_of_lt_mul (by rwa [jV]);have hj:p % size<size:=Nat.mod_lt _ C;have D4:=b8 _ (az hk);have kx:p % size<es[p / size].length:=by omega
 obtain⟨y',HG,On⟩:=h.2 (p / size) es[p / size] (p % size) (es[p / size][p % size]) (by simp[hk]) (by simp[kx]);rw[show p / size*size+p % size=p by have:=lS p size;rw[jV]at this;omega]at HG;rw[hp]at HG;cases HG;exact Ve (μ:=λ_ _=>none) hρ (.pure On) (hc _ (az hk) _ (az kx))
theorem zjg {size st:Nat} {es new:Z (Z V)} {cells arr:Array Value} (bc:Flat I w F size new arr) (la:∀ e∈new,e.length=size) (v5:∀ e∈es,e.length=size)
 (b4:st*size+arr.size<=cells.size) {Q:V->Value->Prop} (hQ:∀ v y,fG I w F v y->Q v y)
 (b6:∀ (k:Nat) (e:Z V) (j:Nat) (v:V),es[k]?=some e->e[j]?=some v->∃ y,cells[k*size+j]?=some y/\Q v y) (eC:st+new.length<=es.length) :
 ∀ (k:Nat) (e:Z V) (j:Nat) (v:V),(kI es st new)[k]?=some e->e[j]?=some v->∃ y,(cover cells (st*size) arr.toList)[k*size+j]?=some y/\Q v y:=by
 intro k e j v hk hj
 have nh:k<es.length:=by
  grind [List.getElem?_eq_some_iff,uP]
 rw[Fw _ _ _ _ nh]at hk;rw[J8 (by simpa using b4)];simp only[jB,bc.1];by_cases gS:st<=k/\k<st+new.length
 . rw[if_pos gS]at hk;obtain⟨y,hy,hp⟩:=bc.2 (k-st) e j v hk hj;obtain⟨zxd,_⟩:=dX.1 hy;rw[bc.1]at zxd;have e1:k*size+j-st*size=(k-st)*size+j:=by rw[Nat.sub_mul];have:st*size<=k*size:=aN _ gS.1;omega
   have e2:st*size<=k*size:=aN _ gS.1
   grind
 . rw [if_neg gS]at hk
   have kx:j<size:=by
    grind
   rw[if_neg]
   . grind
   . rintro ⟨M,O⟩;rcases Nat.lt_or_ge k st with cC|qS
     . have:(k+1)*size<=st*size:=aN _ cC
       grind
     . have zJ5:st+new.length<=k:=by omega
       have:(st+new.length)*size<=k*size:=aN _ zJ5
       grind
def zjj{es new:Z (Z V)}{st:Nat}{e:Z V}(h:e∈kI es st new):e∈es\/e∈new:=by
 obtain⟨k,hk⟩:=qj h
 have nh:k<es.length:=by
  obtain⟨cC,_⟩:=aM.1 hk
  rwa [uP]at cC
 rw[Fw _ _ _ _ nh]at hk;split at hk
 . exact .inr (aC hk)
 . exact .inl (aC hk)
def P5(hρ:Good I)(hR:R I w F μ P C){id:Nat}{a:Nat×Z (Z V)×Bool×Bool×Bool}(ha:mP C id g=some a)(v9:a.2.2.2.1=false)(hm:μ id g=some m)
 {new:Z (Z V)} {arr:Array Value} (bc:Flat I w F a.1 new arr) (la:∀ e∈new,e.length=a.1) (cQ:∀ e∈new,∀ v∈e,v.mM=true) {st:Nat} (eC:st+new.length<=a.2.1.length) :
 ∃ w',(storeCells ⟨m.b,st*a.1,none⟩ arr.toList).run P w=.ok () w'/\R I w' F μ P (C.wr id (.arr a.1 g (kI a.2.1 st new) a.2.2.1 false a.2.2.2.2)) /\
   Fr w F μ C w' F μ (C.wr id (.arr a.1 g (kI a.2.1 st new) a.2.2.1 false a.2.2.2.2)):=by
 have ez:=hR.row ha hm;obtain⟨cells,el,hc,ht,hle,hex,b6⟩:=ez.cells
 have b4:st*a.1+arr.size<=cells.size:=by
  rw[bc.1,<- gK,ht];exact aO (aN _ eC) hle
 have hw:=Wt hR ha v9 hm hc (cx:=cover cells (st*a.1) arr.toList) (Mc (by simpa using b4)) (cU:=kI a.2.1 st new) (λe he=>by
  rcases zjj he with h|h
  . exact ez.hlen e h
  . exact la e h) (uP _ _ _)
  (zjg bc la ez.hlen b4 (Q:=λv y=>dV I w F μ v y/\(a.2.2.2.2=true->fG I w F v y)) (λv y h=>⟨.pure h,λ_=>h⟩) b6 eC)
 exact⟨_,EB hc (by simpa using b4) (bc.one hρ la cQ),hw.1,hw.2⟩
end
end Go.J
