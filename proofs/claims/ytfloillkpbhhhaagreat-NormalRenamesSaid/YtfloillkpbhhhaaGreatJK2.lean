import Derived.Test.YtfloillkpbhhhaaGreatJK1
import Derived.Laws.Sem
import Derived.Laws.Cells
import Derived.Laws.Entries
import Derived.Laws.Strings
import Derived.Laws.BitsLemmas
import Derived.ChangeKeysEq
import Derived.IntWalk
import Derived.Laws.Tables
import Derived.Lib.Strings
import Derived.Laws.CopyRow
set_option linter.all false
noncomputable section
namespace Go.J
variable {a:Act}{cA ys:Array Value}{b:Bool}{s u:ByteArray}{a9:HS}{k k':IntKind}{p:IntKind×Int}{m:MI}{f g j n o:Nat}{F':Nat->Prop}{o1 o2 y:Operand}{P:Program}{fi i:TI}{α:Type}{d:TypeDesc}{el t:TypeId}{e:TypeId×TypeId}{X x kq z:Value}{lo mx r:Y Operand}{l:Z Nat}{vs:Z Value}
theorem Es(h:ti P t=some i) :
 ∃ info z,P.info? t=some info/\P.underlying t=some i.desc/\info.size=i.size/\info.bytes=i.bytes/\info.zero=some z/\Ad z.cells.toList=some i.zero:=by
 grind [ti,aC]
section
variable (h:ti P t=some i)(w:World)
include h
def gT:(underlying t).run P w=.ok i.desc w:=by
 let⟨info,z,M,O,h3,h4,h5,h6⟩:=Es h;exact Go.run_underlying O w
def znX:∃ info,(typeInfo t).run P w=.ok info w/\info.size=i.size/\info.bytes=i.bytes:=by
 let⟨info,z,M,O,h3,h4,h5,h6⟩:=Es h;exact⟨info,by simp[typeInfo,M],h3,h4⟩
def uu:(sizeOf t).run P w=.ok i.size w:=by
 let⟨info,M,O,_⟩:=znX h w;simp[sizeOf,M,O]
def XZ:(isAgg t).run P w=.ok (kP i.desc) w:=by
 simp only[isAgg,Sem.run_bind,gT h,Result.andThen_ok];cases i.desc<;>rfl
end
section
variable {I:Nat->Value}{w:World}{F:Nat->Prop}{μ:Nat->Nat->Y MI}{C:HS}{T:PT V}
def Lj{v:V}(h:Jw x=some v):fJ I w F v x:=by
 unfold Jw at h;split at h<;>cases h
 exact .bool _;exact .int _ _;exact .str _;exact .de;exact .a8;exact .dy;exact .nilFunc;exact .nilIface
def Xt:Ad []=some []:=rfl
def U1(x:Value)(l:Z Value):Ad (x::l)=ob (Jw x) λv=>ob (Ad l) λr=>some (v::r):=rfl
def yK:∀ {l:Z Value} {vs:Z V},Ad l=some vs->l.length=vs.length/\∀ (j:Nat) (v:V),vs[j]?=some v->∃ x,l[j]?=some x/\fJ I w F v x:=by
 intro l
 induction l with
 |nil=>intro vs h;rw[Xt]at h;cases h;exact⟨rfl,λj v hj=>by simp at hj⟩
 | cons x l ih =>
   intro vs h;rw[U1]at h;simp only[aC]at h;let⟨v,M,r,O,h3⟩:=h;cases h3;let⟨hl,ha⟩:=ih O;refine⟨by simp[hl],λj u hj=>?_⟩
   cases j with
   |zero=>simp at hj;subst hj;exact⟨x,by simp,Lj M⟩
   |succ j=>simp at hj;let⟨y,hy,hr⟩:=ha j u hj;exact⟨y,by simpa using hy,hr⟩
theorem zac{v:V}(h:ofConst x=some v):fJ I w F v x:=by
 unfold ofConst at h;split at h;rename_i cs;simp only[aC]at h;let⟨l,M,O⟩:=h;cases O;let⟨hl,ha⟩:=yK (I:=I) (w:=w) (F:=F) M;refine .agg l cs (by simpa using hl) λj u hj=>?_;let⟨y,hy,hr⟩:=ha j u hj;simp_all;exact Lj h
def dM(hT:kR I w F μ T a.tmps){o:Operand}{v:V}(h:bU T o=some v):dZ I w F μ v (a.eval o):=by
 cases o with
 | tmp t =>let⟨x,W,hr⟩:=hT t v h;have:a.eval (.tmp t)=x:=(by simp[Act.eval,bS,W]);rw[this];exact hr
 |const c=>exact .pure (zac h)
 |global g=>cases h
 |func f=>cases h;exact .pure (.func f)
def zlu:kG T []=some []:=rfl
def zgd(o:Operand)(l:Z Operand):kG T (o::l)=ob (bU T o) λv=>ob (kG T l) λr=>some (v::r):=rfl
def Yz(hT:kR I w F μ T a.tmps):∀ {l:Z Operand} {vs:Z V},kG T l=some vs ->
 l.length=vs.length/\∀ (j:Nat) (v:V),vs[j]?=some v->∃ o,l[j]?=some o/\dZ I w F μ v (a.eval o):=by
 intro l
 induction l with
 |nil=>intro vs h;rw[zlu]at h;cases h;exact⟨rfl,λj v hj=>by simp at hj⟩
 | cons x l ih =>
   intro vs h;rw[zgd]at h;simp only[aC]at h;let⟨v,M,r,O,h3⟩:=h;cases h3;let⟨hl,ha⟩:=ih O;refine⟨by simp[hl],λj u hj=>?_⟩
   cases j with
   |zero=>simp at hj;subst hj;exact⟨x,by simp,dM hT M⟩
   |succ j=>simp at hj;let⟨y,hy,hr⟩:=ha j u hj;exact⟨y,by simpa using hy,hr⟩
def eM(b o n:Nat):(⟨b,o,none⟩:Addr).add n=⟨b,o+n,none⟩:=by
 unfold Addr.add;split;rename_i h;subst h;rfl;rfl
theorem zc3   (hi:ti P t=some i) {b:Nat} {cs:Z V}
 (h:∀ (j:Nat) (v:V),cs[j]?=some v->∃ y,w.cell? ⟨b,o+j,none⟩=some y/\dZ I w F μ v y) {off:Nat} {v:V} (hp:Bh i cs off=some v) :
 ∃ x,(loadVar t ⟨b,o+off,none⟩).run P w=.ok x w/\dZ I w F μ v x:=by
 unfold Bh at hp;unfold loadVar;simp only[Sem.run_bind,XZ hi,Result.andThen_ok]
 cases hd:kP i.desc with
 | true =>
   rw[hd,iR]at hp;simp only[zqM,bI,beq_true,dH,yA,yS]at hp;let⟨hl,hv⟩:=hp;cases hv;have hex:∀ j,j<i.size->∃ u y,cs[off+j]?=some u/\w.cell? ⟨b,o+(off+j),none⟩=some y/\dZ I w F μ u y:=by intro j hj;have cG:off+j<cs.length:=(by grind);simp_all
   have dg:=run_loadCells (P:=P) w ⟨b,o+off,none⟩ i.size (λj=>(w.cell? ⟨b,o+(off+j),none⟩).getD undef) (by
    intro j hj;let⟨u,y,_,hy,_⟩:=hex j hj
    rw[eM,eH,hy];rfl)
   simp only[if_true,Sem.run_bind,uu hi,Result.andThen_ok,dg,Sem.run_pure];refine⟨_,rfl,.agg _ _ (by simpa using hl.symm) λj u hj=>?_⟩;have gO:j<i.size:=(by grind);have hu:cs[off+j]?=some u:=(by grind);let⟨u',y,hu',hy,hr⟩:=hex j gO;simp_all
 | false =>
   rw[hd,il,sP]at hp;let⟨y,hy,hr⟩:=h off v hp;simp_all
theorem UX   (hi:ti P t=some i) {cs:Z V}  (C:ys.size=cs.length)
 (h:∀ (j:Nat) (v:V),cs[j]?=some v->dZ I w F μ v (ys.getD j undef)) {off:Nat} {v:V} (hp:Bh i cs off=some v) :
 ∃ x,(part t ys off).run P w=.ok x w/\dZ I w F μ v x:=by
 unfold Bh at hp;unfold part;simp only[Sem.run_bind,XZ hi,Result.andThen_ok]
 cases hd:kP i.desc with
 | true =>rw[hd,iR]at hp;simp only[zqM,bI,beq_true,dH,yA,yS]at hp;let⟨hl,hv⟩:=hp;cases hv;simp only[if_true,Sem.run_bind,uu hi,Result.andThen_ok,Sem.run_pure];have hle:off+i.size<=cs.length\/i.size=0:=(by simp at hl;omega);refine⟨_,rfl,.agg _ _ (by simp at hl ⊢;omega) λj u hj=>?_⟩;have gO:j<i.size:=(by grind);have hu:cs[off+j]?=some u:=(by grind);have hr:=h _ u hu;have e:(ys.extract off (off+i.size)).getD j undef=ys.getD (off+j) undef:=(by have cG:off+j<ys.size:=(by omega);rw[bS,bS,Array.getElem?_extract,if_pos (by omega)]);grind
 | false =>
   rw[hd,il,sP]at hp;have hr:=h off v hp;let⟨cG,_⟩:=aM.1 hp;simp_all
theorem qZ{id:Nat}{a:Nat×Z (Z V)×Bool×Bool×Bool}(h:ng C id g=some a) :
 C.H.get id=some (.arr a.1 g a.2.1 a.2.2.1 a.2.2.2.1 a.2.2.2.2)/\a.1≠0:=by
 simp only[ng,aC,bI,dz,jQ,beq_true,beq_false]at h;let⟨o,M,b,O,⟨h3,h4⟩,h5⟩:=h;cases h5
 cases o with
 | arr s g' es ex fz row =>cases O;grind
 |_=>cases O
def R.row(hR:R I w F μ P C){id:Nat}{a:Nat×Z (Z V)×Bool×Bool×Bool}(h:ng C id g=some a)(hm:μ id g=some m) :
 zbu I w F μ m a.1 a.2.1 a.2.2.1 a.2.2.2.1 a.2.2.2.2:=hR.obj id _ (qZ h).1 m hm
def zbu.cell{size:Nat}{es:Z (Z V)}{ex fz row:Bool}(h:zbu I w F μ m size es ex fz row){k:Nat}{e:Z V}{v:V}(hk:es[k]?=some e)(hj:e[j]?=some v) :
 ∃ y,w.cell? ⟨m.b,k*size+j,none⟩=some y/\dZ I w F μ v y/\(row=true->fJ I w F v y):=by
 let⟨cells,el,hc,_,_,_,b7⟩:=h.cells;let⟨y,hy,hr⟩:=b7 k e j v hk hj;exact⟨y,by simp[World.cell?,hc,hy],hr⟩
def yc(I:Nat->Value)(P:Program)(w:World)(F:Nat->Prop)(μ:Nat->Nat->Y MI)(s:Sem Value)(v:V):Prop:=∃ x,s.run P w=.ok x w/\dZ I w F μ v x
def zih(hR:R I w F μ P C)(hi:ti P t=some i){p v:V}(W:dZ I w F μ p x)(h:Ii i C p=some v) :
 yc I P w F μ (Instr.loadAt t x) v:=by
 unfold Ii at h;split at h;rename_i id g off;obtain⟨m,hm,rfl⟩:=W.yI;simp only[aC,TP,sP]at h;let⟨a,ha,e,he,hp⟩:=h;have hr:=hR.row ha hm
 let⟨x,dg,iS⟩:=zc3 (μ:=μ) (I:=I) (F:=F) (w:=w) hi (b:=m.b) (o:=off / a.1*a.1) (cs:=e) (λj u hj=>by
  let⟨y,hy,hr,_⟩:=hr.cell he hj;exact⟨y,hy,hr⟩) hp
 rw[show off / a.1*a.1+off % a.1=off by rw[jW];exact ma off a.1]at dg;exact⟨x,by simp[Instr.loadAt,Instr.sureAddr,dg],iS⟩;rename_i cs;have W:=W.GG
 cases W with
 | ref _ b off ys hb hc hr =>let⟨x,dg,iS⟩:=zc3 (μ:=μ) (I:=I) (F:=F) (w:=w) hi (b:=b) (o:=off) (cs:=cs) (λj u hj=>⟨_,hc j u hj,.pure (hr j u hj)⟩) h;exact⟨x,by simpa [Instr.loadAt,Instr.sureAddr]using dg,iS⟩
 cases h
end
def ztl{n:Int}{m:Nat}:Z3 n=some m↔n=(m:Int):=by
 cases n with
 |ofNat a=>simp[Z3];omega
 |negSucc a=>simp[Z3]
theorem V.fp {v:V}:v.int?=some p↔v=.int p.1 p.2:=by
 cases v<;>simp[V.int?]
 grind
def V.fv {v:V}:v.bool?=some b↔v=.bool b:=by cases v<;>simp[V.bool?]
def V.lB {v:V}{s:Z Nat}:v.s7=some s↔v=.str s:=by cases v<;>simp[V.s7]
def V.P3 {v:V}{s:Z V}:v.HT=some s↔v=.agg s:=by cases v<;>simp[V.HT]
def V.D4 {v:V}{s:Z V}:v.o4=some s↔v=.tuple s:=by cases v<;>simp[V.o4]
def V.rk {v:V}:v.nat?=some n↔∃ k,v=.int k (n:Int):=by
 simp[V.nat?,aC,V.fp,ztl]
def zU{e:TypeId}:sN d=some e↔d=.slice e:=by cases d<;>simp[sN]
def zcX:mapOf d=some e↔d=.map e.1 e.2:=by
 cases d<;>simp[mapOf]
 cases e;simp
theorem MX{fd:Field}:bJ i f=some fd↔∃ fs,i.desc=.struct fs/\fs[f]?=some fd:=by
 grind [bJ]
theorem zfH{a b:IntKind}(h:Vw a=Vw b):a=b:=by cases a<;>cases b<;>first|rfl|(simp[Vw]at h)
theorem EC{a b:IntKind}:DK a b=true↔a=b:=by
 grind [DK,beq_true,zfH]
def OH{a b:Int}:ue a b=true↔a=b:=by
 cases a<;>cases b<;>simp[ue]<;>omega
def zaX(a b:Int):ue a b=(a == b):=by
 rw[dI,OH];simp
def zoN{a b:Int}:B5 a b=true↔a<b:=by
 cases a<;>cases b<;>simp[B5]<;>omega
def Oj(a b:Int):B5 a b=decide (a<b):=by
 rw[dI,zoN];simp
def zij(a b:Int):leI a b=decide (a<=b):=by
 unfold leI;rw[Ll,Oj,dI];simp
def IW(k:IntKind)(n:Int):H8 k n=k.wrap n:=by
 unfold H8;split;rename_i m
 cases h:Nat.blt m 9223372036854775808 with
 |true=>rw[iR,IntWalk.i64_in];have:=gz.1 h;simp;omega
 |false=>rw[il]
 rename_i m
 cases h:Nat.blt m 9223372036854775808 with
 |true=>rw[iR,IntWalk.i64_in];have:=gz.1 h;omega
 |false=>rw[il]
 rfl
theorem Gg(a b:Bool):Az a b=(a == b):=by cases a<;>cases b<;>rfl
theorem Sq {t:ByteArray}:bytesOf s=bytesOf t↔s=t:=by
 constructor;intro h
 have h':s.data.toList=t.data.toList:=by
  have inj:∀ (l m:Z UInt8),l.map UInt8.toNat=m.map UInt8.toNat->l=m:=by
   intro l
   induction l with
   |nil=>intro m h;cases m<;>simp_all
   | cons x l ih=>intro m h;cases m with
     |nil=>simp at h
     |cons y m=>simp at h;rw[ih m (by simpa using h.2),UInt8.toNat_inj.1 h.1]
  exact inj _ _ h
 cases s;cases t;simp_all;grind
def Df{m:Z Nat}:OG l m=true↔l=m:=by
 induction l generalizing m with
 | nil=>cases m with
   |nil=>exact⟨λ_=>rfl,λ_=>rfl⟩
   |cons y m=>exact⟨(λh=>by cases h),(λh=>by cases h)⟩
 | cons x l ih=>cases m with
   |nil=>exact⟨(λh=>by cases h),(λh=>by cases h)⟩
   | cons y m =>
     show et (Nat.beq x y) (OG l m)=true↔_;rw[dz,beq_true,ih];simp
def VR(s t:ByteArray):OG (bytesOf s) (bytesOf t)=(s.toList == t.toList):=by
 rw[dI,Df,Sq];simp only[ByteArray.toList_eq,beq_iff_eq];constructor;rintro rfl;rfl;intro h;exact ByteArray.ext (Array.toList_inj.1 h)
def zdt(s t:ByteArray):OG (bytesOf s) (bytesOf t)=(s == t):=by
 rw[dI,Df,Sq];have e:(s == t)=(s.data == t.data):=by cases s;cases t;rfl
 rw[e,beq_iff_eq];exact⟨λh=>h ▸ rfl,λh=>ByteArray.ext h⟩
theorem zc0:∀ (l m:Z UInt8),KY (l.map UInt8.toNat) (m.map UInt8.toNat)=Op.bytesLess l m:=by
 intro l
 induction l with
 |nil=>intro m;cases m<;>rfl
 | cons x l ih=>intro m;cases m with
   |nil=>rfl
   | cons y m =>
     show bi (Nat.blt x.toNat y.toNat) true (et (Nat.beq x.toNat y.toNat) (KY (l.map UInt8.toNat) (m.map UInt8.toNat)))=(x<y||(x == y&&Op.bytesLess l m));rw[ih];have M:Nat.blt x.toNat y.toNat=decide (x<y):=(by rw[dI,gz];simp[UInt8.lt_iff_toNat_lt]);have O:Nat.beq x.toNat y.toNat=(x == y):=(by rw[dI,beq_true,beq_iff_eq];exact UInt8.toNat_inj);grind [YA,iR,il]
def Vp(s t:ByteArray):KY (bytesOf s) (bytesOf t)=Op.bytesLess s.toList t.toList:=by
 rw[ByteArray.toList_eq,ByteArray.toList_eq];exact zc0 _ _
def xX(s:ByteArray):(bytesOf s).length=s.size:=by unfold bytesOf;rw[aN,jE];rfl
def zdQ(s:ByteArray)(n b:Nat)(h:(bytesOf s)[n]?=some b):∃ u:UInt8,s[n]?=some u/\u.toNat=b:=by
 have cG:n<s.size:=by
  let⟨cG,_⟩:=aM.1 h
  rwa [xX]at cG
 refine⟨s[n],ByteArray.getElem?_lt' s n cG,?_⟩;simp only[bytesOf,bC,bH]at h;obtain⟨u,hu,rfl⟩:=h;rw[gy]at hu;let⟨M,O⟩:=d9.1 hu;exact congrArg UInt8.toNat O
section
variable {I:Nat->Value}{w:World}{F:Nat->Prop}{μ:Nat->Nat->Y MI}{C:HS}{T:PT V}
def fJ.zcu{cs:Z V}{b off:Nat}(h:fJ I w F (.ref cs) (.pointer (some ⟨b,off,none⟩))):fJ I w F (.ref (cs.drop n)) (.pointer (some ⟨b,off+n,none⟩)):=by
 cases h with
 | ref _ _ _ ys hb hc hr =>
   refine .ref _ b (off+n) (λi=>ys (n+i)) hb (λi v hi=>?_) (λi v hi=>?_);rw[oL]at hi;rw[eH];exact hc _ v hi;rw[oL]at hi;exact hr _ v hi
def zaU{fd:Field}(hi:ti P t=some i)(hf:bJ i f=some fd)(tU:ti P fd.type=some fi)(cg:fi.size≠0){v r:V}
 (W:dZ I w F μ v x) (h:pX fd.offset v=some r):yc I P w F μ (Instr.fieldAt t x f) r:=by
 let⟨fs,hd,HN⟩:=MX.1 hf;have key:∀ b off,(Instr.fieldAt t (.pointer (some ⟨b,off,none⟩)) f).run P w=.ok (.pointer (some ⟨b,off+fd.offset,none⟩)) w:=by intro b off;simp only[Instr.fieldAt,Sem.run_bind,gT hi,Result.andThen_ok,hd,HN,Instr.sureAddr,Sem.run_pure,fieldPlace,uu tU,if_neg cg,eM]
 unfold pX at h;split at h;rename_i id g off;cases h;obtain⟨m,hm,rfl⟩:=W.yI;exact⟨_,key _ _,.ptr id g _ m hm⟩;rename_i cs;cases h;have W:=W.GG;have u3:=W
 cases W with
 | ref _ b off ys hb hc hr =>refine⟨_,key _ _,.pure ?_⟩;rw[yS];exact u3.zcu
 cases h
def zpQ{fd:Field}(hi:ti P t=some i)(hf:bJ i f=some fd)(tU:ti P fd.type=some fi){cs:Z V}{r:V}
 (W:dZ I w F μ (.agg cs) x) (h:Bh fi cs fd.offset=some r):yc I P w F μ (Instr.field t x f) r:=by
 let⟨fs,hd,HN⟩:=MX.1 hf;obtain⟨ys,rfl,C,hc⟩:=W.xy;let⟨y,hy,hr⟩:=UX tU C hc h;exact⟨y,by simp only[Instr.field,Sem.run_bind,gT hi,Result.andThen_ok,hd,HN,asAgg,Sem.run_pure,hy],hr⟩
def zaz{e:TI}(hi:ti P t=some i)(hd:sN i.desc=some el)(he:ti P el=some e){v r:V}
 (W:dZ I w F μ v x) (h:Ag e n v=some r):yc I P w F μ (Instr.indexAt t x (.int k (n:Int))) r:=by
 rw[zU]at hd;have key:∀ b off len c,n<len->(Instr.indexAt t (.slice (some ⟨b,off,none⟩) len c) (.int k (n:Int))).run P w=.ok (.pointer (some ⟨b,off+n*e.size,none⟩)) w:=by intro b off len c cG;have M:(0:Int)<=(n:Int)/\(n:Int)<(len:Int):=⟨by omega,by omega⟩;simp only[Instr.indexAt,asIntOf,Sem.run_bind,Sem.run_pure,gT hi,Result.andThen_ok,hd,M,and_self,if_true,uu he,eM,bO]
 unfold Ag at h;split at h;rename_i es t';simp only[bI,aC,sP]at h;let⟨cd,c,hc,hr⟩:=h;cases hr;have HC:=lV.1 cd;have eE:=aI hc;have W:=W.Dq
 cases W with
 |pT a c' _ ht=>simp at hc
 | rj _ b off size c' _ ys hb hl fh iS hle ht =>have e1:size=e.size:=(by rw[<- hl c eE,HC c eE]);subst e1;let⟨cG,_⟩:=aM.1 hc;refine⟨_,key _ _ _ _ cG,.pure (.ref c b _ (λj=>ys n j) hb (λj v hj=>fh n c j v hc hj) (λj v hj=>iS n c j v hc hj))⟩
 rename_i id g off len cap;simp only[bI,gz]at h;let⟨cG,hr⟩:=h;cases hr;obtain⟨m,c,hm,rfl,M,O,h3,h4⟩:=W.xe;exact⟨_,key _ _ _ _ cG,.ptr id g _ m hm⟩;cases h
def zyO  {el:TypeId×Y Nat} {e:TI} (hi:ti P t=some i) (hd:elemOf i.desc=some el) (he:ti P el.1=some e) {v r:V}   
 (W:dZ I w F μ v x) (h:zo8 el.2 e n v=some r):yc I P w F μ (Instr.indexAt t x (.int k (n:Int))) r:=by
 unfold elemOf at hd;split at hd;rename_i s C;cases hd;exact zaz hi (by rw[C];rfl) he W h;rename_i len s C;cases hd;have h:gd (Nat.blt n len) (pX (n*e.size) v)=some r:=h;simp only[bI,gz]at h;let⟨cG,h⟩:=h;have key:∀ b off,(Instr.indexAt t (.pointer (some ⟨b,off,none⟩)) (.int k (n:Int))).run P w=.ok (.pointer (some ⟨b,off+n*e.size,none⟩)) w:=by intro b off;have M:(0:Int)<=(n:Int)/\(n:Int)<(len:Int):=⟨by omega,by omega⟩;simp only[Instr.indexAt,asIntOf,Sem.run_bind,Sem.run_pure,gT hi,Result.andThen_ok,C,Instr.sureAddr,M,and_self,if_true,uu he,eM,bO]
 unfold pX at h;split at h;rename_i id g off;cases h;obtain⟨m,hm,rfl⟩:=W.yI;exact⟨_,key _ _,.ptr _ _ _ m hm⟩;rename_i cs;cases h;have W:=W.GG;have u3:=W
 cases W with
 | ref _ b off ys hb hc hr =>refine⟨_,key _ _,.pure ?_⟩;rw[yS];exact u3.zcu
 cases h;cases hd
theorem zo5(hi:ti P t=some i)(hd:isStr i.desc=true){b:Nat}
 (W:dZ I w F μ (.str l) x) (h:wu l n=some b):yc I P w F μ (Instr.index t x (.int k (n:Int))) (.int .u8 (Int.ofNat b)):=by
 obtain⟨s,rfl,rfl⟩:=W.Cx;rw[sP]at h;obtain⟨u,hu,rfl⟩:=zdQ s n b h;have Ax:i.desc=.string:=by grind [isStr]
 refine⟨.int .u8 (u.toNat:Int),?_,.pure (.int _ _)⟩;simp[Instr.index,asIntOf,gT hi,Ax,hu]
theorem zgc{vs:Z V}{k:Nat}{r:V}(W:dZ I w F μ (.tuple vs) x)(h:wu vs k=some r):yc I P w F μ (Instr.extract x k) r:=by
 obtain⟨ys,rfl,C,hc⟩:=W.qF;rw[sP]at h;have hr:=hc k r h;let⟨cG,_⟩:=aM.1 h;have td:k<ys.size:=by omega
 refine⟨ys[k],by simp[Instr.extract,td],?_⟩;simp_all
def U9{v:V}(W:dZ I w F μ v x)(h:zte v=some b):∃ a:Y Addr,x=.pointer a/\a.isNone=b:=by
 unfold zte at h;split at h<;>cases h
 exact⟨none,W.zft,rfl⟩;obtain⟨m,hm,rfl⟩:=W.yI;exact⟨_,rfl,rfl⟩;have W:=W.GG;cases W;exact⟨_,rfl,rfl⟩
def U8{v:V}(W:dZ I w F μ v x)(h:ztd v=some b):∃ (a:Y Addr) (n c:Nat),x=.slice a n c/\a.isNone=b:=by
 unfold ztd at h;split at h<;>cases h
 exact⟨none,0,0,W.Dn,rfl⟩;obtain⟨m,c,hm,rfl,_⟩:=W.xe;exact⟨_,_,_,rfl,rfl⟩;have W:=W.Dq
 cases W with
 |rj _ b off size c' _ ys hb hl fh iS hle ht=>exact⟨_,_,_,rfl,rfl⟩
def Va{v:V}(W:dZ I w F μ v x)(h:ztf v=some b):∃ a:Y Nat,x=.map a/\a.isNone=b:=by
 unfold ztf at h;split at h<;>cases h
 exact⟨none,W.Mw,rfl⟩;obtain⟨m,hm,rfl⟩:=W.GR;exact⟨_,rfl,rfl⟩
def Vb{v:V}(W:dZ I w F μ v x)(h:zth v=some b):(x=.nilFunc/\b=true)\/((∃ f a c,x=.func f a c)/\b=false):=by
 unfold zth at h;split at h<;>cases h
 exact .inl ⟨W.zcP,rfl⟩;obtain⟨ys,rfl,_⟩:=W.Br;exact .inr ⟨⟨_,_,_,rfl⟩,rfl⟩
theorem Bt{a b:Y Bool}{r:Bool}(h:YB a b=some r):∃ p q,a=some p/\b=some q/\((p=true/\r=q)\/(p=false/\q=true/\r=false)):=by
 simp_all [YB,aC,iR,il]
theorem MW {d:Nat} {xs ys:Z V} {X kq:Array Value} (hX:X.size=xs.length) (W:∀ (j:Nat) (v:V),xs[j]?=some v->dZ I w F μ v (X.getD j undef)) (hY:kq.size=ys.length) (hy:∀ (j:Nat) (v:V),ys[j]?=some v->dZ I w F μ v (kq.getD j undef)) :
 ∀ (fs : Z Field) (b:Bool),OD P fs xs ys=some b ->
   (forIn (m:=Sem) fs ((none:Y Bool),()) λf __s =>
     if f.name ≠ "_" then do
      let a <- part f.type X f.offset;let c <- part f.type kq f.offset;let e <- Op.equalIn (d+1) f.type a c
      if (!e)=true then pure (ForInStep.done (some false,()))
       else pure (ForInStep.yield (none,()))
     else pure (ForInStep.yield (none,()))).run P w=.ok (if b then (none,())else (some false,())) w:=by
 intro fs
 induction fs with
 |nil=>intro b h;cases h;rfl
 | cons f fs ih =>
   intro b h;simp only[OD,bI,aC,jQ]at h;let⟨hn,i,hi,hd,a,ha,c,hc,p,hp,q,hq,hk,h⟩:=h;have hag:kP i.desc=false:=by cases jz:i.desc<;>simp_all [zfJ,kP]
   have pl:∀ (zs:Z V) (v:V),wu zs f.offset=some v->Bh i zs f.offset=some v:=λzs v h=>(by unfold Bh;rw[hag];exact h);let⟨x1,e1,r1⟩:=UX hi hX W (pl _ _ ha);let⟨x2,e2,r2⟩:=UX hi hY hy (pl _ _ hc);rw[V.fp]at hp hq;subst hp hq;let⟨k1,n1⟩:=p;let⟨k2,n2⟩:=q;have q1:=r1.lT;have q2:=r2.lT;subst q1 q2;rw[EC]at hk;simp only at hk;subst hk
   have cg : f.name ≠ "_" := by simpa using hn
   have heq:(Op.equalIn (d+1) f.type (.int k1 n1) (.int k1 n2)).run P w=.ok (n1 == n2) w:=by simp only[Op.equalIn,Sem.run_bind,gT hi,Result.andThen_ok];cases jz:i.desc<;>simp_all [zfJ]
   rw[List.forIn_cons];simp only[if_pos cg,Sem.run_bind,e1,e2,heq,Result.andThen_ok];rw[iV,zaX]at h;by_cases he:n1=n2;subst he;rw[if_pos (by simp)]at h;simpa using ih b h;rw[if_neg (by simpa using he)]at h;cases h;simp[he]
theorem zzu  {x y:V}   (W:dZ I w F μ x X) (hy:dZ I w F μ y kq) (h:Kx P t x y=some b) :
 (Op.equal t X kq).run P w=.ok b w:=by
 have key:∀ d,(Op.equalIn (d+2) t X kq).run P w=.ok b w:=?_;exact key 9998;intro d;simp only[Kx,aC]at h;obtain⟨i,hi,h⟩:=h;unfold zGx at h;simp only[Op.equalIn,Sem.run_bind,gT hi,Result.andThen_ok];split at h;rename_i fs hd;unfold zMI at h;split at h;rename_i xs ys;simp only[bI,dz,jQ]at h;obtain⟨⟨M,_⟩,h⟩:=h;obtain⟨X,rfl,hX,CD⟩:=W.xy;obtain⟨kq,rfl,hY,hys⟩:=hy.xy;rw[hd];have hp:Sem.run P program w=.ok P w:=rfl;have pB:=MW (d:=d) hX CD hY hys fs.toList b h;simp only[Sem.run_bind,hp,Result.andThen_ok,M,lU,if_false];rw[<- Array.forIn_toList]
 erw[pB]
 cases b<;>rfl
 cases h;unfold zGA at h;split at h;rename_i hd;simp only[aC,V.fv]at h;obtain⟨p,rfl,q,rfl,h⟩:=h;cases h;rw[W.uL,hy.uL,hd];simp[Gg];rename_i e hd;obtain⟨p,q,hp,hq,hr⟩:=Bt h;obtain⟨a,rfl,ha⟩:=U9 W hp;obtain⟨c,rfl,hc⟩:=U9 hy hq;rw[hd];rcases hr with⟨rfl,rfl⟩|⟨rfl,rfl,rfl⟩;simp_all;simp at hc;subst hc
 cases a with
 |none=>simp at ha
 |some a=>simp
 rename_i e hd;obtain⟨p,q,hp,hq,hr⟩:=Bt h;obtain⟨a,n1,c1,rfl,ha⟩:=U8 W hp;obtain⟨c,n2,c2,rfl,hc⟩:=U8 hy hq;rw[hd];rcases hr with⟨rfl,rfl⟩|⟨rfl,rfl,rfl⟩;simp_all;simp at hc;subst hc
 cases a with
 |none=>simp at ha
 |some a=>simp
 rename_i e e' hd;obtain⟨p,q,hp,hq,hr⟩:=Bt h;obtain⟨a,rfl,ha⟩:=Va W hp;obtain⟨c,rfl,hc⟩:=Va hy hq;rw[hd];rcases hr with⟨rfl,rfl⟩|⟨rfl,rfl,rfl⟩;simp_all;simp at hc;subst hc
 cases a with
 |none=>simp at ha
 |some a=>simp
 rename_i e1 e2 e3 hd;obtain⟨p,q,hp,hq,hr⟩:=Bt h;rw[hd];rcases Vb W hp with⟨rfl,e⟩|⟨⟨f,a,c,rfl⟩,e⟩<;>rcases Vb hy hq with⟨rfl,e'⟩|⟨⟨f',a',c',rfl⟩,e'⟩<;>subst e<;>subst e'<;>simp_all
 cases h
theorem Ar{op:BinOp}{x:Operand}(M:X≠.nilIface)(O:∀ a,X≠.agg a):(eqGuard op t x y X kq).run P w=.ok () w:=by
 unfold eqGuard;simp_all
def zdu{op:BinOp}{x:Operand}{X:Array Value}(h:P.eqGuardType P.depth t=false):(eqGuard op t x y (.agg X) kq).run P w=.ok () w:=by
 have hp:Sem.run P program w=.ok P w:=rfl;unfold eqGuard;cases op<;>first|rfl|(cases kq<;>first|rfl|simp[Sem.run_bind,hp,h])
theorem ztg{op:BinOp}{x v:V}(W:dZ I w F μ x X)(h:zoy P op t x=some v) :
 yc I P w F μ (do eqGuard op t o1 (.const .nilIface) X .nilIface;binOp op t X .nilIface) v:=by
 unfold zoy at h;simp only[aC,bI]at h;let⟨i,hi,hd,b,hb,h⟩:=h;have hguard:(eqGuard op t o1 (.const .nilIface) X .nilIface).run P w=.ok () w:=by unfold eqGuard;cases op<;>cases X<;>simp
 have zMd:∀ d,(Op.equalIn (d+1) t X .nilIface).run P w=.ok b w:=by
  intro d;simp only[Op.equalIn,Sem.run_bind,gT hi,Result.andThen_ok];unfold zyo at hb;split at hb;cases hb;have e:=W.Od;subst e;cases jz:i.desc<;>simp_all [isIface]
  cases hb;obtain⟨z,rfl,_⟩:=W.Dc;cases jz:i.desc<;>simp_all [isIface]
  cases hb
 have heq:(Op.equal t X .nilIface).run P w=.ok b w:=zMd 9999;have hX:X=.nilIface\/∃ t z,X=.iface t z:=by unfold zyo at hb;split at hb;exact .inl W.Od;obtain⟨z,rfl,_⟩:=W.Dc;exact .inr ⟨_,_,rfl⟩;cases hb
 cases op<;>simp only[reduceCtorEq,o7]at h<;>subst h<;>rcases hX with rfl|⟨t',z,rfl⟩ <;>
  exact⟨_,by simp only[Sem.run_bind,hguard,Result.andThen_ok];simp[binOp,heq];rfl,.pure (by first|exact .bool _|(rw[Ll];exact .bool _))⟩
def zqB{op:BinOp}{a b:Int}{v:V}(t:TypeId)(h:arith op k a b=some v)(C:qp op=false) :
 yc I P w F μ (binOp op t (.int k a) (.int k b)) v:=by
 have key:∀ x:Value,(binOp op t (.int k a) (.int k b)).run P w=.ok x w->fJ I w F v x->yc I P w F μ (binOp op t (.int k a) (.int k b)) v:=λx h W=>⟨x,h,.pure W⟩;unfold arith at h
 cases op<;>simp only[bI,o7,reduceCtorEq]at h<;>first
  |(cases h;done)
  |(simp[qp]at C;done)
  |(subst h;refine key _ (by simp[binOp,Op.intBits]<;>rfl) ?_;exact .int _ _)
  |(subst h;refine key _ (by simp[binOp,Op.intArith]<;>rfl) ?_;rw[IW];exact .int _ _)
  |(subst h;refine key _ (by simp[binOp,Op.intCmp]<;>rfl) ?_;simp only[zaX,Oj,zij,Ll,bne];exact .bool _)
  | (let⟨h0,h⟩:=h
     rw[jQ]at h0;have hb:b≠0:=λe=>(by rw[OH.2 e]at h0;cases h0);subst h;refine key _ (by simp[binOp,Op.intDiv,hb]<;>rfl) ?_
     first|exact .int _ _|(rw[IW];exact .int _ _))
def zjQ{op:BinOp}{a b:Int}{v:V}(t:TypeId)(h:Uz op k a b=some v) :
 yc I P w F μ (binOp op t (.int k a) (.int k' b)) v:=by
 unfold Uz at h;split at h;simp only[aC]at h;let⟨m,hm,h⟩:=h;cases h
 cases b with
 | ofNat n =>cases hm;refine⟨.int k (a.fdiv (2 ^ min m k.bits)),?_,.pure (.int _ _)⟩;have:¬ (Int.ofNat m)<0:=Int.not_lt.2 (Int.natCast_nonneg m);simp only[binOp,Op.shift,if_neg this];rfl
 |negSucc n=>cases hm
 cases h
def znA{op:BinOp}{v:V}(t:TypeId)(h:Ia op (bytesOf s) (bytesOf u)=some v) :
 yc I P w F μ (binOp op t (.string s) (.string u)) v:=by
 have key:∀ x:Value,(binOp op t (.string s) (.string u)).run P w=.ok x w->fJ I w F v x->yc I P w F μ (binOp op t (.string s) (.string u)) v:=λx h W=>⟨x,h,.pure W⟩;unfold Ia at h
 cases op <;> simp only[bI,o7,reduceCtorEq]at h<;>first
  |(cases h;done)
  |(subst h;refine key _ (by simp[binOp,Op.stringOp]<;>rfl) ?_;simp only[VR,Vp,Ll];exact .bool _)
  |(subst h;refine key _ (by simp[binOp,Op.stringOp]<;>rfl) ?_;simp only[VR,Vp,Ll,iV];cases Op.bytesLess s.toList u.toList<;>exact .bool _)
  | (let⟨h0,h⟩:=h
     subst h;rw[gM,dH,dH,xX,xX]at h0;refine key (.string (s++u)) ?_ ?_;have:¬ ((s.size+u.size:Nat):Int)>IntKind.i64.max:=(by have e:IntKind.i64.max=9223372036854775807:=(by decide);rw[e];omega);simp only[binOp,Op.stringOp,if_neg this];rfl;have e:kg (bytesOf s) (bytesOf u)=bytesOf (s++u):=by rw[oN];simp[bytesOf]
     rw[e];exact .str _)
def zu3 {op:BinOp} {u:TypeId}  {x y v:V}  (W:dZ I w F μ x X) (hy:dZ I w F μ y kq) (h:TB P op t x y=some v) :
 yc I P w F μ (do eqGuard op t o1 o2 X kq;binOp op t X kq) v:=by
 have fin:X≠.nilIface->(∀ a,X≠.agg a)->yc I P w F μ (binOp op t X kq) v->yc I P w F μ (do eqGuard op t o1 o2 X kq;binOp op t X kq) v:=by rintro M O ⟨r,hr,iS⟩;exact⟨r,by simp only[Sem.run_bind,Ar M O,Result.andThen_ok,hr],iS⟩
 unfold TB at h;split at h;rename_i k a;simp only[aC,V.fp]at h;obtain⟨⟨k',b⟩,rfl,h⟩:=h;have e1:=W.lT;subst e1;have e2:=hy.lT;subst e2;refine fin (λe=>by cases e) (λ_ e=>by cases e) ?_;rw[iV]at h;split at h;exact zjQ t h;rename_i oT;simp only[bI,EC]at h;obtain⟨hk,h⟩:=h;dsimp only at hk h ⊢;subst hk;exact zqB t h (by simpa using oT);rename_i a;simp only[aC,V.lB]at h;obtain⟨b,rfl,h⟩:=h;obtain⟨s,rfl,rfl⟩:=W.Cx;obtain⟨s',rfl,rfl⟩:=hy.Cx;exact fin (λe=>by cases e) (λ_ e=>by cases e) (znA t h);rename_i hni sT;unfold TM at h
 have zph:∀ b,Kx P t x y=some b->(eqGuard op t o1 o2 X kq).run P w=.ok () w/\(∀ k n,X≠.int k n)/\(∀ s,X≠.string s)/\(∀ k n,X≠.float k n)/\(∀ k n m,X≠.complex k n m):=by
  intro b hb;simp only[Kx,aC]at hb;obtain⟨i,hi,hb⟩:=hb;unfold zGx at hb;split at hb;unfold zMI at hb;split at hb;simp only[bI,dz,jQ]at hb;obtain⟨A,rfl,_⟩:=W.xy;exact⟨zdu hb.1.2,by simp,by simp,by simp,by simp⟩;cases hb;unfold zGA at hb;split at hb;simp only[aC,V.fv]at hb;obtain⟨p,rfl,_⟩:=hb;rw[W.uL];exact⟨Ar (by simp) (by simp),by simp,by simp,by simp,by simp⟩;obtain⟨p,q,hp,hq,hr⟩:=Bt hb;obtain⟨a,rfl,ha⟩:=U9 W hp;exact⟨Ar (by simp) (by simp),by simp,by simp,by simp,by simp⟩;obtain⟨p,q,hp,hq,hr⟩:=Bt hb;obtain⟨a,_,_,rfl,ha⟩:=U8 W hp;exact⟨Ar (by simp) (by simp),by simp,by simp,by simp,by simp⟩;obtain⟨p,q,hp,hq,hr⟩:=Bt hb;obtain⟨a,rfl,ha⟩:=Va W hp;exact⟨Ar (by simp) (by simp),by simp,by simp,by simp,by simp⟩;obtain⟨p,q,hp,hq,hr⟩:=Bt hb;rcases Vb W hp with⟨rfl,e⟩|⟨⟨f,a,c,rfl⟩,e⟩<;>exact⟨Ar (by simp) (by simp),by simp,by simp,by simp,by simp⟩
  cases hb
 have Kf:∀ b,Kx P t x y=some b->(binOp .eql t X kq).run P w=.ok (.bool b) w/\(binOp .neq t X kq).run P w=.ok (.bool (!b)) w:=by
  intro b hb;obtain⟨g2,g3,g4,g5,g6⟩:=zph b hb;have he:=zzu W hy hb
  cases X<;>first
   |(exact absurd rfl (g3 _ _))
   |(exact absurd rfl (g4 _))
   |(exact absurd rfl (g5 _ _))
   |(exact absurd rfl (g6 _ _ _))
   |(constructor<;>simp[binOp,he])
 cases op<;>simp only[aC,reduceCtorEq]at h
 obtain⟨b,hb,h⟩:=h;cases h;exact⟨_,by simp only[Sem.run_bind,(zph b hb).1,Result.andThen_ok];exact(Kf b hb).1,.pure (.bool _)⟩;obtain⟨b,hb,h⟩:=h;cases h;exact⟨_,by simp only[Sem.run_bind,(zph b hb).1,Result.andThen_ok];exact(Kf b hb).2,.pure (by rw[Ll];exact .bool _)⟩
theorem zuH{s d:TypeId}{j:TI}(hi:ti P s=some i)(hj:ti P d=some j){v r:V}(W:dZ I w F μ v x)(h:zdF j.desc v=some r) :
 yc I P w F μ (convert s d x) r:=by
 unfold zdF at h;split at h;rename_i k hd;simp only[aC,V.fp]at h;obtain⟨p,rfl,h⟩:=h;cases h;have e:=W.lT;subst e;refine⟨.int k (k.wrap p.2),?_,.pure (by rw[IW];exact .int _ _)⟩;simp only[convert,Sem.run_bind,gT hi,gT hj,Result.andThen_ok,hd];cases i.desc<;>rfl
 rename_i hd;simp only[aC,V.lB]at h;obtain⟨l,rfl,h⟩:=h;cases h;have u3:=W;obtain⟨s,rfl,rfl⟩:=W.Cx;refine⟨.string s,?_,u3⟩;simp only[convert,Sem.run_bind,gT hi,gT hj,Result.andThen_ok,hd];simp_all;cases h
def Ku{a b:Int}(less:Bool)(ts:Array TypeId)(t:TypeId) :
 yc I P w F μ (if less then Builtin.min_ ts t #[.int k a,.int k' b]else Builtin.max_ ts t #[.int k a,.int k' b]) (.int k (bi (bi less (B5 b a) (B5 a b)) b a)):=by
 cases less with
 | true =>refine⟨.int k (if b<a then b else a),by simp[Builtin.min_,Builtin.min2],.pure ?_⟩;rw[iR,iV,Oj];simp only[decide_eq_true_eq];exact .int _ _
 | false =>
   refine⟨.int k (if b>a then b else a),by simp[Builtin.max_,Builtin.max2],.pure ?_⟩;rw[il,iV,Oj];simp only[decide_eq_true_eq];exact .int _ _
end
def Oo{x:Y α}:fE x=true↔∃ a,x=some a:=by cases x<;>simp[fE]
def Lr{x:Y α}:fE x=false↔x=none:=by cases x<;>simp[fE]
def Good(I:Nat->Value):Prop:=∀ k,(I k).oneCell'=true
section
variable {I:Nat->Value}{w:World}{F:Nat->Prop}{μ:Nat->Nat->Y MI}{C:HS}{T:PT V}
def u7(hT:kR I w F μ T a.tmps){o:Y Operand}{y d r:Nat}(h:NZ T o y d=some r) :
 (o=none/\r=d)\/(∃ op k,o=some op/\a.eval op=.int k (r:Int)/\r<=y):=by
 cases o with
 |none=>left;exact⟨rfl,by have h:some d=some r:=h;cases h;rfl⟩
 | some op =>
   right;have h:(ob (bU T op) λv=>ob v.nat? λn=>gd (Nat.ble n y) (some n))=some r:=h;simp only[aC,bI,gM,V.rk]at h;obtain⟨v,hv,n,⟨k,rfl⟩,hle,hr⟩:=h;cases hr;exact⟨op,k,rfl,(dM hT hv).lT,hle⟩
theorem pV(k:IntKind){y:Nat}(code:BoundsCode)(h:n<=y):(Instr.sliceBound (.int k (n:Int)) y code).run P w=.ok n w:=by
 have M:(0:Int)<=(n:Int)/\(n:Int)<=(y:Int):=⟨by omega,by omega⟩;simp only[Instr.sliceBound,asIntOf,Sem.run_bind,Sem.run_pure,Result.andThen_ok,if_pos M,bO]
def Gf  (hT:kR I w F μ T a.tmps) {len zqe cap l h m:Nat} {hi:Y Operand} (b:Bool) (hb:bounds T len zqe lo hi mx=some (l,h,m)) (M:len<=zqe) (O:zqe<=cap) :
 ∃ m',(Instr.sliceBounds b len cap (lo.map a.eval) (hi.map a.eval) (mx.map a.eval)).run P w=.ok (l,h,m') w/\l<=h/\h<=m/\m<=zqe /\
   (fE mx=true->m'=m)/\(fE mx=false->m=zqe/\m'=cap):=by
 unfold bounds at hb;simp only[bI,aC]at hb;let⟨hmx,m1,hm,h',hh,l',hl,he⟩:=hb;cases he;unfold Instr.sliceBounds;rcases u7 hT hm with⟨rfl,rfl⟩|⟨om,km,rfl,em,eW⟩;have fX:l<=h:=by rcases u7 hT hl with⟨rfl,rfl⟩|⟨ol,kl,rfl,el,Bs⟩;exact aZ _;exact Bs
 have hle:h<=m:=by rcases u7 hT hh with⟨rfl,rfl⟩|⟨oh,kh,rfl,eh,hh'⟩;exact M;exact hh'
 refine⟨cap,?_,fX,hle,af _,λh=>by simp[fE]at h,λ_=>⟨rfl,rfl⟩⟩;rcases u7 hT hh with⟨rfl,rfl⟩|⟨oh,kh,rfl,eh,hh'⟩;rcases u7 hT hl with⟨rfl,rfl⟩|⟨ol,kl,rfl,el,Bs⟩;rfl;simp only[kr,lZ,el,Sem.run_bind,Sem.run_pure,Result.andThen_ok,pV _ _ Bs];have zBY:=aO hh' O;rcases u7 hT hl with⟨rfl,rfl⟩|⟨ol,kl,rfl,el,Bs⟩;simp only[kr,lZ,eh,Sem.run_bind,Sem.run_pure,Result.andThen_ok,pV _ _ zBY];simp only[kr,lZ,eh,el,Sem.run_bind,Sem.run_pure,Result.andThen_ok,pV _ _ zBY,pV _ _ Bs];rw [show fE (some om)=true from rfl,iR,Oo]at hmx;obtain⟨oh,rfl⟩:=hmx;rcases u7 hT hh with⟨h0,_⟩|⟨oh',kh,e,eh,hh'⟩;cases h0;cases e;have fX:l<=h:=by rcases u7 hT hl with⟨rfl,rfl⟩|⟨ol,kl,rfl,el,Bs⟩;exact aZ _;exact Bs
 refine⟨m,?_,fX,hh',eW,λ_=>rfl,λh=>by simp[fE]at h⟩;simp only[kr,em,eh,Sem.run_bind,pV _ _ (aO eW O),pV _ _ hh',Result.andThen_ok];rcases u7 hT hl with⟨rfl,rfl⟩|⟨ol,kl,rfl,el,Bs⟩;rfl;simp only[kr,el,Sem.run_bind,pV _ _ Bs,Result.andThen_ok,Sem.run_pure]
def TA(s:ByteArray)(l h:Nat):bytesOf (s.extract l h)=(((bytesOf s).drop l).take (h-l)):=by
 unfold bytesOf;rw[Lib.extract_data,qB,List.map_drop]
def znL  (hR:R I w F μ P C) (hT:kR I w F μ T a.tmps)   (hi:ti P t=some i) {v r:V}  {cm:Y Operand}
 (W:dZ I w F μ v x) (h:xE P T C i v lo cm mx=some r):yc I P w F μ (Instr.sliceAt t x (lo.map a.eval) (cm.map a.eval) (mx.map a.eval)) r:=by
 unfold xE at h;split at h;rename_i hd;simp only[aC,V.lB,Ux,bI,jQ,Lr]at h;obtain⟨s,rfl,rfl,⟨l,hh,m⟩,hb,hr⟩:=h;cases hr;obtain⟨s,rfl,rfl⟩:=W.Cx;obtain⟨m',dg,M,O,h3,_,h4⟩:=Gf (P:=P) (w:=w) hT (cap:=s.size) false hb (af _) (by rw[dH,xX];exact af _);rw[dH,xX]at dg;simp only[lZ]at dg;refine⟨.string (s.extract l hh),?_,.pure ?_⟩;simp only[Instr.sliceAt,Instr.slice,Sem.run_bind,gT hi,Result.andThen_ok,hd,lZ,Option.isSome_none,lU,if_false,Sem.run_pure,dg];rw[yA,yS,<- TA];exact .str _;rename_i el hd;simp only[aC]at h;obtain⟨e,he,h⟩:=h
 have key:∀ (ad:Y Addr) (len cap l hh m':Nat),(Instr.sliceBounds true len cap (lo.map a.eval) (cm.map a.eval) (mx.map a.eval)).run P w=.ok (l,hh,m') w ->
  (Instr.sliceAt t (.slice ad len cap) (lo.map a.eval) (cm.map a.eval) (mx.map a.eval)).run P w=.ok (.slice (if m'=l then ad else ad.map (·.add (l*e.size))) (hh-l) (m'-l)) w:=by
  intro ad len cap l hh m' dg;simp only[Instr.sliceAt,Instr.slice,Sem.run_bind,gT hi,Result.andThen_ok,hd,dg,uu he,Sem.run_pure]
 split at h;simp only[zcd,aC]at h;obtain⟨⟨l,hh,m⟩,hb,hr⟩:=h;cases hr;have e:=W.Dn;subst e;obtain⟨m',dg,M,O,h3,h4,h5⟩:=Gf (P:=P) (w:=w) hT (cap:=0) true hb (af _) (af _)
 have eW:m'=0:=by
  cases C:fE mx with
  |true=>have:=h4 C;omega
  |false=>exact(h5 C).2
 refine⟨_,key _ _ _ _ _ _ dg,.pure ?_⟩;have e1:hh-l=0:=by omega
 have e2:m'-l=0:=by omega
 simp only[lZ,ite_self,e1,e2];exact .a8;rename_i es tight;simp only[Cy,bI,aC,lV,dH]at h;obtain⟨cd,⟨l,hh,m⟩,hb,hr⟩:=h;cases hr;have W:=W.Dq;rw[yA,yS]
 cases W with
 | pT ad c _ ht =>
   obtain⟨m',dg,M,O,h3,h4,h5⟩:=Gf (P:=P) (w:=w) hT (cap:=c) true hb (af _) (aZ _);simp only[ku]at hb dg h3 h4 h5;refine⟨_,key _ _ _ _ _ _ dg,.pure ?_⟩;have e1:hh-l=0:=(by omega);rw[e1];simp only[List.drop_nil,List.take_nil];refine .pT _ _ _ λhq=>?_
   cases C:fE mx with
   |true=>have:=h4 C;omega
   | false =>rw[C,il,dz]at hq;have:=(h5 C).2;have:=ht hq.1;omega
 | rj _ b off size c _ ys hb' hl fh iS hle ht =>
   obtain⟨m',dg,M,O,h3,h4,h5⟩:=Gf (P:=P) (w:=w) hT (cap:=c) true hb (af _) hle;have hlen:((es.drop l).take (hh-l)).length=hh-l:=by simp;omega
   have zyU:(bi (fE mx) (Nat.beq hh m) (et tight (Nat.beq hh es.length))=true)->m'-l=hh-l:=by
    intro hq
    cases C:fE mx with
    |true=>rw[C,iR,beq_true]at hq;have:=h4 C;omega
    | false =>rw[C,il,dz,beq_true]at hq;have:=(h5 C).2;have:=ht hq.1;omega
   refine⟨_,key _ _ _ _ _ _ dg,.pure ?_⟩
   have u9:hh<=m':=by
    cases C:fE mx with
    |true=>have:=h4 C;omega
    |false=>have:=(h5 C).2;omega
   by_cases Kd:m'=l;have e1:hh-l=0:=(by omega);rw[if_pos Kd,e1,List.take_zero];exact .pT _ _ _ λhq=>(by omega);rw [if_neg Kd];simp only[kr,eM];rw[show (Value.slice (some ⟨b,off+l*e.size,none⟩) (hh-l) (m'-l))=.slice (some ⟨b,off+l*e.size,none⟩) ((es.drop l).take (hh-l)).length (m'-l) by rw[hlen]]
   have hx:es=[]\/size=e.size:=by
    cases es with
    |nil=>exact .inl rfl
    |cons x es=>exact .inr (by rw[<- hl x (by simp),cd x (by simp)])
   refine .rj _ b _ e.size _ _ (λi j=>ys (l+i) j) hb' (λx W=>cd x (ni (fQ W))) (λi x j v hi hj=>?_) (λi x j v hi hj=>?_) (by omega) (λhq=>by rw[hlen];exact zyU hq)
   have cm:es[l+i]?=some x:=by
    rw[r9]at hi;split at hi
    rwa [oL]at hi
    cases hi
   have:=fh (l+i) x j v cm hj;rcases hx with rfl|rfl;simp at cm;rw[show off+l*e.size+i*e.size+j=off+(l+i)*e.size+j by rw[gJ];omega];exact this
   have cm:es[l+i]?=some x:=by
    rw[r9]at hi;split at hi
    rwa [oL]at hi
    cases hi
   exact iS (l+i) x j v cm hj
 rename_i id g off len cap;simp only[NF,aC,bI,beq_true]at h;obtain⟨row,fR,cd,⟨l,hh,m⟩,hb,hz,hr⟩:=h;cases hr;obtain⟨mi,c,hm,rfl,g1,g2,g3,g4⟩:=W.xe;have tP:mi.size=e.size:=by rw[(hR.row fR hm).fg,cd]
 have pC:len<=u6 len (λc=>c) cap/\u6 len (λc=>c) cap<=c:=by
  cases cap with
  |none=>exact⟨af _,g1⟩
  |some k=>have:=g3 k rfl;subst this;exact⟨g1,af _⟩
 obtain⟨m',dg,M,O,h3,h4,h5⟩:=Gf (P:=P) (w:=w) hT (cap:=c) true hb pC.1 pC.2
 have u9:m<=m'/\m'<=c:=by
  cases C:fE mx with
  |true=>have:=h4 C;omega
  |false=>have:=h5 C;omega
 have I2:l=0\/l<m:=by
  cases hq:Nat.beq l 0 with
  |true=>exact .inl (beq_true.1 hq)
  |false=>dsimp only at hz;rw[hq,il,gz]at hz;exact .inr hz
 have had:(if m'=l then (some ⟨mi.b,off,none⟩:Y Addr)else (some ⟨mi.b,off,none⟩:Y Addr).map (·.add (l*e.size)))=some ⟨mi.b,off+l*e.size,none⟩:=by
  by_cases Kd:m'=l;have:l=0:=by omega
  subst this;simp[Kd];rw[if_neg Kd];simp[eM]
 refine⟨_,key _ _ _ _ _ _ dg,?_⟩;rw[had];have eN:off+l*e.size+(m'-l)*mi.size=off+m'*mi.size:=by rw[<- tP,eH,<- gJ];congr 2;omega
 refine .own id g _ _ _ _ mi hm (by dsimp only;omega) ?_ ?_ ?_;rw[eN];have:m'*mi.size<=c*mi.size:=aQ _ u9.2;omega;intro k hk
 cases C:fE mx with
 |true=>rw[C,iR]at hk;cases hk;rw[h4 C]
 | false =>
   rw[C,il]at hk
   cases cap with
   |none=>cases hk
   | some k' =>have hk:some (k'-l)=some k:=hk;cases hk;have:=g3 k' rfl;rw[(h5 C).2];omega
 intro hk
 cases C:fE mx with
 |true=>rw[C,iR]at hk;cases hk
 | false =>
   rw[C,il]at hk
   cases cap with
   |some k'=>cases hk
   |none=>rw[eN,(h5 C).2];exact g4 rfl
 cases h;cases h
def QX(I:Nat->Value)(w:World)(F:Nat->Prop)(μ:Nat->Nat->Y MI)(cs:Z V)(ys:Array Value):Prop :=
 ys.size=cs.length/\∀ (i:Nat) (v:V),cs[i]?=some v->dZ I w F μ v (ys.getD i undef)
def zhQ(hρ:Good I){v:V}(h:dZ I w F μ v x)(hv:∀ cs,v≠.agg cs):x.cells=#[x]:=by
 cases h with
 | pure h=>cases h with
   | sym k =>
     have:=hρ k;cases he:I k<;>rw[he]at this<;>first|rfl|(cases this)
   |agg cs ys C hc=>exact absurd rfl (hv cs)
   |_=>rfl
 |agg cs ys C hc=>exact absurd rfl (hv cs)
 |_=>rfl
def KM(hρ:Good I){v:V}(h:dZ I w F μ v x):QX I w F μ v.cells x.cells:=by
 by_cases hv:∃ cs,v=.agg cs;obtain⟨cs,rfl⟩:=hv;obtain⟨ys,rfl,C,hc⟩:=h.xy;exact⟨C,hc⟩;have hs:∀ cs,v≠.agg cs:=λcs e=>hv ⟨cs,e⟩;rw[zhQ hρ h hs];have hc:v.cells=[v]:=by cases v<;>first|rfl|(exact absurd rfl (hs _))
 rw[hc];refine⟨rfl,λi u hi=>?_⟩
 cases i with
 |zero=>simp at hi;subst hi;exact h
 |succ i=>simp at hi
theorem Wq(hρ:Good I){v:V}(h:dZ I w F μ v x)(hv:v.mY=true):x.oneCell'=true:=by
 cases h with
 | pure h=>cases h with
   |sym k=>exact hρ k
   |agg cs ys C hc=>cases hv
   |tuple cs ys C hc=>cases hv
   |_=>rfl
 |agg cs ys C hc=>cases hv
 |tuple cs ys C hc=>cases hv
 |_=>rfl
theorem zpN(off:Nat):∀ (vs:Z Value) (s:Nat) (cells:Array Value),
 ((vs.zipIdx s).foldl (λcs p=>cs.setIfInBounds (off+p.2) p.1) cells).size=cells.size /\
 ∀ k,((vs.zipIdx s).foldl (λcs p=>cs.setIfInBounds (off+p.2) p.1) cells)[k]?=if off+s<=k/\k<off+s+vs.length/\k<cells.size then vs[k-(off+s)]? else cells[k]?:=by
 intro vs
 induction vs with
 |nil=>intro s cells;exact⟨rfl,λk=>by simp;intro M O;omega⟩
 | cons v vs ih =>
   intro s cells;simp only[List.zipIdx_cons,ky];grind
theorem zdm(off:Nat)(xs cells:Array Value) :
 (xs.zipIdx.foldl (λcs (p:Value×Nat)=>cs.setIfInBounds (off+p.2) p.1) cells).size=cells.size /\
 ∀ k,(xs.zipIdx.foldl (λcs (p:Value×Nat)=>cs.setIfInBounds (off+p.2) p.1) cells)[k]?=if off<=k/\k<off+xs.size/\k<cells.size then xs[k-off]? else cells[k]?:=by
 have h:=zpN off xs.toList 0 cells;simp only[Nat.add_zero,jE]at h;grind [Array.toList_zipIdx]
theorem QX.N5{cs new:Z V}{xs:Array Value}(h:QX I w F μ cs ys)(hn:QX I w F μ new xs)(off:Nat) :
 QX I w F μ (kF cs off new) (xs.zipIdx.foldl (λcs (p:Value×Nat)=>cs.setIfInBounds (off+p.2) p.1) ys):=by
 let⟨M,O⟩:=zdm off xs ys;refine⟨by rw[M,uZ];exact h.1,λk v hk=>?_⟩;have cG:k<cs.length:=by grind [List.getElem?_eq_some_iff,uZ]
 rw[FR _ _ _ _ cG]at hk;rw[bS,O];have cd:=h.1;have kx:=hn.1;by_cases hc:off<=k/\k<off+new.length;rw[if_pos hc]at hk;rw[if_pos ⟨hc.1,by omega,by omega⟩];have:=hn.2 _ v hk;simp_all;rw[if_neg hc]at hk;rw[if_neg (by omega)];have:=h.2 _ v hk;simp_all
def zgE(i:TI)(cells:Z V):Cb P T i [] cells=some cells:=rfl
def zdS(i:TI)(p:Nat×Operand)(l:Z (Nat×Operand))(cells:Z V):Cb P T i (p::l) cells =
 ob (bJ i p.1) λfd=>ob (ti P fd.type) λfi=>ob (bU T p.2) λv =>
  gd (et (Nat.beq (dB v.cells) fi.size) (Nat.ble (fd.offset+fi.size) (dB cells))) (Cb P T i l (kF cells fd.offset v.cells)):=rfl
theorem zgD(hρ:Good I)(hT:kR I w F μ T a.tmps){place:Nat->Y (Nat×Nat)}
 (sR:∀ f fd fi,bJ i f=some fd->ti P fd.type=some fi->place f=some (fd.offset,fi.size)) :
 ∀ (l:Z (Nat×Operand)) (cs r:Z V) (cells:Array Value),Cb P T i l cs=some r->QX I w F μ cs cells ->
   ∃ cA,Instr.fill place cells (l.map λ(i,x)=>(i,a.eval x))=some cA/\QX I w F μ r cA:=by
 intro l
 induction l with
 |nil=>intro cs r cells h hc;rw[zgE]at h;cases h;exact⟨cells,rfl,hc⟩
 | cons p l ih =>
   intro cs r cells h hc;rw[zdS]at h;simp only[aC,bI,dz,beq_true,gM,dH]at h;let⟨fd,uv,fi,tU,v,hv,⟨M,O⟩,h⟩:=h;have eJ:=KM hρ (dM hT hv);have cd:=eJ.1;have hcz:=hc.1;let⟨cA,zde,hr⟩:=ih _ _ _ h (hc.N5 eJ fd.offset);refine⟨cA,?_,hr⟩;let⟨pi,px⟩:=p;simp only[aX,Instr.fill,sR pi fd fi uv tU];grind
theorem Tk{l:Z Field}(h:jK P l=true) :
 ∃ pj:Z (Nat×Nat),l.mapM (λf=>(P.info? f.type).map λi=>(f.offset,i.size))=some pj /\
   ∀ (k:Nat) (fd:Field) (fi:TI),l[k]?=some fd->ti P fd.type=some fi->pj[k]?=some (fd.offset,fi.size):=by
 have h':∀ f∈l,fE (ti P f.type)=true:=(Nh (λf:Field=>fE (ti P f.type)) l).1 h;clear h
 induction l with
 |nil=>exact⟨[],rfl,λk fd fi h=>by simp at h⟩
 | cons f l ih =>
   let⟨pj,hm,hp⟩:=ih (λx W=>h' x (aD _ W));let⟨i0,hi0⟩:=Oo.1 (h' f (aB ..));let⟨info,z,M,O,h3,_⟩:=Es hi0;refine⟨(f.offset,info.size)::pj,by simp[List.mapM_cons,M,hm],λk fd fi hk tU=>?_⟩;grind
def Uc(hi:ti P t=some i):∃ info z,P.info? t=some info/\P.underlying t=some i.desc/\info.zero=some z/\QX I w F μ i.zero z.cells/\(zeroValue t).run P w=.ok z w:=by
 let⟨info,z,M,O,h3,h4,h5,h6⟩:=Es hi;let⟨hl,hz⟩:=yK (I:=I) (w:=w) (F:=F) h6;refine⟨info,z,M,O,h5,⟨by simpa using hl,λk v hk=>?_⟩,by simp[zeroValue,typeInfo,M,h5]⟩;let⟨x,W,hr⟩:=hz k v hk;rw[gy]at W;rw[bS,W];exact .pure hr
theorem zqk(hρ:Good I)(hT:kR I w F μ T a.tmps)(hi:ti P t=some i){parts:Array (Nat×Operand)}{cs:Z V}(eC:jK P (fieldsOf i.desc)=true)
 (eK:jg i.desc=true) (h:Cb P T i parts.toList i.zero=some cs):yc I P w F μ (Instr.build t (parts.map λ(i,x)=>(i,a.eval x))) (.agg cs):=by
 let⟨info,z,M,O,h3,hz,JT⟩:=Uc (I:=I) (w:=w) (F:=F) (μ:=μ) hi;cases hd:i.desc<;>rw[hd]at eK<;>first|(cases eK;done)|skip
 rename_i fs;rw[hd]at eC O;let⟨pj,sR,hp⟩:=Tk eC
 let⟨cells,zde,eJ⟩:=zgD hρ hT (P:=P) (i:=i) (place:=(pj.toArray[·]?)) (λf fd fi hf tU=>by
  let⟨fs',Ax,HN⟩:=MX.1 hf;rw[hd]at Ax;cases Ax;have:=hp f fd fi (by simpa [fieldsOf]using HN) tU
  simpa using this) _ _ _ _ h hz
 have hb:P.built t (parts.map λ(i,x)=>(i,a.eval x)).toList=some cells:=by unfold Program.built;simp_all [fieldsOf]
 exact⟨.agg cells,run_build w t _ _ hb,.agg _ _ eJ.1 eJ.2⟩
def zdU(n:Nat)(cells:Z V):CU T n [] cells=some cells:=rfl
def zbb(n:Nat)(p:Nat×Operand)(l:Z (Nat×Operand))(cells:Z V):CU T n (p::l) cells =
 ob (bU T p.2) λv=>gd (et (Nat.beq (dB v.cells) n) (Nat.ble (p.1*n+n) (dB cells))) (CU T n l (kF cells (p.1*n) v.cells)):=rfl
theorem zdT(hρ:Good I)(hT:kR I w F μ T a.tmps) :
 ∀ (l:Z (Nat×Operand)) (cs r:Z V) (cells:Array Value),CU T n l cs=some r->QX I w F μ cs cells ->
   ∃ cA,Instr.fill (λi=>some (i*n,n)) cells (l.map λ(i,x)=>(i,a.eval x))=some cA/\QX I w F μ r cA:=by
 intro l
 induction l with
 |nil=>intro cs r cells h hc;rw[zdU]at h;cases h;exact⟨cells,rfl,hc⟩
 | cons p l ih =>
   intro cs r cells h hc;rw[zbb]at h;simp only[aC,bI,dz,beq_true,gM,dH]at h;let⟨v,hv,⟨M,O⟩,h⟩:=h;have eJ:=KM hρ (dM hT hv);have cd:=eJ.1;have hcz:=hc.1;let⟨pi,px⟩:=p;let⟨cA,zde,hr⟩:=ih _ _ _ h (hc.N5 eJ (pi*n));refine⟨cA,?_,hr⟩;simp only[aX,Instr.fill];grind
theorem zlZ(hρ:Good I)(hT:kR I w F μ T a.tmps){e:TI}(hi:ti P t=some i)(GS:zd5 i.desc=some el)(he:ti P el=some e){parts:Array (Nat×Operand)}{cs:Z V}
 (h:CU T e.size parts.toList i.zero=some cs):yc I P w F μ (Instr.build t (parts.map λ(i,x)=>(i,a.eval x))) (.agg cs):=by
 let⟨info,z,M,O,h3,hz,JT⟩:=Uc (I:=I) (w:=w) (F:=F) (μ:=μ) hi;let⟨ie,ze,g1,g2,g3,_⟩:=Es he
 have hd:∃ n,i.desc=.array n el:=by
  cases hd:i.desc<;>rw[hd]at GS<;>first|(cases GS;done)|skip
  cases GS;grind
 let⟨n,hd⟩:=hd;rw[hd]at O;let⟨cells,zde,eJ⟩:=zdT hρ hT _ _ _ _ h hz;have hb:P.built t (parts.map λ(i,x)=>(i,a.eval x)).toList=some cells:=by unfold Program.built;simp_all
 exact⟨.agg cells,run_build w t _ _ hb,.agg _ _ eJ.1 eJ.2⟩
theorem QF{size off len:Nat}{es l:Z (Z V)}(h:BU size off len es=some l):off % size=0/\off / size+len<=es.length/\l=(es.drop (off / size)).take len:=by
 grind [BU,bI,dz,beq_true,gM,dH,yA,yS,Option.some.injEq]
theorem zco(hR:R I w F μ P C){id off len:Nat}{a:Nat×Z (Z V)×Bool×Bool×Bool}(ha:ng C id g=some a)(hm:μ id g=some m)(sq:off % a.1=0) :
 ∀ (i:Nat) (e:Z V) (j:Nat) (v:V),((a.2.1.drop (off / a.1)).take len)[i]?=some e->e[j]?=some v ->
   ∃ y,w.cell? ⟨m.b,off+i*a.1+j,none⟩=some y/\dZ I w F μ v y/\(a.2.2.2.2=true->fJ I w F v y):=by
 intro i e j v hi hj;have cm:a.2.1[off / a.1+i]?=some e:=by grind
 let⟨y,hy,hr⟩:=(hR.row ha hm).cell cm hj;grind [Nat.div_add_mod,Nat.add_mul,Nat.mul_comm]
theorem zb6(hR:R I w F μ P C){id off len:Nat}{cap:Y Nat}{v':V}(W:dZ I w F μ (.own id g off len cap) x)(h:Jb C id g off len=some v')
  (hF:∀ b,F b->F' b) (hb:∀ m,μ id g=some m->F' m.b):fJ I w F' v' x:=by
 simp only[Jb,aC,bI]at h;let⟨a,ha,fR,l,hl,hv⟩:=h;cases hv;obtain⟨sq,hlen,rfl⟩:=QF hl;obtain⟨m,c,hm,rfl,g1,g2,g3,g4⟩:=W.xe;have fX:((a.2.1.drop (off / a.1)).take len).length=len:=by simp;omega
 have hp:=zco hR (len:=len) ha hm sq;rw[show (Value.slice (some ⟨m.b,off,none⟩) len c)=.slice (some ⟨m.b,off,none⟩) ((a.2.1.drop (off / a.1)).take len).length c by rw[fX]];refine .rj _ m.b off a.1 c false (λi j=>(w.cell? ⟨m.b,off+i*a.1+j,none⟩).getD undef) (hb m hm) (λe he=>(hR.row ha hm).hlen e (ni (fQ he))) (λi e j v hi hj=>?_) (λi e j v hi hj=>?_) (by omega) (λh=>by cases h);grind;let⟨y,hy,_,S4⟩:=hp i e j v hi hj;rw[hy];exact(S4 fR).mono I hF (λ_ _=>rfl)
def zeh(μ:Nat->Nat->Y MI)(F':Nat->Prop)(v:V):Prop:=∀ id g off len cap,v=.own id g off len cap->∀ m,μ id g=some m->F' m.b
theorem XR(hR:R I w F μ P C){v v':V}(W:dZ I w F μ v x)(h:uo C v=some v')(hF:∀ b,F b->F' b)(hb:zeh μ F' v):fJ I w F' v' x:=by
 unfold uo at h;split at h;exact zb6 hR W h hF (hb _ _ _ _ _ rfl);simp only[bI]at h;let⟨hp,h⟩:=h;cases h;exact(dZ.bN I W hp).mono I hF (λ_ _=>rfl)
def zeT:BM C []=some []:=rfl
theorem Rq(v:V)(l:Z V):BM C (v::l)=ob (uo C v) λv'=>ob (BM C l) λl'=>some (v'::l'):=rfl
theorem zjC(hR:R I w F μ P C)(hF:∀ b,F b->F' b):∀ {l l':Z V},BM C l=some l'->(∀ v∈l,zeh μ F' v) ->
 l'.length=l.length/\∀ (i:Nat) (v':V),l'[i]?=some v'->∃ v,l[i]?=some v/\∀ x,dZ I w F μ v x->fJ I w F' v' x:=by
 intro l
 induction l with
 |nil=>intro l' h _;rw[zeT]at h;cases h;exact⟨rfl,λi v' h=>by simp at h⟩
 | cons v l ih =>
   intro l' h h1;rw[Rq]at h;simp only[aC]at h;grind [List.mem_cons_of_mem,XR,List.mem_cons_self]
theorem PS(hR:R I w F μ P C){v v':V}(W:dZ I w F μ v x)(h:kV C v=some v')(hF:∀ b,F b->F' b)(hb:∀ u∈v.cells,zeh μ F' u):fJ I w F' v' x:=by
 unfold kV at h;split at h;rename_i cs;simp only[aC]at h;let⟨l,hl,h⟩:=h;cases h;obtain⟨ys,rfl,a9,hc⟩:=W.xy;let⟨hlen,ha⟩:=zjC hR hF hl hb;refine .agg l ys (by omega) λi u hi=>?_;grind;rename_i oY;have hc:v.cells=[v]:=by cases v<;>first|rfl|(exact absurd rfl (oY _))
 grind [XR]
def zeU:mf C []=some []:=rfl
def zb7(v:V)(l:Z V):mf C (v::l)=ob (kV C v) λv'=>ob (mf C l) λl'=>some (v'::l'):=rfl
theorem Ko(hR:R I w F μ P C)(hF:∀ b,F b->F' b):∀ {l l':Z V},mf C l=some l'->(∀ v∈l,∀ u∈v.cells,zeh μ F' u) ->
 l'.length=l.length/\∀ (i:Nat) (v':V),l'[i]?=some v'->∃ v,l[i]?=some v/\∀ x,dZ I w F μ v x->fJ I w F' v' x:=by
 intro l
 induction l with
 |nil=>intro l' h _;rw[zeU]at h;cases h;exact⟨rfl,λi v' h=>by simp at h⟩
 | cons v l ih =>
   intro l' h h1;rw[zb7]at h;simp only[aC]at h;grind [List.mem_cons_of_mem,PS,List.mem_cons_self]
theorem PR(hR:R I w F μ P C){v v':V}(W:dZ I w F μ v x)(h:still C v=some v')(hF:∀ b,F b->F' b)(hb:∀ id g m,μ id g=some m->F' m.b):fJ I w F' v' x:=by
 have h1:∀ u,zeh μ F' u:=λu id g off len cap _ m hm=>hb id g m hm;unfold still at h;split at h;rename_i cs;simp only[aC]at h;let⟨l,hl,h⟩:=h;cases h;obtain⟨ys,rfl,a9,hc⟩:=W.qF;let⟨hlen,ha⟩:=Ko hR hF hl (λv _ u _=>h1 u);refine .tuple l ys (by omega) λi u hi=>?_;grind;exact PS hR W h hF (λu _=>h1 u)
def qc(C a9:HS):Prop:=a9.n=C.n/\∀ id,a9.H.get id=C.H.get id \/
 ∃ size gen es exact fz row,C.H.get id=some (.arr size gen es exact fz row)/\a9.H.get id=some (.arr size gen es exact true row)
theorem qc.refl(C:HS):qc C C:=⟨rfl,λ_=>.inl rfl⟩
def qc.trans{a b c:HS}(h:qc a b)(h':qc b c):qc a c:=by
 refine⟨h'.1.trans h.1,λid=>?_⟩;rcases h.2 id with M|⟨s,g,es,ex,fz,row,M,wx⟩<;>rcases h'.2 id with O|⟨s2,g2,Hb,Cr,zQN,zKW,O,PF⟩
 exact .inl (O.trans M);rw[M]at O;exact .inr ⟨s2,g2,Hb,Cr,zQN,zKW,O,PF⟩;exact .inr ⟨s,g,es,ex,fz,row,M,O.trans wx⟩;rw[wx]at O;cases O;exact .inr ⟨s,g,es,ex,fz,row,M,PF⟩
def zaP (hR:R I w F μ P C) (id:Nat):∃ F',R I w F' μ P (iO C id)/\Fr w F μ C w F' μ (iO C id)/\qc C (iO C id) /\
 (∀ size gen es exact fz row m,C.H.get id=some (.arr size gen es exact fz row)->μ id gen=some m->F' m.b):=by
 cases ho:C.H.get id with
 | none =>have e:iO C id=C:=(by simp only[iO,ho];rfl);rw[e];exact⟨F,hR,Fr.refl ..,qc.refl _,λsize gen es exact fz row m h _=>by cases h⟩
 | some o =>
   cases o with
   | arr size gen es exact fz row =>have e:iO C id=C.wr id (.arr size gen es exact true row):=(by simp only[iO,ho];rfl);rw[e];have h:=hR.freeze (a9:=C.wr id (.arr size gen es exact true row)) ho (λk=>EZ _ _ _ _);refine⟨_,h.1,h.2,⟨rfl,λk=>?_⟩,?_⟩;rw[EZ];by_cases e:k=id;subst e;rw[if_pos rfl];exact .inr ⟨_,_,_,_,_,_,ho,rfl⟩;rw[if_neg e];exact .inl rfl;intro s g cT ex fz' row' m M O;cases M;exact .inr ⟨m,O,rfl⟩
   | mp es =>have e:iO C id=C:=(by simp only[iO,ho];rfl);rw[e];exact⟨F,hR,Fr.refl ..,qc.refl _,λsize gen es exact fz row m h _=>by cases h⟩
   | lp a b c d e f =>
     have e:iO C id=C:=(by simp only[iO,ho];rfl);rw[e];exact⟨F,hR,Fr.refl ..,qc.refl _,λsize gen es exact fz row m h _=>by cases h⟩
def G8(v:V)(l:Z V):mO C (v::l)=nU (mO C l) v:=rfl
def zf3 (hR:R I w F μ P C):∀ l:Z V,∃ F',R I w F' μ P (mO C l)/\Fr w F μ C w F' μ (mO C l)/\qc C (mO C l) /\
 (∀ v∈l,∀ id g off len cap,v=.own id g off len cap->∀ size es exact fz row m,C.H.get id=some (.arr size g es exact fz row)->μ id g=some m->F' m.b):=by
 intro l
 induction l with
 |nil=>exact⟨F,hR,Fr.refl ..,qc.refl _,λv hv=>by simp at hv⟩
 | cons v l ih =>
   let⟨F1,M,O,h3,h4⟩:=ih;rw[G8];unfold nU;split;rename_i id g off len cap;let⟨F2,g1,g2,g3,g4⟩:=zaP M id;refine⟨F2,g1,O.trans g2,h3.trans g3,λu hu j9 g' off' E0 cap' he size es exact fz row m hg hm=>?_⟩;rcases ay.1 hu with rfl|hu;cases he;rcases h3.2 id with hk|⟨s,g0,es0,ex0,fz0,row0,mw,As⟩;exact g4 _ _ _ _ _ _ m (hk.trans hg) hm;rw[hg]at mw;cases mw;exact g4 _ _ _ _ _ _ m As hm;exact g2.fm _ (h4 u hu j9 g' off' E0 cap' he size es exact fz row m hg hm);rename_i js;refine⟨F1,M,O,h3,λu hu j9 g' off' E0 cap' he=>?_⟩;rcases ay.1 hu with rfl|hu;exact absurd he (js _ _ _ _ _);exact h4 u hu j9 g' off' E0 cap' he
def zeW{id off len:Nat}{cap:Y Nat}{v':V}(h:uo C (.own id g off len cap)=some v'):∃ size es exact fz row,C.H.get id=some (.arr size g es exact fz row):=by
 have h:Jb C id g off len=some v':=h;simp only[Jb,aC]at h;let⟨a,ha,_⟩:=h;exact⟨_,_,_,_,_,(qZ ha).1⟩
theorem zeS:∀ {l l':Z V},BM C l=some l'->∀ v∈l,∃ v',uo C v=some v':=by
 intro l
 induction l with
 |nil=>intro l' _ v hv;simp at hv
 | cons u l ih =>
   grind [Rq,aC]
theorem zeV{v v':V}(h:kV C v=some v'):∀ u∈v.cells,∃ u',uo C u=some u':=by
 unfold kV at h;split at h;rename_i cs;simp only[aC]at h;let⟨l,hl,h⟩:=h;exact zeS hl;rename_i oY;have hc:v.cells=[v]:=by cases v<;>first|rfl|(exact absurd rfl (oY _))
 grind
theorem zY(hR:R I w F μ P C){v v':V}(W:dZ I w F μ v x)(h:nE v C=some (v',a9)) :
 ∃ F',R I w F' μ P a9/\Fr w F μ C w F' μ a9/\qc C a9/\fJ I w F' v' x:=by
 simp only[nE,aC]at h;let⟨u,hu,h⟩:=h;cases h;let⟨F',M,O,h3,h4⟩:=zf3 hR v.cells;refine⟨F',M,O,h3,PS hR W hu O.fm λc hc id g off len cap he m hm=>?_⟩;let⟨c',wq⟩:=zeV hu c hc;subst he;let⟨size,es,exact,fz,row,hg⟩:=zeW wq;grind
end
section
variable {I:Nat->Value}{w w':World}{F:Nat->Prop}{μ:Nat->Nat->Y MI}{C:HS}{T:PT V}
def XE(I:Nat->Value)(P:Program)(w:World)(F:Nat->Prop)(μ:Nat->Nat->Y MI)(C:HS)(s:Sem Value)(v:V)(a9:HS):Prop :=
 ∃ x w' F' μ',s.run P w=.ok x w'/\R I w' F' μ' P a9/\dZ I w' F' μ' v x/\Fr w F μ C w' F' μ' a9
def IP(μ:Nat->Nat->Y MI)(C:HS)(id:Nat):Prop:=C.H.get id=none/\∀ g,μ id g=none
theorem zal(hR:R I w F μ P C){id:Nat}(hid:IP μ C id){size:Nat}{es:Z (Z V)}{exact row:Bool}{cells:Array Value}
 (cd:w'.heap.size=w.heap.size+1) (aE:w'.heap[w.heap.size]?=some (.cells cells el (0,0))) (hold:∀ b,b<w.heap.size->w'.heap[b]?=w.heap[b]?)
 (hlen:∀ e∈es,e.length=size) (hle:es.length*size<=cells.size) (hex:exact=true->cells.size=es.length*size)
 (b7:∀ (k:Nat) (e:Z V) (j:Nat) (v:V),es[k]?=some e->e[j]?=some v->∃ y,cells[k*size+j]?=some y/\dZ I w F μ v y/\(row=true->fJ I w F v y)) (D0:Io w w':=by exact⟨rfl,rfl,rfl⟩) :
 R I w' F (s6 μ id 0 ⟨w.heap.size,size,cells.size⟩) P (C.put id (.arr size 0 es exact false row))/\Fr w F μ C w' F (s6 μ id 0 ⟨w.heap.size,size,cells.size⟩) (C.put id (.arr size 0 es exact false row)):=by
 refine hR.alloc (a9:=C.put id (.arr size 0 es exact false row)) (o:=.arr size 0 es exact false row) hid.1 hid.2 rfl rfl (af _) (by show w.heap.size<_;omega) hold (λk=>mJ _ _ _ _) ?_ D0;intro m hm;rw[c8]at hm;cases hm;refine⟨rfl,hlen,⟨cells,el,aE,rfl,hle,hex,λk e j v hk hj=>?_⟩,(λh=>by cases h),λ_ hF=>?_⟩;let⟨y,hy,hr,hp⟩:=b7 k e j v hk hj;refine⟨y,hy,hr.mono I (λ_ h=>h) (λb hb=>hold b (hR.BR b hb)) (λi g m1 M=>?_),λh=>(hp h).mono I (λ_ h=>h) (λb hb=>hold b (hR.BR b hb))⟩;rw[kE];exact M;rintro ⟨rfl,rfl⟩;rw[hid.2]at M;cases M;have:=hR.BR _ hF;grind
theorem zoE (hR:R I w F μ P C) {id:Nat} (hid:IP μ C id) {cs:Z V}  (el:TypeId) (hc:QX I w F μ cs ys) :
 ∃ μ',R I (qW w (.cells ys el)) F μ' P (C.put id (.arr cs.length 0 [cs] true false false))/\Fr w F μ C (qW w (.cells ys el)) F μ' (C.put id (.arr cs.length 0 [cs] true false false)) /\
   dZ I (qW w (.cells ys el)) F μ' (.ptr id 0 0) (.pointer (some ⟨w.heap.size,0,none⟩)):=by
 have h:=zal hR hid (w':=qW w (.cells ys el)) (size:=cs.length) (es:=[cs]) (exact:=true) (row:=false) (cells:=ys) (el:=el) (ou _ _) (uT _ _) (λb hb=>qE _ _ hb)
  (λe he=>by simp at he;rw[he]) (by simp;exact Nat.le_of_eq hc.1.symm) (λ_=>by simp;exact hc.1) (λk e j v hk hj=>by
    cases k with
    | zero =>simp at hk;subst hk;have cG:j<ys.size:=(by let⟨cG,_⟩:=aM.1 hj;rw[hc.1];exact cG);have:=hc.2 j v hj;simp_all
    |succ k=>simp at hk)
 exact⟨_,h.1,h.2,.ptr id 0 0 _ (c8 ..)⟩
def zqK(hR:R I w F μ P C){id:Nat}(hid:IP μ C id){v:V}(h:Cc P C id t=some (v,a9)):XE I P w F μ C (Instr.alloc t true (.tuple #[])) v a9:=by
 simp only[Cc,aC,bI,beq_true,dH]at h;let⟨i,hi,hl,h⟩:=h;cases h;let⟨info,z,M,O,h3,hz,JT⟩:=Uc (I:=I) (w:=w) (F:=F) (μ:=μ) hi;let⟨μ',g1,g2,g3⟩:=zoE hR hid t hz;rw[<- hl];refine⟨_,_,F,μ',?_,g1,g3,g2⟩;simp only[Instr.alloc,Sem.run_bind,JT,Result.andThen_ok,newVar,newRow,run_newObj,Sem.run_pure]
 first|done|rfl
def zz5(hρ:Good I)(hR:R I w F μ P C){id:Nat}(hid:IP μ C id)(hT:kR I w F μ T a.tmps)(t:TypeId){x:Operand}{v:V}(h:XC T C id x=some (v,a9)) :
 XE I P w F μ C (Instr.box t (a.eval x)) v a9:=by
 simp only[XC,aC,dH]at h;let⟨u,hu,h⟩:=h;cases h;let⟨μ',g1,g2,g3⟩:=zoE hR hid t (KM hρ (dM hT hu));refine⟨_,_,F,μ',?_,g1,g3,g2⟩;simp only[Instr.box,Sem.run_bind,Result.andThen_ok,newVar,newRow,run_newObj,Sem.run_pure]
 first|done|rfl
def zfB(hR:R I w F μ P C){id:Nat}(hid:IP μ C id){v:V}(h:Bo C id r=some (v,a9)) :
 XE I P w F μ C (Instr.makeMap t (r.map a.eval)) v a9:=by
 simp only[Bo,bI,jQ,Lr]at h;obtain⟨rfl,h⟩:=h;cases h
 have h:=hR.alloc (w':=qW w (.map #[] 0)) (a9:=C.put id (.mp [])) (o:=.mp []) (m:=⟨w.heap.size,0,0⟩) hid.1 hid.2 rfl rfl (af _) (by rw[ou];exact ji _) (λb hb=>qE _ _ hb) (λk=>mJ _ _ _ _) (by
  intro m hm;rw[c8]at hm;cases hm
  exact⟨⟨#[],0,uT _ _,rfl,λi k v hi=>by simp at hi⟩,λhF=>Nat.lt_irrefl _ (hR.BR _ hF)⟩)
 refine⟨.map (some w.heap.size),_,F,_,?_,h.1,.map id ⟨w.heap.size,0,0⟩ (c8 ..),h.2⟩;simp[Instr.makeMap];rfl
theorem range_zero{zero:Array Value}{size k:Nat}(hz:zero.size=size)(hk:k<n)(hj:j<size) :
 ((Array.range (n*size)).map (zero[· % zero.size]!))[k*size+j]?=zero[j]?:=by
 have cG:k*size+j<n*size:=by have:(k+1)*size<=n*size:=aQ _ hk;grind
 have sq:(k*size+j) % size=j:=by rw[jW,Nat.mul_add_mod];exact vZ hj
 grind
theorem XH{e:TI}(he:ti P t=some e)(hl:e.zero.length=e.size)(hz:QX I w F μ e.zero z.cells)(n:Nat)(hpz:∀ (i:Nat) (v:V),e.zero[i]?=some v->fJ I w F v (z.cells.getD i undef)) :
 ∀ (k:Nat) (c:Z V) (j:Nat) (v:V),(List.replicate n e.zero)[k]?=some c->c[j]?=some v->∃ y,((Array.range (n*e.size)).map (z.cells[· % z.cells.size]!))[k*e.size+j]?=some y/\fJ I w F v y:=by
 intro k c j v hk hj;rw[List.getElem?_replicate]at hk;split at hk;rename_i hkn;cases hk;let⟨cG,_⟩:=aM.1 hj;have td:j<z.cells.size:=by rw[hz.1];exact cG
 rw[range_zero (by rw[hz.1,hl]) hkn (by omega)];refine⟨z.cells[j],by simp[td],?_⟩;have:=hpz j v hj;simp_all;cases hk
theorem PE(hi:ti P t=some i):∃ info z,P.info? t=some info/\info.zero=some z/\QX I w F μ i.zero z.cells/\(zeroValue t).run P w=.ok z w /\
 (∀ (k:Nat) (v:V),i.zero[k]?=some v->fJ I w F v (z.cells.getD k undef))/\info.size=i.size/\info.bytes=i.bytes:=by
 let⟨info,z,M,O,h3,h4,h5,h6⟩:=Es hi;let⟨hl,hz⟩:=yK (I:=I) (w:=w) (F:=F) h6;have hp:∀ (k:Nat) (v:V),i.zero[k]?=some v->fJ I w F v (z.cells.getD k undef):=by intro k v hk;let⟨x,W,hr⟩:=hz k v hk;simp_all
 exact⟨info,z,M,h5,⟨by simpa using hl,λk v hk=>.pure (hp k v hk)⟩,by simp[zeroValue,typeInfo,M,h5],hp,h3,h4⟩
theorem zaq(hR:R I w F μ P C){id:Nat}(hid:IP μ C id)(hi:ti P t=some i){l c v:V}(hl:dZ I w F μ l X)(hc:dZ I w F μ c kq)
 (h:xK P i C id l c=some (v,a9)):XE I P w F μ C (Instr.makeSlice t X kq) v a9:=by
 simp only[xK,aC,bI,dz,jQ,beq_true,beq_false,gM,dH,zU,V.rk,yE]at h;obtain⟨el,hd,e,he,ln,⟨k1,rfl⟩,cn,⟨k2,rfl⟩,⟨hlc,eA,By,cg,GF,hpz⟩,h⟩:=h;cases h;have e1:=hl.lT;subst e1;have e2:=hc.lT;subst e2;let⟨info,z,M,h3,hz,JT,zI5,cd,hby⟩:=PE (I:=I) (w:=w) (F:=F) (μ:=μ) he;have cR:cn<=1048576:=by have:cn*1<=cn*e.size:=kT _ (by omega);omega
 have hw1:IntKind.i64.wrap (ln:Int)=ln:=IntWalk.i64_in _ (by omega);have cr:IntKind.i64.wrap (cn:Int)=cn:=IntWalk.i64_in _ (by omega);have b7:=XH (w:=w) he GF hz cn zI5
 have fR:=zal hR hid (w':=qW w (.cells ((Array.range (cn*e.size)).map (z.cells[· % z.cells.size]!)) el)) (size:=e.size) (es:=List.replicate cn e.zero) (exact:=true) (row:=true) (el:=el)
  (ou _ _) (uT _ _) (λb hb=>qE _ _ hb) (λx W=>by rw[List.eq_of_mem_replicate W];exact GF) (by simp) (λ_=>by simp) (λk x j v hk hj=>by
    let⟨y,hy,hp⟩:=b7 k x j v hk hj
    exact⟨y,hy,.pure hp,λ_=>hp⟩)
 have sf:¬ ((info.bytes:Int)*(cn:Int)>2 ^ 48):=by grind
 rw[<- ZT]at fR;refine⟨.slice (some ⟨w.heap.size,0,none⟩) ln cn,qW w (.cells ((Array.range (cn*e.size)).map (z.cells[· % z.cells.size]!)) el),F,_,?_,fR.1,?_,fR.2⟩;have hti:(typeInfo el).run P w=.ok info w:=by simp[typeInfo,M]
 have c1:(decide ((cn:Int)<0)||decide ((info.bytes:Int)*(cn:Int)>2 ^ 48)||decide ((ln:Int)<0)||decide ((ln:Int)>(cn:Int)))=false:=by grind
 simp only[Instr.makeSlice,Sem.run_bind,gT hi,Result.andThen_ok,hd,asInt,asIntOf,Sem.run_pure,hti,hw1,cr,c1,run_askRoom,uu he,bO,lU,if_false];by_cases h0:cn*e.size=0;simp only[h0,if_true,Sem.run_pure,Result.andThen_ok,Go.newRow,Sem.run_bind,run_newObj];simp[qW,Array.range];simp only[h0,if_false,Sem.run_bind,JT,Sem.run_pure,Result.andThen_ok,newRow,run_newObj];rfl;refine .own id 0 0 ln (some cn) cn _ (c8 ..) hlc ?_ (λk hk=>by cases hk;rfl) (λh=>by cases h);simp
def UT(hρ:Good I){v:V}(h:fJ I w F v x):x.cells.size=v.cells.length/\∀ (i:Nat) (u:V),v.cells[i]?=some u->fJ I w F u (x.cells.getD i undef):=by
 by_cases hv:∃ cs,v=.agg cs;obtain⟨cs,rfl⟩:=hv;cases h with|agg _ ys C hc=>exact⟨C,hc⟩
 have hs:∀ cs,v≠.agg cs:=λcs e=>hv ⟨cs,e⟩;rw[zhQ (μ:=λ_ _=>none) hρ (.pure h) hs];have hc:v.cells=[v]:=by cases v<;>first|rfl|(exact absurd rfl (hs _))
 rw[hc];refine⟨rfl,λi u hi=>?_⟩
 cases i with
 |zero=>simp at hi;subst hi;exact h
 |succ i=>simp at hi
def cover(cells:Array Value)(o:Nat)(vs:Z Value):Array Value:=(cells.toList.take o++vs++cells.toList.drop (o+vs.length)).toArray
theorem M7{cells:Array Value}(h:o+vs.length<=cells.size):(cover cells o vs).size=cells.size:=by
 simp[cover];omega
theorem KH{cells:Array Value}(h:o+vs.length<=cells.size)(k:Nat) :
 (cover cells o vs)[k]?=if o<=k/\k<o+vs.length then vs[k-o]? else cells[k]?:=by
 unfold cover;grind
theorem Fa{b:Nat}{cells:Array Value}(hc:w.heap[b]?=some (.cells cells el (0,0)))(hle:o+vs.length<=cells.size)(s9:∀ v∈vs,v.oneCell'=true) :
 (storeCells ⟨b,o,none⟩ vs).run P w=.ok () (w.setRow b (cover cells o vs)):=by
 have:=run_storeCells_at (P:=P) b o el vs 0 cells w hc (by simpa using hle) s9;simpa [cover]using this
def XI(hR:R I w F μ P C){id:Nat}{a:Nat×Z (Z V)×Bool×Bool×Bool}(ha:ng C id g=some a)(xF:a.2.2.2.1=false)(hm:μ id g=some m)
 {cells:Array Value}  (hc:w.heap[m.b]?=some (.cells cells el (0,0))) (cd:cA.size=cells.size) {cT:Z (Z V)}
 (hlen:∀ e∈cT,e.length=a.1) (hl:cT.length=a.2.1.length)
 (b7:∀ (k:Nat) (e:Z V) (j:Nat) (v:V),cT[k]?=some e->e[j]?=some v->∃ y,cA[k*a.1+j]?=some y/\dZ I w F μ v y/\(a.2.2.2.2=true->fJ I w F v y)) :
 R I (w.setRow m.b cA) F μ P (C.wr id (.arr a.1 g cT a.2.2.1 false a.2.2.2.2))/\Fr w F μ C (w.setRow m.b cA) F μ (C.wr id (.arr a.1 g cT a.2.2.1 false a.2.2.2.2)):=by
 let⟨dq,cg⟩:=qZ ha;have eJ:=hR.row ha hm;have wg:=eJ.hn xF;have hF:∀ b,F b->(w.setRow m.b cA).heap[b]?=w.heap[b]?:=λb hb=>setRow_other w m.b b cA (λe=>wg (e ▸ hb));refine hR.write (a9:=C.wr id (.arr a.1 g cT a.2.2.1 false a.2.2.2.2)) (o':=.arr a.1 g cT a.2.2.1 false a.2.2.2.2) dq xF (m:=m) hm rfl rfl (by simp) (λb hb=>setRow_other w m.b b cA hb) (λk=>EZ _ _ _ _) ?_;intro m1 ez;rw[hm]at ez;cases ez;let⟨c0,zQR,wk,ht,hle,hex,_⟩:=eJ.cells;rw[hc]at wk;cases wk;refine⟨eJ.fg,hlen,⟨cA,el,setRow_heap w m.b _ _ _ _ hc,by omega,by rw[hl];exact hle,λh=>by rw[hl];exact hex h,λk e j v hk hj=>?_⟩,(λh=>by cases h),λ_=>wg⟩;let⟨y,hy,hr,hp⟩:=b7 k e j v hk hj;exact⟨y,hy,hr.mono I (λ_ h=>h) hF (λ_ _ _ h=>h),λh=>(hp h).mono I (λ_ h=>h) hF⟩
theorem Rl (hρ:Good I) (hR:R I w F μ P C)   (hi:ti P t=some i) {id off:Nat} {v:V}   (hX:dZ I w F μ (.ptr id g off) X) (W:dZ I w F μ v x)
 (hp:∀ a,ng C id g=some a->a.2.2.2.2=true->fJ I w F v x) (h:qG i id g off v C=some a9) :
 ∃ w',(Instr.storeAt t X x).run P w=.ok () w'/\R I w' F μ P a9/\Fr w F μ C w' F μ a9:=by
 simp only[qG,aC,bI,jQ,dz,beq_true,gM,dH,sP,O5,ZM]at h;let⟨a,ha,xF,⟨fh,lE,eA⟩,e,he,h⟩:=h;cases h;obtain⟨m,hm,rfl⟩:=hX.yI;have eJ:=hR.row ha hm;let⟨dq,cg⟩:=qZ ha;let⟨cells,el,hc,ht,hle,hex,b7⟩:=eJ.cells;have hcr:=KM hρ W;have zF8:=eJ.hlen e (aI he);let⟨ztZ,_⟩:=aM.1 he;have py:off=(off / a.1)*a.1+off % a.1:=by rw[jW];exact(ma off a.1).symm
 have PA:(off / a.1+1)*a.1<=a.2.1.length*a.1:=aQ _ ztZ;have hend':(off / a.1)*a.1+a.1<=a.2.1.length*a.1:=by rw[gJ]at PA;omega
 have CD:x.cells.toList.length=i.size:=by simp[hcr.1,lE]
 have b4:off+x.cells.toList.length<=cells.size:=by rw[CD];omega
 have s9:∀ u∈x.cells.toList,u.oneCell'=true:=by
  intro u hu;let⟨j,hj⟩:=qC hu;have hjlt:j<v.cells.length:=by grind
  have hr:=hcr.2 j v.cells[j] (by simp[hjlt]);rw[gy]at hj;rw[bS,hj]at hr;exact Wq hρ hr (fh _ (ax hjlt))
 have hw := XI hR ha xF hm hc (cA:=cover cells off x.cells.toList) (M7 b4) (cT:=a.2.1.set (off / a.1) (kF e (off % a.1) v.cells)) (λc wq=>by
  rcases iX wq with h|h;exact eJ.hlen c h
  rw[h,uZ];exact zF8) (by simp) (λk c j u hk hj=>by
  rw[mR]at hk;by_cases lR:off / a.1=k;rw [if_pos lR,if_pos ztZ]at hk;cases hk;subst lR
  have ju:j<e.length:=by
   let⟨cG,_⟩:=aM.1 hj
   rwa [uZ]at cG
  rw[FR _ _ _ _ ju]at hj;rw[KH b4,CD];by_cases h1:off % a.1<=j/\j<off % a.1+v.cells.length;rw[if_pos h1]at hj;rw[if_pos (by omega)];have kc:off / a.1*a.1+j-off=j-off % a.1:=by omega
  have Pl:j-off % a.1<x.cells.size:=by rw[hcr.1];omega
  rw[kc,gy,fB Pl];refine⟨_,rfl,?_,λfR=>?_⟩;have:=hcr.2 _ u hj
  rwa [bS,fB Pl]at this
  have:=(UT hρ (hp a ha fR)).2 _ u hj
  rwa [bS,fB Pl]at this
  rw[if_neg h1]at hj;rw[if_neg (by omega)];exact b7 _ e j u he hj;rw [if_neg lR]at hk;rw[KH b4,CD,if_neg];exact b7 k c j u hk hj;have ju:j<a.1:=by let⟨cG,_⟩:=aM.1 hj;rw[eJ.hlen c (aI hk)]at cG;exact cG
  rintro ⟨M,O⟩;rcases oK lR with cG|cG;have:(off / a.1+1)*a.1<=k*a.1:=aQ _ cG;rw[gJ]at this;omega;have:(k+1)*a.1<=off / a.1*a.1:=aQ _ cG
  rw[gJ]at this;omega)
 refine⟨_,?_,hw.1,hw.2⟩;have fg:x.cells.size=i.size:=by rw[hcr.1,lE]
 simp only[Instr.storeAt,Instr.sureAddr,Sem.run_bind,Sem.run_pure,Result.andThen_ok,storeVar,uu hi,fg,ne_eq,not_true_eq_false,if_false];grind [Fa]
def zc7{id:Nat}(h:pZ C id=false){a:Nat×Z (Z V)×Bool×Bool×Bool}(ha:ng C id g=some a):a.2.2.2.2=false:=by
 let⟨dq,_⟩:=qZ ha;unfold pZ at h;rw[dq]at h;exact h
theorem zb5(hρ:Good I)(hR:R I w F μ P C)(hi:ti P t=some i){p v:V}(hX:dZ I w F μ p X)(W:dZ I w F μ v x)(h:E9 i C p v=some a9) :
 ∃ w' F',(Instr.storeAt t X x).run P w=.ok () w'/\R I w' F' μ P a9/\Fr w F μ C w' F' μ a9:=by
 unfold E9 at h;split at h;rename_i id g off
 cases fR:pZ C id with
 | true =>rw[fR,iR]at h;simp only[aC]at h;let⟨⟨v',cp⟩,hp,h⟩:=h;let⟨F1,M,O,_,h3⟩:=zY hR W hp;let⟨w',g1,g2,g3⟩:=Rl hρ M hi (O.rep hR hX) (.pure h3) (λ_ _ _=>h3) h;exact⟨w',F1,g1,g2,O.trans g3⟩
 | false =>rw[fR,il]at h;let⟨w',g1,g2,g3⟩:=Rl hρ hR hi hX W (λa ha hr=>by rw[zc7 fR ha]at hr;cases hr) h;grind
 cases h
def Sw{l:Z (Z V)}:kJ l=true↔∀ e∈l,∀ v∈e,v.mY=true:=by
 refine(Nh Ka l).trans ?_;simp[O5]
def Flat(I:Nat->Value)(w:World)(F:Nat->Prop)(size:Nat)(es:Z (Z V))(arr:Array Value):Prop :=
 arr.size=es.length*size/\∀ (k:Nat) (e:Z V) (j:Nat) (v:V),es[k]?=some e->e[j]?=some v->∃ y,arr[k*size+j]?=some y/\fJ I w F v y
theorem JB{b off size:Nat}{es:Z (Z V)}(hlen:∀ e∈es,e.length=size)(hn:es.length=n)(h:∀ (k:Nat) (e:Z V) (j:Nat) (v:V),es[k]?=some e->e[j]?=some v->∃ y,w.cell? ⟨b,off+k*size+j,none⟩=some y/\fJ I w F v y) :
 ∃ arr,(loadCells ⟨b,off,none⟩ (n*size)).run P w=.ok arr w/\Flat I w F size es arr:=by
 subst hn
 have hex:∀ p,p<es.length*size->∃ y,w.cell? ⟨b,off+p,none⟩=some y:=by
  intro p hp;have C:0<size:=by rcases Nat.eq_zero_or_pos size with h0|h0;(subst h0;simp at hp);exact h0
  have hk:p / size<es.length:=Nat.div_lt_of_lt_mul (by rwa [jW]);have hj:p % size<size:=Nat.mod_lt _ C;have he:es[p / size]?=some es[p / size]:=by simp[hk]
  have GS:=hlen _ (ax hk);let⟨y,hy,_⟩:=h (p / size) _ (p % size) (es[p / size][p % size]'(by omega)) he (by simp[GS,hj]);rw[show off+p / size*size+p % size=off+p by have:=ma p size;rw[jW]at this;omega]at hy;grind
 have dg:=run_loadCells (P:=P) w ⟨b,off,none⟩ (es.length*size) (λj=>(w.cell? ⟨b,off+j,none⟩).getD undef) (by
  intro j hj;let⟨y,hy⟩:=hex j hj
  rw[eM,hy];rfl)
 refine⟨_,dg,by simp,λk e j v hk hj=>?_⟩;let⟨y,hy,hp⟩:=h k e j v hk hj;let⟨ztZ,_⟩:=aM.1 hk;let⟨hjlt,_⟩:=aM.1 hj;have GS:=hlen e (aI hk);have cG:k*size+j<es.length*size:=by have:(k+1)*size<=es.length*size:=aQ _ ztZ;grind
 grind
theorem V3 (hR:R I w F μ P C) {size:Nat} {x:V}  {es:Z (Z V)} (W:dZ I w F μ x X) (h:Av C size x=some es) (cd:∀ e∈es,e.length=size) :
 ∃ base c,X=.slice base es.length c/\∀ n,n<=es.length->∃ arr,(Builtin.firstCells size n X).run P w=.ok arr w/\Flat I w F size (es.take n) arr:=by
 unfold Av at h;split at h;cases h;have e:=W.Dn;subst e;exact⟨none,0,rfl,λn _=>⟨#[],rfl,by simp,λk e j v hk=>by simp at hk⟩⟩;cases h;have W:=W.Dq
 cases W with
 | pT a c t ht =>
   refine⟨a,c,rfl,λn hn=>⟨#[],?_,by simp,λk e j v hk=>by simp at hk⟩⟩;have:n=0:=(by simpa using hn);subst this
   cases a with
   |none=>rfl
   |some a=>simp[Builtin.firstCells,loadCells,loadCellsFrom]
 | rj _ b off size' c t ys hb hl fh iS hle ht =>refine⟨_,c,rfl,λn hn=>?_⟩;have hcell':∀ (k:Nat) (e:Z V) (j:Nat) (v:V),(es.take n)[k]?=some e->e[j]?=some v->∃ y,w.cell? ⟨b,off+k*size+j,none⟩=some y/\fJ I w F v y:=(by grind);obtain⟨arr,M,O⟩:=JB (P:=P) (n:=n) (λe he=>cd e (fQ he)) (by simp;omega) hcell';exact⟨arr,by simpa [Builtin.firstCells]using M,O⟩
 rename_i id g off len cap;simp only[aC,bI,dz,beq_true]at h;obtain⟨a,ha,⟨fR,a9⟩,PB⟩:=h;obtain⟨sq,hlen,rfl⟩:=QF PB;obtain⟨m,c,hm,rfl,g1,g2,g3,g4⟩:=W.xe;subst a9;have fX:((a.2.1.drop (off / a.1)).take len).length=len:=by simp;omega
 refine⟨_,c,by rw[fX],λn hn=>?_⟩;rw[fX]at hn;have ht:((a.2.1.drop (off / a.1)).take len).take n=(a.2.1.drop (off / a.1)).take n:=by rw[List.take_take];congr 1;omega
 rw[ht]
 obtain⟨arr,M,O⟩:=JB (P:=P) (n:=n) (es:=(a.2.1.drop (off / a.1)).take n) (λe he=>(hR.row ha hm).hlen e (ni (fQ he))) (by simp;omega) (λk e j v hk hj=>by
  obtain⟨y,hy,_,hp⟩:=zco hR (len:=n) ha hm sq k e j v hk hj
  exact⟨y,hy,hp fR⟩)
 exact⟨arr,by simpa [Builtin.firstCells]using M,O⟩;cases h
theorem OJ(hR:R I w F μ P C){size:Nat}{x:V}{es:Z (Z V)}(W:dZ I w F μ x X)(h:Av C size x=some es)(cd:∀ e∈es,e.length=size) :
 ∃ base c,X=.slice base es.length c/\∃ arr,(Builtin.firstCells size es.length X).run P w=.ok arr w/\Flat I w F size es arr:=by
 let⟨base,c,M,O⟩:=V3 (P:=P) hR W h cd;let⟨arr,h3,h4⟩:=O _ (af _);grind
def Flat.one(hρ:Good I){size:Nat}{es:Z (Z V)}{arr:Array Value}(h:Flat I w F size es arr)(cd:∀ e∈es,e.length=size)(hc:∀ e∈es,∀ v∈e,v.mY=true) :
 ∀ y∈arr.toList,y.oneCell'=true:=by
 intro y hy;let⟨p,hp⟩:=qC hy;rw[gy]at hp;let⟨zFR,_⟩:=d9.1 hp;rw[h.1]at zFR;have C:0<size:=by rcases Nat.eq_zero_or_pos size with h0|h0;(subst h0;simp at zFR);exact h0
 have hk:p / size<es.length:=Nat.div_lt_of_lt_mul (by rwa [jW]);have hj:p % size<size:=Nat.mod_lt _ C;have GS:=cd _ (ax hk);have ju:p % size<es[p / size].length:=by omega
 let⟨y',Jx,S4⟩:=h.2 (p / size) es[p / size] (p % size) (es[p / size][p % size]) (by simp[hk]) (by simp[ju]);rw[show p / size*size+p % size=p by have:=ma p size;rw[jW]at this;omega]at Jx;rw[hp]at Jx;cases Jx;exact Wq (μ:=λ_ _=>none) hρ (.pure S4) (hc _ (ax hk) _ (ax ju))
theorem zkq {size st:Nat} {es new:Z (Z V)} {cells arr:Array Value} (aE:Flat I w F size new arr) (kx:∀ e∈new,e.length=size) (xd:∀ e∈es,e.length=size)
 (b4:st*size+arr.size<=cells.size) {Q:V->Value->Prop} (hQ:∀ v y,fJ I w F v y->Q v y)
 (b7:∀ (k:Nat) (e:Z V) (j:Nat) (v:V),es[k]?=some e->e[j]?=some v->∃ y,cells[k*size+j]?=some y/\Q v y) (eK:st+new.length<=es.length) :
 ∀ (k:Nat) (e:Z V) (j:Nat) (v:V),(kF es st new)[k]?=some e->e[j]?=some v->∃ y,(cover cells (st*size) arr.toList)[k*size+j]?=some y/\Q v y:=by
 intro k e j v hk hj;have kA:k<es.length:=by grind [List.getElem?_eq_some_iff,uZ]
 rw[FR _ _ _ _ kA]at hk;rw[KH (by simpa using b4)];simp only[jE,aE.1];by_cases h1:st<=k/\k<st+new.length;rw[if_pos h1]at hk;let⟨y,hy,hp⟩:=aE.2 (k-st) e j v hk hj;let⟨zyQ,_⟩:=d9.1 hy;rw[aE.1]at zyQ;have e1:k*size+j-st*size=(k-st)*size+j:=by rw[Nat.sub_mul];have:st*size<=k*size:=aQ _ h1.1;omega
 have e2:st*size<=k*size:=aQ _ h1.1;grind;rw [if_neg h1]at hk;have ju:j<size:=by grind
 rw[if_neg];grind;rintro ⟨M,O⟩;rcases Nat.lt_or_ge k st with cG|rK;have:(k+1)*size<=st*size:=aQ _ cG;grind;have zL9:st+new.length<=k:=by omega
 have:(st+new.length)*size<=k*size:=aQ _ zL9;grind
def zkt{es new:Z (Z V)}{st:Nat}{e:Z V}(h:e∈kF es st new):e∈es\/e∈new:=by
 let⟨k,hk⟩:=qC h
 have kA:k<es.length:=by
  let⟨cG,_⟩:=aM.1 hk
  rwa [uZ]at cG
 rw[FR _ _ _ _ kA]at hk;split at hk;exact .inr (aI hk);exact .inl (aI hk)
def Q6(hρ:Good I)(hR:R I w F μ P C){id:Nat}{a:Nat×Z (Z V)×Bool×Bool×Bool}(ha:ng C id g=some a)(xF:a.2.2.2.1=false)(hm:μ id g=some m)
 {new:Z (Z V)} {arr:Array Value} (aE:Flat I w F a.1 new arr) (kx:∀ e∈new,e.length=a.1) (cR:∀ e∈new,∀ v∈e,v.mY=true) {st:Nat} (eK:st+new.length<=a.2.1.length) :
 ∃ w',(storeCells ⟨m.b,st*a.1,none⟩ arr.toList).run P w=.ok () w'/\R I w' F μ P (C.wr id (.arr a.1 g (kF a.2.1 st new) a.2.2.1 false a.2.2.2.2)) /\
   Fr w F μ C w' F μ (C.wr id (.arr a.1 g (kF a.2.1 st new) a.2.2.1 false a.2.2.2.2)):=by
 have eJ:=hR.row ha hm;let⟨cells,el,hc,ht,hle,hex,b7⟩:=eJ.cells;have b4:st*a.1+arr.size<=cells.size:=by rw[aE.1,<- gJ,ht];exact aO (aQ _ eK) hle
 have hw:=XI hR ha xF hm hc (cA:=cover cells (st*a.1) arr.toList) (M7 (by simpa using b4)) (cT:=kF a.2.1 st new) (λe he=>by
  rcases zkt he with h|h;exact eJ.hlen e h
  exact kx e h) (uZ _ _ _)
  (zkq aE kx eJ.hlen b4 (Q:=λv y=>dZ I w F μ v y/\(a.2.2.2.2=true->fJ I w F v y)) (λv y h=>⟨.pure h,λ_=>h⟩) b7 eK)
 exact⟨_,Fa hc (by simpa using b4) (aE.one hρ kx cR),hw.1,hw.2⟩
end
end Go.J
