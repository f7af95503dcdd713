import Derived.Test.YtpcmebclpindjaaGreatJA
import Derived.Laws.Sem
import Derived.Laws.Cells
import Derived.Laws.Entries
import Derived.Laws.Strings
import Derived.Laws.BitsLemmas
import Derived.ChangeKeysEq
import Derived.IntWalk
import Derived.Laws.Tables
import Derived.Lib.Strings
set_option linter.all false
noncomputable section
/- Operations that only compute or read: each returns what the evaluator says. -/
namespace Go.J
theorem zdq{P:Program}{t:TypeId}{i:TI}(h:ti P t=some i) :
 ∃ info z,P.info? t=some info/\P.underlying t=some i.desc/\info.size=i.size/\info.bytes=i.bytes/\info.zero=some z/\zcq z.cells.toList=some i.zero:=by
 simp only[ti,za]at h;obtain⟨info,h1,d,h2,z,h3,cs,h4,h5⟩:=h;cases h5;exact⟨info,z,h1,h2,rfl,rfl,h3,h4⟩
section
variable {P:Program}{t:TypeId}{i:TI}(h:ti P t=some i)(w:World)
include h
theorem zM:(underlying t).run P w=.ok i.desc w:=by
 obtain⟨info,z,h1,h2,h3,h4,h5,h6⟩:=zdq h;exact Go.run_underlying h2 w
theorem zso:∃ info,(typeInfo t).run P w=.ok info w/\info.size=i.size/\info.bytes=i.bytes:=by
 obtain⟨info,z,h1,h2,h3,h4,h5,h6⟩:=zdq h;exact⟨info,by simp[typeInfo,h1],h3,h4⟩
theorem zbw:(sizeOf t).run P w=.ok i.size w:=by
 obtain⟨info,h1,h2,_⟩:=zso h w;simp[sizeOf,h1,h2]
theorem ziT:(isAgg t).run P w=.ok (zbf i.desc) w:=by
 simp only[isAgg,Sem.run_bind,zM h,Result.andThen_ok];cases i.desc<;>rfl
end
section
variable {ρ:Nat->Value}{P:Program}{w:World}{F:Nat->Prop}{μ:Nat->Nat->Option MI}{hs:HS}{T:PT V}
theorem ze0{x:Value}{v:V}(h:ze1 x=some v):PRep ρ w F v x:=by
 unfold ze1 at h;split at h<;>cases h
 . exact .bool _
 . exact .int _ _
 . exact .str _
 . exact .nilptr
 . exact .snil
 . exact .nilmap
 . exact .nilFunc
 . exact .nilIface
theorem zik:zcq []=some []:=rfl
theorem zhi(x:Value)(l:List Value):zcq (x::l)=ob (ze1 x) fun v=>ob (zcq l) fun r=>some (v::r):=rfl
theorem zbL:∀ {l:List Value} {vs:List V},zcq l=some vs->l.length=vs.length/\∀ (j:Nat) (v:V),vs[j]?=some v->∃ x,l[j]?=some x/\PRep ρ w F v x:=by
 intro l
 induction l with
 |nil=>intro vs h;rw[zik]at h;cases h;exact⟨rfl,fun j v hj=>by simp at hj⟩
 | cons x l ih =>
   intro vs h;rw[zhi]at h;simp only[za]at h;obtain⟨v,h1,r,h2,h3⟩:=h;cases h3;obtain⟨hl,ha⟩:=ih h2;refine⟨by simp[hl],fun j u hj=>?_⟩
   cases j with
   |zero=>simp at hj;subst hj;exact⟨x,by simp,ze0 h1⟩
   |succ j=>simp at hj;obtain⟨y,hy,hr⟩:=ha j u hj;exact⟨y,by simpa using hy,hr⟩
theorem zjm{x:Value}{v:V}(h:zcr x=some v):PRep ρ w F v x:=by
 unfold zcr at h;split at h
 . rename_i cs;simp only[za]at h;obtain⟨l,h1,h2⟩:=h;cases h2;obtain⟨hl,ha⟩:=zbL (ρ:=ρ) (w:=w) (F:=F) h1;refine .agg l cs (by simpa using hl) fun j u hj=>?_
   obtain⟨y,hy,hr⟩:=ha j u hj
   have:cs.getD j undef=y:=by
    rw[Array.getElem?_toList]at hy;simp[Array.getD_eq_getD_getElem?,hy]
   rw[this];exact hr
 . exact ze0 h
theorem zo{a:Act}(hT:zbt ρ w F μ T a.tmps){o:Operand}{v:V}(h:zi T o=some v):Rep ρ w F μ v (a.eval o):=by
 cases o with
 | tmp t =>
   obtain⟨x,hx,hr⟩:=hT t v h;have:a.eval (.tmp t)=x:=by simp[Act.eval,Array.getD_eq_getD_getElem?,hx]
   rw[this];exact hr
 |const c=>exact .pure (zjm h)
 |global g=>cases h
 |func f=>cases h;exact .pure (.func f)
theorem zqK:zay T []=some []:=rfl
theorem zmJ(o:Operand)(l:List Operand):zay T (o::l)=ob (zi T o) fun v=>ob (zay T l) fun r=>some (v::r):=rfl
theorem zjG{a:Act}(hT:zbt ρ w F μ T a.tmps):∀ {l:List Operand} {vs:List V},zay T l=some vs ->
 l.length=vs.length/\∀ (j:Nat) (v:V),vs[j]?=some v->∃ o,l[j]?=some o/\Rep ρ w F μ v (a.eval o):=by
 intro l
 induction l with
 |nil=>intro vs h;rw[zqK]at h;cases h;exact⟨rfl,fun j v hj=>by simp at hj⟩
 | cons x l ih =>
   intro vs h;rw[zmJ]at h;simp only[za]at h;obtain⟨v,h1,r,h2,h3⟩:=h;cases h3;obtain⟨hl,ha⟩:=ih h2;refine⟨by simp[hl],fun j u hj=>?_⟩
   cases j with
   |zero=>simp at hj;subst hj;exact⟨x,by simp,zo hT h1⟩
   |succ j=>simp at hj;obtain⟨y,hy,hr⟩:=ha j u hj;exact⟨y,by simpa using hy,hr⟩
theorem addr_add(b o n:Nat):(⟨b,o,none⟩:Addr).add n=⟨b,o+n,none⟩:=by
 unfold Addr.add;split
 . rename_i h;subst h;rfl
 . rfl
theorem zlF {t:TypeId} {i:TI} (hi:ti P t=some i) {b o:Nat} {cs:List V}
 (h:∀ (j:Nat) (v:V),cs[j]?=some v->∃ y,w.cell? ⟨b,o+j,none⟩=some y/\Rep ρ w F μ v y) {off:Nat} {v:V} (hp:zeZ i cs off=some v) :
 ∃ x,(loadVar t ⟨b,o+off,none⟩).run P w=.ok x w/\Rep ρ w F μ v x:=by
 unfold zeZ at hp;unfold loadVar;simp only[Sem.run_bind,ziT hi,Result.andThen_ok]
 cases hd:zbf i.desc with
 | true =>
   rw[hd,zU]at hp;simp only[z7q,zk,beq_true,zz,zca,zcf]at hp;obtain⟨hl,hv⟩:=hp;cases hv
   have hex:∀ j,j<i.size->∃ u y,cs[off+j]?=some u/\w.cell? ⟨b,o+(off+j),none⟩=some y/\Rep ρ w F μ u y:=by
    intro j hj
    have hlt:off+j<cs.length:=by
     simp at hl;omega
    obtain⟨y,hy,hr⟩:=h (off+j) cs[off+j] (by simp[hlt]);exact⟨_,y,by simp[hlt],hy,hr⟩
   have hrun:=run_loadCells (P:=P) w ⟨b,o+off,none⟩ i.size (fun j=>(w.cell? ⟨b,o+(off+j),none⟩).getD undef) (by
    intro j hj;obtain⟨u,y,_,hy,_⟩:=hex j hj
    rw[addr_add,Nat.add_assoc,hy];rfl)
   simp only[if_true,Sem.run_bind,zbw hi,Result.andThen_ok,hrun,Sem.run_pure];refine⟨_,rfl,.agg _ _ (by simpa using hl.symm) fun j u hj=>?_⟩
   have hj':j<i.size:=by
    have:=List.getElem?_eq_some_iff.1 hj;obtain⟨hlt,_⟩:=this;rw[hl]at hlt;exact hlt
   have hu:cs[off+j]?=some u:=by
    rw[List.getElem?_take,if_pos hj',List.getElem?_drop]at hj;exact hj
   obtain⟨u',y,hu',hy,hr⟩:=hex j hj';rw[hu]at hu';cases hu';simp[hj',hy];exact hr
 | false =>
   rw[hd,zD,zbC]at hp;obtain⟨y,hy,hr⟩:=h off v hp;exact⟨y,by simp[hy],hr⟩
theorem zs6 {t:TypeId} {i:TI} (hi:ti P t=some i) {cs:List V} {ys:Array Value} (hs:ys.size=cs.length)
 (h:∀ (j:Nat) (v:V),cs[j]?=some v->Rep ρ w F μ v (ys.getD j undef)) {off:Nat} {v:V} (hp:zeZ i cs off=some v) :
 ∃ x,(part t ys off).run P w=.ok x w/\Rep ρ w F μ v x:=by
 unfold zeZ at hp;unfold part;simp only[Sem.run_bind,ziT hi,Result.andThen_ok]
 cases hd:zbf i.desc with
 | true =>
   rw[hd,zU]at hp;simp only[z7q,zk,beq_true,zz,zca,zcf]at hp;obtain⟨hl,hv⟩:=hp;cases hv;simp only[if_true,Sem.run_bind,zbw hi,Result.andThen_ok,Sem.run_pure];have hle:off+i.size<=cs.length\/i.size=0:=by simp at hl;omega
   refine⟨_,rfl,.agg _ _ (by simp at hl ⊢;omega) fun j u hj=>?_⟩
   have hj':j<i.size:=by
    obtain⟨hlt,_⟩:=List.getElem?_eq_some_iff.1 hj;rw[hl]at hlt;exact hlt
   have hu:cs[off+j]?=some u:=by
    rw[List.getElem?_take,if_pos hj',List.getElem?_drop]at hj;exact hj
   have hr:=h _ u hu
   have e:(ys.extract off (off+i.size)).getD j undef=ys.getD (off+j) undef:=by
    have hlt:off+j<ys.size:=by
     obtain⟨hlt,_⟩:=List.getElem?_eq_some_iff.1 hu;omega
    rw[Array.getD_eq_getD_getElem?,Array.getD_eq_getD_getElem?,Array.getElem?_extract,if_pos (by omega)]
   rw[e];exact hr
 | false =>
   rw[hd,zD,zbC]at hp;have hr:=h off v hp;obtain⟨hlt,_⟩:=List.getElem?_eq_some_iff.1 hp;have hlt':off<ys.size:=by omega
   refine⟨ys[off],by simp[hlt'],?_⟩;simpa [Array.getD_eq_getD_getElem?,hlt']using hr
theorem zaM{id g:Nat}{a:Nat×List (List V)×Bool×Bool×Bool}(h:zaA hs id g=some a) :
 hs.H.get id=some (.arr a.1 g a.2.1 a.2.2.1 a.2.2.2.1 a.2.2.2.2)/\a.1≠0:=by
 simp only[zaA,za,zk,et_true,za8,beq_true,beq_false]at h;obtain⟨o,h1,b,h2,⟨h3,h4⟩,h5⟩:=h;cases h5
 cases o with
 | arr s g' es ex fz row =>
   cases h2;simp only at h3 h4 ⊢;subst h3;exact⟨h1,h4⟩
 |_=>cases h2
theorem R.row(hR:R ρ w F μ P hs){id g:Nat}{a:Nat×List (List V)×Bool×Bool×Bool}(h:zaA hs id g=some a){m:MI}(hm:μ id g=some m) :
 ArrRel ρ w F μ m a.1 a.2.1 a.2.2.1 a.2.2.2.1 a.2.2.2.2:=hR.obj id _ (zaM h).1 m hm
theorem ArrRel.cell{m:MI}{size:Nat}{es:List (List V)}{ex fz row:Bool}(h:ArrRel ρ w F μ m size es ex fz row){k j:Nat}{e:List V}{v:V}(hk:es[k]?=some e)(hj:e[j]?=some v) :
 ∃ y,w.cell? ⟨m.b,k*size+j,none⟩=some y/\Rep ρ w F μ v y/\(row=true->PRep ρ w F v y):=by
 obtain⟨cells,el,hc,_,_,_,hall⟩:=h.cells;obtain⟨y,hy,hr⟩:=hall k e j v hk hj;exact⟨y,by simp[World.cell?,hc,hy],hr⟩
def ValA(ρ:Nat->Value)(P:Program)(w:World)(F:Nat->Prop)(μ:Nat->Nat->Option MI)(s:Sem Value)(v:V):Prop:=∃ x,s.run P w=.ok x w/\Rep ρ w F μ v x
theorem zoi(hR:R ρ w F μ P hs){t:TypeId}{i:TI}(hi:ti P t=some i){p v:V}{x:Value}(hx:Rep ρ w F μ p x)(h:zf5 i hs p=some v) :
 ValA ρ P w F μ (Instr.loadAt t x) v:=by
 unfold zf5 at h;split at h
 . rename_i id g off;obtain⟨m,hm,rfl⟩:=hx.ptr_inv;simp only[za,zit,zbC]at h;obtain⟨a,ha,e,he,hp⟩:=h;have hr:=hR.row ha hm;have hne:=(zaM ha).2
   obtain⟨x,hrun,hrep⟩:=zlF (μ:=μ) (ρ:=ρ) (F:=F) (w:=w) hi (b:=m.b) (o:=off / a.1*a.1) (cs:=e) (fun j u hj=>by
    obtain⟨y,hy,hr,_⟩:=hr.cell he hj;exact⟨y,hy,hr⟩) hp
   rw[show off / a.1*a.1+off % a.1=off by rw[Nat.mul_comm];exact Nat.div_add_mod off a.1]at hrun;exact⟨x,by simp[Instr.loadAt,Instr.sureAddr,hrun],hrep⟩
 . rename_i cs;have hx:=hx.ref_inv
   cases hx with
   | ref _ b off ys hb hc hr =>
     obtain⟨x,hrun,hrep⟩:=zlF (μ:=μ) (ρ:=ρ) (F:=F) (w:=w) hi (b:=b) (o:=off) (cs:=cs) (fun j u hj=>⟨_,hc j u hj,.pure (hr j u hj)⟩) h;exact⟨x,by simpa [Instr.loadAt,Instr.sureAddr]using hrun,hrep⟩
 . cases h
end
end Go.J
/- Addresses,parts,comparisons: the operations that neither write nor make memory. -/
namespace Go.J
theorem natI_eq{n:Int}{m:Nat}:zzy n=some m↔n=(m:Int):=by
 cases n with
 |ofNat a=>simp[zzy];omega
 |negSucc a=>simp[zzy]
theorem V.int?_eq {v:V}{p:IntKind×Int}:v.int?=some p↔v=.int p.1 p.2:=by
 cases v<;>simp[V.int?]
 rename_i k n;cases p;simp
theorem V.bool?_eq {v:V}{b:Bool}:v.bool?=some b↔v=.bool b:=by cases v<;>simp[V.bool?]
theorem V.str?_eq {v:V}{s:List Nat}:v.str?=some s↔v=.str s:=by cases v<;>simp[V.str?]
theorem V.agg?_eq {v:V}{s:List V}:v.agg?=some s↔v=.agg s:=by cases v<;>simp[V.agg?]
theorem V.tuple?_eq {v:V}{s:List V}:v.tuple?=some s↔v=.tuple s:=by cases v<;>simp[V.tuple?]
theorem V.nat?_eq {v:V}{n:Nat}:v.nat?=some n↔∃ k,v=.int k (n:Int):=by
 simp only[V.nat?,za];constructor
 . rintro ⟨p,h1,h2⟩;rw[V.int?_eq]at h1;rw[natI_eq]at h2;exact⟨p.1,by rw[h1,h2]⟩
 . rintro ⟨k,rfl⟩;exact⟨(k,(n:Int)),rfl,natI_eq.2 rfl⟩
theorem zcj{d:TypeDesc}{e:TypeId}:zbv d=some e↔d=.slice e:=by cases d<;>simp[zbv]
theorem zlE{d:TypeDesc}{e:TypeId×TypeId}:mapOf d=some e↔d=.map e.1 e.2:=by
 cases d<;>simp[mapOf]
 cases e;simp
theorem fieldOf_eq{i:TI}{f:Nat}{fd:Field}:zh i f=some fd↔∃ fs,i.desc=.struct fs/\fs[f]?=some fd:=by
 unfold zh;cases i.desc<;>simp
theorem zmD{a b:IntKind}(h:zjv a=zjv b):a=b:=by cases a<;>cases b<;>first|rfl|(simp[zjv]at h)
theorem zek{a b:IntKind}:zgo a b=true↔a=b:=by
 unfold zgo;rw[beq_true];exact⟨zmD,fun h=>by rw[h]⟩
theorem eqI_true{a b:Int}:eqI a b=true↔a=b:=by
 cases a<;>cases b<;>simp[eqI]<;>omega
theorem zqM(a b:Int):eqI a b=(a == b):=by
 rw[Bool.eq_iff_iff,eqI_true];simp
theorem zsO{a b:Int}:ltI a b=true↔a<b:=by
 cases a<;>cases b<;>simp[ltI]<;>omega
theorem zgl(a b:Int):ltI a b=decide (a<b):=by
 rw[Bool.eq_iff_iff,zsO];simp
theorem zol(a b:Int):leI a b=decide (a<=b):=by
 unfold leI;rw[zim,zgl,Bool.eq_iff_iff];simp
theorem zep(k:IntKind)(n:Int):zeq k n=k.wrap n:=by
 unfold zeq;split
 . rename_i m
   cases h:Nat.blt m 9223372036854775808 with
   |true=>rw[zU,IntWalk.i64_in];have:=blt_true.1 h;simp;omega
   |false=>rw[zD]
 . rename_i m
   cases h:Nat.blt m 9223372036854775808 with
   |true=>rw[zU,IntWalk.i64_in];have:=blt_true.1 h;omega
   |false=>rw[zD]
 . rfl
theorem zdD(a b:Bool):zcP a b=(a == b):=by cases a<;>cases b<;>rfl
theorem zgR {s t:ByteArray}:bytesOf s=bytesOf t↔s=t:=by
 constructor
 . intro h
   have h':s.data.toList=t.data.toList:=by
    have inj:∀ (l m:List UInt8),l.map UInt8.toNat=m.map UInt8.toNat->l=m:=by
     intro l
     induction l with
     |nil=>intro m h;cases m<;>simp_all
     | cons x l ih=>intro m h;cases m with
       |nil=>simp at h
       |cons y m=>simp at h;rw[ih m (by simpa using h.2),UInt8.toNat_inj.1 h.1]
    exact inj _ _ h
   cases s;cases t;simp at h'
   congr
 . rintro rfl;rfl
theorem eqNs_true{l m:List Nat}:zlW l m=true↔l=m:=by
 induction l generalizing m with
 | nil=>cases m with
   |nil=>exact⟨fun _=>rfl,fun _=>rfl⟩
   |cons y m=>exact⟨(fun h=>by cases h),(fun h=>by cases h)⟩
 | cons x l ih=>cases m with
   |nil=>exact⟨(fun h=>by cases h),(fun h=>by cases h)⟩
   | cons y m =>
     show et (Nat.beq x y) (zlW l m)=true↔_;rw[et_true,beq_true,ih];simp
theorem zhE(s t:ByteArray):zlW (bytesOf s) (bytesOf t)=(s.toList == t.toList):=by
 rw[Bool.eq_iff_iff,eqNs_true,zgR];simp only[ByteArray.toList_eq,beq_iff_eq];constructor
 . rintro rfl;rfl
 . intro h;exact ByteArray.ext (Array.toList_inj.1 h)
theorem zlV(s t:ByteArray):zlW (bytesOf s) (bytesOf t)=(s == t):=by
 rw[Bool.eq_iff_iff,eqNs_true,zgR];have e:(s == t)=(s.data == t.data):=by cases s;cases t;rfl
 rw[e,beq_iff_eq];exact⟨fun h=>h ▸ rfl,fun h=>ByteArray.ext h⟩
theorem zkO:∀ (l m:List UInt8),zsN (l.map UInt8.toNat) (m.map UInt8.toNat)=Op.bytesLess l m:=by
 intro l
 induction l with
 |nil=>intro m;cases m<;>rfl
 | cons x l ih=>intro m;cases m with
   |nil=>rfl
   | cons y m =>
     show bi (Nat.blt x.toNat y.toNat) true (et (Nat.beq x.toNat y.toNat) (zsN (l.map UInt8.toNat) (m.map UInt8.toNat)))=(x<y||(x == y&&Op.bytesLess l m));rw[ih];have h1:Nat.blt x.toNat y.toNat=decide (x<y):=by rw[Bool.eq_iff_iff,blt_true];simp[UInt8.lt_iff_toNat_lt]
     have h2:Nat.beq x.toNat y.toNat=(x == y):=by rw[Bool.eq_iff_iff,beq_true,beq_iff_eq];exact UInt8.toNat_inj
     rw[h1,h2,zmK];cases decide (x<y)<;>simp[zU,zD]
theorem zh6(s t:ByteArray):zsN (bytesOf s) (bytesOf t)=Op.bytesLess s.toList t.toList:=by
 rw[ByteArray.toList_eq,ByteArray.toList_eq];exact zkO _ _
theorem zbI(s:ByteArray):(bytesOf s).length=s.size:=by unfold bytesOf;rw[List.length_map,Array.length_toList];rfl
theorem zlh(s:ByteArray)(n b:Nat)(h:(bytesOf s)[n]?=some b):∃ u:UInt8,s[n]?=some u/\u.toNat=b:=by
 have hlt:n<s.size:=by
  obtain⟨hlt,_⟩:=List.getElem?_eq_some_iff.1 h
  rwa [zbI]at hlt
 refine⟨s[n],ByteArray.getElem?_lt' s n hlt,?_⟩;simp only[bytesOf,List.getElem?_map,Option.map_eq_some_iff]at h;obtain⟨u,hu,rfl⟩:=h;rw[Array.getElem?_toList]at hu;obtain⟨h1,h2⟩:=Array.getElem?_eq_some_iff.1 hu;exact congrArg UInt8.toNat h2
section
variable {ρ:Nat->Value}{P:Program}{w:World}{F:Nat->Prop}{μ:Nat->Nat->Option MI}{hs:HS}{T:PT V}
theorem PRep.ref_drop{cs:List V}{b off n:Nat}(h:PRep ρ w F (.ref cs) (.pointer (some ⟨b,off,none⟩))):PRep ρ w F (.ref (cs.drop n)) (.pointer (some ⟨b,off+n,none⟩)):=by
 cases h with
 | ref _ _ _ ys hb hc hr =>
   refine .ref _ b (off+n) (fun i=>ys (n+i)) hb (fun i v hi=>?_) (fun i v hi=>?_)
   . rw[List.getElem?_drop]at hi;rw[Nat.add_assoc];exact hc _ v hi
   . rw[List.getElem?_drop]at hi;exact hr _ v hi
theorem zj7{t:TypeId}{i fi:TI}{f:Nat}{fd:Field}(hi:ti P t=some i)(hf:zh i f=some fd)(hfi:ti P fd.type=some fi)(hne:fi.size≠0){v r:V}{x:Value}
 (hx:Rep ρ w F μ v x) (h:zaC fd.offset v=some r):ValA ρ P w F μ (Instr.fieldAt t x f) r:=by
 obtain⟨fs,hd,hfs⟩:=fieldOf_eq.1 hf
 have key:∀ b off,(Instr.fieldAt t (.pointer (some ⟨b,off,none⟩)) f).run P w=.ok (.pointer (some ⟨b,off+fd.offset,none⟩)) w:=by
  intro b off;simp only[Instr.fieldAt,Sem.run_bind,zM hi,Result.andThen_ok,hd,hfs,Instr.sureAddr,Sem.run_pure,fieldPlace,zbw hfi,if_neg hne,addr_add]
 unfold zaC at h;split at h
 . rename_i id g off;cases h;obtain⟨m,hm,rfl⟩:=hx.ptr_inv;exact⟨_,key _ _,.ptr id g _ m hm⟩
 . rename_i cs;cases h;have hx:=hx.ref_inv;have hx':=hx
   cases hx with
   | ref _ b off ys hb hc hr =>
     refine⟨_,key _ _,.pure ?_⟩;rw[zcf];exact hx'.ref_drop
 . cases h
theorem ztb{t:TypeId}{i fi:TI}{f:Nat}{fd:Field}(hi:ti P t=some i)(hf:zh i f=some fd)(hfi:ti P fd.type=some fi){cs:List V}{r:V}{x:Value}
 (hx:Rep ρ w F μ (.agg cs) x) (h:zeZ fi cs fd.offset=some r):ValA ρ P w F μ (Instr.field t x f) r:=by
 obtain⟨fs,hd,hfs⟩:=fieldOf_eq.1 hf;obtain⟨ys,rfl,hs,hc⟩:=hx.agg_inv;obtain⟨y,hy,hr⟩:=zs6 hfi hs hc h;exact⟨y,by simp only[Instr.field,Sem.run_bind,zM hi,Result.andThen_ok,hd,hfs,asAgg,Sem.run_pure,hy],hr⟩
theorem zjy{t el:TypeId}{i e:TI}(hi:ti P t=some i)(hd:zbv i.desc=some el)(he:ti P el=some e){v r:V}{k:IntKind}{n:Nat}{x:Value}
 (hx:Rep ρ w F μ v x) (h:zcl e n v=some r):ValA ρ P w F μ (Instr.indexAt t x (.int k (n:Int))) r:=by
 rw[zcj]at hd
 have key:∀ b off len c,n<len->(Instr.indexAt t (.slice (some ⟨b,off,none⟩) len c) (.int k (n:Int))).run P w=.ok (.pointer (some ⟨b,off+n*e.size,none⟩)) w:=by
  intro b off len c hlt;have h1:(0:Int)<=(n:Int)/\(n:Int)<(len:Int):=⟨by omega,by omega⟩;simp only[Instr.indexAt,asIntOf,Sem.run_bind,Sem.run_pure,zM hi,Result.andThen_ok,hd,h1,and_self,if_true,zbw he,addr_add,Int.toNat_natCast]
 unfold zcl at h;split at h
 . rename_i es t';simp only[zk,za,zbC]at h;obtain⟨hsz,c,hc,hr⟩:=h;cases hr;have hsz':=sizes_eq.1 hsz;have hmem:=List.mem_of_getElem? hc;have hx:=hx.sl_inv
   cases hx with
   |slE a c' _ ht=>simp at hc
   | slC _ b off size c' _ ys hb hl hcell hrep hle ht =>
     have e1:size=e.size:=by rw[<- hl c hmem,hsz' c hmem]
     subst e1;obtain⟨hlt,_⟩:=List.getElem?_eq_some_iff.1 hc;refine⟨_,key _ _ _ _ hlt,.pure (.ref c b _ (fun j=>ys n j) hb (fun j v hj=>hcell n c j v hc hj) (fun j v hj=>hrep n c j v hc hj))⟩
 . rename_i id g off len cap;simp only[zk,blt_true]at h;obtain⟨hlt,hr⟩:=h;cases hr;obtain⟨m,c,hm,rfl,h1,h2,h3,h4⟩:=hx.own_inv;exact⟨_,key _ _ _ _ hlt,.ptr id g _ m hm⟩
 . cases h
theorem z5z {t:TypeId} {el:TypeId×Option Nat} {i e:TI} (hi:ti P t=some i) (hd:elemOf i.desc=some el) (he:ti P el.1=some e) {v r:V} {k:IntKind} {n:Nat} {x:Value}
 (hx:Rep ρ w F μ v x) (h:z2l el.2 e n v=some r):ValA ρ P w F μ (Instr.indexAt t x (.int k (n:Int))) r:=by
 unfold elemOf at hd;split at hd
 . rename_i s hs;cases hd;exact zjy hi (by rw[hs];rfl) he hx h
 . rename_i len s hs;cases hd;have h:gd (Nat.blt n len) (zaC (n*e.size) v)=some r:=h;simp only[zk,blt_true]at h;obtain⟨hlt,h⟩:=h
   have key:∀ b off,(Instr.indexAt t (.pointer (some ⟨b,off,none⟩)) (.int k (n:Int))).run P w=.ok (.pointer (some ⟨b,off+n*e.size,none⟩)) w:=by
    intro b off;have h1:(0:Int)<=(n:Int)/\(n:Int)<(len:Int):=⟨by omega,by omega⟩;simp only[Instr.indexAt,asIntOf,Sem.run_bind,Sem.run_pure,zM hi,Result.andThen_ok,hs,Instr.sureAddr,h1,and_self,if_true,zbw he,addr_add,Int.toNat_natCast]
   unfold zaC at h;split at h
   . rename_i id g off;cases h;obtain⟨m,hm,rfl⟩:=hx.ptr_inv;exact⟨_,key _ _,.ptr _ _ _ m hm⟩
   . rename_i cs;cases h;have hx:=hx.ref_inv;have hx':=hx
     cases hx with
     | ref _ b off ys hb hc hr =>
       refine⟨_,key _ _,.pure ?_⟩;rw[zcf];exact hx'.ref_drop
   . cases h
 . cases hd
theorem zsW{t:TypeId}{i:TI}(hi:ti P t=some i)(hd:isStr i.desc=true){l:List Nat}{k:IntKind}{n b:Nat}{x:Value}
 (hx:Rep ρ w F μ (.str l) x) (h:zeh l n=some b):ValA ρ P w F μ (Instr.index t x (.int k (n:Int))) (.int .u8 (Int.ofNat b)):=by
 obtain⟨s,rfl,rfl⟩:=hx.str_inv;rw[zbC]at h;obtain⟨u,hu,rfl⟩:=zlh s n b h
 have hd':i.desc=.string:=by
  cases h:i.desc<;>simp[isStr,h]at hd ⊢
 refine⟨.int .u8 (u.toNat:Int),?_,.pure (.int _ _)⟩;simp[Instr.index,asIntOf,zM hi,hd',hu]
theorem zmI{vs:List V}{k:Nat}{r:V}{x:Value}(hx:Rep ρ w F μ (.tuple vs) x)(h:zeh vs k=some r):ValA ρ P w F μ (Instr.extract x k) r:=by
 obtain⟨ys,rfl,hs,hc⟩:=hx.tuple_inv;rw[zbC]at h;have hr:=hc k r h;obtain⟨hlt,_⟩:=List.getElem?_eq_some_iff.1 h;have hlt':k<ys.size:=by omega
 refine⟨ys[k],by simp[Instr.extract,hlt'],?_⟩;simpa [Array.getD_eq_getD_getElem?,hlt']using hr
theorem zio{v:V}{x:Value}{b:Bool}(hx:Rep ρ w F μ v x)(h:zsJ v=some b):∃ a:Option Addr,x=.pointer a/\a.isNone=b:=by
 unfold zsJ at h;split at h<;>cases h
 . exact⟨none,hx.nilptr_inv,rfl⟩
 . obtain⟨m,hm,rfl⟩:=hx.ptr_inv;exact⟨_,rfl,rfl⟩
 . have hx:=hx.ref_inv;cases hx;exact⟨_,rfl,rfl⟩
theorem zin{v:V}{x:Value}{b:Bool}(hx:Rep ρ w F μ v x)(h:zsI v=some b):∃ (a:Option Addr) (n c:Nat),x=.slice a n c/\a.isNone=b:=by
 unfold zsI at h;split at h<;>cases h
 . exact⟨none,0,0,hx.snil_inv,rfl⟩
 . obtain⟨m,c,hm,rfl,_⟩:=hx.own_inv;exact⟨_,_,_,rfl,rfl⟩
 . have hx:=hx.sl_inv
   cases hx with
   |slC _ b off size c' _ ys hb hl hcell hrep hle ht=>exact⟨_,_,_,rfl,rfl⟩
theorem ziq{v:V}{x:Value}{b:Bool}(hx:Rep ρ w F μ v x)(h:zuk v=some b):∃ a:Option Nat,x=.map a/\a.isNone=b:=by
 unfold zuk at h;split at h<;>cases h
 . exact⟨none,hx.nilmap_inv,rfl⟩
 . obtain⟨m,hm,rfl⟩:=hx.map_inv;exact⟨_,rfl,rfl⟩
theorem zir{v:V}{x:Value}{b:Bool}(hx:Rep ρ w F μ v x)(h:zul v=some b):(x=.nilFunc/\b=true)\/((∃ f a c,x=.func f a c)/\b=false):=by
 unfold zul at h;split at h<;>cases h
 . exact .inl ⟨hx.nilFunc_inv,rfl⟩
 . obtain⟨ys,rfl,_⟩:=hx.func_inv;exact .inr ⟨⟨_,_,_,rfl⟩,rfl⟩
theorem zc4{a b:Option Bool}{r:Bool}(h:zgz a b=some r):∃ p q,a=some p/\b=some q/\((p=true/\r=q)\/(p=false/\q=true/\r=false)):=by
 simp only[zgz,za]at h;obtain⟨p,hp,q,hq,h⟩:=h;refine⟨p,q,hp,hq,?_⟩
 cases p with
 |true=>rw[zU]at h;cases h;exact .inl ⟨rfl,rfl⟩
 | false=>rw[zD]at h;cases q with
   |true=>rw[zU]at h;cases h;exact .inr ⟨rfl,rfl,rfl⟩
   |false=>rw[zD]at h;cases h
end
end Go.J
/- Operators,conversions,parts of slices,aggregates,look-ups. -/
namespace Go.J
section
variable {ρ:Nat->Value}{P:Program}{w:World}{F:Nat->Prop}{μ:Nat->Nat->Option MI}{hs:HS}{T:PT V}
theorem z6e{t:TypeId}{x y:V}{b:Bool}{X Y:Value}(hx:Rep ρ w F μ x X)(hy:Rep ρ w F μ y Y)(h:eqV P t x y=some b) :
 (Op.equal t X Y).run P w=.ok b w:=by
 have key:∀ d,(Op.equalIn (d+1) t X Y).run P w=.ok b w:=?_
 . exact key 9999
 intro d;simp only[eqV,za]at h;obtain⟨i,hi,h⟩:=h;unfold eqD at h;simp only[Op.equalIn,Sem.run_bind,zM hi,Result.andThen_ok];split at h
 . rename_i hd;simp only[za,V.bool?_eq]at h;obtain⟨p,rfl,q,rfl,h⟩:=h;cases h;rw[hx.bool_inv,hy.bool_inv,hd];simp[zdD]
 . rename_i e hd;obtain⟨p,q,hp,hq,hr⟩:=zc4 h;obtain⟨a,rfl,ha⟩:=zio hx hp;obtain⟨c,rfl,hc⟩:=zio hy hq;rw[hd];rcases hr with⟨rfl,rfl⟩|⟨rfl,rfl,rfl⟩
   . simp at ha;subst ha;simp[hc]
   . simp at hc;subst hc
     cases a with
     |none=>simp at ha
     |some a=>simp
 . rename_i e hd;obtain⟨p,q,hp,hq,hr⟩:=zc4 h;obtain⟨a,n1,c1,rfl,ha⟩:=zin hx hp;obtain⟨c,n2,c2,rfl,hc⟩:=zin hy hq;rw[hd];rcases hr with⟨rfl,rfl⟩|⟨rfl,rfl,rfl⟩
   . simp at ha;subst ha;simp[hc]
   . simp at hc;subst hc
     cases a with
     |none=>simp at ha
     |some a=>simp
 . rename_i e e' hd;obtain⟨p,q,hp,hq,hr⟩:=zc4 h;obtain⟨a,rfl,ha⟩:=ziq hx hp;obtain⟨c,rfl,hc⟩:=ziq hy hq;rw[hd];rcases hr with⟨rfl,rfl⟩|⟨rfl,rfl,rfl⟩
   . simp at ha;subst ha;simp[hc]
   . simp at hc;subst hc
     cases a with
     |none=>simp at ha
     |some a=>simp
 . rename_i e1 e2 e3 hd;obtain⟨p,q,hp,hq,hr⟩:=zc4 h;rw[hd];rcases zir hx hp with⟨rfl,e⟩|⟨⟨f,a,c,rfl⟩,e⟩<;>rcases zir hy hq with⟨rfl,e'⟩|⟨⟨f',a',c',rfl⟩,e'⟩<;>subst e<;>subst e'<;>simp_all
 . cases h
theorem zmL{op:BinOp}{t:TypeId}{x y:Operand}{X Y:Value}(h1:X≠.nilIface)(h2:∀ a,X≠.agg a):(eqGuard op t x y X Y).run P w=.ok () w:=by
 unfold eqGuard
 cases op<;>first
  |rfl
  |(simp;cases X<;>first|rfl|(exact absurd rfl h1)|(exact absurd rfl (h2 _)))
theorem zt1{op:BinOp}{k:IntKind}{a b:Int}{v:V}(t:TypeId)(h:arith op k a b=some v)(hs:zaL op=false) :
 ValA ρ P w F μ (binOp op t (.int k a) (.int k b)) v:=by
 have key:∀ x:Value,(binOp op t (.int k a) (.int k b)).run P w=.ok x w->PRep ρ w F v x->ValA ρ P w F μ (binOp op t (.int k a) (.int k b)) v:=fun x h hx=>⟨x,h,.pure hx⟩
 unfold arith at h
 cases op<;>simp only[zk,Option.some.injEq,reduceCtorEq]at h<;>first
  |(cases h;done)
  |(simp[zaL]at hs;done)
  |(subst h;refine key _ (by simp[binOp,Op.intBits]<;>rfl) ?_;exact .int _ _)
  |(subst h;refine key _ (by simp[binOp,Op.intArith]<;>rfl) ?_;rw[zep];exact .int _ _)
  |(subst h;refine key _ (by simp[binOp,Op.intCmp]<;>rfl) ?_;simp only[zqM,zgl,zol,zim,bne];exact .bool _)
  | (obtain⟨h0,h⟩:=h
     rw[za8]at h0;have hb:b≠0:=fun e=>by rw[eqI_true.2 e]at h0;cases h0
     subst h;refine key _ (by simp[binOp,Op.intDiv,hb]<;>rfl) ?_
     first|exact .int _ _|(rw[zep];exact .int _ _))
theorem zn4{op:BinOp}{k k':IntKind}{a b:Int}{v:V}(t:TypeId)(h:ziR op k a b=some v) :
 ValA ρ P w F μ (binOp op t (.int k a) (.int k' b)) v:=by
 unfold ziR at h;split at h
 . simp only[za]at h;obtain⟨m,hm,h⟩:=h;cases h
   cases b with
   | ofNat n =>
     cases hm;refine⟨.int k (a.fdiv (2 ^ min m k.bits)),?_,.pure (.int _ _)⟩;have:¬ (Int.ofNat m)<0:=Int.not_lt.2 (Int.natCast_nonneg m);simp only[binOp,Op.shift,if_neg this];rfl
   |negSucc n=>cases hm
 . cases h
theorem zrW{op:BinOp}{s u:ByteArray}{v:V}(t:TypeId)(h:ziK op (bytesOf s) (bytesOf u)=some v) :
 ValA ρ P w F μ (binOp op t (.string s) (.string u)) v:=by
 have key:∀ x:Value,(binOp op t (.string s) (.string u)).run P w=.ok x w->PRep ρ w F v x->ValA ρ P w F μ (binOp op t (.string s) (.string u)) v:=fun x h hx=>⟨x,h,.pure hx⟩
 unfold ziK at h
 cases op <;> simp only[zk,Option.some.injEq,reduceCtorEq]at h<;>first
  |(cases h;done)
  |(subst h;refine key _ (by simp[binOp,Op.stringOp]<;>rfl) ?_;simp only[zhE,zh6,zim];exact .bool _)
  |(subst h;refine key _ (by simp[binOp,Op.stringOp]<;>rfl) ?_;simp only[zhE,zh6,zim,zaf];cases Op.bytesLess s.toList u.toList<;>exact .bool _)
  | (obtain⟨h0,h⟩:=h
     subst h;rw[ble_true,zz,zz,zbI,zbI]at h0;refine key (.string (s++u)) ?_ ?_
     . have:¬ ((s.size+u.size:Nat):Int)>IntKind.i64.max:=by
        have e:IntKind.i64.max=9223372036854775807:=by decide
        rw[e];omega
       simp only[binOp,Op.stringOp,if_neg this];rfl
     . have e:zbh (bytesOf s) (bytesOf u)=bytesOf (s++u):=by
        rw[zat];simp[bytesOf]
       rw[e];exact .str _)
theorem z0G {op:BinOp} {t u:TypeId} {o1 o2:Operand} {x y v:V} {X Y:Value} (hx:Rep ρ w F μ x X) (hy:Rep ρ w F μ y Y) (h:zyx P op t x y=some v) :
 ValA ρ P w F μ (do eqGuard op t o1 o2 X Y;binOp op t X Y) v:=by
 have fin:X≠.nilIface->(∀ a,X≠.agg a)->ValA ρ P w F μ (binOp op t X Y) v->ValA ρ P w F μ (do eqGuard op t o1 o2 X Y;binOp op t X Y) v:=by
  rintro h1 h2 ⟨r,hr,hrep⟩;exact⟨r,by simp only[Sem.run_bind,zmL h1 h2,Result.andThen_ok,hr],hrep⟩
 unfold zyx at h;split at h
 . rename_i k a;simp only[za,V.int?_eq]at h;obtain⟨⟨k',b⟩,rfl,h⟩:=h;have e1:=hx.int_inv;subst e1;have e2:=hy.int_inv;subst e2;refine fin (fun e=>by cases e) (fun _ e=>by cases e) ?_;rw[zaf]at h;split at h
   . exact zn4 t h
   . rename_i hsh;simp only[zk,zek]at h;obtain⟨hk,h⟩:=h;dsimp only at hk h ⊢;subst hk;exact zt1 t h (by simpa using hsh)
 . rename_i a;simp only[za,V.str?_eq]at h;obtain⟨b,rfl,h⟩:=h;obtain⟨s,rfl,rfl⟩:=hx.str_inv;obtain⟨s',rfl,rfl⟩:=hy.str_inv;exact fin (fun e=>by cases e) (fun _ e=>by cases e) (zrW t h)
 . rename_i hni hns;unfold zgg at h
   have hnice:∀ b,eqV P t x y=some b->X≠.nilIface/\(∀ a,X≠.agg a)/\(∀ k n,X≠.int k n)/\(∀ s,X≠.string s)/\(∀ k n,X≠.float k n)/\(∀ k n m,X≠.complex k n m):=by
    intro b hb;simp only[eqV,za]at hb;obtain⟨i,hi,hb⟩:=hb;unfold eqD at hb;split at hb
    . simp only[za,V.bool?_eq]at hb;obtain⟨p,rfl,_⟩:=hb;rw[hx.bool_inv];simp
    . obtain⟨p,q,hp,hq,hr⟩:=zc4 hb;obtain⟨a,rfl,ha⟩:=zio hx hp;simp
    . obtain⟨p,q,hp,hq,hr⟩:=zc4 hb;obtain⟨a,_,_,rfl,ha⟩:=zin hx hp;simp
    . obtain⟨p,q,hp,hq,hr⟩:=zc4 hb;obtain⟨a,rfl,ha⟩:=ziq hx hp;simp
    . obtain⟨p,q,hp,hq,hr⟩:=zc4 hb;rcases zir hx hp with⟨rfl,e⟩|⟨⟨f,a,c,rfl⟩,e⟩<;>simp
    . cases hb
   have hb1:∀ b,eqV P t x y=some b->(binOp .eql t X Y).run P w=.ok (.bool b) w/\(binOp .neq t X Y).run P w=.ok (.bool (!b)) w:=by
    intro b hb;obtain⟨g1,g2,g3,g4,g5,g6⟩:=hnice b hb;have he:=z6e hx hy hb
    cases X<;>first
     |(exact absurd rfl g1)
     |(exact absurd rfl (g2 _))
     |(exact absurd rfl (g3 _ _))
     |(exact absurd rfl (g4 _))
     |(exact absurd rfl (g5 _ _))
     |(exact absurd rfl (g6 _ _ _))
     |(constructor<;>simp[binOp,he])
   cases op<;>simp only[za,reduceCtorEq]at h
   . obtain⟨b,hb,h⟩:=h;cases h;obtain⟨g1,g2,_⟩:=hnice b hb;exact fin g1 g2 ⟨_,(hb1 b hb).1,.pure (.bool _)⟩
   . obtain⟨b,hb,h⟩:=h;cases h;obtain⟨g1,g2,_⟩:=hnice b hb;exact fin g1 g2 ⟨_,(hb1 b hb).2,.pure (by rw[zim];exact .bool _)⟩
theorem z05{s d:TypeId}{i j:TI}(hi:ti P s=some i)(hj:ti P d=some j){v r:V}{x:Value}(hx:Rep ρ w F μ v x)(h:zkZ j.desc v=some r) :
 ValA ρ P w F μ (convert s d x) r:=by
 unfold zkZ at h;split at h
 . rename_i k hd;simp only[za,V.int?_eq]at h;obtain⟨p,rfl,h⟩:=h;cases h;have e:=hx.int_inv;subst e;refine⟨.int k (k.wrap p.2),?_,.pure (by rw[zep];exact .int _ _)⟩;simp only[convert,Sem.run_bind,zM hi,zM hj,Result.andThen_ok,hd];cases i.desc<;>rfl
 . rename_i hd;simp only[za,V.str?_eq]at h;obtain⟨l,rfl,h⟩:=h;cases h;have hx':=hx;obtain⟨s,rfl,rfl⟩:=hx.str_inv;refine⟨.string s,?_,hx'⟩;simp only[convert,Sem.run_bind,zM hi,zM hj,Result.andThen_ok,hd];cases i.desc<;>rfl
 . cases h
theorem ze2{k k':IntKind}{a b:Int}(less:Bool)(ts:Array TypeId)(t:TypeId) :
 ValA ρ P w F μ (if less then Builtin.min_ ts t #[.int k a,.int k' b]else Builtin.max_ ts t #[.int k a,.int k' b]) (.int k (bi (bi less (ltI b a) (ltI a b)) b a)):=by
 cases less with
 | true =>
   refine⟨.int k (if b<a then b else a),by simp[Builtin.min_,Builtin.min2],.pure ?_⟩;rw[zU,zaf,zgl];simp only[decide_eq_true_eq];exact .int _ _
 | false =>
   refine⟨.int k (if b>a then b else a),by simp[Builtin.max_,Builtin.max2],.pure ?_⟩;rw[zD,zaf,zgl];simp only[decide_eq_true_eq];exact .int _ _
end
end Go.J
/- Parts of slices,aggregates. -/
namespace Go.J
theorem isSomeO_true{α:Type}{x:Option α}:zN x=true↔∃ a,x=some a:=by cases x<;>simp[zN]
theorem ze8{α:Type}{x:Option α}:zN x=false↔x=none:=by cases x<;>simp[zN]
def Good(ρ:Nat->Value):Prop:=∀ k,(ρ k).oneCell'=true
section
variable {ρ:Nat->Value}{P:Program}{w:World}{F:Nat->Prop}{μ:Nat->Nat->Option MI}{hs:HS}{T:PT V}
theorem zb0{a:Act}(hT:zbt ρ w F μ T a.tmps){o:Option Operand}{y d r:Nat}(h:z9e T o y d=some r) :
 (o=none/\r=d)\/(∃ op k,o=some op/\a.eval op=.int k (r:Int)/\r<=y):=by
 cases o with
 |none=>left;exact⟨rfl,by have h:some d=some r:=h;cases h;rfl⟩
 | some op =>
   right;have h:(ob (zi T op) fun v=>ob v.nat? fun n=>gd (Nat.ble n y) (some n))=some r:=h;simp only[za,zk,ble_true,V.nat?_eq]at h;obtain⟨v,hv,n,⟨k,rfl⟩,hle,hr⟩:=h;cases hr;exact⟨op,k,rfl,(zo hT hv).int_inv,hle⟩
theorem zaI(k:IntKind){n y:Nat}(code:BoundsCode)(h:n<=y):(Instr.sliceBound (.int k (n:Int)) y code).run P w=.ok n w:=by
 have h1:(0:Int)<=(n:Int)/\(n:Int)<=(y:Int):=⟨by omega,by omega⟩;simp only[Instr.sliceBound,asIntOf,Sem.run_bind,Sem.run_pure,Result.andThen_ok,if_pos h1,Int.toNat_natCast]
theorem zdC {a:Act} (hT:zbt ρ w F μ T a.tmps) {len capJ cap l h m:Nat} {lo hi mx:Option Operand} (b:Bool) (hb:bounds T len capJ lo hi mx=some (l,h,m)) (h1:len<=capJ) (h2:capJ<=cap) :
 ∃ m',(Instr.sliceBounds b len cap (lo.map a.eval) (hi.map a.eval) (mx.map a.eval)).run P w=.ok (l,h,m') w/\l<=h/\h<=m/\m<=capJ /\
   (zN mx=true->m'=m)/\(zN mx=false->m=capJ/\m'=cap):=by
 unfold bounds at hb;simp only[zk,za]at hb;obtain⟨hmx,m1,hm,h',hh,l',hl,he⟩:=hb;cases he;unfold Instr.sliceBounds;rcases zb0 hT hm with⟨rfl,rfl⟩|⟨om,km,rfl,em,hm'⟩
 . have hll:l<=h:=by
    rcases zb0 hT hl with⟨rfl,rfl⟩|⟨ol,kl,rfl,el,hl'⟩
    . exact Nat.zero_le _
    . exact hl'
   have hle:h<=m:=by
    rcases zb0 hT hh with⟨rfl,rfl⟩|⟨oh,kh,rfl,eh,hh'⟩
    . exact h1
    . exact hh'
   refine⟨cap,?_,hll,hle,Nat.le_refl _,fun h=>by simp[zN]at h,fun _=>⟨rfl,rfl⟩⟩;rcases zb0 hT hh with⟨rfl,rfl⟩|⟨oh,kh,rfl,eh,hh'⟩
   . rcases zb0 hT hl with⟨rfl,rfl⟩|⟨ol,kl,rfl,el,hl'⟩
     . rfl
     . simp only[Option.map_some,Option.map_none,el,Sem.run_bind,Sem.run_pure,Result.andThen_ok,zaI _ _ hl']
   . have hh2:=Nat.le_trans hh' h2;rcases zb0 hT hl with⟨rfl,rfl⟩|⟨ol,kl,rfl,el,hl'⟩
     . simp only[Option.map_some,Option.map_none,eh,Sem.run_bind,Sem.run_pure,Result.andThen_ok,zaI _ _ hh2]
     . simp only[Option.map_some,Option.map_none,eh,el,Sem.run_bind,Sem.run_pure,Result.andThen_ok,zaI _ _ hh2,zaI _ _ hl']
 . rw [show zN (some om)=true from rfl,zU,isSomeO_true]at hmx;obtain⟨oh,rfl⟩:=hmx;rcases zb0 hT hh with⟨h0,_⟩|⟨oh',kh,e,eh,hh'⟩
   . cases h0
   . cases e
     have hll:l<=h:=by
      rcases zb0 hT hl with⟨rfl,rfl⟩|⟨ol,kl,rfl,el,hl'⟩
      . exact Nat.zero_le _
      . exact hl'
     refine⟨m,?_,hll,hh',hm',fun _=>rfl,fun h=>by simp[zN]at h⟩;simp only[Option.map_some,em,eh,Sem.run_bind,zaI _ _ (Nat.le_trans hm' h2),zaI _ _ hh',Result.andThen_ok];rcases zb0 hT hl with⟨rfl,rfl⟩|⟨ol,kl,rfl,el,hl'⟩
     . rfl
     . simp only[Option.map_some,el,Sem.run_bind,zaI _ _ hl',Result.andThen_ok,Sem.run_pure]
theorem zgS(s:ByteArray)(l h:Nat):bytesOf (s.extract l h)=(((bytesOf s).drop l).take (h-l)):=by
 unfold bytesOf;rw[Lib.extract_data,List.map_take,List.map_drop]
theorem zsg {a:Act} (hR:R ρ w F μ P hs) (hT:zbt ρ w F μ T a.tmps) {t:TypeId} {i:TI} (hi:ti P t=some i) {v r:V} {x:Value} {lo hi' mx:Option Operand}
 (hx:Rep ρ w F μ v x) (h:ziQ P T hs i v lo hi' mx=some r):ValA ρ P w F μ (Instr.sliceAt t x (lo.map a.eval) (hi'.map a.eval) (mx.map a.eval)) r:=by
 unfold ziQ at h;split at h
 . rename_i hd;simp only[za,V.str?_eq,zly,zk,za8,ze8]at h;obtain⟨s,rfl,rfl,⟨l,hh,m⟩,hb,hr⟩:=h;cases hr;obtain⟨s,rfl,rfl⟩:=hx.str_inv;obtain⟨m',hrun,h1,h2,h3,_,h4⟩:=zdC (P:=P) (w:=w) hT (cap:=s.size) false hb (Nat.le_refl _) (by rw[zz,zbI];exact Nat.le_refl _);rw[zz,zbI]at hrun;simp only[Option.map_none]at hrun;refine⟨.string (s.extract l hh),?_,.pure ?_⟩
   . simp only[Instr.sliceAt,Instr.slice,Sem.run_bind,zM hi,Result.andThen_ok,hd,Option.map_none,Option.isSome_none,Bool.false_eq_true,if_false,Sem.run_pure,hrun]
   . rw[zca,zcf,<- zgS];exact .str _
 . rename_i el hd;simp only[za]at h;obtain⟨e,he,h⟩:=h
   have key:∀ (ad:Option Addr) (len cap l hh m':Nat),(Instr.sliceBounds true len cap (lo.map a.eval) (hi'.map a.eval) (mx.map a.eval)).run P w=.ok (l,hh,m') w ->
    (Instr.sliceAt t (.slice ad len cap) (lo.map a.eval) (hi'.map a.eval) (mx.map a.eval)).run P w=.ok (.slice (if m'=l then ad else ad.map (·.add (l*e.size))) (hh-l) (m'-l)) w:=by
    intro ad len cap l hh m' hrun;simp only[Instr.sliceAt,Instr.slice,Sem.run_bind,zM hi,Result.andThen_ok,hd,hrun,zbw he,Sem.run_pure]
   split at h
   . simp only[zl0,za]at h;obtain⟨⟨l,hh,m⟩,hb,hr⟩:=h;cases hr;have e:=hx.snil_inv;subst e;obtain⟨m',hrun,h1,h2,h3,h4,h5⟩:=zdC (P:=P) (w:=w) hT (cap:=0) true hb (Nat.le_refl _) (Nat.le_refl _)
     have hm':m'=0:=by
      cases hs:zN mx with
      |true=>have:=h4 hs;omega
      |false=>exact(h5 hs).2
     refine⟨_,key _ _ _ _ _ _ hrun,.pure ?_⟩;have e1:hh-l=0:=by omega
     have e2:m'-l=0:=by omega
     simp only[Option.map_none,ite_self,e1,e2];exact .snil
   . rename_i es tight;simp only[zn3,zk,za,sizes_eq,zz]at h;obtain⟨hsz,⟨l,hh,m⟩,hb,hr⟩:=h;cases hr;have hx:=hx.sl_inv;rw[zca,zcf]
     cases hx with
     | slE ad c _ ht =>
       obtain⟨m',hrun,h1,h2,h3,h4,h5⟩:=zdC (P:=P) (w:=w) hT (cap:=c) true hb (Nat.le_refl _) (Nat.zero_le _);simp only[List.length_nil]at hb hrun h3 h4 h5;refine⟨_,key _ _ _ _ _ _ hrun,.pure ?_⟩;have e1:hh-l=0:=by omega
       rw[e1];simp only[List.drop_nil,List.take_nil];refine .slE _ _ _ fun hq=>?_
       cases hs:zN mx with
       |true=>have:=h4 hs;omega
       | false =>
         rw[hs,zD,et_true]at hq;have:=(h5 hs).2;have:=ht hq.1;omega
     | slC _ b off size c _ ys hb' hl hcell hrep hle ht =>
       obtain⟨m',hrun,h1,h2,h3,h4,h5⟩:=zdC (P:=P) (w:=w) hT (cap:=c) true hb (Nat.le_refl _) hle;have hlen:((es.drop l).take (hh-l)).length=hh-l:=by simp;omega
       have htight:(bi (zN mx) (Nat.beq hh m) (et tight (Nat.beq hh es.length))=true)->m'-l=hh-l:=by
        intro hq
        cases hs:zN mx with
        |true=>rw[hs,zU,beq_true]at hq;have:=h4 hs;omega
        | false =>
          rw[hs,zD,et_true,beq_true]at hq;have:=(h5 hs).2;have:=ht hq.1;omega
       refine⟨_,key _ _ _ _ _ _ hrun,.pure ?_⟩
       have hmm:hh<=m':=by
        cases hs:zN mx with
        |true=>have:=h4 hs;omega
        |false=>have:=(h5 hs).2;omega
       by_cases he0:m'=l
       . have e1:hh-l=0:=by omega
         rw[if_pos he0,e1,List.take_zero];exact .slE _ _ _ fun hq=>by omega
       . rw [if_neg he0];simp only[Option.map_some,addr_add];rw[show (Value.slice (some ⟨b,off+l*e.size,none⟩) (hh-l) (m'-l))=.slice (some ⟨b,off+l*e.size,none⟩) ((es.drop l).take (hh-l)).length (m'-l) by rw[hlen]]
         have hsame:es=[]\/size=e.size:=by
          cases es with
          |nil=>exact .inl rfl
          |cons x es=>exact .inr (by rw[<- hl x (by simp),hsz x (by simp)])
         refine .slC _ b _ e.size _ _ (fun i j=>ys (l+i) j) hb' (fun x hx=>hsz x (List.mem_of_mem_drop (List.mem_of_mem_take hx))) (fun i x j v hi hj=>?_) (fun i x j v hi hj=>?_) (by omega) (fun hq=>by rw[hlen];exact htight hq)
         . have hi':es[l+i]?=some x:=by
            rw[List.getElem?_take]at hi;split at hi
            . rwa [List.getElem?_drop]at hi
            . cases hi
           have:=hcell (l+i) x j v hi' hj;rcases hsame with rfl|rfl
           . simp at hi'
           . rw[show off+l*e.size+i*e.size+j=off+(l+i)*e.size+j by rw[Nat.add_mul];omega];exact this
         . have hi':es[l+i]?=some x:=by
            rw[List.getElem?_take]at hi;split at hi
            . rwa [List.getElem?_drop]at hi
            . cases hi
           exact hrep (l+i) x j v hi' hj
   . rename_i id g off len cap;simp only[zlz,za,zk,beq_true]at h;obtain⟨row,hrow,hsz,⟨l,hh,m⟩,hb,hz,hr⟩:=h;cases hr;obtain⟨mi,c,hm,rfl,g1,g2,g3,g4⟩:=hx.own_inv;have hms:mi.size=e.size:=by rw[(hR.row hrow hm).hsize,hsz]
     have hcap:len<=orc len (fun c=>c) cap/\orc len (fun c=>c) cap<=c:=by
      cases cap with
      |none=>exact⟨Nat.le_refl _,g1⟩
      |some k=>have:=g3 k rfl;subst this;exact⟨g1,Nat.le_refl _⟩
     obtain⟨m',hrun,h1,h2,h3,h4,h5⟩:=zdC (P:=P) (w:=w) hT (cap:=c) true hb hcap.1 hcap.2
     have hmm:m<=m'/\m'<=c:=by
      cases hs:zN mx with
      |true=>have:=h4 hs;omega
      |false=>have:=h5 hs;omega
     have hz':l=0\/l<m:=by
      cases hq:Nat.beq l 0 with
      |true=>exact .inl (beq_true.1 hq)
      |false=>dsimp only at hz;rw[hq,zD,blt_true]at hz;exact .inr hz
     have had:(if m'=l then (some ⟨mi.b,off,none⟩:Option Addr)else (some ⟨mi.b,off,none⟩:Option Addr).map (·.add (l*e.size)))=some ⟨mi.b,off+l*e.size,none⟩:=by
      by_cases he0:m'=l
      . have:l=0:=by omega
        subst this;simp[he0]
      . rw[if_neg he0];simp[addr_add]
     refine⟨_,key _ _ _ _ _ _ hrun,?_⟩;rw[had]
     have hsub:off+l*e.size+(m'-l)*mi.size=off+m'*mi.size:=by
      rw[<- hms,Nat.add_assoc,<- Nat.add_mul];congr 2;omega
     refine .own id g _ _ _ _ mi hm (by dsimp only;omega) ?_ ?_ ?_
     . rw[hsub];have:m'*mi.size<=c*mi.size:=Nat.mul_le_mul_right _ hmm.2;omega
     . intro k hk
       cases hs:zN mx with
       |true=>rw[hs,zU]at hk;cases hk;rw[h4 hs]
       | false =>
         rw[hs,zD]at hk
         cases cap with
         |none=>cases hk
         | some k' =>
           have hk:some (k'-l)=some k:=hk;cases hk;have:=g3 k' rfl;rw[(h5 hs).2];omega
     . intro hk
       cases hs:zN mx with
       |true=>rw[hs,zU]at hk;cases hk
       | false =>
         rw[hs,zD]at hk
         cases cap with
         |some k'=>cases hk
         |none=>rw[hsub,(h5 hs).2];exact g4 rfl
   . cases h
 . cases h
end
end Go.J
/- Aggregates;freezing. -/
namespace Go.J
section
variable {ρ:Nat->Value}{P:Program}{w:World}{F:Nat->Prop}{μ:Nat->Nat->Option MI}{hs:HS}{T:PT V}
def RelC(ρ:Nat->Value)(w:World)(F:Nat->Prop)(μ:Nat->Nat->Option MI)(cs:List V)(ys:Array Value):Prop :=
 ys.size=cs.length/\∀ (i:Nat) (v:V),cs[i]?=some v->Rep ρ w F μ v (ys.getD i undef)
theorem znF(hρ:Good ρ){v:V}{x:Value}(h:Rep ρ w F μ v x)(hv:∀ cs,v≠.agg cs):x.cells=#[x]:=by
 cases h with
 | pure h=>cases h with
   | sym k =>
     have:=hρ k;cases he:ρ k<;>rw[he]at this<;>first|rfl|(cases this)
   |agg cs ys hs hc=>exact absurd rfl (hv cs)
   |_=>rfl
 |agg cs ys hs hc=>exact absurd rfl (hv cs)
 |_=>rfl
theorem zeK(hρ:Good ρ){v:V}{x:Value}(h:Rep ρ w F μ v x):RelC ρ w F μ v.cells x.cells:=by
 by_cases hv:∃ cs,v=.agg cs
 . obtain⟨cs,rfl⟩:=hv;obtain⟨ys,rfl,hs,hc⟩:=h.agg_inv;exact⟨hs,hc⟩
 . have hv':∀ cs,v≠.agg cs:=fun cs e=>hv ⟨cs,e⟩
   rw[znF hρ h hv'];have hc:v.cells=[v]:=by cases v<;>first|rfl|(exact absurd rfl (hv' _))
   rw[hc];refine⟨rfl,fun i u hi=>?_⟩
   cases i with
   |zero=>simp at hi;subst hi;exact h
   |succ i=>simp at hi
theorem zlZ(hρ:Good ρ){v:V}{x:Value}(h:Rep ρ w F μ v x)(hv:v.isCell=true):x.oneCell'=true:=by
 cases h with
 | pure h=>cases h with
   |sym k=>exact hρ k
   |agg cs ys hs hc=>cases hv
   |tuple cs ys hs hc=>cases hv
   |_=>rfl
 |agg cs ys hs hc=>cases hv
 |tuple cs ys hs hc=>cases hv
 |_=>rfl
theorem zta(off:Nat):∀ (vs:List Value) (s:Nat) (cells:Array Value),
 ((vs.zipIdx s).foldl (fun cs p=>cs.setIfInBounds (off+p.2) p.1) cells).size=cells.size /\
 ∀ k,((vs.zipIdx s).foldl (fun cs p=>cs.setIfInBounds (off+p.2) p.1) cells)[k]?=if off+s<=k/\k<off+s+vs.length/\k<cells.size then vs[k-(off+s)]? else cells[k]?:=by
 intro vs
 induction vs with
 |nil=>intro s cells;exact⟨rfl,fun k=>by simp;intro h1 h2;omega⟩
 | cons v vs ih =>
   intro s cells;simp only[List.zipIdx_cons,List.foldl_cons];obtain⟨h1,h2⟩:=ih (s+1) (cells.setIfInBounds (off+s) v);refine⟨by simpa using h1,fun k=>?_⟩;rw[h2];simp only[Array.size_setIfInBounds,List.length_cons,Array.getElem?_setIfInBounds];by_cases hk:off+s=k
   . subst hk;rw[if_neg (by omega)];rw[if_pos rfl];by_cases hl:off+s<cells.size
     . rw[if_pos hl,if_pos (by omega)];simp
     . rw[if_neg hl,if_neg (by omega)];simp[Array.getElem?_eq_none (Nat.le_of_not_lt hl)]
   . by_cases hc:off+(s+1)<=k/\k<off+(s+1)+vs.length/\k<cells.size
     . rw[if_pos hc,if_pos (by omega),show k-(off+s)=(k-(off+(s+1)))+1 by omega,List.getElem?_cons_succ]
     . rw[if_neg hc,if_neg (by omega),if_neg (by omega)]
theorem zlL(off:Nat)(xs cells:Array Value) :
 (xs.zipIdx.foldl (fun cs (p:Value×Nat)=>cs.setIfInBounds (off+p.2) p.1) cells).size=cells.size /\
 ∀ k,(xs.zipIdx.foldl (fun cs (p:Value×Nat)=>cs.setIfInBounds (off+p.2) p.1) cells)[k]?=if off<=k/\k<off+xs.size/\k<cells.size then xs[k-off]? else cells[k]?:=by
 have h:=zta off xs.toList 0 cells;simp only[Nat.add_zero,Array.length_toList]at h
 have e:xs.zipIdx.foldl (fun cs (p:Value×Nat)=>cs.setIfInBounds (off+p.2) p.1) cells=(xs.toList.zipIdx 0).foldl (fun cs p=>cs.setIfInBounds (off+p.2) p.1) cells:=by
  rw[<- Array.foldl_toList,Array.toList_zipIdx]
 rw[e];refine⟨h.1,fun k=>?_⟩;rw[h.2 k];simp
theorem RelC.over{cs new:List V}{ys xs:Array Value}(h:RelC ρ w F μ cs ys)(hn:RelC ρ w F μ new xs)(off:Nat) :
 RelC ρ w F μ (zaE cs off new) (xs.zipIdx.foldl (fun cs (p:Value×Nat)=>cs.setIfInBounds (off+p.2) p.1) ys):=by
 obtain⟨h1,h2⟩:=zlL off xs ys;refine⟨by rw[h1,zbz];exact h.1,fun k v hk=>?_⟩
 have hlt:k<cs.length:=by
  obtain⟨hlt,_⟩:=List.getElem?_eq_some_iff.1 hk
  rwa [zbz]at hlt
 rw[zdt _ _ _ _ hlt]at hk;rw[Array.getD_eq_getD_getElem?,h2];have hsz:=h.1;have hsn:=hn.1;by_cases hc:off<=k/\k<off+new.length
 . rw[if_pos hc]at hk;rw[if_pos ⟨hc.1,by omega,by omega⟩];have:=hn.2 _ v hk
   rwa [Array.getD_eq_getD_getElem?]at this
 . rw[if_neg hc]at hk;rw[if_neg (by omega)];have:=h.2 _ v hk
   rwa [Array.getD_eq_getD_getElem?]at this
theorem zmZ(i:TI)(cells:List V):zdh P T i [] cells=some cells:=rfl
theorem zlj(i:TI)(p:Nat×Operand)(l:List (Nat×Operand))(cells:List V):zdh P T i (p::l) cells =
 ob (zh i p.1) fun fd=>ob (ti P fd.type) fun fi=>ob (zi T p.2) fun v =>
  gd (et (Nat.beq (zG v.cells) fi.size) (Nat.ble (fd.offset+fi.size) (zG cells))) (zdh P T i l (zaE cells fd.offset v.cells)):=rfl
theorem zmY(hρ:Good ρ){a:Act}(hT:zbt ρ w F μ T a.tmps){i:TI}{place:Nat->Option (Nat×Nat)}
 (hpl:∀ f fd fi,zh i f=some fd->ti P fd.type=some fi->place f=some (fd.offset,fi.size)) :
 ∀ (l:List (Nat×Operand)) (cs r:List V) (cells:Array Value),zdh P T i l cs=some r->RelC ρ w F μ cs cells ->
   ∃ cells',Instr.fill place cells (l.map fun (i,x)=>(i,a.eval x))=some cells'/\RelC ρ w F μ r cells':=by
 intro l
 induction l with
 |nil=>intro cs r cells h hc;rw[zmZ]at h;cases h;exact⟨cells,rfl,hc⟩
 | cons p l ih =>
   intro cs r cells h hc;rw[zlj]at h;simp only[za,zk,et_true,beq_true,ble_true,zz]at h;obtain⟨fd,hfd,fi,hfi,v,hv,⟨h1,h2⟩,h⟩:=h;have hrel:=zeK hρ (zo hT hv);have hsz:=hrel.1;have hcz:=hc.1;obtain⟨cells',hfill,hr⟩:=ih _ _ _ h (hc.over hrel fd.offset);refine⟨cells',?_,hr⟩;obtain⟨pi,px⟩:=p;simp only[List.map_cons,Instr.fill,hpl pi fd fi hfd hfi];rw[if_neg]
   . exact hfill
   . simp only[Bool.or_eq_true,decide_eq_true_eq,ne_eq,not_or,Decidable.not_not];dsimp only at hsz h1;constructor
     . omega
     . omega
theorem zgv{l:List Field}(h:zaO P l=true) :
 ∃ places:List (Nat×Nat),l.mapM (fun f=>(P.info? f.type).map fun i=>(f.offset,i.size))=some places /\
   ∀ (k:Nat) (fd:Field) (fi:TI),l[k]?=some fd->ti P fd.type=some fi->places[k]?=some (fd.offset,fi.size):=by
 have h':∀ f∈l,zN (ti P f.type)=true:=(zgW (fun f:Field=>zN (ti P f.type)) l).1 h;clear h
 induction l with
 |nil=>exact⟨[],rfl,fun k fd fi h=>by simp at h⟩
 | cons f l ih =>
   obtain⟨places,hm,hp⟩:=ih (fun x hx=>h' x (List.mem_cons_of_mem _ hx));obtain⟨i0,hi0⟩:=isSomeO_true.1 (h' f (List.mem_cons_self ..));obtain⟨info,z,h1,h2,h3,_⟩:=zdq hi0;refine⟨(f.offset,info.size)::places,by simp[List.mapM_cons,h1,hm],fun k fd fi hk hfi=>?_⟩
   cases k with
   | zero =>
     simp at hk;subst hk;rw[hi0]at hfi;cases hfi;simp[h3]
   |succ k=>simp at hk ⊢;exact hp k fd fi hk hfi
theorem zhV{t:TypeId}{i:TI}(hi:ti P t=some i):∃ info z,P.info? t=some info/\P.underlying t=some i.desc/\info.zero=some z/\RelC ρ w F μ i.zero z.cells/\(zeroValue t).run P w=.ok z w:=by
 obtain⟨info,z,h1,h2,h3,h4,h5,h6⟩:=zdq hi;obtain⟨hl,hz⟩:=zbL (ρ:=ρ) (w:=w) (F:=F) h6;refine⟨info,z,h1,h2,h5,⟨by simpa using hl,fun k v hk=>?_⟩,by simp[zeroValue,typeInfo,h1,h5]⟩;obtain⟨x,hx,hr⟩:=hz k v hk;rw[Array.getElem?_toList]at hx;rw[Array.getD_eq_getD_getElem?,hx];exact .pure hr
theorem ztu(hρ:Good ρ){a:Act}(hT:zbt ρ w F μ T a.tmps){t:TypeId}{i:TI}(hi:ti P t=some i){parts:Array (Nat×Operand)}{cs:List V}(hok:zaO P (fieldsOf i.desc)=true)
 (hst:zar i.desc=true) (h:zdh P T i parts.toList i.zero=some cs):ValA ρ P w F μ (Instr.build t (parts.map fun (i,x)=>(i,a.eval x))) (.agg cs):=by
 obtain⟨info,z,h1,h2,h3,hz,hrz⟩:=zhV (ρ:=ρ) (w:=w) (F:=F) (μ:=μ) hi;cases hd:i.desc<;>rw[hd]at hst<;>first|(cases hst;done)|skip
 rename_i fs;rw[hd]at hok h2;obtain⟨places,hpl,hp⟩:=zgv hok
 obtain⟨cells,hfill,hrel⟩:=zmY hρ hT (P:=P) (i:=i) (place:=(places.toArray[·]?)) (fun f fd fi hf hfi=>by
  obtain⟨fs',hd',hfs⟩:=fieldOf_eq.1 hf;rw[hd]at hd';cases hd';have:=hp f fd fi (by simpa [fieldsOf]using hfs) hfi
  simpa using this) _ _ _ _ h hz
 have hb:P.built t (parts.map fun (i,x)=>(i,a.eval x)).toList=some cells:=by
  unfold Program.built;rw[h1,h2];simp only[h3];simp only[fieldsOf]at hpl;rw[hpl];simpa using hfill
 exact⟨.agg cells,run_build w t _ _ hb,.agg _ _ hrel.1 hrel.2⟩
theorem zll(n:Nat)(cells:List V):zbV T n [] cells=some cells:=rfl
theorem zkj(n:Nat)(p:Nat×Operand)(l:List (Nat×Operand))(cells:List V):zbV T n (p::l) cells =
 ob (zi T p.2) fun v=>gd (et (Nat.beq (zG v.cells) n) (Nat.ble (p.1*n+n) (zG cells))) (zbV T n l (zaE cells (p.1*n) v.cells)):=rfl
theorem zlk(hρ:Good ρ){a:Act}(hT:zbt ρ w F μ T a.tmps){n:Nat} :
 ∀ (l:List (Nat×Operand)) (cs r:List V) (cells:Array Value),zbV T n l cs=some r->RelC ρ w F μ cs cells ->
   ∃ cells',Instr.fill (fun i=>some (i*n,n)) cells (l.map fun (i,x)=>(i,a.eval x))=some cells'/\RelC ρ w F μ r cells':=by
 intro l
 induction l with
 |nil=>intro cs r cells h hc;rw[zll]at h;cases h;exact⟨cells,rfl,hc⟩
 | cons p l ih =>
   intro cs r cells h hc;rw[zkj]at h;simp only[za,zk,et_true,beq_true,ble_true,zz]at h;obtain⟨v,hv,⟨h1,h2⟩,h⟩:=h;have hrel:=zeK hρ (zo hT hv);have hsz:=hrel.1;have hcz:=hc.1;obtain⟨pi,px⟩:=p;obtain⟨cells',hfill,hr⟩:=ih _ _ _ h (hc.over hrel (pi*n));refine⟨cells',?_,hr⟩;simp only[List.map_cons,Instr.fill];rw[if_neg]
   . exact hfill
   . simp only[Bool.or_eq_true,decide_eq_true_eq,ne_eq,not_or,Decidable.not_not];dsimp only at hsz h1 h2;constructor
     . omega
     . omega
theorem zri(hρ:Good ρ){a:Act}(hT:zbt ρ w F μ T a.tmps){t el:TypeId}{i e:TI}(hi:ti P t=some i)(hel:znc i.desc=some el)(he:ti P el=some e){parts:Array (Nat×Operand)}{cs:List V}
 (h:zbV T e.size parts.toList i.zero=some cs):ValA ρ P w F μ (Instr.build t (parts.map fun (i,x)=>(i,a.eval x))) (.agg cs):=by
 obtain⟨info,z,h1,h2,h3,hz,hrz⟩:=zhV (ρ:=ρ) (w:=w) (F:=F) (μ:=μ) hi;obtain⟨ie,ze,g1,g2,g3,_⟩:=zdq he
 have hd:∃ n,i.desc=.array n el:=by
  cases hd:i.desc<;>rw[hd]at hel<;>first|(cases hel;done)|skip
  cases hel;exact⟨_,rfl⟩
 obtain⟨n,hd⟩:=hd;rw[hd]at h2;obtain⟨cells,hfill,hrel⟩:=zlk hρ hT _ _ _ _ h hz
 have hb:P.built t (parts.map fun (i,x)=>(i,a.eval x)).toList=some cells:=by
  unfold Program.built;rw[h1,h2];simp only[h3,g1]
  first|rw[<- g3]|rw[g3]|simp only[g3]
  simpa using hfill
 exact⟨.agg cells,run_build w t _ _ hb,.agg _ _ hrel.1 hrel.2⟩
theorem zgI{size off len:Nat}{es l:List (List V)}(h:zdf size off len es=some l):off % size=0/\off / size+len<=es.length/\l=(es.drop (off / size)).take len:=by
 simp only[zdf,zk,et_true,beq_true,ble_true,zz,zca,zcf,Option.some.injEq]at h;exact⟨h.1.1,h.1.2,h.2.symm⟩
theorem zl5(hR:R ρ w F μ P hs){id g off len:Nat}{a:Nat×List (List V)×Bool×Bool×Bool}(ha:zaA hs id g=some a){m:MI}(hm:μ id g=some m)(hmod:off % a.1=0) :
 ∀ (i:Nat) (e:List V) (j:Nat) (v:V),((a.2.1.drop (off / a.1)).take len)[i]?=some e->e[j]?=some v ->
   ∃ y,w.cell? ⟨m.b,off+i*a.1+j,none⟩=some y/\Rep ρ w F μ v y/\(a.2.2.2.2=true->PRep ρ w F v y):=by
 intro i e j v hi hj
 have hi':a.2.1[off / a.1+i]?=some e:=by
  rw[List.getElem?_take]at hi;split at hi
  . rwa [List.getElem?_drop]at hi
  . cases hi
 obtain⟨y,hy,hr⟩:=(hR.row ha hm).cell hi' hj;refine⟨y,?_,hr⟩;rw[<- hy];have:off=a.1*(off / a.1):=by have:=Nat.div_add_mod off a.1;omega
 congr 2
 rw[Nat.add_mul]
 conv=>lhs;rw[this]
 rw[Nat.mul_comm a.1]
theorem zkw(hR:R ρ w F μ P hs){id g off len:Nat}{cap:Option Nat}{v':V}{x:Value}(hx:Rep ρ w F μ (.own id g off len cap) x)(h:zcU hs id g off len=some v')
 {F':Nat->Prop} (hF:∀ b,F b->F' b) (hb:∀ m,μ id g=some m->F' m.b):PRep ρ w F' v' x:=by
 simp only[zcU,za,zk]at h;obtain⟨a,ha,hrow,l,hl,hv⟩:=h;cases hv;obtain⟨hmod,hlen,rfl⟩:=zgI hl;obtain⟨m,c,hm,rfl,g1,g2,g3,g4⟩:=hx.own_inv
 have hll:((a.2.1.drop (off / a.1)).take len).length=len:=by
  simp;omega
 have hp:=zl5 hR (len:=len) ha hm hmod;rw[show (Value.slice (some ⟨m.b,off,none⟩) len c)=.slice (some ⟨m.b,off,none⟩) ((a.2.1.drop (off / a.1)).take len).length c by rw[hll]];refine .slC _ m.b off a.1 c false (fun i j=>(w.cell? ⟨m.b,off+i*a.1+j,none⟩).getD undef) (hb m hm) (fun e he=>(hR.row ha hm).hlen e (List.mem_of_mem_drop (List.mem_of_mem_take he))) (fun i e j v hi hj=>?_) (fun i e j v hi hj=>?_) (by omega) (fun h=>by cases h)
 . obtain⟨y,hy,_⟩:=hp i e j v hi hj;rw[hy];rfl
 . obtain⟨y,hy,_,hpr⟩:=hp i e j v hi hj;rw[hy];exact(hpr hrow).mono ρ hF (fun _ _=>rfl)
end
end Go.J
/- Values without numbers: what a value becomes when its rows are frozen;making objects. -/
namespace Go.J
section
variable {ρ:Nat->Value}{P:Program}{w:World}{F:Nat->Prop}{μ:Nat->Nat->Option MI}{hs:HS}{T:PT V}
def zrt(μ:Nat->Nat->Option MI)(F':Nat->Prop)(v:V):Prop:=∀ id g off len cap,v=.own id g off len cap->∀ m,μ id g=some m->F' m.b
theorem ziN(hR:R ρ w F μ P hs){v v':V}{x:Value}(hx:Rep ρ w F μ v x)(h:zbe hs v=some v'){F':Nat->Prop}(hF:∀ b,F b->F' b)(hb:zrt μ F' v):PRep ρ w F' v' x:=by
 unfold zbe at h;split at h
 . exact zkw hR hx h hF (hb _ _ _ _ _ rfl)
 . simp only[zk]at h;obtain⟨hp,h⟩:=h;cases h;exact(Rep.pure2 ρ hx hp).mono ρ hF (fun _ _=>rfl)
theorem zmp:zcn hs []=some []:=rfl
theorem zfN(v:V)(l:List V):zcn hs (v::l)=ob (zbe hs v) fun v'=>ob (zcn hs l) fun l'=>some (v'::l'):=rfl
theorem znw(hR:R ρ w F μ P hs){F':Nat->Prop}(hF:∀ b,F b->F' b):∀ {l l':List V},zcn hs l=some l'->(∀ v∈l,zrt μ F' v) ->
 l'.length=l.length/\∀ (i:Nat) (v':V),l'[i]?=some v'->∃ v,l[i]?=some v/\∀ x,Rep ρ w F μ v x->PRep ρ w F' v' x:=by
 intro l
 induction l with
 |nil=>intro l' h _;rw[zmp]at h;cases h;exact⟨rfl,fun i v' h=>by simp at h⟩
 | cons v l ih =>
   intro l' h hin;rw[zfN]at h;simp only[za]at h;obtain⟨v1,h1,r,h2,h3⟩:=h;cases h3;obtain⟨hl,ha⟩:=ih h2 (fun u hu=>hin u (List.mem_cons_of_mem _ hu));refine⟨by simp[hl],fun i u hi=>?_⟩
   cases i with
   |zero=>simp at hi;subst hi;exact⟨v,by simp,fun x hx=>ziN hR hx h1 hF (hin v (List.mem_cons_self ..))⟩
   |succ i=>simp at hi;obtain⟨y,hy,hr⟩:=ha i u hi;exact⟨y,by simpa using hy,hr⟩
theorem zfP(hR:R ρ w F μ P hs){v v':V}{x:Value}(hx:Rep ρ w F μ v x)(h:zaF hs v=some v'){F':Nat->Prop}(hF:∀ b,F b->F' b)(hb:∀ u∈v.cells,zrt μ F' u):PRep ρ w F' v' x:=by
 unfold zaF at h;split at h
 . rename_i cs;simp only[za]at h;obtain⟨l,hl,h⟩:=h;cases h;obtain⟨ys,rfl,hs',hc⟩:=hx.agg_inv;obtain⟨hlen,ha⟩:=znw hR hF hl hb;refine .agg l ys (by omega) fun i u hi=>?_
   obtain⟨v,hv,hr⟩:=ha i u hi;exact hr _ (hc i v hv)
 . rename_i hna;have hc:v.cells=[v]:=by cases v<;>first|rfl|(exact absurd rfl (hna _))
   exact ziN hR hx h hF (hb v (by rw[hc];simp))
theorem zmq:zaw hs []=some []:=rfl
theorem zkz(v:V)(l:List V):zaw hs (v::l)=ob (zaF hs v) fun v'=>ob (zaw hs l) fun l'=>some (v'::l'):=rfl
theorem zfO(hR:R ρ w F μ P hs){F':Nat->Prop}(hF:∀ b,F b->F' b):∀ {l l':List V},zaw hs l=some l'->(∀ v∈l,∀ u∈v.cells,zrt μ F' u) ->
 l'.length=l.length/\∀ (i:Nat) (v':V),l'[i]?=some v'->∃ v,l[i]?=some v/\∀ x,Rep ρ w F μ v x->PRep ρ w F' v' x:=by
 intro l
 induction l with
 |nil=>intro l' h _;rw[zmq]at h;cases h;exact⟨rfl,fun i v' h=>by simp at h⟩
 | cons v l ih =>
   intro l' h hin;rw[zkz]at h;simp only[za]at h;obtain⟨v1,h1,r,h2,h3⟩:=h;cases h3;obtain⟨hl,ha⟩:=ih h2 (fun u hu=>hin u (List.mem_cons_of_mem _ hu));refine⟨by simp[hl],fun i u hi=>?_⟩
   cases i with
   |zero=>simp at hi;subst hi;exact⟨v,by simp,fun x hx=>zfP hR hx h1 hF (hin v (List.mem_cons_self ..))⟩
   |succ i=>simp at hi;obtain⟨y,hy,hr⟩:=ha i u hi;exact⟨y,by simpa using hy,hr⟩
theorem ziM(hR:R ρ w F μ P hs){v v':V}{x:Value}(hx:Rep ρ w F μ v x)(h:still hs v=some v'){F':Nat->Prop}(hF:∀ b,F b->F' b)(hb:∀ id g m,μ id g=some m->F' m.b):PRep ρ w F' v' x:=by
 have hin:∀ u,zrt μ F' u:=fun u id g off len cap _ m hm=>hb id g m hm
 unfold still at h;split at h
 . rename_i cs;simp only[za]at h;obtain⟨l,hl,h⟩:=h;cases h;obtain⟨ys,rfl,hs',hc⟩:=hx.tuple_inv;obtain⟨hlen,ha⟩:=zfO hR hF hl (fun v _ u _=>hin u);refine .tuple l ys (by omega) fun i u hi=>?_
   obtain⟨v,hv,hr⟩:=ha i u hi;exact hr _ (hc i v hv)
 . exact zfP hR hx h hF (fun u _=>hin u)
def Colder(hs hs':HS):Prop:=hs'.n=hs.n/\∀ id,hs'.H.get id=hs.H.get id \/
 ∃ size gen es exact fz row,hs.H.get id=some (.arr size gen es exact fz row)/\hs'.H.get id=some (.arr size gen es exact true row)
theorem Colder.refl(hs:HS):Colder hs hs:=⟨rfl,fun _=>.inl rfl⟩
theorem Colder.trans{a b c:HS}(h:Colder a b)(h':Colder b c):Colder a c:=by
 refine⟨h'.1.trans h.1,fun id=>?_⟩;rcases h.2 id with h1|⟨s,g,es,ex,fz,row,h1,h1'⟩<;>rcases h'.2 id with h2|⟨s2,g2,es2,ex2,fz2,row2,h2,h2'⟩
 . exact .inl (h2.trans h1)
 . rw[h1]at h2;exact .inr ⟨s2,g2,es2,ex2,fz2,row2,h2,h2'⟩
 . exact .inr ⟨s,g,es,ex,fz,row,h1,h2.trans h1'⟩
 . rw[h1']at h2;cases h2;exact .inr ⟨s,g,es,ex,fz,row,h1,h2'⟩
theorem zj2 (hR:R ρ w F μ P hs) (id:Nat):∃ F',R ρ w F' μ P (zQ hs id)/\Fr w F μ hs w F' μ (zQ hs id)/\Colder hs (zQ hs id) /\
 (∀ size gen es exact fz row m,hs.H.get id=some (.arr size gen es exact fz row)->μ id gen=some m->F' m.b):=by
 cases ho:hs.H.get id with
 | none =>
   have e:zQ hs id=hs:=by simp only[zQ,ho];rfl
   rw[e];exact⟨F,hR,Fr.refl ..,Colder.refl _,fun size gen es exact fz row m h _=>by cases h⟩
 | some o =>
   cases o with
   | arr size gen es exact fz row =>
     have e:zQ hs id=hs.wr id (.arr size gen es exact true row):=by simp only[zQ,ho];rfl
     rw[e];have h:=hR.freeze (hs':=hs.wr id (.arr size gen es exact true row)) ho (fun k=>zdR _ _ _ _);refine⟨_,h.1,h.2,⟨rfl,fun k=>?_⟩,?_⟩
     . rw[zdR];by_cases e:k=id
       . subst e;rw[if_pos rfl];exact .inr ⟨_,_,_,_,_,_,ho,rfl⟩
       . rw[if_neg e];exact .inl rfl
     . intro s g es' ex fz' row' m h1 h2;cases h1;exact .inr ⟨m,h2,rfl⟩
   | mp es =>
     have e:zQ hs id=hs:=by simp only[zQ,ho];rfl
     rw[e];exact⟨F,hR,Fr.refl ..,Colder.refl _,fun size gen es exact fz row m h _=>by cases h⟩
   | lp a b c d e f =>
     have e:zQ hs id=hs:=by simp only[zQ,ho];rfl
     rw[e];exact⟨F,hR,Fr.refl ..,Colder.refl _,fun size gen es exact fz row m h _=>by cases h⟩
theorem zdy(v:V)(l:List V):zaB hs (v::l)=zaN (zaB hs l) v:=rfl
theorem zmG (hR:R ρ w F μ P hs):∀ l:List V,∃ F',R ρ w F' μ P (zaB hs l)/\Fr w F μ hs w F' μ (zaB hs l)/\Colder hs (zaB hs l) /\
 (∀ v∈l,∀ id g off len cap,v=.own id g off len cap->∀ size es exact fz row m,hs.H.get id=some (.arr size g es exact fz row)->μ id g=some m->F' m.b):=by
 intro l
 induction l with
 |nil=>exact⟨F,hR,Fr.refl ..,Colder.refl _,fun v hv=>by simp at hv⟩
 | cons v l ih =>
   obtain⟨F1,h1,h2,h3,h4⟩:=ih;rw[zdy];unfold zaN;split
   . rename_i id g off len cap;obtain⟨F2,g1,g2,g3,g4⟩:=zj2 h1 id;refine⟨F2,g1,h2.trans g2,h3.trans g3,fun u hu id' g' off' len' cap' he size es exact fz row m hg hm=>?_⟩;rcases List.mem_cons.1 hu with rfl|hu
     . cases he;rcases h3.2 id with hk|⟨s,g0,es0,ex0,fz0,row0,hk1,hk2⟩
       . exact g4 _ _ _ _ _ _ m (hk.trans hg) hm
       . rw[hg]at hk1;cases hk1;exact g4 _ _ _ _ _ _ m hk2 hm
     . exact g2.fm _ (h4 u hu id' g' off' len' cap' he size es exact fz row m hg hm)
   . rename_i hno;refine⟨F1,h1,h2,h3,fun u hu id' g' off' len' cap' he=>?_⟩;rcases List.mem_cons.1 hu with rfl|hu
     . exact absurd he (hno _ _ _ _ _)
     . exact h4 u hu id' g' off' len' cap' he
theorem zms{id g off len:Nat}{cap:Option Nat}{v':V}(h:zbe hs (.own id g off len cap)=some v'):∃ size es exact fz row,hs.H.get id=some (.arr size g es exact fz row):=by
 have h:zcU hs id g off len=some v':=h;simp only[zcU,za]at h;obtain⟨a,ha,_⟩:=h;exact⟨_,_,_,_,_,(zaM ha).1⟩
theorem zmo:∀ {l l':List V},zcn hs l=some l'->∀ v∈l,∃ v',zbe hs v=some v':=by
 intro l
 induction l with
 |nil=>intro l' _ v hv;simp at hv
 | cons u l ih =>
   intro l' h v hv;rw[zfN]at h;simp only[za]at h;obtain⟨v1,h1,r,h2,h3⟩:=h;rcases List.mem_cons.1 hv with rfl|hv
   . exact⟨_,h1⟩
   . exact ih h2 v hv
theorem zmr{v v':V}(h:zaF hs v=some v'):∀ u∈v.cells,∃ u',zbe hs u=some u':=by
 unfold zaF at h;split at h
 . rename_i cs;simp only[za]at h;obtain⟨l,hl,h⟩:=h;exact zmo hl
 . rename_i hna;have hc:v.cells=[v]:=by cases v<;>first|rfl|(exact absurd rfl (hna _))
   rw[hc];intro u hu;simp at hu;subst hu;exact⟨_,h⟩
theorem zcG(hR:R ρ w F μ P hs){v v':V}{x:Value}{hs':HS}(hx:Rep ρ w F μ v x)(h:zaT v hs=some (v',hs')) :
 ∃ F',R ρ w F' μ P hs'/\Fr w F μ hs w F' μ hs'/\Colder hs hs'/\PRep ρ w F' v' x:=by
 simp only[zaT,za]at h;obtain⟨u,hu,h⟩:=h;cases h;obtain⟨F',h1,h2,h3,h4⟩:=zmG hR v.cells;refine⟨F',h1,h2,h3,zfP hR hx hu h2.fm fun c hc id g off len cap he m hm=>?_⟩;obtain⟨c',hc'⟩:=zmr hu c hc;subst he;obtain⟨size,es,exact,fz,row,hg⟩:=zms hc';exact h4 _ hc id g off len cap rfl size es exact fz row m hg hm
end
end Go.J
/- Operations that make an object. -/
namespace Go.J
section
variable {ρ:Nat->Value}{P:Program}{w w':World}{F:Nat->Prop}{μ:Nat->Nat->Option MI}{hs:HS}{T:PT V}
def ValB(ρ:Nat->Value)(P:Program)(w:World)(F:Nat->Prop)(μ:Nat->Nat->Option MI)(hs:HS)(s:Sem Value)(v:V)(hs':HS):Prop :=
 ∃ x w' F' μ',s.run P w=.ok x w'/\R ρ w' F' μ' P hs'/\Rep ρ w' F' μ' v x/\Fr w F μ hs w' F' μ' hs'
theorem ValA.toB(hR:R ρ w F μ P hs){s:Sem Value}{v:V}(h:ValA ρ P w F μ s v):ValB ρ P w F μ hs s v hs:=by
 obtain⟨x,h1,h2⟩:=h;exact⟨x,w,F,μ,h1,hR,h2,Fr.refl ..⟩
def ziC(μ:Nat->Nat->Option MI)(hs:HS)(id:Nat):Prop:=hs.H.get id=none/\∀ g,μ id g=none
theorem zlD(hR:R ρ w F μ P hs){id:Nat}(hid:ziC μ hs id){size:Nat}{es:List (List V)}{exact row:Bool}{cells:Array Value}{el:TypeId}
 (hsz:w'.heap.size=w.heap.size+1) (hnew:w'.heap[w.heap.size]?=some (.cells cells el (0,0))) (hold:∀ b,b<w.heap.size->w'.heap[b]?=w.heap[b]?)
 (hlen:∀ e∈es,e.length=size) (hle:es.length*size<=cells.size) (hex:exact=true->cells.size=es.length*size)
 (hall:∀ (k:Nat) (e:List V) (j:Nat) (v:V),es[k]?=some e->e[j]?=some v->∃ y,cells[k*size+j]?=some y/\Rep ρ w F μ v y/\(row=true->PRep ρ w F v y)) (hio:Io w w':=by exact⟨rfl,rfl,rfl⟩) :
 R ρ w' F (upd μ id 0 ⟨w.heap.size,size,cells.size⟩) P (hs.put id (.arr size 0 es exact false row))/\Fr w F μ hs w' F (upd μ id 0 ⟨w.heap.size,size,cells.size⟩) (hs.put id (.arr size 0 es exact false row)):=by
 refine hR.alloc (hs':=hs.put id (.arr size 0 es exact false row)) (o:=.arr size 0 es exact false row) hid.1 hid.2 rfl rfl (Nat.le_refl _) (by show w.heap.size<_;omega) hold (fun k=>zaz _ _ _ _) ?_ hio;intro m hm;rw[upd_same]at hm;cases hm;refine⟨rfl,hlen,⟨cells,el,hnew,rfl,hle,hex,fun k e j v hk hj=>?_⟩,(fun h=>by cases h),fun _ hF=>?_⟩
 . obtain⟨y,hy,hr,hp⟩:=hall k e j v hk hj;refine⟨y,hy,hr.mono ρ (fun _ h=>h) (fun b hb=>hold b (hR.flt b hb)) (fun i g m1 h1=>?_),fun h=>(hp h).mono ρ (fun _ h=>h) (fun b hb=>hold b (hR.flt b hb))⟩;rw[zad];exact h1;rintro ⟨rfl,rfl⟩;rw[hid.2]at h1;cases h1
 . have:=hR.flt _ hF;exact Nat.lt_irrefl _ this
theorem zum (hR:R ρ w F μ P hs) {id:Nat} (hid:ziC μ hs id) {cs:List V} {ys:Array Value} (el:TypeId) (hc:RelC ρ w F μ cs ys) :
 ∃ μ',R ρ (zbO w (.cells ys el)) F μ' P (hs.put id (.arr cs.length 0 [cs] true false false))/\Fr w F μ hs (zbO w (.cells ys el)) F μ' (hs.put id (.arr cs.length 0 [cs] true false false)) /\
   Rep ρ (zbO w (.cells ys el)) F μ' (.ptr id 0 0) (.pointer (some ⟨w.heap.size,0,none⟩)):=by
 have h:=zlD hR hid (w':=zbO w (.cells ys el)) (size:=cs.length) (es:=[cs]) (exact:=true) (row:=false) (cells:=ys) (el:=el) (za7 _ _) (zbu _ _) (fun b hb=>zaU _ _ hb)
  (fun e he=>by simp at he;rw[he]) (by simp;exact Nat.le_of_eq hc.1.symm) (fun _=>by simp;exact hc.1) (fun k e j v hk hj=>by
    cases k with
    | zero =>
      simp at hk;subst hk
      have hlt:j<ys.size:=by
       obtain⟨hlt,_⟩:=List.getElem?_eq_some_iff.1 hj;rw[hc.1];exact hlt
      have:=hc.2 j v hj;rw[Array.getD_eq_getD_getElem?,Array.getElem?_eq_getElem hlt]at this;exact⟨ys[j],by simp[hlt],this,fun h=>by cases h⟩
    |succ k=>simp at hk)
 exact⟨_,h.1,h.2,.ptr id 0 0 _ (upd_same ..)⟩
theorem zt4(hR:R ρ w F μ P hs){id:Nat}(hid:ziC μ hs id){t:TypeId}{v:V}{hs':HS}(h:zdi P hs id t=some (v,hs')):ValB ρ P w F μ hs (Instr.alloc t true (.tuple #[])) v hs':=by
 simp only[zdi,za,zk,beq_true,zz]at h;obtain⟨i,hi,hl,h⟩:=h;cases h;obtain⟨info,z,h1,h2,h3,hz,hrz⟩:=zhV (ρ:=ρ) (w:=w) (F:=F) (μ:=μ) hi;obtain⟨μ',g1,g2,g3⟩:=zum hR hid t hz;rw[<- hl];refine⟨_,_,F,μ',?_,g1,g3,g2⟩;simp only[Instr.alloc,Sem.run_bind,hrz,Result.andThen_ok,newVar,newRow,run_newObj,Sem.run_pure]
 first|done|rfl
theorem z6W(hρ:Good ρ)(hR:R ρ w F μ P hs){id:Nat}(hid:ziC μ hs id){a:Act}(hT:zbt ρ w F μ T a.tmps)(t:TypeId){x:Operand}{v:V}{hs':HS}(h:znj T hs id x=some (v,hs')) :
 ValB ρ P w F μ hs (Instr.box t (a.eval x)) v hs':=by
 simp only[znj,za,zz]at h;obtain⟨u,hu,h⟩:=h;cases h;obtain⟨μ',g1,g2,g3⟩:=zum hR hid t (zeK hρ (zo hT hu));refine⟨_,_,F,μ',?_,g1,g3,g2⟩;simp only[Instr.box,Sem.run_bind,Result.andThen_ok,newVar,newRow,run_newObj,Sem.run_pure]
 first|done|rfl
theorem zm9(hR:R ρ w F μ P hs){id:Nat}(hid:ziC μ hs id){t:TypeId}{a:Act}{r:Option Operand}{v:V}{hs':HS}(h:zc3 hs id r=some (v,hs')) :
 ValB ρ P w F μ hs (Instr.makeMap t (r.map a.eval)) v hs':=by
 simp only[zc3,zk,za8,ze8]at h;obtain⟨rfl,h⟩:=h;cases h
 have h:=hR.alloc (w':=zbO w (.map #[] 0)) (hs':=hs.put id (.mp [])) (o:=.mp []) (m:=⟨w.heap.size,0,0⟩) hid.1 hid.2 rfl rfl (Nat.le_refl _) (by rw[za7];exact Nat.lt_succ_self _) (fun b hb=>zaU _ _ hb) (fun k=>zaz _ _ _ _) (by
  intro m hm;rw[upd_same]at hm;cases hm
  exact⟨⟨#[],0,zbu _ _,rfl,fun i k v hi=>by simp at hi⟩,fun hF=>Nat.lt_irrefl _ (hR.flt _ hF)⟩)
 refine⟨.map (some w.heap.size),_,F,_,?_,h.1,.map id ⟨w.heap.size,0,0⟩ (upd_same ..),h.2⟩;simp[Instr.makeMap];rfl
theorem range_zero{zero:Array Value}{size n k j:Nat}(hz:zero.size=size)(hk:k<n)(hj:j<size) :
 ((Array.range (n*size)).map (zero[· % zero.size]!))[k*size+j]?=zero[j]?:=by
 have hlt:k*size+j<n*size:=by
  have:(k+1)*size<=n*size:=Nat.mul_le_mul_right _ hk;rw[Nat.add_mul]at this;omega
 have hmod:(k*size+j) % size=j:=by rw[Nat.mul_comm,Nat.mul_add_mod];exact Nat.mod_eq_of_lt hj
 subst hz;simp[hlt,hmod,hj]
theorem ziD{t:TypeId}{e:TI}(he:ti P t=some e)(hl:e.zero.length=e.size){z:Value}(hz:RelC ρ w F μ e.zero z.cells)(n:Nat)(hpz:∀ (i:Nat) (v:V),e.zero[i]?=some v->PRep ρ w F v (z.cells.getD i undef)) :
 ∀ (k:Nat) (c:List V) (j:Nat) (v:V),(List.replicate n e.zero)[k]?=some c->c[j]?=some v->∃ y,((Array.range (n*e.size)).map (z.cells[· % z.cells.size]!))[k*e.size+j]?=some y/\PRep ρ w F v y:=by
 intro k c j v hk hj;rw[List.getElem?_replicate]at hk;split at hk
 . rename_i hkn;cases hk;obtain⟨hlt,_⟩:=List.getElem?_eq_some_iff.1 hj;have hlt':j<z.cells.size:=by rw[hz.1];exact hlt
   rw[range_zero (by rw[hz.1,hl]) hkn (by omega)];refine⟨z.cells[j],by simp[hlt'],?_⟩;have:=hpz j v hj
   rwa [Array.getD_eq_getD_getElem?,Array.getElem?_eq_getElem hlt']at this
 . cases hk
theorem zfG{t:TypeId}{i:TI}(hi:ti P t=some i):∃ info z,P.info? t=some info/\info.zero=some z/\RelC ρ w F μ i.zero z.cells/\(zeroValue t).run P w=.ok z w /\
 (∀ (k:Nat) (v:V),i.zero[k]?=some v->PRep ρ w F v (z.cells.getD k undef))/\info.size=i.size/\info.bytes=i.bytes:=by
 obtain⟨info,z,h1,h2,h3,h4,h5,h6⟩:=zdq hi;obtain⟨hl,hz⟩:=zbL (ρ:=ρ) (w:=w) (F:=F) h6
 have hp:∀ (k:Nat) (v:V),i.zero[k]?=some v->PRep ρ w F v (z.cells.getD k undef):=by
  intro k v hk;obtain⟨x,hx,hr⟩:=hz k v hk;rw[Array.getElem?_toList]at hx;rw[Array.getD_eq_getD_getElem?,hx];exact hr
 exact⟨info,z,h1,h5,⟨by simpa using hl,fun k v hk=>.pure (hp k v hk)⟩,by simp[zeroValue,typeInfo,h1,h5],hp,h3,h4⟩
theorem zjs(hR:R ρ w F μ P hs){id:Nat}(hid:ziC μ hs id){t:TypeId}{i:TI}(hi:ti P t=some i){l c v:V}{X Y:Value}(hl:Rep ρ w F μ l X)(hc:Rep ρ w F μ c Y){hs':HS}
 (h:zbE P i hs id l c=some (v,hs')):ValB ρ P w F μ hs (Instr.makeSlice t X Y) v hs':=by
 simp only[zbE,za,zk,et_true,za8,beq_true,beq_false,ble_true,zz,zcj,V.nat?_eq,zc0]at h;obtain⟨el,hd,e,he,ln,⟨k1,rfl⟩,cn,⟨k2,rfl⟩,⟨hlc,hroom,hcells,hne,hzl,hpz⟩,h⟩:=h;cases h;have e1:=hl.int_inv;subst e1;have e2:=hc.int_inv;subst e2;obtain⟨info,z,h1,h3,hz,hrz,hzp,hsz,hby⟩:=zfG (ρ:=ρ) (w:=w) (F:=F) (μ:=μ) he
 have hcn:cn<=1048576:=by
  have:cn*1<=cn*e.size:=Nat.mul_le_mul_left _ (by omega);omega
 have hw1:IntKind.i64.wrap (ln:Int)=ln:=IntWalk.i64_in _ (by omega);have hw2:IntKind.i64.wrap (cn:Int)=cn:=IntWalk.i64_in _ (by omega);have hall:=ziD (w:=w) he hzl hz cn hzp
 have hrow:=zlD hR hid (w':=zbO w (.cells ((Array.range (cn*e.size)).map (z.cells[· % z.cells.size]!)) el)) (size:=e.size) (es:=List.replicate cn e.zero) (exact:=true) (row:=true) (el:=el)
  (za7 _ _) (zbu _ _) (fun b hb=>zaU _ _ hb) (fun x hx=>by rw[List.eq_of_mem_replicate hx];exact hzl) (by simp) (fun _=>by simp) (fun k x j v hk hj=>by
    obtain⟨y,hy,hp⟩:=hall k x j v hk hj
    exact⟨y,hy,.pure hp,fun _=>hp⟩)
 have htl:¬ ((info.bytes:Int)*(cn:Int)>2 ^ 48):=by
  rw[hby];have:((e.bytes*cn:Nat):Int)<=1048576:=by rw[Nat.mul_comm];omega
  have h2:((e.bytes:Int)*(cn:Int))=((e.bytes*cn:Nat):Int):=by simp
  rw[h2];omega
 rw[<- zk8]at hrow;refine⟨.slice (some ⟨w.heap.size,0,none⟩) ln cn,zbO w (.cells ((Array.range (cn*e.size)).map (z.cells[· % z.cells.size]!)) el),F,_,?_,hrow.1,?_,hrow.2⟩
 . have hti:(typeInfo el).run P w=.ok info w:=by simp[typeInfo,h1]
   have c1:(decide ((cn:Int)<0)||decide ((info.bytes:Int)*(cn:Int)>2 ^ 48)||decide ((ln:Int)<0)||decide ((ln:Int)>(cn:Int)))=false:=by
    simp only[Bool.or_eq_false_iff,decide_eq_false_iff_not];refine⟨⟨⟨by omega,htl⟩,by omega⟩,by omega⟩
   simp only[Instr.makeSlice,Sem.run_bind,zM hi,Result.andThen_ok,hd,asInt,asIntOf,Sem.run_pure,hti,hw1,hw2,c1,run_askRoom,zbw he,Int.toNat_natCast,Bool.false_eq_true,if_false];by_cases h0:cn*e.size=0
   . simp only[h0,if_true,Sem.run_pure,Result.andThen_ok,Go.newRow,Sem.run_bind,run_newObj];simp[zbO,show Array.range 0=#[] from rfl]
   . simp only[h0,if_false,Sem.run_bind,hrz,Sem.run_pure,Result.andThen_ok,newRow,run_newObj];rfl
 . refine .own id 0 0 ln (some cn) cn _ (upd_same ..) hlc ?_ (fun k hk=>by cases hk;rfl) (fun h=>by cases h);simp
end
end Go.J
