import Derived.Test.YtpcmebclpindjaaGreatJA
import Derived.Laws.Sem
import Derived.Laws.Cells
import Derived.Laws.Entries
import Derived.Laws.Strings
import Derived.Laws.BitsLemmas
import Derived.ChangeKeysEq
import Derived.IntWalk
import Derived.Laws.Tables
import Derived.Lib.Strings
set_option linter.all false
noncomputable section
/- Operations that only compute or read: each returns what the evaluator says. -/
namespace Go.J
theorem zdK{P:Program}{t:TypeId}{i:TI}(h:ti P t=some i) :
 ∃ info z,P.info? t=some info/\P.underlying t=some i.desc/\info.size=i.size/\info.bytes=i.bytes/\info.zero=some z/\zc7 z.cells.toList=some i.zero:=by
 grind [ti,zb]
section
variable {P:Program}{t:TypeId}{i:TI}(h:ti P t=some i)(w:World)
include h
theorem zJ:(underlying t).run P w=.ok i.desc w:=by
 obtain⟨info,z,h1,h2,h3,h4,h5,h6⟩:=zdK h;exact Go.run_underlying h2 w
theorem zw5:∃ info,(typeInfo t).run P w=.ok info w/\info.size=i.size/\info.bytes=i.bytes:=by
 obtain⟨info,z,h1,h2,h3,h4,h5,h6⟩:=zdK h;exact⟨info,by simp[typeInfo,h1],h3,h4⟩
theorem zb9:(sizeOf t).run P w=.ok i.size w:=by
 obtain⟨info,h1,h2,_⟩:=zw5 h w;simp[sizeOf,h1,h2]
theorem zks:(isAgg t).run P w=.ok (zbo i.desc) w:=by
 simp only[isAgg,Sem.run_bind,zJ h,Result.andThen_ok];cases i.desc<;>rfl
end
section
variable {ρ:Nat->Value}{P:Program}{w:World}{F:Nat->Prop}{μ:Nat->Nat->Option MI}{hs:HS}{T:PT V}
theorem zfh{x:Value}{v:V}(h:zfi x=some v):PRep ρ w F v x:=by
 unfold zfi at h;split at h<;>cases h
 . exact .bool _
 . exact .int _ _
 . exact .str _
 . exact .nilptr
 . exact .snil
 . exact .nilmap
 . exact .nilFunc
 . exact .nilIface
theorem zjw:zc7 []=some []:=rfl
theorem zir(x:Value)(l:List Value):zc7 (x::l)=ob (zfi x) fun v=>ob (zc7 l) fun r=>some (v::r):=rfl
theorem zbW:∀ {l:List Value} {vs:List V},zc7 l=some vs->l.length=vs.length/\∀ (j:Nat) (v:V),vs[j]?=some v->∃ x,l[j]?=some x/\PRep ρ w F v x:=by
 intro l
 induction l with
 |nil=>intro vs h;rw[zjw]at h;cases h;exact⟨rfl,fun j v hj=>by simp at hj⟩
 | cons x l ih =>
   intro vs h;rw[zir]at h;simp only[zb]at h;obtain⟨v,h1,r,h2,h3⟩:=h;cases h3;obtain⟨hl,ha⟩:=ih h2;refine⟨by simp[hl],fun j u hj=>?_⟩
   cases j with
   |zero=>simp at hj;subst hj;exact⟨x,by simp,zfh h1⟩
   |succ j=>simp at hj;obtain⟨y,hy,hr⟩:=ha j u hj;exact⟨y,by simpa using hy,hr⟩
theorem zkA{x:Value}{v:V}(h:zc8 x=some v):PRep ρ w F v x:=by
 unfold zc8 at h;split at h
 . rename_i cs;simp only[zb]at h;obtain⟨l,h1,h2⟩:=h;cases h2;obtain⟨hl,ha⟩:=zbW (ρ:=ρ) (w:=w) (F:=F) h1;refine .agg l cs (by simpa using hl) fun j u hj=>?_
   obtain⟨y,hy,hr⟩:=ha j u hj
   simp_all
 . exact zfh h
theorem zn{a:Act}(hT:zb6 ρ w F μ T a.tmps){o:Operand}{v:V}(h:zk T o=some v):Rep ρ w F μ v (a.eval o):=by
 cases o with
 | tmp t =>
   obtain⟨x,hx,hr⟩:=hT t v h;have:a.eval (.tmp t)=x:=by simp[Act.eval,Array.getD_eq_getD_getElem?,hx]
   rw[this];exact hr
 |const c=>exact .pure (zkA h)
 |global g=>cases h
 |func f=>cases h;exact .pure (.func f)
theorem zuQ:za6 T []=some []:=rfl
theorem zpl(o:Operand)(l:List Operand):za6 T (o::l)=ob (zk T o) fun v=>ob (za6 T l) fun r=>some (v::r):=rfl
theorem zld{a:Act}(hT:zb6 ρ w F μ T a.tmps):∀ {l:List Operand} {vs:List V},za6 T l=some vs ->
 l.length=vs.length/\∀ (j:Nat) (v:V),vs[j]?=some v->∃ o,l[j]?=some o/\Rep ρ w F μ v (a.eval o):=by
 intro l
 induction l with
 |nil=>intro vs h;rw[zuQ]at h;cases h;exact⟨rfl,fun j v hj=>by simp at hj⟩
 | cons x l ih =>
   intro vs h;rw[zpl]at h;simp only[zb]at h;obtain⟨v,h1,r,h2,h3⟩:=h;cases h3;obtain⟨hl,ha⟩:=ih h2;refine⟨by simp[hl],fun j u hj=>?_⟩
   cases j with
   |zero=>simp at hj;subst hj;exact⟨x,by simp,zn hT h1⟩
   |succ j=>simp at hj;obtain⟨y,hy,hr⟩:=ha j u hj;exact⟨y,by simpa using hy,hr⟩
theorem addr_add(b o n:Nat):(⟨b,o,none⟩:Addr).add n=⟨b,o+n,none⟩:=by
 unfold Addr.add;split
 . rename_i h;subst h;rfl
 . rfl
theorem znw {t:TypeId} {i:TI} (hi:ti P t=some i) {b o:Nat} {cs:List V}
 (h:∀ (j:Nat) (v:V),cs[j]?=some v->∃ y,w.cell? ⟨b,o+j,none⟩=some y/\Rep ρ w F μ v y) {off:Nat} {v:V} (hp:zfG i cs off=some v) :
 ∃ x,(loadVar t ⟨b,o+off,none⟩).run P w=.ok x w/\Rep ρ w F μ v x:=by
 unfold zfG at hp;unfold loadVar;simp only[Sem.run_bind,zks hi,Result.andThen_ok]
 cases hd:zbo i.desc with
 | true =>
   rw[hd,zU]at hp;simp only[zD2,zl,beq_true,zz,zcq,zcv]at hp;obtain⟨hl,hv⟩:=hp;cases hv
   have hex:∀ j,j<i.size->∃ u y,cs[off+j]?=some u/\w.cell? ⟨b,o+(off+j),none⟩=some y/\Rep ρ w F μ u y:=by
    intro j hj
    have hlt:off+j<cs.length:=by
     grind
    simp_all
   have hrun:=run_loadCells (P:=P) w ⟨b,o+off,none⟩ i.size (fun j=>(w.cell? ⟨b,o+(off+j),none⟩).getD undef) (by
    intro j hj;obtain⟨u,y,_,hy,_⟩:=hex j hj
    rw[addr_add,Nat.add_assoc,hy];rfl)
   simp only[if_true,Sem.run_bind,zb9 hi,Result.andThen_ok,hrun,Sem.run_pure];refine⟨_,rfl,.agg _ _ (by simpa using hl.symm) fun j u hj=>?_⟩
   have hj':j<i.size:=by
    grind
   have hu:cs[off+j]?=some u:=by
    grind
   obtain⟨u',y,hu',hy,hr⟩:=hex j hj'
   simp_all
 | false =>
   rw[hd,zF,zbM]at hp;obtain⟨y,hy,hr⟩:=h off v hp
   simp_all
theorem zwJ {t:TypeId} {i:TI} (hi:ti P t=some i) {cs:List V} {ys:Array Value} (hs:ys.size=cs.length)
 (h:∀ (j:Nat) (v:V),cs[j]?=some v->Rep ρ w F μ v (ys.getD j undef)) {off:Nat} {v:V} (hp:zfG i cs off=some v) :
 ∃ x,(part t ys off).run P w=.ok x w/\Rep ρ w F μ v x:=by
 unfold zfG at hp;unfold part;simp only[Sem.run_bind,zks hi,Result.andThen_ok]
 cases hd:zbo i.desc with
 | true =>
   rw[hd,zU]at hp;simp only[zD2,zl,beq_true,zz,zcq,zcv]at hp;obtain⟨hl,hv⟩:=hp;cases hv;simp only[if_true,Sem.run_bind,zb9 hi,Result.andThen_ok,Sem.run_pure];have hle:off+i.size<=cs.length\/i.size=0:=by simp at hl;omega
   refine⟨_,rfl,.agg _ _ (by simp at hl ⊢;omega) fun j u hj=>?_⟩
   have hj':j<i.size:=by
    grind
   have hu:cs[off+j]?=some u:=by
    grind
   have hr:=h _ u hu
   have e:(ys.extract off (off+i.size)).getD j undef=ys.getD (off+j) undef:=by
    have hlt:off+j<ys.size:=by
     omega
    rw[Array.getD_eq_getD_getElem?,Array.getD_eq_getD_getElem?,Array.getElem?_extract,if_pos (by omega)]
   grind
 | false =>
   rw[hd,zF,zbM]at hp;have hr:=h off v hp;obtain⟨hlt,_⟩:=List.getElem?_eq_some_iff.1 hp
   simp_all
theorem zaM{id g:Nat}{a:Nat×List (List V)×Bool×Bool×Bool}(h:zaF hs id g=some a) :
 hs.H.get id=some (.arr a.1 g a.2.1 a.2.2.1 a.2.2.2.1 a.2.2.2.2)/\a.1≠0:=by
 simp only[zaF,zb,zl,et_true,zaE,beq_true,beq_false]at h;obtain⟨o,h1,b,h2,⟨h3,h4⟩,h5⟩:=h;cases h5
 cases o with
 | arr s g' es ex fz row =>
   cases h2
   grind
 |_=>cases h2
theorem R.row(hR:R ρ w F μ P hs){id g:Nat}{a:Nat×List (List V)×Bool×Bool×Bool}(h:zaF hs id g=some a){m:MI}(hm:μ id g=some m) :
 ArrRel ρ w F μ m a.1 a.2.1 a.2.2.1 a.2.2.2.1 a.2.2.2.2:=hR.obj id _ (zaM h).1 m hm
theorem ArrRel.cell{m:MI}{size:Nat}{es:List (List V)}{ex fz row:Bool}(h:ArrRel ρ w F μ m size es ex fz row){k j:Nat}{e:List V}{v:V}(hk:es[k]?=some e)(hj:e[j]?=some v) :
 ∃ y,w.cell? ⟨m.b,k*size+j,none⟩=some y/\Rep ρ w F μ v y/\(row=true->PRep ρ w F v y):=by
 obtain⟨cells,el,hc,_,_,_,hall⟩:=h.cells;obtain⟨y,hy,hr⟩:=hall k e j v hk hj;exact⟨y,by simp[World.cell?,hc,hy],hr⟩
def ValA(ρ:Nat->Value)(P:Program)(w:World)(F:Nat->Prop)(μ:Nat->Nat->Option MI)(s:Sem Value)(v:V):Prop:=∃ x,s.run P w=.ok x w/\Rep ρ w F μ v x
theorem zqX(hR:R ρ w F μ P hs){t:TypeId}{i:TI}(hi:ti P t=some i){p v:V}{x:Value}(hx:Rep ρ w F μ p x)(h:zgr i hs p=some v) :
 ValA ρ P w F μ (Instr.loadAt t x) v:=by
 unfold zgr at h;split at h
 . rename_i id g off;obtain⟨m,hm,rfl⟩:=hx.ptr_inv;simp only[zb,zj5,zbM]at h;obtain⟨a,ha,e,he,hp⟩:=h;have hr:=hR.row ha hm;have hne:=(zaM ha).2
   obtain⟨x,hrun,hrep⟩:=znw (μ:=μ) (ρ:=ρ) (F:=F) (w:=w) hi (b:=m.b) (o:=off / a.1*a.1) (cs:=e) (fun j u hj=>by
    obtain⟨y,hy,hr,_⟩:=hr.cell he hj;exact⟨y,hy,hr⟩) hp
   rw[show off / a.1*a.1+off % a.1=off by rw[Nat.mul_comm];exact Nat.div_add_mod off a.1]at hrun;exact⟨x,by simp[Instr.loadAt,Instr.sureAddr,hrun],hrep⟩
 . rename_i cs;have hx:=hx.ref_inv
   cases hx with
   | ref _ b off ys hb hc hr =>
     obtain⟨x,hrun,hrep⟩:=znw (μ:=μ) (ρ:=ρ) (F:=F) (w:=w) hi (b:=b) (o:=off) (cs:=cs) (fun j u hj=>⟨_,hc j u hj,.pure (hr j u hj)⟩) h;exact⟨x,by simpa [Instr.loadAt,Instr.sureAddr]using hrun,hrep⟩
 . cases h
end
end Go.J
/- Addresses,parts,comparisons: the operations that neither write nor make memory. -/
namespace Go.J
theorem z4Q{n:Int}{m:Nat}:z4R n=some m↔n=(m:Int):=by
 cases n with
 |ofNat a=>simp[z4R];omega
 |negSucc a=>simp[z4R]
theorem V.int?_eq {v:V}{p:IntKind×Int}:v.int?=some p↔v=.int p.1 p.2:=by
 cases v<;>simp[V.int?]
 grind
theorem V.bool?_eq {v:V}{b:Bool}:v.bool?=some b↔v=.bool b:=by cases v<;>simp[V.bool?]
theorem V.str?_eq {v:V}{s:List Nat}:v.str?=some s↔v=.str s:=by cases v<;>simp[V.str?]
theorem V.agg?_eq {v:V}{s:List V}:v.agg?=some s↔v=.agg s:=by cases v<;>simp[V.agg?]
theorem V.tuple?_eq {v:V}{s:List V}:v.tuple?=some s↔v=.tuple s:=by cases v<;>simp[V.tuple?]
theorem V.nat?_eq {v:V}{n:Nat}:v.nat?=some n↔∃ k,v=.int k (n:Int):=by
 simp[V.nat?,zb,V.int?_eq,z4Q]
theorem zcz{d:TypeDesc}{e:TypeId}:zb8 d=some e↔d=.slice e:=by cases d<;>simp[zb8]
theorem znv{d:TypeDesc}{e:TypeId×TypeId}:mapOf d=some e↔d=.map e.1 e.2:=by
 cases d<;>simp[mapOf]
 cases e;simp
theorem fieldOf_eq{i:TI}{f:Nat}{fd:Field}:zi i f=some fd↔∃ fs,i.desc=.struct fs/\fs[f]?=some fd:=by
 grind [zi]
theorem zpd{a b:IntKind}(h:zkH a=zkH b):a=b:=by cases a<;>cases b<;>first|rfl|(simp[zkH]at h)
theorem zeN{a b:IntKind}:zhi a b=true↔a=b:=by
 grind [zhi,beq_true,zpd]
theorem eqI_true{a b:Int}:eqI a b=true↔a=b:=by
 cases a<;>cases b<;>simp[eqI]<;>omega
theorem zuR(a b:Int):eqI a b=(a == b):=by
 rw[Bool.eq_iff_iff,eqI_true];simp
theorem zxd{a b:Int}:ltI a b=true↔a<b:=by
 cases a<;>cases b<;>simp[ltI]<;>omega
theorem zhe(a b:Int):ltI a b=decide (a<b):=by
 rw[Bool.eq_iff_iff,zxd];simp
theorem zra(a b:Int):leI a b=decide (a<=b):=by
 unfold leI;rw[zjy,zhe,Bool.eq_iff_iff];simp
theorem zeV(k:IntKind)(n:Int):zeW k n=k.wrap n:=by
 unfold zeW;split
 . rename_i m
   cases h:Nat.blt m 9223372036854775808 with
   |true=>rw[zU,IntWalk.i64_in];have:=blt_true.1 h;simp;omega
   |false=>rw[zF]
 . rename_i m
   cases h:Nat.blt m 9223372036854775808 with
   |true=>rw[zU,IntWalk.i64_in];have:=blt_true.1 h;omega
   |false=>rw[zF]
 . rfl
theorem zei(a b:Bool):zdm a b=(a == b):=by cases a<;>cases b<;>rfl
theorem zhR {s t:ByteArray}:bytesOf s=bytesOf t↔s=t:=by
 constructor
 . intro h
   have h':s.data.toList=t.data.toList:=by
    have inj:∀ (l m:List UInt8),l.map UInt8.toNat=m.map UInt8.toNat->l=m:=by
     intro l
     induction l with
     |nil=>intro m h;cases m<;>simp_all
     | cons x l ih=>intro m h;cases m with
       |nil=>simp at h
       |cons y m=>simp at h;rw[ih m (by simpa using h.2),UInt8.toNat_inj.1 h.1]
    exact inj _ _ h
   cases s;cases t
   simp_all
 grind
theorem eqNs_true{l m:List Nat}:zop l m=true↔l=m:=by
 induction l generalizing m with
 | nil=>cases m with
   |nil=>exact⟨fun _=>rfl,fun _=>rfl⟩
   |cons y m=>exact⟨(fun h=>by cases h),(fun h=>by cases h)⟩
 | cons x l ih=>cases m with
   |nil=>exact⟨(fun h=>by cases h),(fun h=>by cases h)⟩
   | cons y m =>
     show et (Nat.beq x y) (zop l m)=true↔_;rw[et_true,beq_true,ih];simp
theorem ziN(s t:ByteArray):zop (bytesOf s) (bytesOf t)=(s.toList == t.toList):=by
 rw[Bool.eq_iff_iff,eqNs_true,zhR];simp only[ByteArray.toList_eq,beq_iff_eq];constructor
 . rintro rfl;rfl
 . intro h;exact ByteArray.ext (Array.toList_inj.1 h)
theorem zoo(s t:ByteArray):zop (bytesOf s) (bytesOf t)=(s == t):=by
 rw[Bool.eq_iff_iff,eqNs_true,zhR];have e:(s == t)=(s.data == t.data):=by cases s;cases t;rfl
 rw[e,beq_iff_eq];exact⟨fun h=>h ▸ rfl,fun h=>ByteArray.ext h⟩
theorem zmu:∀ (l m:List UInt8),zxc (l.map UInt8.toNat) (m.map UInt8.toNat)=Op.bytesLess l m:=by
 intro l
 induction l with
 |nil=>intro m;cases m<;>rfl
 | cons x l ih=>intro m;cases m with
   |nil=>rfl
   | cons y m =>
     show bi (Nat.blt x.toNat y.toNat) true (et (Nat.beq x.toNat y.toNat) (zxc (l.map UInt8.toNat) (m.map UInt8.toNat)))=(x<y||(x == y&&Op.bytesLess l m));rw[ih];have h1:Nat.blt x.toNat y.toNat=decide (x<y):=by rw[Bool.eq_iff_iff,blt_true];simp[UInt8.lt_iff_toNat_lt]
     have h2:Nat.beq x.toNat y.toNat=(x == y):=by rw[Bool.eq_iff_iff,beq_true,beq_iff_eq];exact UInt8.toNat_inj
     grind [zpm,zU,zF]
theorem ziI(s t:ByteArray):zxc (bytesOf s) (bytesOf t)=Op.bytesLess s.toList t.toList:=by
 rw[ByteArray.toList_eq,ByteArray.toList_eq];exact zmu _ _
theorem zbU(s:ByteArray):(bytesOf s).length=s.size:=by unfold bytesOf;rw[List.length_map,Array.length_toList];rfl
theorem zmJ(s:ByteArray)(n b:Nat)(h:(bytesOf s)[n]?=some b):∃ u:UInt8,s[n]?=some u/\u.toNat=b:=by
 have hlt:n<s.size:=by
  obtain⟨hlt,_⟩:=List.getElem?_eq_some_iff.1 h
  rwa [zbU]at hlt
 refine⟨s[n],ByteArray.getElem?_lt' s n hlt,?_⟩;simp only[bytesOf,List.getElem?_map,Option.map_eq_some_iff]at h;obtain⟨u,hu,rfl⟩:=h;rw[Array.getElem?_toList]at hu;obtain⟨h1,h2⟩:=Array.getElem?_eq_some_iff.1 hu;exact congrArg UInt8.toNat h2
section
variable {ρ:Nat->Value}{P:Program}{w:World}{F:Nat->Prop}{μ:Nat->Nat->Option MI}{hs:HS}{T:PT V}
theorem PRep.ref_drop{cs:List V}{b off n:Nat}(h:PRep ρ w F (.ref cs) (.pointer (some ⟨b,off,none⟩))):PRep ρ w F (.ref (cs.drop n)) (.pointer (some ⟨b,off+n,none⟩)):=by
 cases h with
 | ref _ _ _ ys hb hc hr =>
   refine .ref _ b (off+n) (fun i=>ys (n+i)) hb (fun i v hi=>?_) (fun i v hi=>?_)
   . rw[List.getElem?_drop]at hi;rw[Nat.add_assoc];exact hc _ v hi
   . rw[List.getElem?_drop]at hi;exact hr _ v hi
theorem zkV{t:TypeId}{i fi:TI}{f:Nat}{fd:Field}(hi:ti P t=some i)(hf:zi i f=some fd)(hfi:ti P fd.type=some fi)(hne:fi.size≠0){v r:V}{x:Value}
 (hx:Rep ρ w F μ v x) (h:zaH fd.offset v=some r):ValA ρ P w F μ (Instr.fieldAt t x f) r:=by
 obtain⟨fs,hd,hfs⟩:=fieldOf_eq.1 hf
 have key:∀ b off,(Instr.fieldAt t (.pointer (some ⟨b,off,none⟩)) f).run P w=.ok (.pointer (some ⟨b,off+fd.offset,none⟩)) w:=by
  intro b off;simp only[Instr.fieldAt,Sem.run_bind,zJ hi,Result.andThen_ok,hd,hfs,Instr.sureAddr,Sem.run_pure,fieldPlace,zb9 hfi,if_neg hne,addr_add]
 unfold zaH at h;split at h
 . rename_i id g off;cases h;obtain⟨m,hm,rfl⟩:=hx.ptr_inv;exact⟨_,key _ _,.ptr id g _ m hm⟩
 . rename_i cs;cases h;have hx:=hx.ref_inv;have hx':=hx
   cases hx with
   | ref _ b off ys hb hc hr =>
     refine⟨_,key _ _,.pure ?_⟩;rw[zcv];exact hx'.ref_drop
 . cases h
theorem zxu{t:TypeId}{i fi:TI}{f:Nat}{fd:Field}(hi:ti P t=some i)(hf:zi i f=some fd)(hfi:ti P fd.type=some fi){cs:List V}{r:V}{x:Value}
 (hx:Rep ρ w F μ (.agg cs) x) (h:zfG fi cs fd.offset=some r):ValA ρ P w F μ (Instr.field t x f) r:=by
 obtain⟨fs,hd,hfs⟩:=fieldOf_eq.1 hf;obtain⟨ys,rfl,hs,hc⟩:=hx.agg_inv;obtain⟨y,hy,hr⟩:=zwJ hfi hs hc h;exact⟨y,by simp only[Instr.field,Sem.run_bind,zJ hi,Result.andThen_ok,hd,hfs,asAgg,Sem.run_pure,hy],hr⟩
theorem zkL{t el:TypeId}{i e:TI}(hi:ti P t=some i)(hd:zb8 i.desc=some el)(he:ti P el=some e){v r:V}{k:IntKind}{n:Nat}{x:Value}
 (hx:Rep ρ w F μ v x) (h:zc1 e n v=some r):ValA ρ P w F μ (Instr.indexAt t x (.int k (n:Int))) r:=by
 rw[zcz]at hd
 have key:∀ b off len c,n<len->(Instr.indexAt t (.slice (some ⟨b,off,none⟩) len c) (.int k (n:Int))).run P w=.ok (.pointer (some ⟨b,off+n*e.size,none⟩)) w:=by
  intro b off len c hlt;have h1:(0:Int)<=(n:Int)/\(n:Int)<(len:Int):=⟨by omega,by omega⟩;simp only[Instr.indexAt,asIntOf,Sem.run_bind,Sem.run_pure,zJ hi,Result.andThen_ok,hd,h1,and_self,if_true,zb9 he,addr_add,Int.toNat_natCast]
 unfold zc1 at h;split at h
 . rename_i es t';simp only[zl,zb,zbM]at h;obtain⟨hsz,c,hc,hr⟩:=h;cases hr;have hsz':=sizes_eq.1 hsz;have hmem:=List.mem_of_getElem? hc;have hx:=hx.sl_inv
   cases hx with
   |slE a c' _ ht=>simp at hc
   | slC _ b off size c' _ ys hb hl hcell hrep hle ht =>
     have e1:size=e.size:=by rw[<- hl c hmem,hsz' c hmem]
     subst e1;obtain⟨hlt,_⟩:=List.getElem?_eq_some_iff.1 hc;refine⟨_,key _ _ _ _ hlt,.pure (.ref c b _ (fun j=>ys n j) hb (fun j v hj=>hcell n c j v hc hj) (fun j v hj=>hrep n c j v hc hj))⟩
 . rename_i id g off len cap;simp only[zl,blt_true]at h;obtain⟨hlt,hr⟩:=h;cases hr;obtain⟨m,c,hm,rfl,h1,h2,h3,h4⟩:=hx.own_inv;exact⟨_,key _ _ _ _ hlt,.ptr id g _ m hm⟩
 . cases h
theorem zBu {t:TypeId} {el:TypeId×Option Nat} {i e:TI} (hi:ti P t=some i) (hd:elemOf i.desc=some el) (he:ti P el.1=some e) {v r:V} {k:IntKind} {n:Nat} {x:Value}
 (hx:Rep ρ w F μ v x) (h:z8x el.2 e n v=some r):ValA ρ P w F μ (Instr.indexAt t x (.int k (n:Int))) r:=by
 unfold elemOf at hd;split at hd
 . rename_i s hs;cases hd;exact zkL hi (by rw[hs];rfl) he hx h
 . rename_i len s hs;cases hd;have h:gd (Nat.blt n len) (zaH (n*e.size) v)=some r:=h;simp only[zl,blt_true]at h;obtain⟨hlt,h⟩:=h
   have key:∀ b off,(Instr.indexAt t (.pointer (some ⟨b,off,none⟩)) (.int k (n:Int))).run P w=.ok (.pointer (some ⟨b,off+n*e.size,none⟩)) w:=by
    intro b off;have h1:(0:Int)<=(n:Int)/\(n:Int)<(len:Int):=⟨by omega,by omega⟩;simp only[Instr.indexAt,asIntOf,Sem.run_bind,Sem.run_pure,zJ hi,Result.andThen_ok,hs,Instr.sureAddr,h1,and_self,if_true,zb9 he,addr_add,Int.toNat_natCast]
   unfold zaH at h;split at h
   . rename_i id g off;cases h;obtain⟨m,hm,rfl⟩:=hx.ptr_inv;exact⟨_,key _ _,.ptr _ _ _ m hm⟩
   . rename_i cs;cases h;have hx:=hx.ref_inv;have hx':=hx
     cases hx with
     | ref _ b off ys hb hc hr =>
       refine⟨_,key _ _,.pure ?_⟩;rw[zcv];exact hx'.ref_drop
   . cases h
 . cases hd
theorem zxn{t:TypeId}{i:TI}(hi:ti P t=some i)(hd:isStr i.desc=true){l:List Nat}{k:IntKind}{n b:Nat}{x:Value}
 (hx:Rep ρ w F μ (.str l) x) (h:zeJ l n=some b):ValA ρ P w F μ (Instr.index t x (.int k (n:Int))) (.int .u8 (Int.ofNat b)):=by
 obtain⟨s,rfl,rfl⟩:=hx.str_inv;rw[zbM]at h;obtain⟨u,hu,rfl⟩:=zmJ s n b h
 have hd':i.desc=.string:=by
  grind [isStr]
 refine⟨.int .u8 (u.toNat:Int),?_,.pure (.int _ _)⟩;simp[Instr.index,asIntOf,zJ hi,hd',hu]
theorem zpk{vs:List V}{k:Nat}{r:V}{x:Value}(hx:Rep ρ w F μ (.tuple vs) x)(h:zeJ vs k=some r):ValA ρ P w F μ (Instr.extract x k) r:=by
 obtain⟨ys,rfl,hs,hc⟩:=hx.tuple_inv;rw[zbM]at h;have hr:=hc k r h;obtain⟨hlt,_⟩:=List.getElem?_eq_some_iff.1 h;have hlt':k<ys.size:=by omega
 refine⟨ys[k],by simp[Instr.extract,hlt'],?_⟩
 simp_all
theorem zj0{v:V}{x:Value}{b:Bool}(hx:Rep ρ w F μ v x)(h:zwY v=some b):∃ a:Option Addr,x=.pointer a/\a.isNone=b:=by
 unfold zwY at h;split at h<;>cases h
 . exact⟨none,hx.nilptr_inv,rfl⟩
 . obtain⟨m,hm,rfl⟩:=hx.ptr_inv;exact⟨_,rfl,rfl⟩
 . have hx:=hx.ref_inv;cases hx;exact⟨_,rfl,rfl⟩
theorem zjz{v:V}{x:Value}{b:Bool}(hx:Rep ρ w F μ v x)(h:zwX v=some b):∃ (a:Option Addr) (n c:Nat),x=.slice a n c/\a.isNone=b:=by
 unfold zwX at h;split at h<;>cases h
 . exact⟨none,0,0,hx.snil_inv,rfl⟩
 . obtain⟨m,c,hm,rfl,_⟩:=hx.own_inv;exact⟨_,_,_,rfl,rfl⟩
 . have hx:=hx.sl_inv
   cases hx with
   |slC _ b off size c' _ ys hb hl hcell hrep hle ht=>exact⟨_,_,_,rfl,rfl⟩
theorem zj1{v:V}{x:Value}{b:Bool}(hx:Rep ρ w F μ v x)(h:zyG v=some b):∃ a:Option Nat,x=.map a/\a.isNone=b:=by
 unfold zyG at h;split at h<;>cases h
 . exact⟨none,hx.nilmap_inv,rfl⟩
 . obtain⟨m,hm,rfl⟩:=hx.map_inv;exact⟨_,rfl,rfl⟩
theorem zj2{v:V}{x:Value}{b:Bool}(hx:Rep ρ w F μ v x)(h:zyH v=some b):(x=.nilFunc/\b=true)\/((∃ f a c,x=.func f a c)/\b=false):=by
 unfold zyH at h;split at h<;>cases h
 . exact .inl ⟨hx.nilFunc_inv,rfl⟩
 . obtain⟨ys,rfl,_⟩:=hx.func_inv;exact .inr ⟨⟨_,_,_,rfl⟩,rfl⟩
theorem zcM{a b:Option Bool}{r:Bool}(h:zhy a b=some r):∃ p q,a=some p/\b=some q/\((p=true/\r=q)\/(p=false/\q=true/\r=false)):=by
 simp_all [zhy,zb,zU,zF]
end
end Go.J
/- Operators,conversions,parts of slices,aggregates,look-ups. -/
namespace Go.J
section
variable {ρ:Nat->Value}{P:Program}{w:World}{F:Nat->Prop}{μ:Nat->Nat->Option MI}{hs:HS}{T:PT V}
theorem zCy{t:TypeId}{x y:V}{b:Bool}{X Y:Value}(hx:Rep ρ w F μ x X)(hy:Rep ρ w F μ y Y)(h:eqV P t x y=some b) :
 (Op.equal t X Y).run P w=.ok b w:=by
 have key:∀ d,(Op.equalIn (d+1) t X Y).run P w=.ok b w:=?_
 . exact key 9999
 intro d;simp only[eqV,zb]at h;obtain⟨i,hi,h⟩:=h;unfold eqD at h;simp only[Op.equalIn,Sem.run_bind,zJ hi,Result.andThen_ok];split at h
 . rename_i hd;simp only[zb,V.bool?_eq]at h;obtain⟨p,rfl,q,rfl,h⟩:=h;cases h;rw[hx.bool_inv,hy.bool_inv,hd];simp[zei]
 . rename_i e hd;obtain⟨p,q,hp,hq,hr⟩:=zcM h;obtain⟨a,rfl,ha⟩:=zj0 hx hp;obtain⟨c,rfl,hc⟩:=zj0 hy hq;rw[hd];rcases hr with⟨rfl,rfl⟩|⟨rfl,rfl,rfl⟩
   . simp_all
   . simp at hc;subst hc
     cases a with
     |none=>simp at ha
     |some a=>simp
 . rename_i e hd;obtain⟨p,q,hp,hq,hr⟩:=zcM h;obtain⟨a,n1,c1,rfl,ha⟩:=zjz hx hp;obtain⟨c,n2,c2,rfl,hc⟩:=zjz hy hq;rw[hd];rcases hr with⟨rfl,rfl⟩|⟨rfl,rfl,rfl⟩
   . simp_all
   . simp at hc;subst hc
     cases a with
     |none=>simp at ha
     |some a=>simp
 . rename_i e e' hd;obtain⟨p,q,hp,hq,hr⟩:=zcM h;obtain⟨a,rfl,ha⟩:=zj1 hx hp;obtain⟨c,rfl,hc⟩:=zj1 hy hq;rw[hd];rcases hr with⟨rfl,rfl⟩|⟨rfl,rfl,rfl⟩
   . simp_all
   . simp at hc;subst hc
     cases a with
     |none=>simp at ha
     |some a=>simp
 . rename_i e1 e2 e3 hd;obtain⟨p,q,hp,hq,hr⟩:=zcM h;rw[hd];rcases zj2 hx hp with⟨rfl,e⟩|⟨⟨f,a,c,rfl⟩,e⟩<;>rcases zj2 hy hq with⟨rfl,e'⟩|⟨⟨f',a',c',rfl⟩,e'⟩<;>subst e<;>subst e'<;>simp_all
 . cases h
theorem zpn{op:BinOp}{t:TypeId}{x y:Operand}{X Y:Value}(h1:X≠.nilIface)(h2:∀ a,X≠.agg a):(eqGuard op t x y X Y).run P w=.ok () w:=by
 unfold eqGuard
 simp_all
theorem zxU{op:BinOp}{k:IntKind}{a b:Int}{v:V}(t:TypeId)(h:arith op k a b=some v)(hs:zaL op=false) :
 ValA ρ P w F μ (binOp op t (.int k a) (.int k b)) v:=by
 have key:∀ x:Value,(binOp op t (.int k a) (.int k b)).run P w=.ok x w->PRep ρ w F v x->ValA ρ P w F μ (binOp op t (.int k a) (.int k b)) v:=fun x h hx=>⟨x,h,.pure hx⟩
 unfold arith at h
 cases op<;>simp only[zl,Option.some.injEq,reduceCtorEq]at h<;>first
  |(cases h;done)
  |(simp[zaL]at hs;done)
  |(subst h;refine key _ (by simp[binOp,Op.intBits]<;>rfl) ?_;exact .int _ _)
  |(subst h;refine key _ (by simp[binOp,Op.intArith]<;>rfl) ?_;rw[zeV];exact .int _ _)
  |(subst h;refine key _ (by simp[binOp,Op.intCmp]<;>rfl) ?_;simp only[zuR,zhe,zra,zjy,bne];exact .bool _)
  | (obtain⟨h0,h⟩:=h
     rw[zaE]at h0;have hb:b≠0:=fun e=>by rw[eqI_true.2 e]at h0;cases h0
     subst h;refine key _ (by simp[binOp,Op.intDiv,hb]<;>rfl) ?_
     first|exact .int _ _|(rw[zeV];exact .int _ _))
theorem zqp{op:BinOp}{k k':IntKind}{a b:Int}{v:V}(t:TypeId)(h:zkq op k a b=some v) :
 ValA ρ P w F μ (binOp op t (.int k a) (.int k' b)) v:=by
 unfold zkq at h;split at h
 . simp only[zb]at h;obtain⟨m,hm,h⟩:=h;cases h
   cases b with
   | ofNat n =>
     cases hm;refine⟨.int k (a.fdiv (2 ^ min m k.bits)),?_,.pure (.int _ _)⟩;have:¬ (Int.ofNat m)<0:=Int.not_lt.2 (Int.natCast_nonneg m);simp only[binOp,Op.shift,if_neg this];rfl
   |negSucc n=>cases hm
 . cases h
theorem zwm{op:BinOp}{s u:ByteArray}{v:V}(t:TypeId)(h:zkg op (bytesOf s) (bytesOf u)=some v) :
 ValA ρ P w F μ (binOp op t (.string s) (.string u)) v:=by
 have key:∀ x:Value,(binOp op t (.string s) (.string u)).run P w=.ok x w->PRep ρ w F v x->ValA ρ P w F μ (binOp op t (.string s) (.string u)) v:=fun x h hx=>⟨x,h,.pure hx⟩
 unfold zkg at h
 cases op <;> simp only[zl,Option.some.injEq,reduceCtorEq]at h<;>first
  |(cases h;done)
  |(subst h;refine key _ (by simp[binOp,Op.stringOp]<;>rfl) ?_;simp only[ziN,ziI,zjy];exact .bool _)
  |(subst h;refine key _ (by simp[binOp,Op.stringOp]<;>rfl) ?_;simp only[ziN,ziI,zjy,zal];cases Op.bytesLess s.toList u.toList<;>exact .bool _)
  | (obtain⟨h0,h⟩:=h
     subst h;rw[ble_true,zz,zz,zbU,zbU]at h0;refine key (.string (s++u)) ?_ ?_
     . have:¬ ((s.size+u.size:Nat):Int)>IntKind.i64.max:=by
        have e:IntKind.i64.max=9223372036854775807:=by decide
        rw[e];omega
       simp only[binOp,Op.stringOp,if_neg this];rfl
     . have e:zbt (bytesOf s) (bytesOf u)=bytesOf (s++u):=by
        rw[zaS];simp[bytesOf]
       rw[e];exact .str _)
theorem z6E {op:BinOp} {t u:TypeId} {o1 o2:Operand} {x y v:V} {X Y:Value} (hx:Rep ρ w F μ x X) (hy:Rep ρ w F μ y Y) (h:z3t P op t x y=some v) :
 ValA ρ P w F μ (do eqGuard op t o1 o2 X Y;binOp op t X Y) v:=by
 have fin:X≠.nilIface->(∀ a,X≠.agg a)->ValA ρ P w F μ (binOp op t X Y) v->ValA ρ P w F μ (do eqGuard op t o1 o2 X Y;binOp op t X Y) v:=by
  rintro h1 h2 ⟨r,hr,hrep⟩;exact⟨r,by simp only[Sem.run_bind,zpn h1 h2,Result.andThen_ok,hr],hrep⟩
 unfold z3t at h;split at h
 . rename_i k a;simp only[zb,V.int?_eq]at h;obtain⟨⟨k',b⟩,rfl,h⟩:=h;have e1:=hx.int_inv;subst e1;have e2:=hy.int_inv;subst e2;refine fin (fun e=>by cases e) (fun _ e=>by cases e) ?_;rw[zal]at h;split at h
   . exact zqp t h
   . rename_i hsh;simp only[zl,zeN]at h;obtain⟨hk,h⟩:=h;dsimp only at hk h ⊢;subst hk;exact zxU t h (by simpa using hsh)
 . rename_i a;simp only[zb,V.str?_eq]at h;obtain⟨b,rfl,h⟩:=h;obtain⟨s,rfl,rfl⟩:=hx.str_inv;obtain⟨s',rfl,rfl⟩:=hy.str_inv;exact fin (fun e=>by cases e) (fun _ e=>by cases e) (zwm t h)
 . rename_i hni hns;unfold zgU at h
   have hnice:∀ b,eqV P t x y=some b->X≠.nilIface/\(∀ a,X≠.agg a)/\(∀ k n,X≠.int k n)/\(∀ s,X≠.string s)/\(∀ k n,X≠.float k n)/\(∀ k n m,X≠.complex k n m):=by
    intro b hb;simp only[eqV,zb]at hb;obtain⟨i,hi,hb⟩:=hb;unfold eqD at hb;split at hb
    . simp only[zb,V.bool?_eq]at hb;obtain⟨p,rfl,_⟩:=hb;rw[hx.bool_inv];simp
    . obtain⟨p,q,hp,hq,hr⟩:=zcM hb;obtain⟨a,rfl,ha⟩:=zj0 hx hp;simp
    . obtain⟨p,q,hp,hq,hr⟩:=zcM hb;obtain⟨a,_,_,rfl,ha⟩:=zjz hx hp;simp
    . obtain⟨p,q,hp,hq,hr⟩:=zcM hb;obtain⟨a,rfl,ha⟩:=zj1 hx hp;simp
    . obtain⟨p,q,hp,hq,hr⟩:=zcM hb;rcases zj2 hx hp with⟨rfl,e⟩|⟨⟨f,a,c,rfl⟩,e⟩<;>simp
    . cases hb
   have hb1:∀ b,eqV P t x y=some b->(binOp .eql t X Y).run P w=.ok (.bool b) w/\(binOp .neq t X Y).run P w=.ok (.bool (!b)) w:=by
    intro b hb;obtain⟨g1,g2,g3,g4,g5,g6⟩:=hnice b hb;have he:=zCy hx hy hb
    cases X<;>first
     |(exact absurd rfl g1)
     |(exact absurd rfl (g2 _))
     |(exact absurd rfl (g3 _ _))
     |(exact absurd rfl (g4 _))
     |(exact absurd rfl (g5 _ _))
     |(exact absurd rfl (g6 _ _ _))
     |(constructor<;>simp[binOp,he])
   cases op<;>simp only[zb,reduceCtorEq]at h
   . obtain⟨b,hb,h⟩:=h;cases h;obtain⟨g1,g2,_⟩:=hnice b hb;exact fin g1 g2 ⟨_,(hb1 b hb).1,.pure (.bool _)⟩
   . obtain⟨b,hb,h⟩:=h;cases h;obtain⟨g1,g2,_⟩:=hnice b hb;exact fin g1 g2 ⟨_,(hb1 b hb).2,.pure (by rw[zjy];exact .bool _)⟩
theorem z6q{s d:TypeId}{i j:TI}(hi:ti P s=some i)(hj:ti P d=some j){v r:V}{x:Value}(hx:Rep ρ w F μ v x)(h:zmA j.desc v=some r) :
 ValA ρ P w F μ (convert s d x) r:=by
 unfold zmA at h;split at h
 . rename_i k hd;simp only[zb,V.int?_eq]at h;obtain⟨p,rfl,h⟩:=h;cases h;have e:=hx.int_inv;subst e;refine⟨.int k (k.wrap p.2),?_,.pure (by rw[zeV];exact .int _ _)⟩;simp only[convert,Sem.run_bind,zJ hi,zJ hj,Result.andThen_ok,hd];cases i.desc<;>rfl
 . rename_i hd;simp only[zb,V.str?_eq]at h;obtain⟨l,rfl,h⟩:=h;cases h;have hx':=hx;obtain⟨s,rfl,rfl⟩:=hx.str_inv;refine⟨.string s,?_,hx'⟩;simp only[convert,Sem.run_bind,zJ hi,zJ hj,Result.andThen_ok,hd]
   simp_all
 . cases h
theorem zfj{k k':IntKind}{a b:Int}(less:Bool)(ts:Array TypeId)(t:TypeId) :
 ValA ρ P w F μ (if less then Builtin.min_ ts t #[.int k a,.int k' b]else Builtin.max_ ts t #[.int k a,.int k' b]) (.int k (bi (bi less (ltI b a) (ltI a b)) b a)):=by
 cases less with
 | true =>
   refine⟨.int k (if b<a then b else a),by simp[Builtin.min_,Builtin.min2],.pure ?_⟩;rw[zU,zal,zhe];simp only[decide_eq_true_eq];exact .int _ _
 | false =>
   refine⟨.int k (if b>a then b else a),by simp[Builtin.max_,Builtin.max2],.pure ?_⟩;rw[zF,zal,zhe];simp only[decide_eq_true_eq];exact .int _ _
end
end Go.J
/- Parts of slices,aggregates. -/
namespace Go.J
theorem isSomeO_true{α:Type}{x:Option α}:zK x=true↔∃ a,x=some a:=by cases x<;>simp[zK]
theorem zfo{α:Type}{x:Option α}:zK x=false↔x=none:=by cases x<;>simp[zK]
def Good(ρ:Nat->Value):Prop:=∀ k,(ρ k).oneCell'=true
section
variable {ρ:Nat->Value}{P:Program}{w:World}{F:Nat->Prop}{μ:Nat->Nat->Option MI}{hs:HS}{T:PT V}
theorem zbE{a:Act}(hT:zb6 ρ w F μ T a.tmps){o:Option Operand}{y d r:Nat}(h:zFa T o y d=some r) :
 (o=none/\r=d)\/(∃ op k,o=some op/\a.eval op=.int k (r:Int)/\r<=y):=by
 cases o with
 |none=>left;exact⟨rfl,by have h:some d=some r:=h;cases h;rfl⟩
 | some op =>
   right;have h:(ob (zk T op) fun v=>ob v.nat? fun n=>gd (Nat.ble n y) (some n))=some r:=h;simp only[zb,zl,ble_true,V.nat?_eq]at h;obtain⟨v,hv,n,⟨k,rfl⟩,hle,hr⟩:=h;cases hr;exact⟨op,k,rfl,(zn hT hv).int_inv,hle⟩
theorem zaK(k:IntKind){n y:Nat}(code:BoundsCode)(h:n<=y):(Instr.sliceBound (.int k (n:Int)) y code).run P w=.ok n w:=by
 have h1:(0:Int)<=(n:Int)/\(n:Int)<=(y:Int):=⟨by omega,by omega⟩;simp only[Instr.sliceBound,asIntOf,Sem.run_bind,Sem.run_pure,Result.andThen_ok,if_pos h1,Int.toNat_natCast]
theorem zeh {a:Act} (hT:zb6 ρ w F μ T a.tmps) {len capJ cap l h m:Nat} {lo hi mx:Option Operand} (b:Bool) (hb:bounds T len capJ lo hi mx=some (l,h,m)) (h1:len<=capJ) (h2:capJ<=cap) :
 ∃ m',(Instr.sliceBounds b len cap (lo.map a.eval) (hi.map a.eval) (mx.map a.eval)).run P w=.ok (l,h,m') w/\l<=h/\h<=m/\m<=capJ /\
   (zK mx=true->m'=m)/\(zK mx=false->m=capJ/\m'=cap):=by
 unfold bounds at hb;simp only[zl,zb]at hb;obtain⟨hmx,m1,hm,h',hh,l',hl,he⟩:=hb;cases he;unfold Instr.sliceBounds;rcases zbE hT hm with⟨rfl,rfl⟩|⟨om,km,rfl,em,hm'⟩
 . have hll:l<=h:=by
    rcases zbE hT hl with⟨rfl,rfl⟩|⟨ol,kl,rfl,el,hl'⟩
    . exact Nat.zero_le _
    . exact hl'
   have hle:h<=m:=by
    rcases zbE hT hh with⟨rfl,rfl⟩|⟨oh,kh,rfl,eh,hh'⟩
    . exact h1
    . exact hh'
   refine⟨cap,?_,hll,hle,Nat.le_refl _,fun h=>by simp[zK]at h,fun _=>⟨rfl,rfl⟩⟩;rcases zbE hT hh with⟨rfl,rfl⟩|⟨oh,kh,rfl,eh,hh'⟩
   . rcases zbE hT hl with⟨rfl,rfl⟩|⟨ol,kl,rfl,el,hl'⟩
     . rfl
     . simp only[Option.map_some,Option.map_none,el,Sem.run_bind,Sem.run_pure,Result.andThen_ok,zaK _ _ hl']
   . have hh2:=Nat.le_trans hh' h2;rcases zbE hT hl with⟨rfl,rfl⟩|⟨ol,kl,rfl,el,hl'⟩
     . simp only[Option.map_some,Option.map_none,eh,Sem.run_bind,Sem.run_pure,Result.andThen_ok,zaK _ _ hh2]
     . simp only[Option.map_some,Option.map_none,eh,el,Sem.run_bind,Sem.run_pure,Result.andThen_ok,zaK _ _ hh2,zaK _ _ hl']
 . rw [show zK (some om)=true from rfl,zU,isSomeO_true]at hmx;obtain⟨oh,rfl⟩:=hmx;rcases zbE hT hh with⟨h0,_⟩|⟨oh',kh,e,eh,hh'⟩
   . cases h0
   . cases e
     have hll:l<=h:=by
      rcases zbE hT hl with⟨rfl,rfl⟩|⟨ol,kl,rfl,el,hl'⟩
      . exact Nat.zero_le _
      . exact hl'
     refine⟨m,?_,hll,hh',hm',fun _=>rfl,fun h=>by simp[zK]at h⟩;simp only[Option.map_some,em,eh,Sem.run_bind,zaK _ _ (Nat.le_trans hm' h2),zaK _ _ hh',Result.andThen_ok];rcases zbE hT hl with⟨rfl,rfl⟩|⟨ol,kl,rfl,el,hl'⟩
     . rfl
     . simp only[Option.map_some,el,Sem.run_bind,zaK _ _ hl',Result.andThen_ok,Sem.run_pure]
theorem zhS(s:ByteArray)(l h:Nat):bytesOf (s.extract l h)=(((bytesOf s).drop l).take (h-l)):=by
 unfold bytesOf;rw[Lib.extract_data,List.map_take,List.map_drop]
theorem zww {a:Act} (hR:R ρ w F μ P hs) (hT:zb6 ρ w F μ T a.tmps) {t:TypeId} {i:TI} (hi:ti P t=some i) {v r:V} {x:Value} {lo hi' mx:Option Operand}
 (hx:Rep ρ w F μ v x) (h:zkp P T hs i v lo hi' mx=some r):ValA ρ P w F μ (Instr.sliceAt t x (lo.map a.eval) (hi'.map a.eval) (mx.map a.eval)) r:=by
 unfold zkp at h;split at h
 . rename_i hd;simp only[zb,V.str?_eq,znf,zl,zaE,zfo]at h;obtain⟨s,rfl,rfl,⟨l,hh,m⟩,hb,hr⟩:=h;cases hr;obtain⟨s,rfl,rfl⟩:=hx.str_inv;obtain⟨m',hrun,h1,h2,h3,_,h4⟩:=zeh (P:=P) (w:=w) hT (cap:=s.size) false hb (Nat.le_refl _) (by rw[zz,zbU];exact Nat.le_refl _);rw[zz,zbU]at hrun;simp only[Option.map_none]at hrun;refine⟨.string (s.extract l hh),?_,.pure ?_⟩
   . simp only[Instr.sliceAt,Instr.slice,Sem.run_bind,zJ hi,Result.andThen_ok,hd,Option.map_none,Option.isSome_none,Bool.false_eq_true,if_false,Sem.run_pure,hrun]
   . rw[zcq,zcv,<- zhS];exact .str _
 . rename_i el hd;simp only[zb]at h;obtain⟨e,he,h⟩:=h
   have key:∀ (ad:Option Addr) (len cap l hh m':Nat),(Instr.sliceBounds true len cap (lo.map a.eval) (hi'.map a.eval) (mx.map a.eval)).run P w=.ok (l,hh,m') w ->
    (Instr.sliceAt t (.slice ad len cap) (lo.map a.eval) (hi'.map a.eval) (mx.map a.eval)).run P w=.ok (.slice (if m'=l then ad else ad.map (·.add (l*e.size))) (hh-l) (m'-l)) w:=by
    intro ad len cap l hh m' hrun;simp only[Instr.sliceAt,Instr.slice,Sem.run_bind,zJ hi,Result.andThen_ok,hd,hrun,zb9 he,Sem.run_pure]
   split at h
   . simp only[znh,zb]at h;obtain⟨⟨l,hh,m⟩,hb,hr⟩:=h;cases hr;have e:=hx.snil_inv;subst e;obtain⟨m',hrun,h1,h2,h3,h4,h5⟩:=zeh (P:=P) (w:=w) hT (cap:=0) true hb (Nat.le_refl _) (Nat.le_refl _)
     have hm':m'=0:=by
      cases hs:zK mx with
      |true=>have:=h4 hs;omega
      |false=>exact(h5 hs).2
     refine⟨_,key _ _ _ _ _ _ hrun,.pure ?_⟩;have e1:hh-l=0:=by omega
     have e2:m'-l=0:=by omega
     simp only[Option.map_none,ite_self,e1,e2];exact .snil
   . rename_i es tight;simp only[zqo,zl,zb,sizes_eq,zz]at h;obtain⟨hsz,⟨l,hh,m⟩,hb,hr⟩:=h;cases hr;have hx:=hx.sl_inv;rw[zcq,zcv]
     cases hx with
     | slE ad c _ ht =>
       obtain⟨m',hrun,h1,h2,h3,h4,h5⟩:=zeh (P:=P) (w:=w) hT (cap:=c) true hb (Nat.le_refl _) (Nat.zero_le _);simp only[List.length_nil]at hb hrun h3 h4 h5;refine⟨_,key _ _ _ _ _ _ hrun,.pure ?_⟩;have e1:hh-l=0:=by omega
       rw[e1];simp only[List.drop_nil,List.take_nil];refine .slE _ _ _ fun hq=>?_
       cases hs:zK mx with
       |true=>have:=h4 hs;omega
       | false =>
         rw[hs,zF,et_true]at hq;have:=(h5 hs).2;have:=ht hq.1;omega
     | slC _ b off size c _ ys hb' hl hcell hrep hle ht =>
       obtain⟨m',hrun,h1,h2,h3,h4,h5⟩:=zeh (P:=P) (w:=w) hT (cap:=c) true hb (Nat.le_refl _) hle;have hlen:((es.drop l).take (hh-l)).length=hh-l:=by simp;omega
       have htight:(bi (zK mx) (Nat.beq hh m) (et tight (Nat.beq hh es.length))=true)->m'-l=hh-l:=by
        intro hq
        cases hs:zK mx with
        |true=>rw[hs,zU,beq_true]at hq;have:=h4 hs;omega
        | false =>
          rw[hs,zF,et_true,beq_true]at hq;have:=(h5 hs).2;have:=ht hq.1;omega
       refine⟨_,key _ _ _ _ _ _ hrun,.pure ?_⟩
       have hmm:hh<=m':=by
        cases hs:zK mx with
        |true=>have:=h4 hs;omega
        |false=>have:=(h5 hs).2;omega
       by_cases he0:m'=l
       . have e1:hh-l=0:=by omega
         rw[if_pos he0,e1,List.take_zero];exact .slE _ _ _ fun hq=>by omega
       . rw [if_neg he0];simp only[Option.map_some,addr_add];rw[show (Value.slice (some ⟨b,off+l*e.size,none⟩) (hh-l) (m'-l))=.slice (some ⟨b,off+l*e.size,none⟩) ((es.drop l).take (hh-l)).length (m'-l) by rw[hlen]]
         have hsame:es=[]\/size=e.size:=by
          cases es with
          |nil=>exact .inl rfl
          |cons x es=>exact .inr (by rw[<- hl x (by simp),hsz x (by simp)])
         refine .slC _ b _ e.size _ _ (fun i j=>ys (l+i) j) hb' (fun x hx=>hsz x (List.mem_of_mem_drop (List.mem_of_mem_take hx))) (fun i x j v hi hj=>?_) (fun i x j v hi hj=>?_) (by omega) (fun hq=>by rw[hlen];exact htight hq)
         . have hi':es[l+i]?=some x:=by
            rw[List.getElem?_take]at hi;split at hi
            . rwa [List.getElem?_drop]at hi
            . cases hi
           have:=hcell (l+i) x j v hi' hj;rcases hsame with rfl|rfl
           . simp at hi'
           . rw[show off+l*e.size+i*e.size+j=off+(l+i)*e.size+j by rw[Nat.add_mul];omega];exact this
         . have hi':es[l+i]?=some x:=by
            rw[List.getElem?_take]at hi;split at hi
            . rwa [List.getElem?_drop]at hi
            . cases hi
           exact hrep (l+i) x j v hi' hj
   . rename_i id g off len cap;simp only[zng,zb,zl,beq_true]at h;obtain⟨row,hrow,hsz,⟨l,hh,m⟩,hb,hz,hr⟩:=h;cases hr;obtain⟨mi,c,hm,rfl,g1,g2,g3,g4⟩:=hx.own_inv;have hms:mi.size=e.size:=by rw[(hR.row hrow hm).hsize,hsz]
     have hcap:len<=orc len (fun c=>c) cap/\orc len (fun c=>c) cap<=c:=by
      cases cap with
      |none=>exact⟨Nat.le_refl _,g1⟩
      |some k=>have:=g3 k rfl;subst this;exact⟨g1,Nat.le_refl _⟩
     obtain⟨m',hrun,h1,h2,h3,h4,h5⟩:=zeh (P:=P) (w:=w) hT (cap:=c) true hb hcap.1 hcap.2
     have hmm:m<=m'/\m'<=c:=by
      cases hs:zK mx with
      |true=>have:=h4 hs;omega
      |false=>have:=h5 hs;omega
     have hz':l=0\/l<m:=by
      cases hq:Nat.beq l 0 with
      |true=>exact .inl (beq_true.1 hq)
      |false=>dsimp only at hz;rw[hq,zF,blt_true]at hz;exact .inr hz
     have had:(if m'=l then (some ⟨mi.b,off,none⟩:Option Addr)else (some ⟨mi.b,off,none⟩:Option Addr).map (·.add (l*e.size)))=some ⟨mi.b,off+l*e.size,none⟩:=by
      by_cases he0:m'=l
      . have:l=0:=by omega
        subst this;simp[he0]
      . rw[if_neg he0];simp[addr_add]
     refine⟨_,key _ _ _ _ _ _ hrun,?_⟩;rw[had]
     have hsub:off+l*e.size+(m'-l)*mi.size=off+m'*mi.size:=by
      rw[<- hms,Nat.add_assoc,<- Nat.add_mul];congr 2;omega
     refine .own id g _ _ _ _ mi hm (by dsimp only;omega) ?_ ?_ ?_
     . rw[hsub];have:m'*mi.size<=c*mi.size:=Nat.mul_le_mul_right _ hmm.2;omega
     . intro k hk
       cases hs:zK mx with
       |true=>rw[hs,zU]at hk;cases hk;rw[h4 hs]
       | false =>
         rw[hs,zF]at hk
         cases cap with
         |none=>cases hk
         | some k' =>
           have hk:some (k'-l)=some k:=hk;cases hk;have:=g3 k' rfl;rw[(h5 hs).2];omega
     . intro hk
       cases hs:zK mx with
       |true=>rw[hs,zU]at hk;cases hk
       | false =>
         rw[hs,zF]at hk
         cases cap with
         |some k'=>cases hk
         |none=>rw[hsub,(h5 hs).2];exact g4 rfl
   . cases h
 . cases h
end
end Go.J
/- Aggregates;freezing. -/
namespace Go.J
section
variable {ρ:Nat->Value}{P:Program}{w:World}{F:Nat->Prop}{μ:Nat->Nat->Option MI}{hs:HS}{T:PT V}
def RelC(ρ:Nat->Value)(w:World)(F:Nat->Prop)(μ:Nat->Nat->Option MI)(cs:List V)(ys:Array Value):Prop :=
 ys.size=cs.length/\∀ (i:Nat) (v:V),cs[i]?=some v->Rep ρ w F μ v (ys.getD i undef)
theorem zqv(hρ:Good ρ){v:V}{x:Value}(h:Rep ρ w F μ v x)(hv:∀ cs,v≠.agg cs):x.cells=#[x]:=by
 cases h with
 | pure h=>cases h with
   | sym k =>
     have:=hρ k;cases he:ρ k<;>rw[he]at this<;>first|rfl|(cases this)
   |agg cs ys hs hc=>exact absurd rfl (hv cs)
   |_=>rfl
 |agg cs ys hs hc=>exact absurd rfl (hv cs)
 |_=>rfl
theorem zfz(hρ:Good ρ){v:V}{x:Value}(h:Rep ρ w F μ v x):RelC ρ w F μ v.cells x.cells:=by
 by_cases hv:∃ cs,v=.agg cs
 . obtain⟨cs,rfl⟩:=hv;obtain⟨ys,rfl,hs,hc⟩:=h.agg_inv;exact⟨hs,hc⟩
 . have hv':∀ cs,v≠.agg cs:=fun cs e=>hv ⟨cs,e⟩
   rw[zqv hρ h hv'];have hc:v.cells=[v]:=by cases v<;>first|rfl|(exact absurd rfl (hv' _))
   rw[hc];refine⟨rfl,fun i u hi=>?_⟩
   cases i with
   |zero=>simp at hi;subst hi;exact h
   |succ i=>simp at hi
theorem zot(hρ:Good ρ){v:V}{x:Value}(h:Rep ρ w F μ v x)(hv:v.isCell=true):x.oneCell'=true:=by
 cases h with
 | pure h=>cases h with
   |sym k=>exact hρ k
   |agg cs ys hs hc=>cases hv
   |tuple cs ys hs hc=>cases hv
   |_=>rfl
 |agg cs ys hs hc=>cases hv
 |tuple cs ys hs hc=>cases hv
 |_=>rfl
theorem zxs(off:Nat):∀ (vs:List Value) (s:Nat) (cells:Array Value),
 ((vs.zipIdx s).foldl (fun cs p=>cs.setIfInBounds (off+p.2) p.1) cells).size=cells.size /\
 ∀ k,((vs.zipIdx s).foldl (fun cs p=>cs.setIfInBounds (off+p.2) p.1) cells)[k]?=if off+s<=k/\k<off+s+vs.length/\k<cells.size then vs[k-(off+s)]? else cells[k]?:=by
 intro vs
 induction vs with
 |nil=>intro s cells;exact⟨rfl,fun k=>by simp;intro h1 h2;omega⟩
 | cons v vs ih =>
   intro s cells;simp only[List.zipIdx_cons,List.foldl_cons]
   grind
theorem zn3(off:Nat)(xs cells:Array Value) :
 (xs.zipIdx.foldl (fun cs (p:Value×Nat)=>cs.setIfInBounds (off+p.2) p.1) cells).size=cells.size /\
 ∀ k,(xs.zipIdx.foldl (fun cs (p:Value×Nat)=>cs.setIfInBounds (off+p.2) p.1) cells)[k]?=if off<=k/\k<off+xs.size/\k<cells.size then xs[k-off]? else cells[k]?:=by
 have h:=zxs off xs.toList 0 cells;simp only[Nat.add_zero,Array.length_toList]at h
 grind [Array.toList_zipIdx]
theorem RelC.over{cs new:List V}{ys xs:Array Value}(h:RelC ρ w F μ cs ys)(hn:RelC ρ w F μ new xs)(off:Nat) :
 RelC ρ w F μ (zaI cs off new) (xs.zipIdx.foldl (fun cs (p:Value×Nat)=>cs.setIfInBounds (off+p.2) p.1) ys):=by
 obtain⟨h1,h2⟩:=zn3 off xs ys;refine⟨by rw[h1,zbD];exact h.1,fun k v hk=>?_⟩
 have hlt:k<cs.length:=by
  grind [List.getElem?_eq_some_iff,zbD]
 rw[zdO _ _ _ _ hlt]at hk;rw[Array.getD_eq_getD_getElem?,h2];have hsz:=h.1;have hsn:=hn.1;by_cases hc:off<=k/\k<off+new.length
 . rw[if_pos hc]at hk;rw[if_pos ⟨hc.1,by omega,by omega⟩];have:=hn.2 _ v hk
   simp_all
 . rw[if_neg hc]at hk;rw[if_neg (by omega)];have:=h.2 _ v hk
   simp_all
theorem zp1(i:TI)(cells:List V):zdA P T i [] cells=some cells:=rfl
theorem zmL(i:TI)(p:Nat×Operand)(l:List (Nat×Operand))(cells:List V):zdA P T i (p::l) cells =
 ob (zi i p.1) fun fd=>ob (ti P fd.type) fun fi=>ob (zk T p.2) fun v =>
  gd (et (Nat.beq (zC v.cells) fi.size) (Nat.ble (fd.offset+fi.size) (zC cells))) (zdA P T i l (zaI cells fd.offset v.cells)):=rfl
theorem zp0(hρ:Good ρ){a:Act}(hT:zb6 ρ w F μ T a.tmps){i:TI}{place:Nat->Option (Nat×Nat)}
 (hpl:∀ f fd fi,zi i f=some fd->ti P fd.type=some fi->place f=some (fd.offset,fi.size)) :
 ∀ (l:List (Nat×Operand)) (cs r:List V) (cells:Array Value),zdA P T i l cs=some r->RelC ρ w F μ cs cells ->
   ∃ cells',Instr.fill place cells (l.map fun (i,x)=>(i,a.eval x))=some cells'/\RelC ρ w F μ r cells':=by
 intro l
 induction l with
 |nil=>intro cs r cells h hc;rw[zp1]at h;cases h;exact⟨cells,rfl,hc⟩
 | cons p l ih =>
   intro cs r cells h hc;rw[zmL]at h;simp only[zb,zl,et_true,beq_true,ble_true,zz]at h;obtain⟨fd,hfd,fi,hfi,v,hv,⟨h1,h2⟩,h⟩:=h;have hrel:=zfz hρ (zn hT hv);have hsz:=hrel.1;have hcz:=hc.1;obtain⟨cells',hfill,hr⟩:=ih _ _ _ h (hc.over hrel fd.offset);refine⟨cells',?_,hr⟩;obtain⟨pi,px⟩:=p;simp only[List.map_cons,Instr.fill,hpl pi fd fi hfd hfi]
   grind
theorem zhq{l:List Field}(h:zaO P l=true) :
 ∃ places:List (Nat×Nat),l.mapM (fun f=>(P.info? f.type).map fun i=>(f.offset,i.size))=some places /\
   ∀ (k:Nat) (fd:Field) (fi:TI),l[k]?=some fd->ti P fd.type=some fi->places[k]?=some (fd.offset,fi.size):=by
 have h':∀ f∈l,zK (ti P f.type)=true:=(zhV (fun f:Field=>zK (ti P f.type)) l).1 h;clear h
 induction l with
 |nil=>exact⟨[],rfl,fun k fd fi h=>by simp at h⟩
 | cons f l ih =>
   obtain⟨places,hm,hp⟩:=ih (fun x hx=>h' x (List.mem_cons_of_mem _ hx));obtain⟨i0,hi0⟩:=isSomeO_true.1 (h' f (List.mem_cons_self ..));obtain⟨info,z,h1,h2,h3,_⟩:=zdK hi0;refine⟨(f.offset,info.size)::places,by simp[List.mapM_cons,h1,hm],fun k fd fi hk hfi=>?_⟩
   grind
theorem zje{t:TypeId}{i:TI}(hi:ti P t=some i):∃ info z,P.info? t=some info/\P.underlying t=some i.desc/\info.zero=some z/\RelC ρ w F μ i.zero z.cells/\(zeroValue t).run P w=.ok z w:=by
 obtain⟨info,z,h1,h2,h3,h4,h5,h6⟩:=zdK hi;obtain⟨hl,hz⟩:=zbW (ρ:=ρ) (w:=w) (F:=F) h6;refine⟨info,z,h1,h2,h5,⟨by simpa using hl,fun k v hk=>?_⟩,by simp[zeroValue,typeInfo,h1,h5]⟩;obtain⟨x,hx,hr⟩:=hz k v hk;rw[Array.getElem?_toList]at hx;rw[Array.getD_eq_getD_getElem?,hx];exact .pure hr
theorem zxL(hρ:Good ρ){a:Act}(hT:zb6 ρ w F μ T a.tmps){t:TypeId}{i:TI}(hi:ti P t=some i){parts:Array (Nat×Operand)}{cs:List V}(hok:zaO P (fieldsOf i.desc)=true)
 (hst:zat i.desc=true) (h:zdA P T i parts.toList i.zero=some cs):ValA ρ P w F μ (Instr.build t (parts.map fun (i,x)=>(i,a.eval x))) (.agg cs):=by
 obtain⟨info,z,h1,h2,h3,hz,hrz⟩:=zje (ρ:=ρ) (w:=w) (F:=F) (μ:=μ) hi;cases hd:i.desc<;>rw[hd]at hst<;>first|(cases hst;done)|skip
 rename_i fs;rw[hd]at hok h2;obtain⟨places,hpl,hp⟩:=zhq hok
 obtain⟨cells,hfill,hrel⟩:=zp0 hρ hT (P:=P) (i:=i) (place:=(places.toArray[·]?)) (fun f fd fi hf hfi=>by
  obtain⟨fs',hd',hfs⟩:=fieldOf_eq.1 hf;rw[hd]at hd';cases hd';have:=hp f fd fi (by simpa [fieldsOf]using hfs) hfi
  simpa using this) _ _ _ _ h hz
 have hb:P.built t (parts.map fun (i,x)=>(i,a.eval x)).toList=some cells:=by
  unfold Program.built
  simp_all [fieldsOf]
 exact⟨.agg cells,run_build w t _ _ hb,.agg _ _ hrel.1 hrel.2⟩
theorem zmN(n:Nat)(cells:List V):zcl T n [] cells=some cells:=rfl
theorem zl5(n:Nat)(p:Nat×Operand)(l:List (Nat×Operand))(cells:List V):zcl T n (p::l) cells =
 ob (zk T p.2) fun v=>gd (et (Nat.beq (zC v.cells) n) (Nat.ble (p.1*n+n) (zC cells))) (zcl T n l (zaI cells (p.1*n) v.cells)):=rfl
theorem zmM(hρ:Good ρ){a:Act}(hT:zb6 ρ w F μ T a.tmps){n:Nat} :
 ∀ (l:List (Nat×Operand)) (cs r:List V) (cells:Array Value),zcl T n l cs=some r->RelC ρ w F μ cs cells ->
   ∃ cells',Instr.fill (fun i=>some (i*n,n)) cells (l.map fun (i,x)=>(i,a.eval x))=some cells'/\RelC ρ w F μ r cells':=by
 intro l
 induction l with
 |nil=>intro cs r cells h hc;rw[zmN]at h;cases h;exact⟨cells,rfl,hc⟩
 | cons p l ih =>
   intro cs r cells h hc;rw[zl5]at h;simp only[zb,zl,et_true,beq_true,ble_true,zz]at h;obtain⟨v,hv,⟨h1,h2⟩,h⟩:=h;have hrel:=zfz hρ (zn hT hv);have hsz:=hrel.1;have hcz:=hc.1;obtain⟨pi,px⟩:=p;obtain⟨cells',hfill,hr⟩:=ih _ _ _ h (hc.over hrel (pi*n));refine⟨cells',?_,hr⟩;simp only[List.map_cons,Instr.fill]
   grind
theorem zvo(hρ:Good ρ){a:Act}(hT:zb6 ρ w F μ T a.tmps){t el:TypeId}{i e:TI}(hi:ti P t=some i)(hel:zp7 i.desc=some el)(he:ti P el=some e){parts:Array (Nat×Operand)}{cs:List V}
 (h:zcl T e.size parts.toList i.zero=some cs):ValA ρ P w F μ (Instr.build t (parts.map fun (i,x)=>(i,a.eval x))) (.agg cs):=by
 obtain⟨info,z,h1,h2,h3,hz,hrz⟩:=zje (ρ:=ρ) (w:=w) (F:=F) (μ:=μ) hi;obtain⟨ie,ze,g1,g2,g3,_⟩:=zdK he
 have hd:∃ n,i.desc=.array n el:=by
  cases hd:i.desc<;>rw[hd]at hel<;>first|(cases hel;done)|skip
  cases hel
  grind
 obtain⟨n,hd⟩:=hd;rw[hd]at h2;obtain⟨cells,hfill,hrel⟩:=zmM hρ hT _ _ _ _ h hz
 have hb:P.built t (parts.map fun (i,x)=>(i,a.eval x)).toList=some cells:=by
  unfold Program.built
  simp_all
 exact⟨.agg cells,run_build w t _ _ hb,.agg _ _ hrel.1 hrel.2⟩
theorem zhH{size off len:Nat}{es l:List (List V)}(h:zd8 size off len es=some l):off % size=0/\off / size+len<=es.length/\l=(es.drop (off / size)).take len:=by
 grind [zd8,zl,et_true,beq_true,ble_true,zz,zcq,zcv,Option.some.injEq]
theorem znl(hR:R ρ w F μ P hs){id g off len:Nat}{a:Nat×List (List V)×Bool×Bool×Bool}(ha:zaF hs id g=some a){m:MI}(hm:μ id g=some m)(hmod:off % a.1=0) :
 ∀ (i:Nat) (e:List V) (j:Nat) (v:V),((a.2.1.drop (off / a.1)).take len)[i]?=some e->e[j]?=some v ->
   ∃ y,w.cell? ⟨m.b,off+i*a.1+j,none⟩=some y/\Rep ρ w F μ v y/\(a.2.2.2.2=true->PRep ρ w F v y):=by
 intro i e j v hi hj
 have hi':a.2.1[off / a.1+i]?=some e:=by
  grind
 obtain⟨y,hy,hr⟩:=(hR.row ha hm).cell hi' hj
 grind [Nat.div_add_mod,Nat.add_mul,Nat.mul_comm]
theorem zlO(hR:R ρ w F μ P hs){id g off len:Nat}{cap:Option Nat}{v':V}{x:Value}(hx:Rep ρ w F μ (.own id g off len cap) x)(h:zdr hs id g off len=some v')
 {F':Nat->Prop} (hF:∀ b,F b->F' b) (hb:∀ m,μ id g=some m->F' m.b):PRep ρ w F' v' x:=by
 simp only[zdr,zb,zl]at h;obtain⟨a,ha,hrow,l,hl,hv⟩:=h;cases hv;obtain⟨hmod,hlen,rfl⟩:=zhH hl;obtain⟨m,c,hm,rfl,g1,g2,g3,g4⟩:=hx.own_inv
 have hll:((a.2.1.drop (off / a.1)).take len).length=len:=by
  simp;omega
 have hp:=znl hR (len:=len) ha hm hmod;rw[show (Value.slice (some ⟨m.b,off,none⟩) len c)=.slice (some ⟨m.b,off,none⟩) ((a.2.1.drop (off / a.1)).take len).length c by rw[hll]];refine .slC _ m.b off a.1 c false (fun i j=>(w.cell? ⟨m.b,off+i*a.1+j,none⟩).getD undef) (hb m hm) (fun e he=>(hR.row ha hm).hlen e (List.mem_of_mem_drop (List.mem_of_mem_take he))) (fun i e j v hi hj=>?_) (fun i e j v hi hj=>?_) (by omega) (fun h=>by cases h)
 . grind
 . obtain⟨y,hy,_,hpr⟩:=hp i e j v hi hj;rw[hy];exact(hpr hrow).mono ρ hF (fun _ _=>rfl)
end
end Go.J
/- Values without numbers: what a value becomes when its rows are frozen;making objects. -/
namespace Go.J
section
variable {ρ:Nat->Value}{P:Program}{w:World}{F:Nat->Prop}{μ:Nat->Nat->Option MI}{hs:HS}{T:PT V}
def zv0(μ:Nat->Nat->Option MI)(F':Nat->Prop)(v:V):Prop:=∀ id g off len cap,v=.own id g off len cap->∀ m,μ id g=some m->F' m.b
theorem zkj(hR:R ρ w F μ P hs){v v':V}{x:Value}(hx:Rep ρ w F μ v x)(h:zbn hs v=some v'){F':Nat->Prop}(hF:∀ b,F b->F' b)(hb:zv0 μ F' v):PRep ρ w F' v' x:=by
 unfold zbn at h;split at h
 . exact zlO hR hx h hF (hb _ _ _ _ _ rfl)
 . simp only[zl]at h;obtain⟨hp,h⟩:=h;cases h;exact(Rep.pure2 ρ hx hp).mono ρ hF (fun _ _=>rfl)
theorem zoB:zc5 hs []=some []:=rfl
theorem zgD(v:V)(l:List V):zc5 hs (v::l)=ob (zbn hs v) fun v'=>ob (zc5 hs l) fun l'=>some (v'::l'):=rfl
theorem zqj(hR:R ρ w F μ P hs){F':Nat->Prop}(hF:∀ b,F b->F' b):∀ {l l':List V},zc5 hs l=some l'->(∀ v∈l,zv0 μ F' v) ->
 l'.length=l.length/\∀ (i:Nat) (v':V),l'[i]?=some v'->∃ v,l[i]?=some v/\∀ x,Rep ρ w F μ v x->PRep ρ w F' v' x:=by
 intro l
 induction l with
 |nil=>intro l' h _;rw[zoB]at h;cases h;exact⟨rfl,fun i v' h=>by simp at h⟩
 | cons v l ih =>
   intro l' h hin;rw[zgD]at h;simp only[zb]at h
   grind [List.mem_cons_of_mem,zkj,List.mem_cons_self]
theorem zgF(hR:R ρ w F μ P hs){v v':V}{x:Value}(hx:Rep ρ w F μ v x)(h:zaP hs v=some v'){F':Nat->Prop}(hF:∀ b,F b->F' b)(hb:∀ u∈v.cells,zv0 μ F' u):PRep ρ w F' v' x:=by
 unfold zaP at h;split at h
 . rename_i cs;simp only[zb]at h;obtain⟨l,hl,h⟩:=h;cases h;obtain⟨ys,rfl,hs',hc⟩:=hx.agg_inv;obtain⟨hlen,ha⟩:=zqj hR hF hl hb;refine .agg l ys (by omega) fun i u hi=>?_
   grind
 . rename_i hna;have hc:v.cells=[v]:=by cases v<;>first|rfl|(exact absurd rfl (hna _))
   grind [zkj]
theorem zoC:za1 hs []=some []:=rfl
theorem zlR(v:V)(l:List V):za1 hs (v::l)=ob (zaP hs v) fun v'=>ob (za1 hs l) fun l'=>some (v'::l'):=rfl
theorem zgE(hR:R ρ w F μ P hs){F':Nat->Prop}(hF:∀ b,F b->F' b):∀ {l l':List V},za1 hs l=some l'->(∀ v∈l,∀ u∈v.cells,zv0 μ F' u) ->
 l'.length=l.length/\∀ (i:Nat) (v':V),l'[i]?=some v'->∃ v,l[i]?=some v/\∀ x,Rep ρ w F μ v x->PRep ρ w F' v' x:=by
 intro l
 induction l with
 |nil=>intro l' h _;rw[zoC]at h;cases h;exact⟨rfl,fun i v' h=>by simp at h⟩
 | cons v l ih =>
   intro l' h hin;rw[zlR]at h;simp only[zb]at h
   grind [List.mem_cons_of_mem,zgF,List.mem_cons_self]
theorem zki(hR:R ρ w F μ P hs){v v':V}{x:Value}(hx:Rep ρ w F μ v x)(h:still hs v=some v'){F':Nat->Prop}(hF:∀ b,F b->F' b)(hb:∀ id g m,μ id g=some m->F' m.b):PRep ρ w F' v' x:=by
 have hin:∀ u,zv0 μ F' u:=fun u id g off len cap _ m hm=>hb id g m hm
 unfold still at h;split at h
 . rename_i cs;simp only[zb]at h;obtain⟨l,hl,h⟩:=h;cases h;obtain⟨ys,rfl,hs',hc⟩:=hx.tuple_inv;obtain⟨hlen,ha⟩:=zgE hR hF hl (fun v _ u _=>hin u);refine .tuple l ys (by omega) fun i u hi=>?_
   grind
 . exact zgF hR hx h hF (fun u _=>hin u)
def Colder(hs hs':HS):Prop:=hs'.n=hs.n/\∀ id,hs'.H.get id=hs.H.get id \/
 ∃ size gen es exact fz row,hs.H.get id=some (.arr size gen es exact fz row)/\hs'.H.get id=some (.arr size gen es exact true row)
theorem Colder.refl(hs:HS):Colder hs hs:=⟨rfl,fun _=>.inl rfl⟩
theorem Colder.trans{a b c:HS}(h:Colder a b)(h':Colder b c):Colder a c:=by
 refine⟨h'.1.trans h.1,fun id=>?_⟩;rcases h.2 id with h1|⟨s,g,es,ex,fz,row,h1,h1'⟩<;>rcases h'.2 id with h2|⟨s2,g2,es2,ex2,fz2,row2,h2,h2'⟩
 . exact .inl (h2.trans h1)
 . rw[h1]at h2;exact .inr ⟨s2,g2,es2,ex2,fz2,row2,h2,h2'⟩
 . exact .inr ⟨s,g,es,ex,fz,row,h1,h2.trans h1'⟩
 . rw[h1']at h2;cases h2;exact .inr ⟨s,g,es,ex,fz,row,h1,h2'⟩
theorem zkQ (hR:R ρ w F μ P hs) (id:Nat):∃ F',R ρ w F' μ P (zM hs id)/\Fr w F μ hs w F' μ (zM hs id)/\Colder hs (zM hs id) /\
 (∀ size gen es exact fz row m,hs.H.get id=some (.arr size gen es exact fz row)->μ id gen=some m->F' m.b):=by
 cases ho:hs.H.get id with
 | none =>
   have e:zM hs id=hs:=by simp only[zM,ho];rfl
   rw[e];exact⟨F,hR,Fr.refl ..,Colder.refl _,fun size gen es exact fz row m h _=>by cases h⟩
 | some o =>
   cases o with
   | arr size gen es exact fz row =>
     have e:zM hs id=hs.wr id (.arr size gen es exact true row):=by simp only[zM,ho];rfl
     rw[e];have h:=hR.freeze (hs':=hs.wr id (.arr size gen es exact true row)) ho (fun k=>ze0 _ _ _ _);refine⟨_,h.1,h.2,⟨rfl,fun k=>?_⟩,?_⟩
     . rw[ze0];by_cases e:k=id
       . subst e;rw[if_pos rfl];exact .inr ⟨_,_,_,_,_,_,ho,rfl⟩
       . rw[if_neg e];exact .inl rfl
     . intro s g es' ex fz' row' m h1 h2;cases h1;exact .inr ⟨m,h2,rfl⟩
   | mp es =>
     have e:zM hs id=hs:=by simp only[zM,ho];rfl
     rw[e];exact⟨F,hR,Fr.refl ..,Colder.refl _,fun size gen es exact fz row m h _=>by cases h⟩
   | lp a b c d e f =>
     have e:zM hs id=hs:=by simp only[zM,ho];rfl
     rw[e];exact⟨F,hR,Fr.refl ..,Colder.refl _,fun size gen es exact fz row m h _=>by cases h⟩
theorem zdT(v:V)(l:List V):zaG hs (v::l)=zaN (zaG hs l) v:=rfl
theorem zpi (hR:R ρ w F μ P hs):∀ l:List V,∃ F',R ρ w F' μ P (zaG hs l)/\Fr w F μ hs w F' μ (zaG hs l)/\Colder hs (zaG hs l) /\
 (∀ v∈l,∀ id g off len cap,v=.own id g off len cap->∀ size es exact fz row m,hs.H.get id=some (.arr size g es exact fz row)->μ id g=some m->F' m.b):=by
 intro l
 induction l with
 |nil=>exact⟨F,hR,Fr.refl ..,Colder.refl _,fun v hv=>by simp at hv⟩
 | cons v l ih =>
   obtain⟨F1,h1,h2,h3,h4⟩:=ih;rw[zdT];unfold zaN;split
   . rename_i id g off len cap;obtain⟨F2,g1,g2,g3,g4⟩:=zkQ h1 id;refine⟨F2,g1,h2.trans g2,h3.trans g3,fun u hu id' g' off' len' cap' he size es exact fz row m hg hm=>?_⟩;rcases List.mem_cons.1 hu with rfl|hu
     . cases he;rcases h3.2 id with hk|⟨s,g0,es0,ex0,fz0,row0,hk1,hk2⟩
       . exact g4 _ _ _ _ _ _ m (hk.trans hg) hm
       . rw[hg]at hk1;cases hk1;exact g4 _ _ _ _ _ _ m hk2 hm
     . exact g2.fm _ (h4 u hu id' g' off' len' cap' he size es exact fz row m hg hm)
   . rename_i hno;refine⟨F1,h1,h2,h3,fun u hu id' g' off' len' cap' he=>?_⟩;rcases List.mem_cons.1 hu with rfl|hu
     . exact absurd he (hno _ _ _ _ _)
     . exact h4 u hu id' g' off' len' cap' he
theorem zoE{id g off len:Nat}{cap:Option Nat}{v':V}(h:zbn hs (.own id g off len cap)=some v'):∃ size es exact fz row,hs.H.get id=some (.arr size g es exact fz row):=by
 have h:zdr hs id g off len=some v':=h;simp only[zdr,zb]at h;obtain⟨a,ha,_⟩:=h;exact⟨_,_,_,_,_,(zaM ha).1⟩
theorem zoA:∀ {l l':List V},zc5 hs l=some l'->∀ v∈l,∃ v',zbn hs v=some v':=by
 intro l
 induction l with
 |nil=>intro l' _ v hv;simp at hv
 | cons u l ih =>
   grind [zgD,zb]
theorem zoD{v v':V}(h:zaP hs v=some v'):∀ u∈v.cells,∃ u',zbn hs u=some u':=by
 unfold zaP at h;split at h
 . rename_i cs;simp only[zb]at h;obtain⟨l,hl,h⟩:=h;exact zoA hl
 . rename_i hna;have hc:v.cells=[v]:=by cases v<;>first|rfl|(exact absurd rfl (hna _))
   grind
theorem zda(hR:R ρ w F μ P hs){v v':V}{x:Value}{hs':HS}(hx:Rep ρ w F μ v x)(h:zaV v hs=some (v',hs')) :
 ∃ F',R ρ w F' μ P hs'/\Fr w F μ hs w F' μ hs'/\Colder hs hs'/\PRep ρ w F' v' x:=by
 simp only[zaV,zb]at h;obtain⟨u,hu,h⟩:=h;cases h;obtain⟨F',h1,h2,h3,h4⟩:=zpi hR v.cells;refine⟨F',h1,h2,h3,zgF hR hx hu h2.fm fun c hc id g off len cap he m hm=>?_⟩;obtain⟨c',hc'⟩:=zoD hu c hc;subst he;obtain⟨size,es,exact,fz,row,hg⟩:=zoE hc'
 grind
end
end Go.J
/- Operations that make an object. -/
namespace Go.J
section
variable {ρ:Nat->Value}{P:Program}{w w':World}{F:Nat->Prop}{μ:Nat->Nat->Option MI}{hs:HS}{T:PT V}
def ValB(ρ:Nat->Value)(P:Program)(w:World)(F:Nat->Prop)(μ:Nat->Nat->Option MI)(hs:HS)(s:Sem Value)(v:V)(hs':HS):Prop :=
 ∃ x w' F' μ',s.run P w=.ok x w'/\R ρ w' F' μ' P hs'/\Rep ρ w' F' μ' v x/\Fr w F μ hs w' F' μ' hs'
theorem ValA.toB(hR:R ρ w F μ P hs){s:Sem Value}{v:V}(h:ValA ρ P w F μ s v):ValB ρ P w F μ hs s v hs:=by
 obtain⟨x,h1,h2⟩:=h;exact⟨x,w,F,μ,h1,hR,h2,Fr.refl ..⟩
def Free(μ:Nat->Nat->Option MI)(hs:HS)(id:Nat):Prop:=hs.H.get id=none/\∀ g,μ id g=none
theorem znu(hR:R ρ w F μ P hs){id:Nat}(hid:Free μ hs id){size:Nat}{es:List (List V)}{exact row:Bool}{cells:Array Value}{el:TypeId}
 (hsz:w'.heap.size=w.heap.size+1) (hnew:w'.heap[w.heap.size]?=some (.cells cells el (0,0))) (hold:∀ b,b<w.heap.size->w'.heap[b]?=w.heap[b]?)
 (hlen:∀ e∈es,e.length=size) (hle:es.length*size<=cells.size) (hex:exact=true->cells.size=es.length*size)
 (hall:∀ (k:Nat) (e:List V) (j:Nat) (v:V),es[k]?=some e->e[j]?=some v->∃ y,cells[k*size+j]?=some y/\Rep ρ w F μ v y/\(row=true->PRep ρ w F v y)) (hio:Io w w':=by exact⟨rfl,rfl,rfl⟩) :
 R ρ w' F (upd μ id 0 ⟨w.heap.size,size,cells.size⟩) P (hs.put id (.arr size 0 es exact false row))/\Fr w F μ hs w' F (upd μ id 0 ⟨w.heap.size,size,cells.size⟩) (hs.put id (.arr size 0 es exact false row)):=by
 refine hR.alloc (hs':=hs.put id (.arr size 0 es exact false row)) (o:=.arr size 0 es exact false row) hid.1 hid.2 rfl rfl (Nat.le_refl _) (by show w.heap.size<_;omega) hold (fun k=>za8 _ _ _ _) ?_ hio;intro m hm;rw[upd_same]at hm;cases hm;refine⟨rfl,hlen,⟨cells,el,hnew,rfl,hle,hex,fun k e j v hk hj=>?_⟩,(fun h=>by cases h),fun _ hF=>?_⟩
 . obtain⟨y,hy,hr,hp⟩:=hall k e j v hk hj;refine⟨y,hy,hr.mono ρ (fun _ h=>h) (fun b hb=>hold b (hR.flt b hb)) (fun i g m1 h1=>?_),fun h=>(hp h).mono ρ (fun _ h=>h) (fun b hb=>hold b (hR.flt b hb))⟩;rw[zah];exact h1;rintro ⟨rfl,rfl⟩;rw[hid.2]at h1;cases h1
 . have:=hR.flt _ hF
   grind
theorem zyJ (hR:R ρ w F μ P hs) {id:Nat} (hid:Free μ hs id) {cs:List V} {ys:Array Value} (el:TypeId) (hc:RelC ρ w F μ cs ys) :
 ∃ μ',R ρ (zca w (.cells ys el)) F μ' P (hs.put id (.arr cs.length 0 [cs] true false false))/\Fr w F μ hs (zca w (.cells ys el)) F μ' (hs.put id (.arr cs.length 0 [cs] true false false)) /\
   Rep ρ (zca w (.cells ys el)) F μ' (.ptr id 0 0) (.pointer (some ⟨w.heap.size,0,none⟩)):=by
 have h:=znu hR hid (w':=zca w (.cells ys el)) (size:=cs.length) (es:=[cs]) (exact:=true) (row:=false) (cells:=ys) (el:=el) (zaD _ _) (zb7 _ _) (fun b hb=>zaX _ _ hb)
  (fun e he=>by simp at he;rw[he]) (by simp;exact Nat.le_of_eq hc.1.symm) (fun _=>by simp;exact hc.1) (fun k e j v hk hj=>by
    cases k with
    | zero =>
      simp at hk;subst hk
      have hlt:j<ys.size:=by
       obtain⟨hlt,_⟩:=List.getElem?_eq_some_iff.1 hj;rw[hc.1];exact hlt
      have:=hc.2 j v hj
      simp_all
    |succ k=>simp at hk)
 exact⟨_,h.1,h.2,.ptr id 0 0 _ (upd_same ..)⟩
theorem zxX(hR:R ρ w F μ P hs){id:Nat}(hid:Free μ hs id){t:TypeId}{v:V}{hs':HS}(h:zdC P hs id t=some (v,hs')):ValB ρ P w F μ hs (Instr.alloc t true (.tuple #[])) v hs':=by
 simp only[zdC,zb,zl,beq_true,zz]at h;obtain⟨i,hi,hl,h⟩:=h;cases h;obtain⟨info,z,h1,h2,h3,hz,hrz⟩:=zje (ρ:=ρ) (w:=w) (F:=F) (μ:=μ) hi;obtain⟨μ',g1,g2,g3⟩:=zyJ hR hid t hz;rw[<- hl];refine⟨_,_,F,μ',?_,g1,g3,g2⟩;simp only[Instr.alloc,Sem.run_bind,hrz,Result.andThen_ok,newVar,newRow,run_newObj,Sem.run_pure]
 first|done|rfl
theorem zDi(hρ:Good ρ)(hR:R ρ w F μ P hs){id:Nat}(hid:Free μ hs id){a:Act}(hT:zb6 ρ w F μ T a.tmps)(t:TypeId){x:Operand}{v:V}{hs':HS}(h:zpF T hs id x=some (v,hs')) :
 ValB ρ P w F μ hs (Instr.box t (a.eval x)) v hs':=by
 simp only[zpF,zb,zz]at h;obtain⟨u,hu,h⟩:=h;cases h;obtain⟨μ',g1,g2,g3⟩:=zyJ hR hid t (zfz hρ (zn hT hu));refine⟨_,_,F,μ',?_,g1,g3,g2⟩;simp only[Instr.box,Sem.run_bind,Result.andThen_ok,newVar,newRow,run_newObj,Sem.run_pure]
 first|done|rfl
theorem zoZ(hR:R ρ w F μ P hs){id:Nat}(hid:Free μ hs id){t:TypeId}{a:Act}{r:Option Operand}{v:V}{hs':HS}(h:zcL hs id r=some (v,hs')) :
 ValB ρ P w F μ hs (Instr.makeMap t (r.map a.eval)) v hs':=by
 simp only[zcL,zl,zaE,zfo]at h;obtain⟨rfl,h⟩:=h;cases h
 have h:=hR.alloc (w':=zca w (.map #[] 0)) (hs':=hs.put id (.mp [])) (o:=.mp []) (m:=⟨w.heap.size,0,0⟩) hid.1 hid.2 rfl rfl (Nat.le_refl _) (by rw[zaD];exact Nat.lt_succ_self _) (fun b hb=>zaX _ _ hb) (fun k=>za8 _ _ _ _) (by
  intro m hm;rw[upd_same]at hm;cases hm
  exact⟨⟨#[],0,zb7 _ _,rfl,fun i k v hi=>by simp at hi⟩,fun hF=>Nat.lt_irrefl _ (hR.flt _ hF)⟩)
 refine⟨.map (some w.heap.size),_,F,_,?_,h.1,.map id ⟨w.heap.size,0,0⟩ (upd_same ..),h.2⟩;simp[Instr.makeMap];rfl
theorem range_zero{zero:Array Value}{size n k j:Nat}(hz:zero.size=size)(hk:k<n)(hj:j<size) :
 ((Array.range (n*size)).map (zero[· % zero.size]!))[k*size+j]?=zero[j]?:=by
 have hlt:k*size+j<n*size:=by
  have:(k+1)*size<=n*size:=Nat.mul_le_mul_right _ hk
  grind
 have hmod:(k*size+j) % size=j:=by rw[Nat.mul_comm,Nat.mul_add_mod];exact Nat.mod_eq_of_lt hj
 grind
theorem zjV{t:TypeId}{e:TI}(he:ti P t=some e)(hl:e.zero.length=e.size){z:Value}(hz:RelC ρ w F μ e.zero z.cells)(n:Nat)(hpz:∀ (i:Nat) (v:V),e.zero[i]?=some v->PRep ρ w F v (z.cells.getD i undef)) :
 ∀ (k:Nat) (c:List V) (j:Nat) (v:V),(List.replicate n e.zero)[k]?=some c->c[j]?=some v->∃ y,((Array.range (n*e.size)).map (z.cells[· % z.cells.size]!))[k*e.size+j]?=some y/\PRep ρ w F v y:=by
 intro k c j v hk hj;rw[List.getElem?_replicate]at hk;split at hk
 . rename_i hkn;cases hk;obtain⟨hlt,_⟩:=List.getElem?_eq_some_iff.1 hj;have hlt':j<z.cells.size:=by rw[hz.1];exact hlt
   rw[range_zero (by rw[hz.1,hl]) hkn (by omega)];refine⟨z.cells[j],by simp[hlt'],?_⟩;have:=hpz j v hj
   simp_all
 . cases hk
theorem zg3{t:TypeId}{i:TI}(hi:ti P t=some i):∃ info z,P.info? t=some info/\info.zero=some z/\RelC ρ w F μ i.zero z.cells/\(zeroValue t).run P w=.ok z w /\
 (∀ (k:Nat) (v:V),i.zero[k]?=some v->PRep ρ w F v (z.cells.getD k undef))/\info.size=i.size/\info.bytes=i.bytes:=by
 obtain⟨info,z,h1,h2,h3,h4,h5,h6⟩:=zdK hi;obtain⟨hl,hz⟩:=zbW (ρ:=ρ) (w:=w) (F:=F) h6
 have hp:∀ (k:Nat) (v:V),i.zero[k]?=some v->PRep ρ w F v (z.cells.getD k undef):=by
  intro k v hk;obtain⟨x,hx,hr⟩:=hz k v hk
  simp_all
 exact⟨info,z,h1,h5,⟨by simpa using hl,fun k v hk=>.pure (hp k v hk)⟩,by simp[zeroValue,typeInfo,h1,h5],hp,h3,h4⟩
theorem zkF(hR:R ρ w F μ P hs){id:Nat}(hid:Free μ hs id){t:TypeId}{i:TI}(hi:ti P t=some i){l c v:V}{X Y:Value}(hl:Rep ρ w F μ l X)(hc:Rep ρ w F μ c Y){hs':HS}
 (h:zbO P i hs id l c=some (v,hs')):ValB ρ P w F μ hs (Instr.makeSlice t X Y) v hs':=by
 simp only[zbO,zb,zl,et_true,zaE,beq_true,beq_false,ble_true,zz,zcz,V.nat?_eq,zcJ]at h;obtain⟨el,hd,e,he,ln,⟨k1,rfl⟩,cn,⟨k2,rfl⟩,⟨hlc,hroom,hcells,hne,hzl,hpz⟩,h⟩:=h;cases h;have e1:=hl.int_inv;subst e1;have e2:=hc.int_inv;subst e2;obtain⟨info,z,h1,h3,hz,hrz,hzp,hsz,hby⟩:=zg3 (ρ:=ρ) (w:=w) (F:=F) (μ:=μ) he
 have hcn:cn<=1048576:=by
  have:cn*1<=cn*e.size:=Nat.mul_le_mul_left _ (by omega);omega
 have hw1:IntKind.i64.wrap (ln:Int)=ln:=IntWalk.i64_in _ (by omega);have hw2:IntKind.i64.wrap (cn:Int)=cn:=IntWalk.i64_in _ (by omega);have hall:=zjV (w:=w) he hzl hz cn hzp
 have hrow:=znu hR hid (w':=zca w (.cells ((Array.range (cn*e.size)).map (z.cells[· % z.cells.size]!)) el)) (size:=e.size) (es:=List.replicate cn e.zero) (exact:=true) (row:=true) (el:=el)
  (zaD _ _) (zb7 _ _) (fun b hb=>zaX _ _ hb) (fun x hx=>by rw[List.eq_of_mem_replicate hx];exact hzl) (by simp) (fun _=>by simp) (fun k x j v hk hj=>by
    obtain⟨y,hy,hp⟩:=hall k x j v hk hj
    exact⟨y,hy,.pure hp,fun _=>hp⟩)
 have htl:¬ ((info.bytes:Int)*(cn:Int)>2 ^ 48):=by
  grind
 rw[<- zma]at hrow;refine⟨.slice (some ⟨w.heap.size,0,none⟩) ln cn,zca w (.cells ((Array.range (cn*e.size)).map (z.cells[· % z.cells.size]!)) el),F,_,?_,hrow.1,?_,hrow.2⟩
 . have hti:(typeInfo el).run P w=.ok info w:=by simp[typeInfo,h1]
   have c1:(decide ((cn:Int)<0)||decide ((info.bytes:Int)*(cn:Int)>2 ^ 48)||decide ((ln:Int)<0)||decide ((ln:Int)>(cn:Int)))=false:=by
    grind
   simp only[Instr.makeSlice,Sem.run_bind,zJ hi,Result.andThen_ok,hd,asInt,asIntOf,Sem.run_pure,hti,hw1,hw2,c1,run_askRoom,zb9 he,Int.toNat_natCast,Bool.false_eq_true,if_false];by_cases h0:cn*e.size=0
   . simp only[h0,if_true,Sem.run_pure,Result.andThen_ok,Go.newRow,Sem.run_bind,run_newObj];simp[zca,Array.range]
   . simp only[h0,if_false,Sem.run_bind,hrz,Sem.run_pure,Result.andThen_ok,newRow,run_newObj];rfl
 . refine .own id 0 0 ln (some cn) cn _ (upd_same ..) hlc ?_ (fun k hk=>by cases hk;rfl) (fun h=>by cases h);simp
end
end Go.J
