import Derived.Test.YtjilhkjgejnmpaaGreatDoorJA
import Derived.Laws.Sem
import Derived.Laws.Cells
import Derived.Laws.Entries
import Derived.Laws.Strings
import Derived.Laws.BitsLemmas
import Derived.ChangeKeysEq
import Derived.IntWalk
import Derived.Laws.Tables
import Derived.Lib.Strings
set_option linter.all false
noncomputable section
/- Operations that only compute or read: each returns what the evaluator says. -/
namespace Go.J
theorem ti_spec{P:Program}{t:TypeId}{i:TI}(h:ti P t=some i) :
 ∃ info z,P.info? t=some info∧P.underlying t=some i.desc∧info.size=i.size∧info.bytes=i.bytes∧info.zero=some z∧ofConst1L z.cells.toList=some i.zero:=by
 grind [ti,ob_eq]
section
variable {P:Program}{t:TypeId}{i:TI}(h:ti P t=some i)(w:World)
include h
theorem run_und:(underlying t).run P w=.ok i.desc w:=by
 obtain⟨info,z,h1,h2,h3,h4,h5,h6⟩:=ti_spec h
 exact Go.run_underlying h2 w
theorem run_info:∃ info,(typeInfo t).run P w=.ok info w∧info.size=i.size∧info.bytes=i.bytes:=by
 obtain⟨info,z,h1,h2,h3,h4,h5,h6⟩:=ti_spec h
 exact⟨info,by simp[typeInfo,h1],h3,h4⟩
theorem run_size:(sizeOf t).run P w=.ok i.size w:=by
 obtain⟨info,h1,h2,_⟩:=run_info h w
 simp[sizeOf,h1,h2]
theorem run_isAgg:(isAgg t).run P w=.ok (isAggD i.desc) w:=by
 simp only[isAgg,Sem.run_bind,run_und h,Result.andThen_ok]
 cases i.desc<;>rfl
end
section
variable {ρ:Nat→Value}{P:Program}{w:World}{F:Nat→Prop}{μ:Nat→Nat→Option MI}{hs:HS}{T:PT V}
theorem ofConst1_prep{x:Value}{v:V}(h:ofConst1 x=some v):PRep ρ w F v x:=by
 unfold ofConst1 at h
 split at h<;>cases h
 · exact .bool _
 · exact .int _ _
 · exact .str _
 · exact .nilptr
 · exact .snil
 · exact .nilmap
 · exact .nilFunc
 · exact .nilIface
theorem ofConst1L_nil:ofConst1L []=some []:=rfl
theorem ofConst1L_cons(x:Value)(l:List Value):ofConst1L (x::l)=ob (ofConst1 x) fun v=>ob (ofConst1L l) fun r=>some (v::r):=rfl
theorem ofConst1L_prep:∀ {l:List Value} {vs:List V},ofConst1L l=some vs→l.length=vs.length∧∀ (j:Nat) (v:V),vs[j]?=some v→∃ x,l[j]?=some x∧PRep ρ w F v x:=by
 intro l
 induction l with
 |nil=>intro vs h;rw[ofConst1L_nil]at h;cases h;exact⟨rfl,fun j v hj=>by simp at hj⟩
 | cons x l ih =>
   intro vs h
   rw[ofConst1L_cons]at h
   simp only[ob_eq]at h
   obtain⟨v,h1,r,h2,h3⟩:=h
   cases h3
   obtain⟨hl,ha⟩:=ih h2
   refine⟨by simp[hl],fun j u hj=>?_⟩
   cases j with
   |zero=>simp at hj;subst hj;exact⟨x,by simp,ofConst1_prep h1⟩
   |succ j=>simp at hj;obtain⟨y,hy,hr⟩:=ha j u hj;exact⟨y,by simpa using hy,hr⟩
theorem ofConst_prep{x:Value}{v:V}(h:ofConst x=some v):PRep ρ w F v x:=by
 unfold ofConst at h
 split at h
 · rename_i cs
   simp only[ob_eq]at h
   obtain⟨l,h1,h2⟩:=h
   cases h2
   obtain⟨hl,ha⟩:=ofConst1L_prep (ρ:=ρ) (w:=w) (F:=F) h1
   refine .agg l cs (by simpa using hl) fun j u hj=>?_
   obtain⟨y,hy,hr⟩:=ha j u hj
   simp_all
 · exact ofConst1_prep h
theorem evalO_rep{a:Act}(hT:TRel ρ w F μ T a.tmps){o:Operand}{v:V}(h:evalO T o=some v):Rep ρ w F μ v (a.eval o):=by
 cases o with
 | tmp t =>
   obtain⟨x,hx,hr⟩:=hT t v h
   have:a.eval (.tmp t)=x:=by simp[Act.eval,Array.getD_eq_getD_getElem?,hx]
   rw[this];exact hr
 |const c=>exact .pure (ofConst_prep h)
 |global g=>cases h
 |func f=>cases h;exact .pure (.func f)
theorem evalL_nil:evalL T []=some []:=rfl
theorem evalL_cons(o:Operand)(l:List Operand):evalL T (o::l)=ob (evalO T o) fun v=>ob (evalL T l) fun r=>some (v::r):=rfl
theorem evalL_rep{a:Act}(hT:TRel ρ w F μ T a.tmps):∀ {l:List Operand} {vs:List V},evalL T l=some vs →
 l.length=vs.length∧∀ (j:Nat) (v:V),vs[j]?=some v→∃ o,l[j]?=some o∧Rep ρ w F μ v (a.eval o):=by
 intro l
 induction l with
 |nil=>intro vs h;rw[evalL_nil]at h;cases h;exact⟨rfl,fun j v hj=>by simp at hj⟩
 | cons x l ih =>
   intro vs h
   rw[evalL_cons]at h
   simp only[ob_eq]at h
   obtain⟨v,h1,r,h2,h3⟩:=h
   cases h3
   obtain⟨hl,ha⟩:=ih h2
   refine⟨by simp[hl],fun j u hj=>?_⟩
   cases j with
   |zero=>simp at hj;subst hj;exact⟨x,by simp,evalO_rep hT h1⟩
   |succ j=>simp at hj;obtain⟨y,hy,hr⟩:=ha j u hj;exact⟨y,by simpa using hy,hr⟩
theorem addr_add(b o n:Nat):(⟨b,o,none⟩:Addr).add n=⟨b,o+n,none⟩:=by
 unfold Addr.add;split
 · rename_i h;subst h;rfl
 · rfl
theorem load_mem {t:TypeId} {i:TI} (hi:ti P t=some i) {b o:Nat} {cs:List V}
 (h:∀ (j:Nat) (v:V),cs[j]?=some v→∃ y,w.cell? ⟨b,o+j,none⟩=some y∧Rep ρ w F μ v y) {off:Nat} {v:V} (hp:partL i cs off=some v) :
 ∃ x,(loadVar t ⟨b,o+off,none⟩).run P w=.ok x w∧Rep ρ w F μ v x:=by
 unfold partL at hp
 unfold loadVar
 simp only[Sem.run_bind,run_isAgg hi,Result.andThen_ok]
 cases hd:isAggD i.desc with
 | true =>
   rw[hd,bi_true]at hp
   simp only[aggL,gd_eq,beq_true,lenL_eq,takeL_eq,dropL_eq]at hp
   obtain⟨hl,hv⟩:=hp
   cases hv
   have hex:∀ j,j<i.size→∃ u y,cs[off+j]?=some u∧w.cell? ⟨b,o+(off+j),none⟩=some y∧Rep ρ w F μ u y:=by
    intro j hj
    have hlt:off+j<cs.length:=by
     grind
    simp_all
   have hrun:=run_loadCells (P:=P) w ⟨b,o+off,none⟩ i.size (fun j=>(w.cell? ⟨b,o+(off+j),none⟩).getD undef) (by
    intro j hj
    obtain⟨u,y,_,hy,_⟩:=hex j hj
    rw[addr_add,Nat.add_assoc,hy];rfl)
   simp only[if_true,Sem.run_bind,run_size hi,Result.andThen_ok,hrun,Sem.run_pure]
   refine⟨_,rfl,.agg _ _ (by simpa using hl.symm) fun j u hj=>?_⟩
   have hj':j<i.size:=by
    grind
   have hu:cs[off+j]?=some u:=by
    grind
   obtain⟨u',y,hu',hy,hr⟩:=hex j hj'
   simp_all
 | false =>
   rw[hd,bi_false,nthL_eq]at hp
   obtain⟨y,hy,hr⟩:=h off v hp
   simp_all
theorem part_rep {t:TypeId} {i:TI} (hi:ti P t=some i) {cs:List V} {ys:Array Value} (hs:ys.size=cs.length)
 (h:∀ (j:Nat) (v:V),cs[j]?=some v→Rep ρ w F μ v (ys.getD j undef)) {off:Nat} {v:V} (hp:partL i cs off=some v) :
 ∃ x,(part t ys off).run P w=.ok x w∧Rep ρ w F μ v x:=by
 unfold partL at hp
 unfold part
 simp only[Sem.run_bind,run_isAgg hi,Result.andThen_ok]
 cases hd:isAggD i.desc with
 | true =>
   rw[hd,bi_true]at hp
   simp only[aggL,gd_eq,beq_true,lenL_eq,takeL_eq,dropL_eq]at hp
   obtain⟨hl,hv⟩:=hp
   cases hv
   simp only[if_true,Sem.run_bind,run_size hi,Result.andThen_ok,Sem.run_pure]
   have hle:off+i.size≤cs.length∨i.size=0:=by simp at hl;omega
   refine⟨_,rfl,.agg _ _ (by simp at hl ⊢;omega) fun j u hj=>?_⟩
   have hj':j<i.size:=by
    grind
   have hu:cs[off+j]?=some u:=by
    grind
   have hr:=h _ u hu
   have e:(ys.extract off (off+i.size)).getD j undef=ys.getD (off+j) undef:=by
    have hlt:off+j<ys.size:=by
     omega
    rw[Array.getD_eq_getD_getElem?,Array.getD_eq_getD_getElem?,Array.getElem?_extract,if_pos (by omega)]
   grind
 | false =>
   rw[hd,bi_false,nthL_eq]at hp
   have hr:=h off v hp
   obtain⟨hlt,_⟩:=List.getElem?_eq_some_iff.1 hp
   simp_all
theorem getRow_spec{id g:Nat}{a:Nat×List (List V)×Bool×Bool×Bool}(h:getRow hs id g=some a) :
 hs.H.get id=some (.arr a.1 g a.2.1 a.2.2.1 a.2.2.2.1 a.2.2.2.2)∧a.1≠0:=by
 simp only[getRow,ob_eq,gd_eq,et_true,nt_true,beq_true,beq_false]at h
 obtain⟨o,h1,b,h2,⟨h3,h4⟩,h5⟩:=h
 cases h5
 cases o with
 | arr s g' es ex fz row =>
   cases h2
   grind
 |_=>cases h2
theorem R.row(hR:R ρ w F μ P hs){id g:Nat}{a:Nat×List (List V)×Bool×Bool×Bool}(h:getRow hs id g=some a){m:MI}(hm:μ id g=some m) :
 ArrRel ρ w F μ m a.1 a.2.1 a.2.2.1 a.2.2.2.1 a.2.2.2.2:=hR.obj id _ (getRow_spec h).1 m hm
theorem ArrRel.cell{m:MI}{size:Nat}{es:List (List V)}{ex fz row:Bool}(h:ArrRel ρ w F μ m size es ex fz row){k j:Nat}{e:List V}{v:V}(hk:es[k]?=some e)(hj:e[j]?=some v) :
 ∃ y,w.cell? ⟨m.b,k*size+j,none⟩=some y∧Rep ρ w F μ v y∧(row=true→PRep ρ w F v y):=by
 obtain⟨cells,el,hc,_,_,_,hall⟩:=h.cells
 obtain⟨y,hy,hr⟩:=hall k e j v hk hj
 exact⟨y,by simp[World.cell?,hc,hy],hr⟩
def ValA(ρ:Nat→Value)(P:Program)(w:World)(F:Nat→Prop)(μ:Nat→Nat→Option MI)(s:Sem Value)(v:V):Prop:=∃ x,s.run P w=.ok x w∧Rep ρ w F μ v x
theorem load_ok(hR:R ρ w F μ P hs){t:TypeId}{i:TI}(hi:ti P t=some i){p v:V}{x:Value}(hx:Rep ρ w F μ p x)(h:loadJ i hs p=some v) :
 ValA ρ P w F μ (Instr.loadAt t x) v:=by
 unfold loadJ at h
 split at h
 · rename_i id g off
   obtain⟨m,hm,rfl⟩:=hx.ptr_inv
   simp only[ob_eq,loadRow,nthL_eq]at h
   obtain⟨a,ha,e,he,hp⟩:=h
   have hr:=hR.row ha hm
   have hne:=(getRow_spec ha).2
   obtain⟨x,hrun,hrep⟩:=load_mem (μ:=μ) (ρ:=ρ) (F:=F) (w:=w) hi (b:=m.b) (o:=off / a.1*a.1) (cs:=e) (fun j u hj=>by
    obtain⟨y,hy,hr,_⟩:=hr.cell he hj;exact⟨y,hy,hr⟩) hp
   rw[show off / a.1*a.1+off % a.1=off by rw[Nat.mul_comm];exact Nat.div_add_mod off a.1]at hrun
   exact⟨x,by simp[Instr.loadAt,Instr.sureAddr,hrun],hrep⟩
 · rename_i cs
   have hx:=hx.ref_inv
   cases hx with
   | ref _ b off ys hb hc hr =>
     obtain⟨x,hrun,hrep⟩:=load_mem (μ:=μ) (ρ:=ρ) (F:=F) (w:=w) hi (b:=b) (o:=off) (cs:=cs) (fun j u hj=>⟨_,hc j u hj,.pure (hr j u hj)⟩) h
     exact⟨x,by simpa [Instr.loadAt,Instr.sureAddr]using hrun,hrep⟩
 · cases h
end
end Go.J
/- Addresses,parts,comparisons: the operations that neither write nor make memory. -/
namespace Go.J
theorem natI_eq{n:Int}{m:Nat}:natI n=some m↔n=(m:Int):=by
 cases n with
 |ofNat a=>simp[natI];omega
 |negSucc a=>simp[natI]
theorem V.int?_eq {v:V}{p:IntKind×Int}:v.int?=some p↔v=.int p.1 p.2:=by
 cases v<;>simp[V.int?]
 grind
theorem V.bool?_eq {v:V}{b:Bool}:v.bool?=some b↔v=.bool b:=by cases v<;>simp[V.bool?]
theorem V.str?_eq {v:V}{s:List Nat}:v.str?=some s↔v=.str s:=by cases v<;>simp[V.str?]
theorem V.agg?_eq {v:V}{s:List V}:v.agg?=some s↔v=.agg s:=by cases v<;>simp[V.agg?]
theorem V.tuple?_eq {v:V}{s:List V}:v.tuple?=some s↔v=.tuple s:=by cases v<;>simp[V.tuple?]
theorem V.nat?_eq {v:V}{n:Nat}:v.nat?=some n↔∃ k,v=.int k (n:Int):=by
 simp[V.nat?,ob_eq,V.int?_eq,natI_eq]
theorem sliceOf_eq{d:TypeDesc}{e:TypeId}:sliceOf d=some e↔d=.slice e:=by cases d<;>simp[sliceOf]
theorem mapOf_eq{d:TypeDesc}{e:TypeId×TypeId}:mapOf d=some e↔d=.map e.1 e.2:=by
 cases d<;>simp[mapOf]
 cases e;simp
theorem fieldOf_eq{i:TI}{f:Nat}{fd:Field}:fieldOf i f=some fd↔∃ fs,i.desc=.struct fs∧fs[f]?=some fd:=by
 grind [fieldOf]
theorem kindNo_inj{a b:IntKind}(h:kindNo a=kindNo b):a=b:=by cases a<;>cases b<;>first|rfl|(simp[kindNo]at h)
theorem kindEq_true{a b:IntKind}:kindEq a b=true↔a=b:=by
 grind [kindEq,beq_true,kindNo_inj]
theorem eqI_true{a b:Int}:eqI a b=true↔a=b:=by
 cases a<;>cases b<;>simp[eqI]<;>omega
theorem eqI_beq(a b:Int):eqI a b=(a == b):=by
 rw[Bool.eq_iff_iff,eqI_true];simp
theorem ltI_true{a b:Int}:ltI a b=true↔a<b:=by
 cases a<;>cases b<;>simp[ltI]<;>omega
theorem ltI_dec(a b:Int):ltI a b=decide (a<b):=by
 rw[Bool.eq_iff_iff,ltI_true];simp
theorem leI_dec(a b:Int):leI a b=decide (a≤b):=by
 unfold leI;rw[nt_eq,ltI_dec,Bool.eq_iff_iff];simp
theorem wrapJ_eq(k:IntKind)(n:Int):wrapJ k n=k.wrap n:=by
 unfold wrapJ
 split
 · rename_i m
   cases h:Nat.blt m 9223372036854775808 with
   |true=>rw[bi_true,IntWalk.i64_in];have:=blt_true.1 h;simp;omega
   |false=>rw[bi_false]
 · rename_i m
   cases h:Nat.blt m 9223372036854775808 with
   |true=>rw[bi_true,IntWalk.i64_in];have:=blt_true.1 h;omega
   |false=>rw[bi_false]
 · rfl
theorem boolEq_eq(a b:Bool):boolEq a b=(a == b):=by cases a<;>cases b<;>rfl
theorem bytesOf_inj {s t:ByteArray}:bytesOf s=bytesOf t↔s=t:=by
 constructor
 · intro h
   have h':s.data.toList=t.data.toList:=by
    have inj:∀ (l m:List UInt8),l.map UInt8.toNat=m.map UInt8.toNat→l=m:=by
     intro l
     induction l with
     |nil=>intro m h;cases m<;>simp_all
     | cons x l ih=>intro m h;cases m with
       |nil=>simp at h
       |cons y m=>simp at h;rw[ih m (by simpa using h.2),UInt8.toNat_inj.1 h.1]
    exact inj _ _ h
   cases s;cases t
   simp_all
 grind
theorem eqNs_true{l m:List Nat}:eqNs l m=true↔l=m:=by
 induction l generalizing m with
 | nil=>cases m with
   |nil=>exact⟨fun _=>rfl,fun _=>rfl⟩
   |cons y m=>exact⟨(fun h=>by cases h),(fun h=>by cases h)⟩
 | cons x l ih=>cases m with
   |nil=>exact⟨(fun h=>by cases h),(fun h=>by cases h)⟩
   | cons y m =>
     show et (Nat.beq x y) (eqNs l m)=true↔_
     rw[et_true,beq_true,ih];simp
theorem eqNs_bytes(s t:ByteArray):eqNs (bytesOf s) (bytesOf t)=(s.toList == t.toList):=by
 rw[Bool.eq_iff_iff,eqNs_true,bytesOf_inj]
 simp only[ByteArray.toList_eq,beq_iff_eq]
 constructor
 · rintro rfl;rfl
 · intro h;exact ByteArray.ext (Array.toList_inj.1 h)
theorem eqNs_beq(s t:ByteArray):eqNs (bytesOf s) (bytesOf t)=(s == t):=by
 rw[Bool.eq_iff_iff,eqNs_true,bytesOf_inj]
 have e:(s == t)=(s.data == t.data):=by cases s;cases t;rfl
 rw[e,beq_iff_eq]
 exact⟨fun h=>h ▸ rfl,fun h=>ByteArray.ext h⟩
theorem ltNs_bytes':∀ (l m:List UInt8),ltNs (l.map UInt8.toNat) (m.map UInt8.toNat)=Op.bytesLess l m:=by
 intro l
 induction l with
 |nil=>intro m;cases m<;>rfl
 | cons x l ih=>intro m;cases m with
   |nil=>rfl
   | cons y m =>
     show bi (Nat.blt x.toNat y.toNat) true (et (Nat.beq x.toNat y.toNat) (ltNs (l.map UInt8.toNat) (m.map UInt8.toNat)))=(x<y||(x == y&&Op.bytesLess l m))
     rw[ih]
     have h1:Nat.blt x.toNat y.toNat=decide (x<y):=by rw[Bool.eq_iff_iff,blt_true];simp[UInt8.lt_iff_toNat_lt]
     have h2:Nat.beq x.toNat y.toNat=(x == y):=by rw[Bool.eq_iff_iff,beq_true,beq_iff_eq];exact UInt8.toNat_inj
     grind [et_eq,bi_true,bi_false]
theorem ltNs_bytes(s t:ByteArray):ltNs (bytesOf s) (bytesOf t)=Op.bytesLess s.toList t.toList:=by
 rw[ByteArray.toList_eq,ByteArray.toList_eq];exact ltNs_bytes' _ _
theorem bytesOf_len(s:ByteArray):(bytesOf s).length=s.size:=by unfold bytesOf;rw[List.length_map,Array.length_toList];rfl
theorem bytesOf_get(s:ByteArray)(n b:Nat)(h:(bytesOf s)[n]?=some b):∃ u:UInt8,s[n]?=some u∧u.toNat=b:=by
 have hlt:n<s.size:=by
  obtain⟨hlt,_⟩:=List.getElem?_eq_some_iff.1 h
  rwa [bytesOf_len]at hlt
 refine⟨s[n],ByteArray.getElem?_lt' s n hlt,?_⟩
 simp only[bytesOf,List.getElem?_map,Option.map_eq_some_iff]at h
 obtain⟨u,hu,rfl⟩:=h
 rw[Array.getElem?_toList]at hu
 obtain⟨h1,h2⟩:=Array.getElem?_eq_some_iff.1 hu
 exact congrArg UInt8.toNat h2
section
variable {ρ:Nat→Value}{P:Program}{w:World}{F:Nat→Prop}{μ:Nat→Nat→Option MI}{hs:HS}{T:PT V}
theorem PRep.ref_drop{cs:List V}{b off n:Nat}(h:PRep ρ w F (.ref cs) (.pointer (some ⟨b,off,none⟩))):PRep ρ w F (.ref (cs.drop n)) (.pointer (some ⟨b,off+n,none⟩)):=by
 cases h with
 | ref _ _ _ ys hb hc hr =>
   refine .ref _ b (off+n) (fun i=>ys (n+i)) hb (fun i v hi=>?_) (fun i v hi=>?_)
   · rw[List.getElem?_drop]at hi;rw[Nat.add_assoc];exact hc _ v hi
   · rw[List.getElem?_drop]at hi;exact hr _ v hi
theorem fieldAddr_ok{t:TypeId}{i fi:TI}{f:Nat}{fd:Field}(hi:ti P t=some i)(hf:fieldOf i f=some fd)(hfi:ti P fd.type=some fi)(hne:fi.size≠0){v r:V}{x:Value}
 (hx:Rep ρ w F μ v x) (h:fieldAddrV fd.offset v=some r):ValA ρ P w F μ (Instr.fieldAt t x f) r:=by
 obtain⟨fs,hd,hfs⟩:=fieldOf_eq.1 hf
 have key:∀ b off,(Instr.fieldAt t (.pointer (some ⟨b,off,none⟩)) f).run P w=.ok (.pointer (some ⟨b,off+fd.offset,none⟩)) w:=by
  intro b off
  simp only[Instr.fieldAt,Sem.run_bind,run_und hi,Result.andThen_ok,hd,hfs,Instr.sureAddr,Sem.run_pure,fieldPlace,run_size hfi,if_neg hne,addr_add]
 unfold fieldAddrV at h
 split at h
 · rename_i id g off
   cases h
   obtain⟨m,hm,rfl⟩:=hx.ptr_inv
   exact⟨_,key _ _,.ptr id g _ m hm⟩
 · rename_i cs
   cases h
   have hx:=hx.ref_inv
   have hx':=hx
   cases hx with
   | ref _ b off ys hb hc hr =>
     refine⟨_,key _ _,.pure ?_⟩
     rw[dropL_eq];exact hx'.ref_drop
 · cases h
theorem field_ok{t:TypeId}{i fi:TI}{f:Nat}{fd:Field}(hi:ti P t=some i)(hf:fieldOf i f=some fd)(hfi:ti P fd.type=some fi){cs:List V}{r:V}{x:Value}
 (hx:Rep ρ w F μ (.agg cs) x) (h:partL fi cs fd.offset=some r):ValA ρ P w F μ (Instr.field t x f) r:=by
 obtain⟨fs,hd,hfs⟩:=fieldOf_eq.1 hf
 obtain⟨ys,rfl,hs,hc⟩:=hx.agg_inv
 obtain⟨y,hy,hr⟩:=part_rep hfi hs hc h
 exact⟨y,by simp only[Instr.field,Sem.run_bind,run_und hi,Result.andThen_ok,hd,hfs,asAgg,Sem.run_pure,hy],hr⟩
theorem indexAddr_ok{t el:TypeId}{i e:TI}(hi:ti P t=some i)(hd:sliceOf i.desc=some el)(he:ti P el=some e){v r:V}{k:IntKind}{n:Nat}{x:Value}
 (hx:Rep ρ w F μ v x) (h:indexAddrV e n v=some r):ValA ρ P w F μ (Instr.indexAt t x (.int k (n:Int))) r:=by
 rw[sliceOf_eq]at hd
 have key:∀ b off len c,n<len→(Instr.indexAt t (.slice (some ⟨b,off,none⟩) len c) (.int k (n:Int))).run P w=.ok (.pointer (some ⟨b,off+n*e.size,none⟩)) w:=by
  intro b off len c hlt
  have h1:(0:Int)≤(n:Int)∧(n:Int)<(len:Int):=⟨by omega,by omega⟩
  simp only[Instr.indexAt,asIntOf,Sem.run_bind,Sem.run_pure,run_und hi,Result.andThen_ok,hd,h1,and_self,if_true,run_size he,addr_add,Int.toNat_natCast]
 unfold indexAddrV at h
 split at h
 · rename_i es t'
   simp only[gd_eq,ob_eq,nthL_eq]at h
   obtain⟨hsz,c,hc,hr⟩:=h
   cases hr
   have hsz':=sizes_eq.1 hsz
   have hmem:=List.mem_of_getElem? hc
   have hx:=hx.sl_inv
   cases hx with
   |slE a c' _ ht=>simp at hc
   | slC _ b off size c' _ ys hb hl hcell hrep hle ht =>
     have e1:size=e.size:=by rw[← hl c hmem,hsz' c hmem]
     subst e1
     obtain⟨hlt,_⟩:=List.getElem?_eq_some_iff.1 hc
     refine⟨_,key _ _ _ _ hlt,.pure (.ref c b _ (fun j=>ys n j) hb (fun j v hj=>hcell n c j v hc hj) (fun j v hj=>hrep n c j v hc hj))⟩
 · rename_i id g off len cap
   simp only[gd_eq,blt_true]at h
   obtain⟨hlt,hr⟩:=h
   cases hr
   obtain⟨m,c,hm,rfl,h1,h2,h3,h4⟩:=hx.own_inv
   exact⟨_,key _ _ _ _ hlt,.ptr id g _ m hm⟩
 · cases h
theorem idx_ok {t:TypeId} {el:TypeId×Option Nat} {i e:TI} (hi:ti P t=some i) (hd:elemOf i.desc=some el) (he:ti P el.1=some e) {v r:V} {k:IntKind} {n:Nat} {x:Value}
 (hx:Rep ρ w F μ v x) (h:idxV el.2 e n v=some r):ValA ρ P w F μ (Instr.indexAt t x (.int k (n:Int))) r:=by
 unfold elemOf at hd
 split at hd
 · rename_i s hs
   cases hd
   exact indexAddr_ok hi (by rw[hs];rfl) he hx h
 · rename_i len s hs
   cases hd
   have h:gd (Nat.blt n len) (fieldAddrV (n*e.size) v)=some r:=h
   simp only[gd_eq,blt_true]at h
   obtain⟨hlt,h⟩:=h
   have key:∀ b off,(Instr.indexAt t (.pointer (some ⟨b,off,none⟩)) (.int k (n:Int))).run P w=.ok (.pointer (some ⟨b,off+n*e.size,none⟩)) w:=by
    intro b off
    have h1:(0:Int)≤(n:Int)∧(n:Int)<(len:Int):=⟨by omega,by omega⟩
    simp only[Instr.indexAt,asIntOf,Sem.run_bind,Sem.run_pure,run_und hi,Result.andThen_ok,hs,Instr.sureAddr,h1,and_self,if_true,run_size he,addr_add,Int.toNat_natCast]
   unfold fieldAddrV at h
   split at h
   · rename_i id g off
     cases h
     obtain⟨m,hm,rfl⟩:=hx.ptr_inv
     exact⟨_,key _ _,.ptr _ _ _ m hm⟩
   · rename_i cs
     cases h
     have hx:=hx.ref_inv
     have hx':=hx
     cases hx with
     | ref _ b off ys hb hc hr =>
       refine⟨_,key _ _,.pure ?_⟩
       rw[dropL_eq];exact hx'.ref_drop
   · cases h
 · cases hd
theorem index_ok{t:TypeId}{i:TI}(hi:ti P t=some i)(hd:isStr i.desc=true){l:List Nat}{k:IntKind}{n b:Nat}{x:Value}
 (hx:Rep ρ w F μ (.str l) x) (h:nthL l n=some b):ValA ρ P w F μ (Instr.index t x (.int k (n:Int))) (.int .u8 (Int.ofNat b)):=by
 obtain⟨s,rfl,rfl⟩:=hx.str_inv
 rw[nthL_eq]at h
 obtain⟨u,hu,rfl⟩:=bytesOf_get s n b h
 have hd':i.desc=.string:=by
  grind [isStr]
 refine⟨.int .u8 (u.toNat:Int),?_,.pure (.int _ _)⟩
 simp[Instr.index,asIntOf,run_und hi,hd',hu]
theorem extract_ok{vs:List V}{k:Nat}{r:V}{x:Value}(hx:Rep ρ w F μ (.tuple vs) x)(h:nthL vs k=some r):ValA ρ P w F μ (Instr.extract x k) r:=by
 obtain⟨ys,rfl,hs,hc⟩:=hx.tuple_inv
 rw[nthL_eq]at h
 have hr:=hc k r h
 obtain⟨hlt,_⟩:=List.getElem?_eq_some_iff.1 h
 have hlt':k<ys.size:=by omega
 refine⟨ys[k],by simp[Instr.extract,hlt'],?_⟩
 simp_all
theorem nilP_rep{v:V}{x:Value}{b:Bool}(hx:Rep ρ w F μ v x)(h:nilP v=some b):∃ a:Option Addr,x=.pointer a∧a.isNone=b:=by
 unfold nilP at h
 split at h<;>cases h
 · exact⟨none,hx.nilptr_inv,rfl⟩
 · obtain⟨m,hm,rfl⟩:=hx.ptr_inv;exact⟨_,rfl,rfl⟩
 · have hx:=hx.ref_inv;cases hx;exact⟨_,rfl,rfl⟩
theorem nilS_rep{v:V}{x:Value}{b:Bool}(hx:Rep ρ w F μ v x)(h:nilS v=some b):∃ (a:Option Addr) (n c:Nat),x=.slice a n c∧a.isNone=b:=by
 unfold nilS at h
 split at h<;>cases h
 · exact⟨none,0,0,hx.snil_inv,rfl⟩
 · obtain⟨m,c,hm,rfl,_⟩:=hx.own_inv;exact⟨_,_,_,rfl,rfl⟩
 · have hx:=hx.sl_inv
   cases hx with
   |slC _ b off size c' _ ys hb hl hcell hrep hle ht=>exact⟨_,_,_,rfl,rfl⟩
theorem nilM_rep{v:V}{x:Value}{b:Bool}(hx:Rep ρ w F μ v x)(h:nilM v=some b):∃ a:Option Nat,x=.map a∧a.isNone=b:=by
 unfold nilM at h
 split at h<;>cases h
 · exact⟨none,hx.nilmap_inv,rfl⟩
 · obtain⟨m,hm,rfl⟩:=hx.map_inv;exact⟨_,rfl,rfl⟩
theorem nilF_rep{v:V}{x:Value}{b:Bool}(hx:Rep ρ w F μ v x)(h:nilF v=some b):(x=.nilFunc∧b=true)∨((∃ f a c,x=.func f a c)∧b=false):=by
 unfold nilF at h
 split at h<;>cases h
 · exact .inl ⟨hx.nilFunc_inv,rfl⟩
 · obtain⟨ys,rfl,_⟩:=hx.func_inv;exact .inr ⟨⟨_,_,_,rfl⟩,rfl⟩
theorem eqNil_eq{a b:Option Bool}{r:Bool}(h:eqNil a b=some r):∃ p q,a=some p∧b=some q∧((p=true∧r=q)∨(p=false∧q=true∧r=false)):=by
 simp_all [eqNil,ob_eq,bi_true,bi_false]
end
end Go.J
/- Operators,conversions,parts of slices,aggregates,look-ups. -/
namespace Go.J
section
variable {ρ:Nat→Value}{P:Program}{w:World}{F:Nat→Prop}{μ:Nat→Nat→Option MI}{hs:HS}{T:PT V}
theorem fields_run {d:Nat} {xs ys:List V} {X Y:Array Value} (hX:X.size=xs.length) (hx:∀ (j:Nat) (v:V),xs[j]?=some v→Rep ρ w F μ v (X.getD j undef)) (hY:Y.size=ys.length) (hy:∀ (j:Nat) (v:V),ys[j]?=some v→Rep ρ w F μ v (Y.getD j undef)) :
 ∀ (fs : List Field) (b:Bool),fieldsEq P fs xs ys=some b →
   (forIn (m:=Sem) fs ((none:Option Bool),()) fun f __s =>
     if f.name ≠ "_" then do
      let a ← part f.type X f.offset
      let c ← part f.type Y f.offset
      let e ← Op.equalIn (d+1) f.type a c
      if (!e)=true then pure (ForInStep.done (some false,()))
       else pure (ForInStep.yield (none,()))
     else pure (ForInStep.yield (none,()))).run P w=.ok (if b then (none,())else (some false,())) w:=by
 intro fs
 induction fs with
 |nil=>intro b h;cases h;rfl
 | cons f fs ih =>
   intro b h
   simp only[fieldsEq,gd_eq,ob_eq,nt_true]at h
   obtain⟨hn,i,hi,hd,a,ha,c,hc,p,hp,q,hq,hk,h⟩:=h
   have hag:isAggD i.desc=false:=by cases hdd:i.desc<;>simp_all [isIntD,isAggD]
   have pl:∀ (zs:List V) (v:V),nthL zs f.offset=some v→partL i zs f.offset=some v:=fun zs v h=>by unfold partL;rw[hag];exact h
   obtain⟨x1,e1,r1⟩:=part_rep hi hX hx (pl _ _ ha)
   obtain⟨x2,e2,r2⟩:=part_rep hi hY hy (pl _ _ hc)
   rw[V.int?_eq]at hp hq
   subst hp hq
   obtain⟨k1,n1⟩:=p
   obtain⟨k2,n2⟩:=q
   have q1:=r1.int_inv
   have q2:=r2.int_inv
   subst q1 q2
   rw[kindEq_true]at hk
   simp only at hk
   subst hk
   have hne : f.name ≠ "_" := by simpa using hn
   have heq:(Op.equalIn (d+1) f.type (.int k1 n1) (.int k1 n2)).run P w=.ok (n1 == n2) w:=by
    simp only[Op.equalIn,Sem.run_bind,run_und hi,Result.andThen_ok]
    cases hdd:i.desc<;>simp_all [isIntD]
   rw[List.forIn_cons]
   simp only[if_pos hne,Sem.run_bind,e1,e2,heq,Result.andThen_ok]
   rw[bi_eq,eqI_beq]at h
   by_cases he:n1=n2
   · subst he
     rw[if_pos (by simp)]at h
     simpa using ih b h
   · rw[if_neg (by simpa using he)]at h
     cases h
     simp[he]
theorem eqV_ok {t:TypeId} {x y:V} {b:Bool} {X Y:Value} (hx:Rep ρ w F μ x X) (hy:Rep ρ w F μ y Y) (h:eqV P t x y=some b) :
 (Op.equal t X Y).run P w=.ok b w:=by
 have key:∀ d,(Op.equalIn (d+2) t X Y).run P w=.ok b w:=?_
 · exact key 9998
 intro d
 simp only[eqV,ob_eq]at h
 obtain⟨i,hi,h⟩:=h
 unfold eqW at h
 simp only[Op.equalIn,Sem.run_bind,run_und hi,Result.andThen_ok]
 split at h
 · rename_i fs hd
   unfold eqS at h
   split at h
   · rename_i xs ys
     simp only[gd_eq,et_true,nt_true]at h
     obtain⟨⟨h1,_⟩,h⟩:=h
     obtain⟨X,rfl,hX,hxs⟩:=hx.agg_inv
     obtain⟨Y,rfl,hY,hys⟩:=hy.agg_inv
     rw[hd]
     have hp:Sem.run P program w=.ok P w:=rfl
     have hfr:=fields_run (d:=d) hX hxs hY hys fs.toList b h
     simp only[Sem.run_bind,hp,Result.andThen_ok,h1,Bool.false_eq_true,if_false]
     rw[← Array.forIn_toList]
     erw[hfr]
     cases b<;>rfl
   · cases h
 · unfold eqD at h
   split at h
   · rename_i hd
     simp only[ob_eq,V.bool?_eq]at h
     obtain⟨p,rfl,q,rfl,h⟩:=h
     cases h
     rw[hx.bool_inv,hy.bool_inv,hd]
     simp[boolEq_eq]
   · rename_i e hd
     obtain⟨p,q,hp,hq,hr⟩:=eqNil_eq h
     obtain⟨a,rfl,ha⟩:=nilP_rep hx hp
     obtain⟨c,rfl,hc⟩:=nilP_rep hy hq
     rw[hd]
     rcases hr with⟨rfl,rfl⟩|⟨rfl,rfl,rfl⟩
     · simp_all
     · simp at hc;subst hc
       cases a with
       |none=>simp at ha
       |some a=>simp
   · rename_i e hd
     obtain⟨p,q,hp,hq,hr⟩:=eqNil_eq h
     obtain⟨a,n1,c1,rfl,ha⟩:=nilS_rep hx hp
     obtain⟨c,n2,c2,rfl,hc⟩:=nilS_rep hy hq
     rw[hd]
     rcases hr with⟨rfl,rfl⟩|⟨rfl,rfl,rfl⟩
     · simp_all
     · simp at hc;subst hc
       cases a with
       |none=>simp at ha
       |some a=>simp
   · rename_i e e' hd
     obtain⟨p,q,hp,hq,hr⟩:=eqNil_eq h
     obtain⟨a,rfl,ha⟩:=nilM_rep hx hp
     obtain⟨c,rfl,hc⟩:=nilM_rep hy hq
     rw[hd]
     rcases hr with⟨rfl,rfl⟩|⟨rfl,rfl,rfl⟩
     · simp_all
     · simp at hc;subst hc
       cases a with
       |none=>simp at ha
       |some a=>simp
   · rename_i e1 e2 e3 hd
     obtain⟨p,q,hp,hq,hr⟩:=eqNil_eq h
     rw[hd]
     rcases nilF_rep hx hp with⟨rfl,e⟩|⟨⟨f,a,c,rfl⟩,e⟩<;>rcases nilF_rep hy hq with⟨rfl,e'⟩|⟨⟨f',a',c',rfl⟩,e'⟩<;>subst e<;>subst e'<;>simp_all
   · cases h
theorem eqGuard_ok{op:BinOp}{t:TypeId}{x y:Operand}{X Y:Value}(h1:X≠.nilIface)(h2:∀ a,X≠.agg a):(eqGuard op t x y X Y).run P w=.ok () w:=by
 unfold eqGuard
 simp_all
theorem eqGuard_agg{op:BinOp}{t:TypeId}{x y:Operand}{X:Array Value}{Y:Value}(h:P.eqGuardType P.depth t=false):(eqGuard op t x y (.agg X) Y).run P w=.ok () w:=by
 have hp:Sem.run P program w=.ok P w:=rfl
 unfold eqGuard
 cases op<;>first|rfl|(cases Y<;>first|rfl|simp[Sem.run_bind,hp,h])
theorem nilJ_ok{op:BinOp}{t:TypeId}{o1:Operand}{x v:V}{X:Value}(hx:Rep ρ w F μ x X)(h:nilJ P op t x=some v) :
 ValA ρ P w F μ (do eqGuard op t o1 (.const .nilIface) X .nilIface;binOp op t X .nilIface) v:=by
 unfold nilJ at h
 simp only[ob_eq,gd_eq]at h
 obtain⟨i,hi,hd,b,hb,h⟩:=h
 have hguard:(eqGuard op t o1 (.const .nilIface) X .nilIface).run P w=.ok () w:=by
  unfold eqGuard
  cases op<;>cases X<;>simp
 have heq0:∀ d,(Op.equalIn (d+1) t X .nilIface).run P w=.ok b w:=by
  intro d
  simp only[Op.equalIn,Sem.run_bind,run_und hi,Result.andThen_ok]
  unfold nilI at hb
  split at hb
  · cases hb
    have e:=hx.nilIface_inv
    subst e
    cases hdd:i.desc<;>simp_all [isIface]
  · cases hb
    obtain⟨z,rfl,_⟩:=hx.iface_inv
    cases hdd:i.desc<;>simp_all [isIface]
  · cases hb
 have heq:(Op.equal t X .nilIface).run P w=.ok b w:=heq0 9999
 have hX:X=.nilIface∨∃ t z,X=.iface t z:=by
  unfold nilI at hb
  split at hb
  · exact .inl hx.nilIface_inv
  · obtain⟨z,rfl,_⟩:=hx.iface_inv
    exact .inr ⟨_,_,rfl⟩
  · cases hb
 cases op<;>simp only[reduceCtorEq,Option.some.injEq]at h<;>subst h<;>rcases hX with rfl|⟨t',z,rfl⟩ <;>
  exact⟨_,by simp only[Sem.run_bind,hguard,Result.andThen_ok];simp[binOp,heq];rfl,.pure (by first|exact .bool _|(rw[nt_eq];exact .bool _))⟩
theorem arith_ok{op:BinOp}{k:IntKind}{a b:Int}{v:V}(t:TypeId)(h:arith op k a b=some v)(hs:isShift op=false) :
 ValA ρ P w F μ (binOp op t (.int k a) (.int k b)) v:=by
 have key:∀ x:Value,(binOp op t (.int k a) (.int k b)).run P w=.ok x w→PRep ρ w F v x→ValA ρ P w F μ (binOp op t (.int k a) (.int k b)) v:=fun x h hx=>⟨x,h,.pure hx⟩
 unfold arith at h
 cases op<;>simp only[gd_eq,Option.some.injEq,reduceCtorEq]at h<;>first
  |(cases h;done)
  |(simp[isShift]at hs;done)
  |(subst h;refine key _ (by simp[binOp,Op.intBits]<;>rfl) ?_;exact .int _ _)
  |(subst h;refine key _ (by simp[binOp,Op.intArith]<;>rfl) ?_;rw[wrapJ_eq];exact .int _ _)
  |(subst h;refine key _ (by simp[binOp,Op.intCmp]<;>rfl) ?_;simp only[eqI_beq,ltI_dec,leI_dec,nt_eq,bne];exact .bool _)
  | (obtain⟨h0,h⟩:=h
     rw[nt_true]at h0
     have hb:b≠0:=fun e=>by rw[eqI_true.2 e]at h0;cases h0
     subst h;refine key _ (by simp[binOp,Op.intDiv,hb]<;>rfl) ?_
     first|exact .int _ _|(rw[wrapJ_eq];exact .int _ _))
theorem shiftJ_ok{op:BinOp}{k k':IntKind}{a b:Int}{v:V}(t:TypeId)(h:shiftJ op k a b=some v) :
 ValA ρ P w F μ (binOp op t (.int k a) (.int k' b)) v:=by
 unfold shiftJ at h
 split at h
 · simp only[ob_eq]at h
   obtain⟨m,hm,h⟩:=h
   cases h
   cases b with
   | ofNat n =>
     cases hm
     refine⟨.int k (a.fdiv (2 ^ min m k.bits)),?_,.pure (.int _ _)⟩
     have:¬ (Int.ofNat m)<0:=Int.not_lt.2 (Int.natCast_nonneg m)
     simp only[binOp,Op.shift,if_neg this]
     rfl
   |negSucc n=>cases hm
 · cases h
theorem strOp_ok{op:BinOp}{s u:ByteArray}{v:V}(t:TypeId)(h:strOp op (bytesOf s) (bytesOf u)=some v) :
 ValA ρ P w F μ (binOp op t (.string s) (.string u)) v:=by
 have key:∀ x:Value,(binOp op t (.string s) (.string u)).run P w=.ok x w→PRep ρ w F v x→ValA ρ P w F μ (binOp op t (.string s) (.string u)) v:=fun x h hx=>⟨x,h,.pure hx⟩
 unfold strOp at h
 cases op <;> simp only[gd_eq,Option.some.injEq,reduceCtorEq]at h<;>first
  |(cases h;done)
  |(subst h;refine key _ (by simp[binOp,Op.stringOp]<;>rfl) ?_;simp only[eqNs_bytes,ltNs_bytes,nt_eq];exact .bool _)
  |(subst h;refine key _ (by simp[binOp,Op.stringOp]<;>rfl) ?_;simp only[eqNs_bytes,ltNs_bytes,nt_eq,bi_eq];cases Op.bytesLess s.toList u.toList<;>exact .bool _)
  | (obtain⟨h0,h⟩:=h
     subst h
     rw[ble_true,lenL_eq,lenL_eq,bytesOf_len,bytesOf_len]at h0
     refine key (.string (s++u)) ?_ ?_
     · have:¬ ((s.size+u.size:Nat):Int)>IntKind.i64.max:=by
        have e:IntKind.i64.max=9223372036854775807:=by decide
        rw[e];omega
       simp only[binOp,Op.stringOp,if_neg this];rfl
     · have e:appL (bytesOf s) (bytesOf u)=bytesOf (s++u):=by
        rw[appL_eq];simp[bytesOf]
       rw[e];exact .str _)
theorem binJ_ok {op:BinOp} {t u:TypeId} {o1 o2:Operand} {x y v:V} {X Y:Value} (hx:Rep ρ w F μ x X) (hy:Rep ρ w F μ y Y) (h:binJ P op t x y=some v) :
 ValA ρ P w F μ (do eqGuard op t o1 o2 X Y;binOp op t X Y) v:=by
 have fin:X≠.nilIface→(∀ a,X≠.agg a)→ValA ρ P w F μ (binOp op t X Y) v→ValA ρ P w F μ (do eqGuard op t o1 o2 X Y;binOp op t X Y) v:=by
  rintro h1 h2 ⟨r,hr,hrep⟩
  exact⟨r,by simp only[Sem.run_bind,eqGuard_ok h1 h2,Result.andThen_ok,hr],hrep⟩
 unfold binJ at h
 split at h
 · rename_i k a
   simp only[ob_eq,V.int?_eq]at h
   obtain⟨⟨k',b⟩,rfl,h⟩:=h
   have e1:=hx.int_inv;subst e1
   have e2:=hy.int_inv;subst e2
   refine fin (fun e=>by cases e) (fun _ e=>by cases e) ?_
   rw[bi_eq]at h
   split at h
   · exact shiftJ_ok t h
   · rename_i hsh
     simp only[gd_eq,kindEq_true]at h
     obtain⟨hk,h⟩:=h
     dsimp only at hk h ⊢
     subst hk
     exact arith_ok t h (by simpa using hsh)
 · rename_i a
   simp only[ob_eq,V.str?_eq]at h
   obtain⟨b,rfl,h⟩:=h
   obtain⟨s,rfl,rfl⟩:=hx.str_inv
   obtain⟨s',rfl,rfl⟩:=hy.str_inv
   exact fin (fun e=>by cases e) (fun _ e=>by cases e) (strOp_ok t h)
 · rename_i hni hns
   unfold otherOp at h
   have hnice:∀ b,eqV P t x y=some b→(eqGuard op t o1 o2 X Y).run P w=.ok () w∧(∀ k n,X≠.int k n)∧(∀ s,X≠.string s)∧(∀ k n,X≠.float k n)∧(∀ k n m,X≠.complex k n m):=by
    intro b hb
    simp only[eqV,ob_eq]at hb
    obtain⟨i,hi,hb⟩:=hb
    unfold eqW at hb
    split at hb
    · unfold eqS at hb
      split at hb
      · simp only[gd_eq,et_true,nt_true]at hb
        obtain⟨A,rfl,_⟩:=hx.agg_inv
        exact⟨eqGuard_agg hb.1.2,by simp,by simp,by simp,by simp⟩
      · cases hb
    · unfold eqD at hb
      split at hb
      · simp only[ob_eq,V.bool?_eq]at hb
        obtain⟨p,rfl,_⟩:=hb
        rw[hx.bool_inv];exact⟨eqGuard_ok (by simp) (by simp),by simp,by simp,by simp,by simp⟩
      · obtain⟨p,q,hp,hq,hr⟩:=eqNil_eq hb
        obtain⟨a,rfl,ha⟩:=nilP_rep hx hp;exact⟨eqGuard_ok (by simp) (by simp),by simp,by simp,by simp,by simp⟩
      · obtain⟨p,q,hp,hq,hr⟩:=eqNil_eq hb
        obtain⟨a,_,_,rfl,ha⟩:=nilS_rep hx hp;exact⟨eqGuard_ok (by simp) (by simp),by simp,by simp,by simp,by simp⟩
      · obtain⟨p,q,hp,hq,hr⟩:=eqNil_eq hb
        obtain⟨a,rfl,ha⟩:=nilM_rep hx hp;exact⟨eqGuard_ok (by simp) (by simp),by simp,by simp,by simp,by simp⟩
      · obtain⟨p,q,hp,hq,hr⟩:=eqNil_eq hb
        rcases nilF_rep hx hp with⟨rfl,e⟩|⟨⟨f,a,c,rfl⟩,e⟩<;>exact⟨eqGuard_ok (by simp) (by simp),by simp,by simp,by simp,by simp⟩
      · cases hb
   have hb1:∀ b,eqV P t x y=some b→(binOp .eql t X Y).run P w=.ok (.bool b) w∧(binOp .neq t X Y).run P w=.ok (.bool (!b)) w:=by
    intro b hb
    obtain⟨g2,g3,g4,g5,g6⟩:=hnice b hb
    have he:=eqV_ok hx hy hb
    cases X<;>first
     |(exact absurd rfl (g3 _ _))
     |(exact absurd rfl (g4 _))
     |(exact absurd rfl (g5 _ _))
     |(exact absurd rfl (g6 _ _ _))
     |(constructor<;>simp[binOp,he])
   cases op<;>simp only[ob_eq,reduceCtorEq]at h
   · obtain⟨b,hb,h⟩:=h
     cases h
     exact⟨_,by simp only[Sem.run_bind,(hnice b hb).1,Result.andThen_ok];exact(hb1 b hb).1,.pure (.bool _)⟩
   · obtain⟨b,hb,h⟩:=h
     cases h
     exact⟨_,by simp only[Sem.run_bind,(hnice b hb).1,Result.andThen_ok];exact(hb1 b hb).2,.pure (by rw[nt_eq];exact .bool _)⟩
theorem conv_ok{s d:TypeId}{i j:TI}(hi:ti P s=some i)(hj:ti P d=some j){v r:V}{x:Value}(hx:Rep ρ w F μ v x)(h:convV j.desc v=some r) :
 ValA ρ P w F μ (convert s d x) r:=by
 unfold convV at h
 split at h
 · rename_i k hd
   simp only[ob_eq,V.int?_eq]at h
   obtain⟨p,rfl,h⟩:=h
   cases h
   have e:=hx.int_inv;subst e
   refine⟨.int k (k.wrap p.2),?_,.pure (by rw[wrapJ_eq];exact .int _ _)⟩
   simp only[convert,Sem.run_bind,run_und hi,run_und hj,Result.andThen_ok,hd]
   cases i.desc<;>rfl
 · rename_i hd
   simp only[ob_eq,V.str?_eq]at h
   obtain⟨l,rfl,h⟩:=h
   cases h
   have hx':=hx
   obtain⟨s,rfl,rfl⟩:=hx.str_inv
   refine⟨.string s,?_,hx'⟩
   simp only[convert,Sem.run_bind,run_und hi,run_und hj,Result.andThen_ok,hd]
   simp_all
 · cases h
theorem minmax_ok{k k':IntKind}{a b:Int}(less:Bool)(ts:Array TypeId)(t:TypeId) :
 ValA ρ P w F μ (if less then Builtin.min_ ts t #[.int k a,.int k' b]else Builtin.max_ ts t #[.int k a,.int k' b]) (.int k (bi (bi less (ltI b a) (ltI a b)) b a)):=by
 cases less with
 | true =>
   refine⟨.int k (if b<a then b else a),by simp[Builtin.min_,Builtin.min2],.pure ?_⟩
   rw[bi_true,bi_eq,ltI_dec];simp only[decide_eq_true_eq];exact .int _ _
 | false =>
   refine⟨.int k (if b>a then b else a),by simp[Builtin.max_,Builtin.max2],.pure ?_⟩
   rw[bi_false,bi_eq,ltI_dec];simp only[decide_eq_true_eq];exact .int _ _
end
end Go.J
/- Parts of slices,aggregates. -/
namespace Go.J
theorem isSomeO_true{α:Type}{x:Option α}:isSomeO x=true↔∃ a,x=some a:=by cases x<;>simp[isSomeO]
theorem isSomeO_false{α:Type}{x:Option α}:isSomeO x=false↔x=none:=by cases x<;>simp[isSomeO]
def Good(ρ:Nat→Value):Prop:=∀ k,(ρ k).oneCell'=true
section
variable {ρ:Nat→Value}{P:Program}{w:World}{F:Nat→Prop}{μ:Nat→Nat→Option MI}{hs:HS}{T:PT V}
theorem optJ_spec{a:Act}(hT:TRel ρ w F μ T a.tmps){o:Option Operand}{y d r:Nat}(h:optJ T o y d=some r) :
 (o=none∧r=d)∨(∃ op k,o=some op∧a.eval op=.int k (r:Int)∧r≤y):=by
 cases o with
 |none=>left;exact⟨rfl,by have h:some d=some r:=h;cases h;rfl⟩
 | some op =>
   right
   have h:(ob (evalO T op) fun v=>ob v.nat? fun n=>gd (Nat.ble n y) (some n))=some r:=h
   simp only[ob_eq,gd_eq,ble_true,V.nat?_eq]at h
   obtain⟨v,hv,n,⟨k,rfl⟩,hle,hr⟩:=h
   cases hr
   exact⟨op,k,rfl,(evalO_rep hT hv).int_inv,hle⟩
theorem sliceBound_ok(k:IntKind){n y:Nat}(code:BoundsCode)(h:n≤y):(Instr.sliceBound (.int k (n:Int)) y code).run P w=.ok n w:=by
 have h1:(0:Int)≤(n:Int)∧(n:Int)≤(y:Int):=⟨by omega,by omega⟩
 simp only[Instr.sliceBound,asIntOf,Sem.run_bind,Sem.run_pure,Result.andThen_ok,if_pos h1,Int.toNat_natCast]
theorem bounds_ok {a:Act} (hT:TRel ρ w F μ T a.tmps) {len capJ cap l h m:Nat} {lo hi mx:Option Operand} (b:Bool) (hb:bounds T len capJ lo hi mx=some (l,h,m)) (h1:len≤capJ) (h2:capJ≤cap) :
 ∃ m',(Instr.sliceBounds b len cap (lo.map a.eval) (hi.map a.eval) (mx.map a.eval)).run P w=.ok (l,h,m') w∧l≤h∧h≤m∧m≤capJ ∧
   (isSomeO mx=true→m'=m)∧(isSomeO mx=false→m=capJ∧m'=cap):=by
 unfold bounds at hb
 simp only[gd_eq,ob_eq]at hb
 obtain⟨hmx,m1,hm,h',hh,l',hl,he⟩:=hb
 cases he
 unfold Instr.sliceBounds
 rcases optJ_spec hT hm with⟨rfl,rfl⟩|⟨om,km,rfl,em,hm'⟩
 · have hll:l≤h:=by
    rcases optJ_spec hT hl with⟨rfl,rfl⟩|⟨ol,kl,rfl,el,hl'⟩
    · exact Nat.zero_le _
    · exact hl'
   have hle:h≤m:=by
    rcases optJ_spec hT hh with⟨rfl,rfl⟩|⟨oh,kh,rfl,eh,hh'⟩
    · exact h1
    · exact hh'
   refine⟨cap,?_,hll,hle,Nat.le_refl _,fun h=>by simp[isSomeO]at h,fun _=>⟨rfl,rfl⟩⟩
   rcases optJ_spec hT hh with⟨rfl,rfl⟩|⟨oh,kh,rfl,eh,hh'⟩
   · rcases optJ_spec hT hl with⟨rfl,rfl⟩|⟨ol,kl,rfl,el,hl'⟩
     · rfl
     · simp only[Option.map_some,Option.map_none,el,Sem.run_bind,Sem.run_pure,Result.andThen_ok,sliceBound_ok _ _ hl']
   · have hh2:=Nat.le_trans hh' h2
     rcases optJ_spec hT hl with⟨rfl,rfl⟩|⟨ol,kl,rfl,el,hl'⟩
     · simp only[Option.map_some,Option.map_none,eh,Sem.run_bind,Sem.run_pure,Result.andThen_ok,sliceBound_ok _ _ hh2]
     · simp only[Option.map_some,Option.map_none,eh,el,Sem.run_bind,Sem.run_pure,Result.andThen_ok,sliceBound_ok _ _ hh2,sliceBound_ok _ _ hl']
 · rw [show isSomeO (some om)=true from rfl,bi_true,isSomeO_true]at hmx
   obtain⟨oh,rfl⟩:=hmx
   rcases optJ_spec hT hh with⟨h0,_⟩|⟨oh',kh,e,eh,hh'⟩
   · cases h0
   · cases e
     have hll:l≤h:=by
      rcases optJ_spec hT hl with⟨rfl,rfl⟩|⟨ol,kl,rfl,el,hl'⟩
      · exact Nat.zero_le _
      · exact hl'
     refine⟨m,?_,hll,hh',hm',fun _=>rfl,fun h=>by simp[isSomeO]at h⟩
     simp only[Option.map_some,em,eh,Sem.run_bind,sliceBound_ok _ _ (Nat.le_trans hm' h2),sliceBound_ok _ _ hh',Result.andThen_ok]
     rcases optJ_spec hT hl with⟨rfl,rfl⟩|⟨ol,kl,rfl,el,hl'⟩
     · rfl
     · simp only[Option.map_some,el,Sem.run_bind,sliceBound_ok _ _ hl',Result.andThen_ok,Sem.run_pure]
theorem bytesOf_extract(s:ByteArray)(l h:Nat):bytesOf (s.extract l h)=(((bytesOf s).drop l).take (h-l)):=by
 unfold bytesOf
 rw[Lib.extract_data,List.map_take,List.map_drop]
theorem slice_ok {a:Act} (hR:R ρ w F μ P hs) (hT:TRel ρ w F μ T a.tmps) {t:TypeId} {i:TI} (hi:ti P t=some i) {v r:V} {x:Value} {lo hi' mx:Option Operand}
 (hx:Rep ρ w F μ v x) (h:sliceJ P T hs i v lo hi' mx=some r):ValA ρ P w F μ (Instr.sliceAt t x (lo.map a.eval) (hi'.map a.eval) (mx.map a.eval)) r:=by
 unfold sliceJ at h
 split at h
 · rename_i hd
   simp only[ob_eq,V.str?_eq,sliceStr,gd_eq,nt_true,isSomeO_false]at h
   obtain⟨s,rfl,rfl,⟨l,hh,m⟩,hb,hr⟩:=h
   cases hr
   obtain⟨s,rfl,rfl⟩:=hx.str_inv
   obtain⟨m',hrun,h1,h2,h3,_,h4⟩:=bounds_ok (P:=P) (w:=w) hT (cap:=s.size) false hb (Nat.le_refl _) (by rw[lenL_eq,bytesOf_len];exact Nat.le_refl _)
   rw[lenL_eq,bytesOf_len]at hrun
   simp only[Option.map_none]at hrun
   refine⟨.string (s.extract l hh),?_,.pure ?_⟩
   · simp only[Instr.sliceAt,Instr.slice,Sem.run_bind,run_und hi,Result.andThen_ok,hd,Option.map_none,Option.isSome_none,Bool.false_eq_true,if_false,Sem.run_pure,hrun]
   · rw[takeL_eq,dropL_eq,← bytesOf_extract];exact .str _
 · rename_i el hd
   simp only[ob_eq]at h
   obtain⟨e,he,h⟩:=h
   have key:∀ (ad:Option Addr) (len cap l hh m':Nat),(Instr.sliceBounds true len cap (lo.map a.eval) (hi'.map a.eval) (mx.map a.eval)).run P w=.ok (l,hh,m') w →
    (Instr.sliceAt t (.slice ad len cap) (lo.map a.eval) (hi'.map a.eval) (mx.map a.eval)).run P w=.ok (.slice (if m'=l then ad else ad.map (·.add (l*e.size))) (hh-l) (m'-l)) w:=by
    intro ad len cap l hh m' hrun
    simp only[Instr.sliceAt,Instr.slice,Sem.run_bind,run_und hi,Result.andThen_ok,hd,hrun,run_size he,Sem.run_pure]
   split at h
   · simp only[sliceNil,ob_eq]at h
     obtain⟨⟨l,hh,m⟩,hb,hr⟩:=h
     cases hr
     have e:=hx.snil_inv;subst e
     obtain⟨m',hrun,h1,h2,h3,h4,h5⟩:=bounds_ok (P:=P) (w:=w) hT (cap:=0) true hb (Nat.le_refl _) (Nat.le_refl _)
     have hm':m'=0:=by
      cases hs:isSomeO mx with
      |true=>have:=h4 hs;omega
      |false=>exact(h5 hs).2
     refine⟨_,key _ _ _ _ _ _ hrun,.pure ?_⟩
     have e1:hh-l=0:=by omega
     have e2:m'-l=0:=by omega
     simp only[Option.map_none,ite_self,e1,e2]
     exact .snil
   · rename_i es tight
     simp only[sliceSl,gd_eq,ob_eq,sizes_eq,lenL_eq]at h
     obtain⟨hsz,⟨l,hh,m⟩,hb,hr⟩:=h
     cases hr
     have hx:=hx.sl_inv
     rw[takeL_eq,dropL_eq]
     cases hx with
     | slE ad c _ ht =>
       obtain⟨m',hrun,h1,h2,h3,h4,h5⟩:=bounds_ok (P:=P) (w:=w) hT (cap:=c) true hb (Nat.le_refl _) (Nat.zero_le _)
       simp only[List.length_nil]at hb hrun h3 h4 h5
       refine⟨_,key _ _ _ _ _ _ hrun,.pure ?_⟩
       have e1:hh-l=0:=by omega
       rw[e1]
       simp only[List.drop_nil,List.take_nil]
       refine .slE _ _ _ fun hq=>?_
       cases hs:isSomeO mx with
       |true=>have:=h4 hs;omega
       | false =>
         rw[hs,bi_false,et_true]at hq
         have:=(h5 hs).2;have:=ht hq.1;omega
     | slC _ b off size c _ ys hb' hl hcell hrep hle ht =>
       obtain⟨m',hrun,h1,h2,h3,h4,h5⟩:=bounds_ok (P:=P) (w:=w) hT (cap:=c) true hb (Nat.le_refl _) hle
       have hlen:((es.drop l).take (hh-l)).length=hh-l:=by simp;omega
       have htight:(bi (isSomeO mx) (Nat.beq hh m) (et tight (Nat.beq hh es.length))=true)→m'-l=hh-l:=by
        intro hq
        cases hs:isSomeO mx with
        |true=>rw[hs,bi_true,beq_true]at hq;have:=h4 hs;omega
        | false =>
          rw[hs,bi_false,et_true,beq_true]at hq
          have:=(h5 hs).2;have:=ht hq.1;omega
       refine⟨_,key _ _ _ _ _ _ hrun,.pure ?_⟩
       have hmm:hh≤m':=by
        cases hs:isSomeO mx with
        |true=>have:=h4 hs;omega
        |false=>have:=(h5 hs).2;omega
       by_cases he0:m'=l
       · have e1:hh-l=0:=by omega
         rw[if_pos he0,e1,List.take_zero]
         exact .slE _ _ _ fun hq=>by omega
       · rw [if_neg he0]
         simp only[Option.map_some,addr_add]
         rw[show (Value.slice (some ⟨b,off+l*e.size,none⟩) (hh-l) (m'-l))=.slice (some ⟨b,off+l*e.size,none⟩) ((es.drop l).take (hh-l)).length (m'-l) by rw[hlen]]
         have hsame:es=[]∨size=e.size:=by
          cases es with
          |nil=>exact .inl rfl
          |cons x es=>exact .inr (by rw[← hl x (by simp),hsz x (by simp)])
         refine .slC _ b _ e.size _ _ (fun i j=>ys (l+i) j) hb' (fun x hx=>hsz x (List.mem_of_mem_drop (List.mem_of_mem_take hx))) (fun i x j v hi hj=>?_) (fun i x j v hi hj=>?_) (by omega) (fun hq=>by rw[hlen];exact htight hq)
         · have hi':es[l+i]?=some x:=by
            rw[List.getElem?_take]at hi
            split at hi
            · rwa [List.getElem?_drop]at hi
            · cases hi
           have:=hcell (l+i) x j v hi' hj
           rcases hsame with rfl|rfl
           · simp at hi'
           · rw[show off+l*e.size+i*e.size+j=off+(l+i)*e.size+j by rw[Nat.add_mul];omega]
             exact this
         · have hi':es[l+i]?=some x:=by
            rw[List.getElem?_take]at hi
            split at hi
            · rwa [List.getElem?_drop]at hi
            · cases hi
           exact hrep (l+i) x j v hi' hj
   · rename_i id g off len cap
     simp only[sliceOwn,ob_eq,gd_eq,beq_true]at h
     obtain⟨row,hrow,hsz,⟨l,hh,m⟩,hb,hz,hr⟩:=h
     cases hr
     obtain⟨mi,c,hm,rfl,g1,g2,g3,g4⟩:=hx.own_inv
     have hms:mi.size=e.size:=by rw[(hR.row hrow hm).hsize,hsz]
     have hcap:len≤orc len (fun c=>c) cap∧orc len (fun c=>c) cap≤c:=by
      cases cap with
      |none=>exact⟨Nat.le_refl _,g1⟩
      |some k=>have:=g3 k rfl;subst this;exact⟨g1,Nat.le_refl _⟩
     obtain⟨m',hrun,h1,h2,h3,h4,h5⟩:=bounds_ok (P:=P) (w:=w) hT (cap:=c) true hb hcap.1 hcap.2
     have hmm:m≤m'∧m'≤c:=by
      cases hs:isSomeO mx with
      |true=>have:=h4 hs;omega
      |false=>have:=h5 hs;omega
     have hz':l=0∨l<m:=by
      cases hq:Nat.beq l 0 with
      |true=>exact .inl (beq_true.1 hq)
      |false=>dsimp only at hz;rw[hq,bi_false,blt_true]at hz;exact .inr hz
     have had:(if m'=l then (some ⟨mi.b,off,none⟩:Option Addr)else (some ⟨mi.b,off,none⟩:Option Addr).map (·.add (l*e.size)))=some ⟨mi.b,off+l*e.size,none⟩:=by
      by_cases he0:m'=l
      · have:l=0:=by omega
        subst this;simp[he0]
      · rw[if_neg he0];simp[addr_add]
     refine⟨_,key _ _ _ _ _ _ hrun,?_⟩
     rw[had]
     have hsub:off+l*e.size+(m'-l)*mi.size=off+m'*mi.size:=by
      rw[← hms,Nat.add_assoc,← Nat.add_mul];congr 2;omega
     refine .own id g _ _ _ _ mi hm (by dsimp only;omega) ?_ ?_ ?_
     · rw[hsub]
       have:m'*mi.size≤c*mi.size:=Nat.mul_le_mul_right _ hmm.2
       omega
     · intro k hk
       cases hs:isSomeO mx with
       |true=>rw[hs,bi_true]at hk;cases hk;rw[h4 hs]
       | false =>
         rw[hs,bi_false]at hk
         cases cap with
         |none=>cases hk
         | some k' =>
           have hk:some (k'-l)=some k:=hk
           cases hk
           have:=g3 k' rfl;rw[(h5 hs).2];omega
     · intro hk
       cases hs:isSomeO mx with
       |true=>rw[hs,bi_true]at hk;cases hk
       | false =>
         rw[hs,bi_false]at hk
         cases cap with
         |some k'=>cases hk
         |none=>rw[hsub,(h5 hs).2];exact g4 rfl
   · cases h
 · cases h
end
end Go.J
/- Aggregates;freezing. -/
namespace Go.J
section
variable {ρ:Nat→Value}{P:Program}{w:World}{F:Nat→Prop}{μ:Nat→Nat→Option MI}{hs:HS}{T:PT V}
def RelC(ρ:Nat→Value)(w:World)(F:Nat→Prop)(μ:Nat→Nat→Option MI)(cs:List V)(ys:Array Value):Prop :=
 ys.size=cs.length∧∀ (i:Nat) (v:V),cs[i]?=some v→Rep ρ w F μ v (ys.getD i undef)
theorem rep_one(hρ:Good ρ){v:V}{x:Value}(h:Rep ρ w F μ v x)(hv:∀ cs,v≠.agg cs):x.cells=#[x]:=by
 cases h with
 | pure h=>cases h with
   | sym k =>
     have:=hρ k
     cases he:ρ k<;>rw[he]at this<;>first|rfl|(cases this)
   |agg cs ys hs hc=>exact absurd rfl (hv cs)
   |_=>rfl
 |agg cs ys hs hc=>exact absurd rfl (hv cs)
 |_=>rfl
theorem cells_rel(hρ:Good ρ){v:V}{x:Value}(h:Rep ρ w F μ v x):RelC ρ w F μ v.cells x.cells:=by
 by_cases hv:∃ cs,v=.agg cs
 · obtain⟨cs,rfl⟩:=hv
   obtain⟨ys,rfl,hs,hc⟩:=h.agg_inv
   exact⟨hs,hc⟩
 · have hv':∀ cs,v≠.agg cs:=fun cs e=>hv ⟨cs,e⟩
   rw[rep_one hρ h hv']
   have hc:v.cells=[v]:=by cases v<;>first|rfl|(exact absurd rfl (hv' _))
   rw[hc]
   refine⟨rfl,fun i u hi=>?_⟩
   cases i with
   |zero=>simp at hi;subst hi;exact h
   |succ i=>simp at hi
theorem cell_one(hρ:Good ρ){v:V}{x:Value}(h:Rep ρ w F μ v x)(hv:v.isCell=true):x.oneCell'=true:=by
 cases h with
 | pure h=>cases h with
   |sym k=>exact hρ k
   |agg cs ys hs hc=>cases hv
   |tuple cs ys hs hc=>cases hv
   |_=>rfl
 |agg cs ys hs hc=>cases hv
 |tuple cs ys hs hc=>cases hv
 |_=>rfl
theorem pure2_cell{v:V}(h:v.pure2=true):v.isCell=true:=by cases v<;>first|rfl|(simp[V.pure2,V.pure1]at h)
theorem fold_set(off:Nat):∀ (vs:List Value) (s:Nat) (cells:Array Value),
 ((vs.zipIdx s).foldl (fun cs p=>cs.setIfInBounds (off+p.2) p.1) cells).size=cells.size ∧
 ∀ k,((vs.zipIdx s).foldl (fun cs p=>cs.setIfInBounds (off+p.2) p.1) cells)[k]?=if off+s≤k∧k<off+s+vs.length∧k<cells.size then vs[k-(off+s)]? else cells[k]?:=by
 intro vs
 induction vs with
 |nil=>intro s cells;exact⟨rfl,fun k=>by simp;intro h1 h2;omega⟩
 | cons v vs ih =>
   intro s cells
   simp only[List.zipIdx_cons,List.foldl_cons]
   grind
theorem fold_arr(off:Nat)(xs cells:Array Value) :
 (xs.zipIdx.foldl (fun cs (p:Value×Nat)=>cs.setIfInBounds (off+p.2) p.1) cells).size=cells.size ∧
 ∀ k,(xs.zipIdx.foldl (fun cs (p:Value×Nat)=>cs.setIfInBounds (off+p.2) p.1) cells)[k]?=if off≤k∧k<off+xs.size∧k<cells.size then xs[k-off]? else cells[k]?:=by
 have h:=fold_set off xs.toList 0 cells
 simp only[Nat.add_zero,Array.length_toList]at h
 grind [Array.toList_zipIdx]
theorem RelC.over{cs new:List V}{ys xs:Array Value}(h:RelC ρ w F μ cs ys)(hn:RelC ρ w F μ new xs)(off:Nat) :
 RelC ρ w F μ (overL cs off new) (xs.zipIdx.foldl (fun cs (p:Value×Nat)=>cs.setIfInBounds (off+p.2) p.1) ys):=by
 obtain⟨h1,h2⟩:=fold_arr off xs ys
 refine⟨by rw[h1,overL_len];exact h.1,fun k v hk=>?_⟩
 have hlt:k<cs.length:=by
  grind [List.getElem?_eq_some_iff,overL_len]
 rw[overL_get _ _ _ _ hlt]at hk
 rw[Array.getD_eq_getD_getElem?,h2]
 have hsz:=h.1;have hsn:=hn.1
 by_cases hc:off≤k∧k<off+new.length
 · rw[if_pos hc]at hk
   rw[if_pos ⟨hc.1,by omega,by omega⟩]
   have:=hn.2 _ v hk
   simp_all
 · rw[if_neg hc]at hk
   rw[if_neg (by omega)]
   have:=h.2 _ v hk
   simp_all
theorem buildJ_nil(i:TI)(cells:List V):buildJ P T i [] cells=some cells:=rfl
theorem buildJ_cons(i:TI)(p:Nat×Operand)(l:List (Nat×Operand))(cells:List V):buildJ P T i (p::l) cells =
 ob (fieldOf i p.1) fun fd=>ob (ti P fd.type) fun fi=>ob (evalO T p.2) fun v =>
  gd (et (Nat.beq (lenL v.cells) fi.size) (Nat.ble (fd.offset+fi.size) (lenL cells))) (buildJ P T i l (overL cells fd.offset v.cells)):=rfl
theorem build_fill(hρ:Good ρ){a:Act}(hT:TRel ρ w F μ T a.tmps){i:TI}{place:Nat→Option (Nat×Nat)}
 (hpl:∀ f fd fi,fieldOf i f=some fd→ti P fd.type=some fi→place f=some (fd.offset,fi.size)) :
 ∀ (l:List (Nat×Operand)) (cs r:List V) (cells:Array Value),buildJ P T i l cs=some r→RelC ρ w F μ cs cells →
   ∃ cells',Instr.fill place cells (l.map fun (i,x)=>(i,a.eval x))=some cells'∧RelC ρ w F μ r cells':=by
 intro l
 induction l with
 |nil=>intro cs r cells h hc;rw[buildJ_nil]at h;cases h;exact⟨cells,rfl,hc⟩
 | cons p l ih =>
   intro cs r cells h hc
   rw[buildJ_cons]at h
   simp only[ob_eq,gd_eq,et_true,beq_true,ble_true,lenL_eq]at h
   obtain⟨fd,hfd,fi,hfi,v,hv,⟨h1,h2⟩,h⟩:=h
   have hrel:=cells_rel hρ (evalO_rep hT hv)
   have hsz:=hrel.1;have hcz:=hc.1
   obtain⟨cells',hfill,hr⟩:=ih _ _ _ h (hc.over hrel fd.offset)
   refine⟨cells',?_,hr⟩
   obtain⟨pi,px⟩:=p
   simp only[List.map_cons,Instr.fill,hpl pi fd fi hfd hfi]
   grind
theorem fieldsOk_places{l:List Field}(h:fieldsOk P l=true) :
 ∃ places:List (Nat×Nat),l.mapM (fun f=>(P.info? f.type).map fun i=>(f.offset,i.size))=some places ∧
   ∀ (k:Nat) (fd:Field) (fi:TI),l[k]?=some fd→ti P fd.type=some fi→places[k]?=some (fd.offset,fi.size):=by
 have h':∀ f∈l,isSomeO (ti P f.type)=true:=(all_lr (fun f:Field=>isSomeO (ti P f.type)) l).1 h
 clear h
 induction l with
 |nil=>exact⟨[],rfl,fun k fd fi h=>by simp at h⟩
 | cons f l ih =>
   obtain⟨places,hm,hp⟩:=ih (fun x hx=>h' x (List.mem_cons_of_mem _ hx))
   obtain⟨i0,hi0⟩:=isSomeO_true.1 (h' f (List.mem_cons_self ..))
   obtain⟨info,z,h1,h2,h3,_⟩:=ti_spec hi0
   refine⟨(f.offset,info.size)::places,by simp[List.mapM_cons,h1,hm],fun k fd fi hk hfi=>?_⟩
   grind
theorem zero_rel{t:TypeId}{i:TI}(hi:ti P t=some i):∃ info z,P.info? t=some info∧P.underlying t=some i.desc∧info.zero=some z∧RelC ρ w F μ i.zero z.cells∧(zeroValue t).run P w=.ok z w:=by
 obtain⟨info,z,h1,h2,h3,h4,h5,h6⟩:=ti_spec hi
 obtain⟨hl,hz⟩:=ofConst1L_prep (ρ:=ρ) (w:=w) (F:=F) h6
 refine⟨info,z,h1,h2,h5,⟨by simpa using hl,fun k v hk=>?_⟩,by simp[zeroValue,typeInfo,h1,h5]⟩
 obtain⟨x,hx,hr⟩:=hz k v hk
 rw[Array.getElem?_toList]at hx
 rw[Array.getD_eq_getD_getElem?,hx]
 exact .pure hr
theorem build_ok(hρ:Good ρ){a:Act}(hT:TRel ρ w F μ T a.tmps){t:TypeId}{i:TI}(hi:ti P t=some i){parts:Array (Nat×Operand)}{cs:List V}(hok:fieldsOk P (fieldsOf i.desc)=true)
 (hst:isStructD i.desc=true) (h:buildJ P T i parts.toList i.zero=some cs):ValA ρ P w F μ (Instr.build t (parts.map fun (i,x)=>(i,a.eval x))) (.agg cs):=by
 obtain⟨info,z,h1,h2,h3,hz,hrz⟩:=zero_rel (ρ:=ρ) (w:=w) (F:=F) (μ:=μ) hi
 cases hd:i.desc<;>rw[hd]at hst<;>first|(cases hst;done)|skip
 rename_i fs
 rw[hd]at hok h2
 obtain⟨places,hpl,hp⟩:=fieldsOk_places hok
 obtain⟨cells,hfill,hrel⟩:=build_fill hρ hT (P:=P) (i:=i) (place:=(places.toArray[·]?)) (fun f fd fi hf hfi=>by
  obtain⟨fs',hd',hfs⟩:=fieldOf_eq.1 hf
  rw[hd]at hd';cases hd'
  have:=hp f fd fi (by simpa [fieldsOf]using hfs) hfi
  simpa using this) _ _ _ _ h hz
 have hb:P.built t (parts.map fun (i,x)=>(i,a.eval x)).toList=some cells:=by
  unfold Program.built
  simp_all [fieldsOf]
 exact⟨.agg cells,run_build w t _ _ hb,.agg _ _ hrel.1 hrel.2⟩
theorem buildAJ_nil(n:Nat)(cells:List V):buildAJ T n [] cells=some cells:=rfl
theorem buildAJ_cons(n:Nat)(p:Nat×Operand)(l:List (Nat×Operand))(cells:List V):buildAJ T n (p::l) cells =
 ob (evalO T p.2) fun v=>gd (et (Nat.beq (lenL v.cells) n) (Nat.ble (p.1*n+n) (lenL cells))) (buildAJ T n l (overL cells (p.1*n) v.cells)):=rfl
theorem buildA_fill(hρ:Good ρ){a:Act}(hT:TRel ρ w F μ T a.tmps){n:Nat} :
 ∀ (l:List (Nat×Operand)) (cs r:List V) (cells:Array Value),buildAJ T n l cs=some r→RelC ρ w F μ cs cells →
   ∃ cells',Instr.fill (fun i=>some (i*n,n)) cells (l.map fun (i,x)=>(i,a.eval x))=some cells'∧RelC ρ w F μ r cells':=by
 intro l
 induction l with
 |nil=>intro cs r cells h hc;rw[buildAJ_nil]at h;cases h;exact⟨cells,rfl,hc⟩
 | cons p l ih =>
   intro cs r cells h hc
   rw[buildAJ_cons]at h
   simp only[ob_eq,gd_eq,et_true,beq_true,ble_true,lenL_eq]at h
   obtain⟨v,hv,⟨h1,h2⟩,h⟩:=h
   have hrel:=cells_rel hρ (evalO_rep hT hv)
   have hsz:=hrel.1;have hcz:=hc.1
   obtain⟨pi,px⟩:=p
   obtain⟨cells',hfill,hr⟩:=ih _ _ _ h (hc.over hrel (pi*n))
   refine⟨cells',?_,hr⟩
   simp only[List.map_cons,Instr.fill]
   grind
theorem buildA_ok(hρ:Good ρ){a:Act}(hT:TRel ρ w F μ T a.tmps){t el:TypeId}{i e:TI}(hi:ti P t=some i)(hel:arrOf i.desc=some el)(he:ti P el=some e){parts:Array (Nat×Operand)}{cs:List V}
 (h:buildAJ T e.size parts.toList i.zero=some cs):ValA ρ P w F μ (Instr.build t (parts.map fun (i,x)=>(i,a.eval x))) (.agg cs):=by
 obtain⟨info,z,h1,h2,h3,hz,hrz⟩:=zero_rel (ρ:=ρ) (w:=w) (F:=F) (μ:=μ) hi
 obtain⟨ie,ze,g1,g2,g3,_⟩:=ti_spec he
 have hd:∃ n,i.desc=.array n el:=by
  cases hd:i.desc<;>rw[hd]at hel<;>first|(cases hel;done)|skip
  cases hel
  grind
 obtain⟨n,hd⟩:=hd
 rw[hd]at h2
 obtain⟨cells,hfill,hrel⟩:=buildA_fill hρ hT _ _ _ _ h hz
 have hb:P.built t (parts.map fun (i,x)=>(i,a.eval x)).toList=some cells:=by
  unfold Program.built
  simp_all
 exact⟨.agg cells,run_build w t _ _ hb,.agg _ _ hrel.1 hrel.2⟩
theorem cutRow_eq{size off len:Nat}{es l:List (List V)}(h:cutRow size off len es=some l):off % size=0∧off / size+len≤es.length∧l=(es.drop (off / size)).take len:=by
 grind [cutRow,gd_eq,et_true,beq_true,ble_true,lenL_eq,takeL_eq,dropL_eq,Option.some.injEq]
theorem row_part(hR:R ρ w F μ P hs){id g off len:Nat}{a:Nat×List (List V)×Bool×Bool×Bool}(ha:getRow hs id g=some a){m:MI}(hm:μ id g=some m)(hmod:off % a.1=0) :
 ∀ (i:Nat) (e:List V) (j:Nat) (v:V),((a.2.1.drop (off / a.1)).take len)[i]?=some e→e[j]?=some v →
   ∃ y,w.cell? ⟨m.b,off+i*a.1+j,none⟩=some y∧Rep ρ w F μ v y∧(a.2.2.2.2=true→PRep ρ w F v y):=by
 intro i e j v hi hj
 have hi':a.2.1[off / a.1+i]?=some e:=by
  grind
 obtain⟨y,hy,hr⟩:=(hR.row ha hm).cell hi' hj
 grind [Nat.div_add_mod,Nat.add_mul,Nat.mul_comm]
theorem stillRow_ok(hR:R ρ w F μ P hs){id g off len:Nat}{cap:Option Nat}{v':V}{x:Value}(hx:Rep ρ w F μ (.own id g off len cap) x)(h:stillRow hs id g off len=some v')
 {F':Nat→Prop} (hF:∀ b,F b→F' b) (hb:∀ m,μ id g=some m→F' m.b):PRep ρ w F' v' x:=by
 simp only[stillRow,ob_eq,gd_eq]at h
 obtain⟨a,ha,hrow,l,hl,hv⟩:=h
 cases hv
 obtain⟨hmod,hlen,rfl⟩:=cutRow_eq hl
 obtain⟨m,c,hm,rfl,g1,g2,g3,g4⟩:=hx.own_inv
 have hll:((a.2.1.drop (off / a.1)).take len).length=len:=by
  simp;omega
 have hp:=row_part hR (len:=len) ha hm hmod
 rw[show (Value.slice (some ⟨m.b,off,none⟩) len c)=.slice (some ⟨m.b,off,none⟩) ((a.2.1.drop (off / a.1)).take len).length c by rw[hll]]
 refine .slC _ m.b off a.1 c false (fun i j=>(w.cell? ⟨m.b,off+i*a.1+j,none⟩).getD undef) (hb m hm) (fun e he=>(hR.row ha hm).hlen e (List.mem_of_mem_drop (List.mem_of_mem_take he))) (fun i e j v hi hj=>?_) (fun i e j v hi hj=>?_) (by omega) (fun h=>by cases h)
 · grind
 · obtain⟨y,hy,_,hpr⟩:=hp i e j v hi hj
   rw[hy]
   exact(hpr hrow).mono ρ hF (fun _ _=>rfl)
end
end Go.J
/- Values without numbers: what a value becomes when its rows are frozen;making objects. -/
namespace Go.J
section
variable {ρ:Nat→Value}{P:Program}{w:World}{F:Nat→Prop}{μ:Nat→Nat→Option MI}{hs:HS}{T:PT V}
def OwnIn(μ:Nat→Nat→Option MI)(F':Nat→Prop)(v:V):Prop:=∀ id g off len cap,v=.own id g off len cap→∀ m,μ id g=some m→F' m.b
theorem still1_ok(hR:R ρ w F μ P hs){v v':V}{x:Value}(hx:Rep ρ w F μ v x)(h:still1 hs v=some v'){F':Nat→Prop}(hF:∀ b,F b→F' b)(hb:OwnIn μ F' v):PRep ρ w F' v' x:=by
 unfold still1 at h
 split at h
 · exact stillRow_ok hR hx h hF (hb _ _ _ _ _ rfl)
 · simp only[gd_eq]at h
   obtain⟨hp,h⟩:=h
   cases h
   exact(Rep.pure2 ρ hx hp).mono ρ hF (fun _ _=>rfl)
theorem stillL_nil:stillL hs []=some []:=rfl
theorem stillL_cons(v:V)(l:List V):stillL hs (v::l)=ob (still1 hs v) fun v'=>ob (stillL hs l) fun l'=>some (v'::l'):=rfl
theorem stillL_ok(hR:R ρ w F μ P hs){F':Nat→Prop}(hF:∀ b,F b→F' b):∀ {l l':List V},stillL hs l=some l'→(∀ v∈l,OwnIn μ F' v) →
 l'.length=l.length∧∀ (i:Nat) (v':V),l'[i]?=some v'→∃ v,l[i]?=some v∧∀ x,Rep ρ w F μ v x→PRep ρ w F' v' x:=by
 intro l
 induction l with
 |nil=>intro l' h _;rw[stillL_nil]at h;cases h;exact⟨rfl,fun i v' h=>by simp at h⟩
 | cons v l ih =>
   intro l' h hin
   rw[stillL_cons]at h
   simp only[ob_eq]at h
   grind [List.mem_cons_of_mem,still1_ok,List.mem_cons_self]
theorem still2_ok(hR:R ρ w F μ P hs){v v':V}{x:Value}(hx:Rep ρ w F μ v x)(h:still2 hs v=some v'){F':Nat→Prop}(hF:∀ b,F b→F' b)(hb:∀ u∈v.cells,OwnIn μ F' u):PRep ρ w F' v' x:=by
 unfold still2 at h
 split at h
 · rename_i cs
   simp only[ob_eq]at h
   obtain⟨l,hl,h⟩:=h
   cases h
   obtain⟨ys,rfl,hs',hc⟩:=hx.agg_inv
   obtain⟨hlen,ha⟩:=stillL_ok hR hF hl hb
   refine .agg l ys (by omega) fun i u hi=>?_
   grind
 · rename_i hna
   have hc:v.cells=[v]:=by cases v<;>first|rfl|(exact absurd rfl (hna _))
   grind [still1_ok]
theorem stillA_nil:stillA hs []=some []:=rfl
theorem stillA_cons(v:V)(l:List V):stillA hs (v::l)=ob (still2 hs v) fun v'=>ob (stillA hs l) fun l'=>some (v'::l'):=rfl
theorem stillA_ok(hR:R ρ w F μ P hs){F':Nat→Prop}(hF:∀ b,F b→F' b):∀ {l l':List V},stillA hs l=some l'→(∀ v∈l,∀ u∈v.cells,OwnIn μ F' u) →
 l'.length=l.length∧∀ (i:Nat) (v':V),l'[i]?=some v'→∃ v,l[i]?=some v∧∀ x,Rep ρ w F μ v x→PRep ρ w F' v' x:=by
 intro l
 induction l with
 |nil=>intro l' h _;rw[stillA_nil]at h;cases h;exact⟨rfl,fun i v' h=>by simp at h⟩
 | cons v l ih =>
   intro l' h hin
   rw[stillA_cons]at h
   simp only[ob_eq]at h
   grind [List.mem_cons_of_mem,still2_ok,List.mem_cons_self]
theorem still_all(hR:R ρ w F μ P hs){v v':V}{x:Value}(hx:Rep ρ w F μ v x)(h:still hs v=some v'){F':Nat→Prop}(hF:∀ b,F b→F' b)(hb:∀ id g m,μ id g=some m→F' m.b):PRep ρ w F' v' x:=by
 have hin:∀ u,OwnIn μ F' u:=fun u id g off len cap _ m hm=>hb id g m hm
 unfold still at h
 split at h
 · rename_i cs
   simp only[ob_eq]at h
   obtain⟨l,hl,h⟩:=h
   cases h
   obtain⟨ys,rfl,hs',hc⟩:=hx.tuple_inv
   obtain⟨hlen,ha⟩:=stillA_ok hR hF hl (fun v _ u _=>hin u)
   refine .tuple l ys (by omega) fun i u hi=>?_
   grind
 · exact still2_ok hR hx h hF (fun u _=>hin u)
def Colder(hs hs':HS):Prop:=hs'.n=hs.n∧∀ id,hs'.H.get id=hs.H.get id ∨
 ∃ size gen es exact fz row,hs.H.get id=some (.arr size gen es exact fz row)∧hs'.H.get id=some (.arr size gen es exact true row)
theorem Colder.refl(hs:HS):Colder hs hs:=⟨rfl,fun _=>.inl rfl⟩
theorem Colder.trans{a b c:HS}(h:Colder a b)(h':Colder b c):Colder a c:=by
 refine⟨h'.1.trans h.1,fun id=>?_⟩
 rcases h.2 id with h1|⟨s,g,es,ex,fz,row,h1,h1'⟩<;>rcases h'.2 id with h2|⟨s2,g2,es2,ex2,fz2,row2,h2,h2'⟩
 · exact .inl (h2.trans h1)
 · rw[h1]at h2;exact .inr ⟨s2,g2,es2,ex2,fz2,row2,h2,h2'⟩
 · exact .inr ⟨s,g,es,ex,fz,row,h1,h2.trans h1'⟩
 · rw[h1']at h2;cases h2;exact .inr ⟨s,g,es,ex,fz,row,h1,h2'⟩
theorem freezeRow_ok (hR:R ρ w F μ P hs) (id:Nat):∃ F',R ρ w F' μ P (freezeRow hs id)∧Fr w F μ hs w F' μ (freezeRow hs id)∧Colder hs (freezeRow hs id) ∧
 (∀ size gen es exact fz row m,hs.H.get id=some (.arr size gen es exact fz row)→μ id gen=some m→F' m.b):=by
 cases ho:hs.H.get id with
 | none =>
   have e:freezeRow hs id=hs:=by simp only[freezeRow,ho];rfl
   rw[e]
   exact⟨F,hR,Fr.refl ..,Colder.refl _,fun size gen es exact fz row m h _=>by cases h⟩
 | some o =>
   cases o with
   | arr size gen es exact fz row =>
     have e:freezeRow hs id=hs.wr id (.arr size gen es exact true row):=by simp only[freezeRow,ho];rfl
     rw[e]
     have h:=hR.freeze (hs':=hs.wr id (.arr size gen es exact true row)) ho (fun k=>wr_get _ _ _ _)
     refine⟨_,h.1,h.2,⟨rfl,fun k=>?_⟩,?_⟩
     · rw[wr_get]
       by_cases e:k=id
       · subst e;rw[if_pos rfl];exact .inr ⟨_,_,_,_,_,_,ho,rfl⟩
       · rw[if_neg e];exact .inl rfl
     · intro s g es' ex fz' row' m h1 h2
       cases h1
       exact .inr ⟨m,h2,rfl⟩
   | mp es =>
     have e:freezeRow hs id=hs:=by simp only[freezeRow,ho];rfl
     rw[e]
     exact⟨F,hR,Fr.refl ..,Colder.refl _,fun size gen es exact fz row m h _=>by cases h⟩
   | lp a b c d e f =>
     have e:freezeRow hs id=hs:=by simp only[freezeRow,ho];rfl
     rw[e]
     exact⟨F,hR,Fr.refl ..,Colder.refl _,fun size gen es exact fz row m h _=>by cases h⟩
theorem freezeL_cons(v:V)(l:List V):freezeL hs (v::l)=freeze1 (freezeL hs l) v:=rfl
theorem freezeL_ok (hR:R ρ w F μ P hs):∀ l:List V,∃ F',R ρ w F' μ P (freezeL hs l)∧Fr w F μ hs w F' μ (freezeL hs l)∧Colder hs (freezeL hs l) ∧
 (∀ v∈l,∀ id g off len cap,v=.own id g off len cap→∀ size es exact fz row m,hs.H.get id=some (.arr size g es exact fz row)→μ id g=some m→F' m.b):=by
 intro l
 induction l with
 |nil=>exact⟨F,hR,Fr.refl ..,Colder.refl _,fun v hv=>by simp at hv⟩
 | cons v l ih =>
   obtain⟨F1,h1,h2,h3,h4⟩:=ih
   rw[freezeL_cons]
   unfold freeze1
   split
   · rename_i id g off len cap
     obtain⟨F2,g1,g2,g3,g4⟩:=freezeRow_ok h1 id
     refine⟨F2,g1,h2.trans g2,h3.trans g3,fun u hu id' g' off' len' cap' he size es exact fz row m hg hm=>?_⟩
     rcases List.mem_cons.1 hu with rfl|hu
     · cases he
       rcases h3.2 id with hk|⟨s,g0,es0,ex0,fz0,row0,hk1,hk2⟩
       · exact g4 _ _ _ _ _ _ m (hk.trans hg) hm
       · rw[hg]at hk1;cases hk1;exact g4 _ _ _ _ _ _ m hk2 hm
     · exact g2.fm _ (h4 u hu id' g' off' len' cap' he size es exact fz row m hg hm)
   · rename_i hno
     refine⟨F1,h1,h2,h3,fun u hu id' g' off' len' cap' he=>?_⟩
     rcases List.mem_cons.1 hu with rfl|hu
     · exact absurd he (hno _ _ _ _ _)
     · exact h4 u hu id' g' off' len' cap' he
theorem still1_own{id g off len:Nat}{cap:Option Nat}{v':V}(h:still1 hs (.own id g off len cap)=some v'):∃ size es exact fz row,hs.H.get id=some (.arr size g es exact fz row):=by
 have h:stillRow hs id g off len=some v':=h
 simp only[stillRow,ob_eq]at h
 obtain⟨a,ha,_⟩:=h
 exact⟨_,_,_,_,_,(getRow_spec ha).1⟩
theorem stillL_own:∀ {l l':List V},stillL hs l=some l'→∀ v∈l,∃ v',still1 hs v=some v':=by
 intro l
 induction l with
 |nil=>intro l' _ v hv;simp at hv
 | cons u l ih =>
   grind [stillL_cons,ob_eq]
theorem still2_own{v v':V}(h:still2 hs v=some v'):∀ u∈v.cells,∃ u',still1 hs u=some u':=by
 unfold still2 at h
 split at h
 · rename_i cs
   simp only[ob_eq]at h
   obtain⟨l,hl,h⟩:=h
   exact stillL_own hl
 · rename_i hna
   have hc:v.cells=[v]:=by cases v<;>first|rfl|(exact absurd rfl (hna _))
   grind
theorem purify_ok(hR:R ρ w F μ P hs){v v':V}{x:Value}{hs':HS}(hx:Rep ρ w F μ v x)(h:purify v hs=some (v',hs')) :
 ∃ F',R ρ w F' μ P hs'∧Fr w F μ hs w F' μ hs'∧Colder hs hs'∧PRep ρ w F' v' x:=by
 simp only[purify,ob_eq]at h
 obtain⟨u,hu,h⟩:=h
 cases h
 obtain⟨F',h1,h2,h3,h4⟩:=freezeL_ok hR v.cells
 refine⟨F',h1,h2,h3,still2_ok hR hx hu h2.fm fun c hc id g off len cap he m hm=>?_⟩
 obtain⟨c',hc'⟩:=still2_own hu c hc
 subst he
 obtain⟨size,es,exact,fz,row,hg⟩:=still1_own hc'
 grind
end
end Go.J
/- Operations that make an object. -/
namespace Go.J
section
variable {ρ:Nat→Value}{P:Program}{w w':World}{F:Nat→Prop}{μ:Nat→Nat→Option MI}{hs:HS}{T:PT V}
def ValB(ρ:Nat→Value)(P:Program)(w:World)(F:Nat→Prop)(μ:Nat→Nat→Option MI)(hs:HS)(s:Sem Value)(v:V)(hs':HS):Prop :=
 ∃ x w' F' μ',s.run P w=.ok x w'∧R ρ w' F' μ' P hs'∧Rep ρ w' F' μ' v x∧Fr w F μ hs w' F' μ' hs'
theorem ValA.toB(hR:R ρ w F μ P hs){s:Sem Value}{v:V}(h:ValA ρ P w F μ s v):ValB ρ P w F μ hs s v hs:=by
 obtain⟨x,h1,h2⟩:=h
 exact⟨x,w,F,μ,h1,hR,h2,Fr.refl ..⟩
def Free(μ:Nat→Nat→Option MI)(hs:HS)(id:Nat):Prop:=hs.H.get id=none∧∀ g,μ id g=none
theorem mk_row(hR:R ρ w F μ P hs){id:Nat}(hid:Free μ hs id){size:Nat}{es:List (List V)}{exact row:Bool}{cells:Array Value}{el:TypeId}
 (hsz:w'.heap.size=w.heap.size+1) (hnew:w'.heap[w.heap.size]?=some (.cells cells el (0,0))) (hold:∀ b,b<w.heap.size→w'.heap[b]?=w.heap[b]?)
 (hlen:∀ e∈es,e.length=size) (hle:es.length*size≤cells.size) (hex:exact=true→cells.size=es.length*size)
 (hall:∀ (k:Nat) (e:List V) (j:Nat) (v:V),es[k]?=some e→e[j]?=some v→∃ y,cells[k*size+j]?=some y∧Rep ρ w F μ v y∧(row=true→PRep ρ w F v y)) (hio:Io w w':=by exact⟨rfl,rfl,rfl⟩) :
 R ρ w' F (upd μ id 0 ⟨w.heap.size,size,cells.size⟩) P (hs.put id (.arr size 0 es exact false row))∧Fr w F μ hs w' F (upd μ id 0 ⟨w.heap.size,size,cells.size⟩) (hs.put id (.arr size 0 es exact false row)):=by
 refine hR.alloc (hs':=hs.put id (.arr size 0 es exact false row)) (o:=.arr size 0 es exact false row) hid.1 hid.2 rfl rfl (Nat.le_refl _) (by show w.heap.size<_;omega) hold (fun k=>put_get _ _ _ _) ?_ hio
 intro m hm
 rw[upd_same]at hm;cases hm
 refine⟨rfl,hlen,⟨cells,el,hnew,rfl,hle,hex,fun k e j v hk hj=>?_⟩,(fun h=>by cases h),fun _ hF=>?_⟩
 · obtain⟨y,hy,hr,hp⟩:=hall k e j v hk hj
   refine⟨y,hy,hr.mono ρ (fun _ h=>h) (fun b hb=>hold b (hR.flt b hb)) (fun i g m1 h1=>?_),fun h=>(hp h).mono ρ (fun _ h=>h) (fun b hb=>hold b (hR.flt b hb))⟩
   rw[upd_other];exact h1
   rintro ⟨rfl,rfl⟩;rw[hid.2]at h1;cases h1
 · have:=hR.flt _ hF
   grind
theorem mk_var (hR:R ρ w F μ P hs) {id:Nat} (hid:Free μ hs id) {cs:List V} {ys:Array Value} (el:TypeId) (hc:RelC ρ w F μ cs ys) :
 ∃ μ',R ρ (wpush w (.cells ys el)) F μ' P (hs.put id (.arr cs.length 0 [cs] true false false))∧Fr w F μ hs (wpush w (.cells ys el)) F μ' (hs.put id (.arr cs.length 0 [cs] true false false)) ∧
   Rep ρ (wpush w (.cells ys el)) F μ' (.ptr id 0 0) (.pointer (some ⟨w.heap.size,0,none⟩)):=by
 have h:=mk_row hR hid (w':=wpush w (.cells ys el)) (size:=cs.length) (es:=[cs]) (exact:=true) (row:=false) (cells:=ys) (el:=el) (wpush_size _ _) (wpush_new _ _) (fun b hb=>wpush_old _ _ hb)
  (fun e he=>by simp at he;rw[he]) (by simp;exact Nat.le_of_eq hc.1.symm) (fun _=>by simp;exact hc.1) (fun k e j v hk hj=>by
    cases k with
    | zero =>
      simp at hk;subst hk
      have hlt:j<ys.size:=by
       obtain⟨hlt,_⟩:=List.getElem?_eq_some_iff.1 hj
       rw[hc.1];exact hlt
      have:=hc.2 j v hj
      simp_all
    |succ k=>simp at hk)
 exact⟨_,h.1,h.2,.ptr id 0 0 _ (upd_same ..)⟩
theorem alloc_ok(hR:R ρ w F μ P hs){id:Nat}(hid:Free μ hs id){t:TypeId}{v:V}{hs':HS}(h:allocJ P hs id t=some (v,hs')):ValB ρ P w F μ hs (Instr.alloc t true (.tuple #[])) v hs':=by
 simp only[allocJ,ob_eq,gd_eq,beq_true,lenL_eq]at h
 obtain⟨i,hi,hl,h⟩:=h
 cases h
 obtain⟨info,z,h1,h2,h3,hz,hrz⟩:=zero_rel (ρ:=ρ) (w:=w) (F:=F) (μ:=μ) hi
 obtain⟨μ',g1,g2,g3⟩:=mk_var hR hid t hz
 rw[← hl]
 refine⟨_,_,F,μ',?_,g1,g3,g2⟩
 simp only[Instr.alloc,Sem.run_bind,hrz,Result.andThen_ok,newVar,newRow,run_newObj,Sem.run_pure]
 first|done|rfl
theorem box_ok(hρ:Good ρ)(hR:R ρ w F μ P hs){id:Nat}(hid:Free μ hs id){a:Act}(hT:TRel ρ w F μ T a.tmps)(t:TypeId){x:Operand}{v:V}{hs':HS}(h:boxJ T hs id x=some (v,hs')) :
 ValB ρ P w F μ hs (Instr.box t (a.eval x)) v hs':=by
 simp only[boxJ,ob_eq,lenL_eq]at h
 obtain⟨u,hu,h⟩:=h
 cases h
 obtain⟨μ',g1,g2,g3⟩:=mk_var hR hid t (cells_rel hρ (evalO_rep hT hu))
 refine⟨_,_,F,μ',?_,g1,g3,g2⟩
 simp only[Instr.box,Sem.run_bind,Result.andThen_ok,newVar,newRow,run_newObj,Sem.run_pure]
 first|done|rfl
theorem makeMap_ok(hR:R ρ w F μ P hs){id:Nat}(hid:Free μ hs id){t:TypeId}{a:Act}{r:Option Operand}{v:V}{hs':HS}(h:makeMapJ hs id r=some (v,hs')) :
 ValB ρ P w F μ hs (Instr.makeMap t (r.map a.eval)) v hs':=by
 simp only[makeMapJ,gd_eq,nt_true,isSomeO_false]at h
 obtain⟨rfl,h⟩:=h
 cases h
 have h:=hR.alloc (w':=wpush w (.map #[] 0)) (hs':=hs.put id (.mp [])) (o:=.mp []) (m:=⟨w.heap.size,0,0⟩) hid.1 hid.2 rfl rfl (Nat.le_refl _) (by rw[wpush_size];exact Nat.lt_succ_self _) (fun b hb=>wpush_old _ _ hb) (fun k=>put_get _ _ _ _) (by
  intro m hm
  rw[upd_same]at hm;cases hm
  exact⟨⟨#[],0,wpush_new _ _,rfl,fun i k v hi=>by simp at hi⟩,fun hF=>Nat.lt_irrefl _ (hR.flt _ hF)⟩)
 refine⟨.map (some w.heap.size),_,F,_,?_,h.1,.map id ⟨w.heap.size,0,0⟩ (upd_same ..),h.2⟩
 simp[Instr.makeMap]
 rfl
theorem range_zero{zero:Array Value}{size n k j:Nat}(hz:zero.size=size)(hk:k<n)(hj:j<size) :
 ((Array.range (n*size)).map (zero[· % zero.size]!))[k*size+j]?=zero[j]?:=by
 have hlt:k*size+j<n*size:=by
  have:(k+1)*size≤n*size:=Nat.mul_le_mul_right _ hk
  grind
 have hmod:(k*size+j) % size=j:=by rw[Nat.mul_comm,Nat.mul_add_mod];exact Nat.mod_eq_of_lt hj
 grind
theorem zeros_all{t:TypeId}{e:TI}(he:ti P t=some e)(hl:e.zero.length=e.size){z:Value}(hz:RelC ρ w F μ e.zero z.cells)(n:Nat)(hpz:∀ (i:Nat) (v:V),e.zero[i]?=some v→PRep ρ w F v (z.cells.getD i undef)) :
 ∀ (k:Nat) (c:List V) (j:Nat) (v:V),(List.replicate n e.zero)[k]?=some c→c[j]?=some v→∃ y,((Array.range (n*e.size)).map (z.cells[· % z.cells.size]!))[k*e.size+j]?=some y∧PRep ρ w F v y:=by
 intro k c j v hk hj
 rw[List.getElem?_replicate]at hk
 split at hk
 · rename_i hkn
   cases hk
   obtain⟨hlt,_⟩:=List.getElem?_eq_some_iff.1 hj
   have hlt':j<z.cells.size:=by rw[hz.1];exact hlt
   rw[range_zero (by rw[hz.1,hl]) hkn (by omega)]
   refine⟨z.cells[j],by simp[hlt'],?_⟩
   have:=hpz j v hj
   simp_all
 · cases hk
theorem zero_prep{t:TypeId}{i:TI}(hi:ti P t=some i):∃ info z,P.info? t=some info∧info.zero=some z∧RelC ρ w F μ i.zero z.cells∧(zeroValue t).run P w=.ok z w ∧
 (∀ (k:Nat) (v:V),i.zero[k]?=some v→PRep ρ w F v (z.cells.getD k undef))∧info.size=i.size∧info.bytes=i.bytes:=by
 obtain⟨info,z,h1,h2,h3,h4,h5,h6⟩:=ti_spec hi
 obtain⟨hl,hz⟩:=ofConst1L_prep (ρ:=ρ) (w:=w) (F:=F) h6
 have hp:∀ (k:Nat) (v:V),i.zero[k]?=some v→PRep ρ w F v (z.cells.getD k undef):=by
  intro k v hk
  obtain⟨x,hx,hr⟩:=hz k v hk
  simp_all
 exact⟨info,z,h1,h5,⟨by simpa using hl,fun k v hk=>.pure (hp k v hk)⟩,by simp[zeroValue,typeInfo,h1,h5],hp,h3,h4⟩
theorem makeSlice_ok(hR:R ρ w F μ P hs){id:Nat}(hid:Free μ hs id){t:TypeId}{i:TI}(hi:ti P t=some i){l c v:V}{X Y:Value}(hl:Rep ρ w F μ l X)(hc:Rep ρ w F μ c Y){hs':HS}
 (h:makeSliceJ P i hs id l c=some (v,hs')):ValB ρ P w F μ hs (Instr.makeSlice t X Y) v hs':=by
 simp only[makeSliceJ,ob_eq,gd_eq,et_true,nt_true,beq_true,beq_false,ble_true,lenL_eq,sliceOf_eq,V.nat?_eq,roomOk]at h
 obtain⟨el,hd,e,he,ln,⟨k1,rfl⟩,cn,⟨k2,rfl⟩,⟨hlc,hroom,hcells,hne,hzl,hpz⟩,h⟩:=h
 cases h
 have e1:=hl.int_inv;subst e1
 have e2:=hc.int_inv;subst e2
 obtain⟨info,z,h1,h3,hz,hrz,hzp,hsz,hby⟩:=zero_prep (ρ:=ρ) (w:=w) (F:=F) (μ:=μ) he
 have hcn:cn≤1048576:=by
  have:cn*1≤cn*e.size:=Nat.mul_le_mul_left _ (by omega)
  omega
 have hw1:IntKind.i64.wrap (ln:Int)=ln:=IntWalk.i64_in _ (by omega)
 have hw2:IntKind.i64.wrap (cn:Int)=cn:=IntWalk.i64_in _ (by omega)
 have hall:=zeros_all (w:=w) he hzl hz cn hzp
 have hrow:=mk_row hR hid (w':=wpush w (.cells ((Array.range (cn*e.size)).map (z.cells[· % z.cells.size]!)) el)) (size:=e.size) (es:=List.replicate cn e.zero) (exact:=true) (row:=true) (el:=el)
  (wpush_size _ _) (wpush_new _ _) (fun b hb=>wpush_old _ _ hb) (fun x hx=>by rw[List.eq_of_mem_replicate hx];exact hzl) (by simp) (fun _=>by simp) (fun k x j v hk hj=>by
    obtain⟨y,hy,hp⟩:=hall k x j v hk hj
    exact⟨y,hy,.pure hp,fun _=>hp⟩)
 have htl:¬ ((info.bytes:Int)*(cn:Int)>2 ^ 48):=by
  grind
 rw[← repL_eq]at hrow
 refine⟨.slice (some ⟨w.heap.size,0,none⟩) ln cn,wpush w (.cells ((Array.range (cn*e.size)).map (z.cells[· % z.cells.size]!)) el),F,_,?_,hrow.1,?_,hrow.2⟩
 · have hti:(typeInfo el).run P w=.ok info w:=by simp[typeInfo,h1]
   have c1:(decide ((cn:Int)<0)||decide ((info.bytes:Int)*(cn:Int)>2 ^ 48)||decide ((ln:Int)<0)||decide ((ln:Int)>(cn:Int)))=false:=by
    grind
   simp only[Instr.makeSlice,Sem.run_bind,run_und hi,Result.andThen_ok,hd,asInt,asIntOf,Sem.run_pure,hti,hw1,hw2,c1,run_askRoom,run_size he,Int.toNat_natCast,Bool.false_eq_true,if_false]
   by_cases h0:cn*e.size=0
   · simp only[h0,if_true,Sem.run_pure,Result.andThen_ok,Go.newRow,Sem.run_bind,run_newObj]
     simp[wpush,Array.range]
   · simp only[h0,if_false,Sem.run_bind,hrz,Sem.run_pure,Result.andThen_ok,newRow,run_newObj]
     rfl
 · refine .own id 0 0 ln (some cn) cn _ (upd_same ..) hlc ?_ (fun k hk=>by cases hk;rfl) (fun h=>by cases h)
   simp
end
end Go.J
