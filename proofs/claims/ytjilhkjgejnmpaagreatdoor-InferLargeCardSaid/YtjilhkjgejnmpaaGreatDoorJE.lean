import Derived.Test.YtjilhkjgejnmpaaGreatDoorJD
import Derived.Below
set_option linter.all false
noncomputable section
/- A region that draws its order,in the order of its text: what the evaluator went through. -/
namespace Go.J
theorem tb_eq(m i:Nat):tb m i=m.testBit i:=by
 unfold tb
 rw[Nat.testBit_eq_decide_div_mod_eq,Bool.eq_iff_iff]
 simp
theorem tb_or{a b c i:Nat}:tb (Nat.lor (Nat.lor (2 ^ a) b) c) i=true↔i=a∨tb b i=true∨tb c i=true:=by
 have e:Nat.lor (Nat.lor (2 ^ a) b) c=(2 ^ a ||| b) ||| c:=rfl
 rw[e]
 simp only[tb_eq,Nat.testBit_or,Nat.testBit_two_pow,Bool.or_eq_true,decide_eq_true_eq]
 grind
theorem tb_zero(i:Nat):tb 0 i=false:=by rw[tb_eq];simp
theorem edgesJ_ok{i:Nat}{acc:List Nat}:∀ {l:List Edge} {m:Nat},edgesJ i acc l=some m →
 (∀ e∈l,Region.binds .any e=true→e.on<i)∧∀ j,tb m j=true→∃ e∈l,Region.binds .any e=true∧(j=e.on∨∃ b,acc[e.on]?=some b∧tb b j=true):=by
 intro l
 induction l with
 | nil =>
   intro m h
   cases h
   simp[tb_zero]
 | cons e l ih =>
   intro m h
   replace h:(ob (edgesJ i acc l) fun m=>bi (Region.binds .any e) (gd (Nat.blt e.on i) (ob (nthL acc e.on) fun b=>some (Nat.lor (Nat.lor (2 ^ e.on) b) m))) (some m))=some m:=h
   simp only[ob_eq]at h
   grind [bi_eq,gd_eq,ob_eq,blt_true,nthL_eq,tb_or,List.mem_cons_self,List.mem_cons_of_mem]
theorem befJ_ok:∀ {l:List Oper} {i:Nat} {acc bs:List Nat},befJ l i acc=some bs→acc.length=i →
 bs.length=i+l.length∧(∀ k,k<i→bs[k]?=acc[k]?)∧∀ (k:Nat) (o:Oper),l[k]?=some o→∃ m,bs[i+k]?=some m∧edgesJ (i+k) (bs.take (i+k)) o.after.toList=some m:=by
 intro l
 induction l with
 | nil =>
   intro i acc bs h hi
   cases h
   grind
 | cons o l ih =>
   intro i acc bs h hi
   replace h:(ob (edgesJ i acc o.after.toList) fun m=>befJ l (i+1) (appL acc [m]))=some bs:=h
   simp only[ob_eq]at h
   obtain⟨m,hm,h⟩:=h
   rw[appL_eq]at h
   obtain⟨h1,h2,h3⟩:=ih h (by simp[hi])
   have hold:∀ k,k<i→bs[k]?=acc[k]?:=fun k hk=>by
    grind
   refine⟨by simp[h1];omega,hold,fun k o' hk=>?_⟩
   cases k with
   | zero =>
     cases hk
     refine⟨m,?_,?_⟩
     · grind
     · have:bs.take (i+0)=acc:=by
        apply List.ext_getElem?
        grind
       grind
   | succ k =>
     grind
theorem apartJ_ok{ops:List Oper}{m:Nat}{y:Oper}{j:Nat}:∀ {l:List Oper} {i:Nat},apartJ ops m y l i j=true→∀ (k:Nat) (x:Oper),l[k]?=some x→i+k<j→tb m (i+k)=true∨indep ops x y=true:=by
 intro l
 induction l with
 |nil=>intro i _ k x hk;simp at hk
 | cons z l ih =>
   intro i h k x hk hlt
   replace h:bi (Nat.blt i j) (et (bi (tb m i) true (indep ops z y)) (apartJ ops m y l (i+1) j)) true=true:=h
   grind [bi_eq,blt_true,et_true]
theorem allApart_ok {ops:List Oper}:∀ {l:List Oper} {j:Nat} {bs:List Nat},allApart ops l j bs=true→∀ (k:Nat) (y:Oper),l[k]?=some y→∃ m,bs[k]?=some m∧apartJ ops m y ops 0 (j+k)=true:=by
 intro l
 induction l with
 |nil=>intro j bs _ k y hk;simp at hk
 | cons z l ih =>
   intro j bs h k y hk
   cases bs with
   |nil=>cases h
   | cons m bs =>
     replace h:et (apartJ ops m z ops 0 j) (allApart ops l (j+1) bs)=true:=h
     rw[et_true]at h
     cases k with
     |zero=>cases hk;exact⟨m,rfl,h.1⟩
     | succ k =>
       grind
theorem meet_false{l m:List Nat}(h:meet l m=false):∀ k∈l,k ∉ m:=by
 induction l with
 |nil=>intro k hk;cases hk
 | cons x l ih =>
   intro k hk
   replace h:bi (memL x m) true (meet l m)=false:=h
   grind [bi_eq,memL_eq]
theorem clashJ_ok{m:Nat}{r:List Nat×List Nat}{j:Nat}:∀ {l:List (List Nat×List Nat)} {i:Nat},clashJ m r l i j=true→∀ (k:Nat) (q:List Nat×List Nat),l[k]?=some q→i+k<j →
 tb m (i+k)=true∨((∀ t∈q.1,t ∉ r.2)∧(∀ t∈r.1,t ∉ q.2)):=by
 intro l
 induction l with
 |nil=>intro i _ k x hk;simp at hk
 | cons z l ih =>
   intro i h k x hk hlt
   replace h:bi (Nat.blt i j) (et (bi (tb m i) true (nt (bi (meet z.1 r.2) true (meet r.1 z.2)))) (clashJ m r l (i+1) j)) true=true:=h
   rw[bi_eq,if_pos (blt_true.2 (by omega)),et_true,bi_eq]at h
   cases k with
   | zero =>
     grind [nt_true,bi_eq,meet_false]
   | succ k =>
     grind
theorem allClash_ok {all:List (List Nat×List Nat)}:∀ {l:List (List Nat×List Nat)} {j:Nat} {bs:List Nat},allClash all l j bs=true→∀ (k:Nat) (r:List Nat×List Nat),l[k]?=some r→∃ m,bs[k]?=some m∧clashJ m r all 0 (j+k)=true:=by
 intro l
 induction l with
 |nil=>intro j bs _ k y hk;simp at hk
 | cons z l ih =>
   intro j bs h k y hk
   cases bs with
   |nil=>cases h
   | cons m bs =>
     replace h:et (clashJ m z all 0 j) (allClash all l (j+1) bs)=true:=h
     rw[et_true]at h
     cases k with
     |zero=>cases hk;exact⟨m,rfl,h.1⟩
     | succ k =>
       grind
structure Tr(E:Env)(ev:Ev)(sz:Nat)(ops:List Oper)(id0:Nat)(Ts:Nat→PT V)(hss:Nat→HS)(vs:Nat→V)(rs ws:Nat→List Nat)(B:Nat→Nat→Prop):Prop where
 step:∀ (i:Nat) (o:Oper),ops[i]?=some o→drawStep E ev ops o (id0+i) (pickT (Ts i) (looks ops o)) (hss i)=some (vs i,hss (i+1),rs i,ws i)
 put:∀ (i:Nat) (o:Oper),ops[i]?=some o→putJ sz (Ts i) o.dst (vs i)=some (Ts (i+1))
 on:∀ (j:Nat) (o:Oper),ops[j]?=some o→∀ e∈o.after.toList,Region.binds .any e=true→e.on<j
 bef:∀ (j i:Nat) (o:Oper),ops[j]?=some o→B j i→∃ e∈o.after.toList,Region.binds .any e=true∧(i=e.on∨B e.on i)
 apart:∀ (i j:Nat) (x y:Oper),i<j→ops[i]?=some x→ops[j]?=some y→B j i∨indep ops x y=true
 clash:∀ i j,i<j→j<ops.length→B j i∨((∀ t∈rs i,t ∉ ws j)∧(∀ t∈rs j,t ∉ ws i))
def consF{α:Type}(x:α)(f:Nat→α):Nat→α
 | 0=>x
 |i+1=>f i
theorem regionD_trace {E:Env} {ev:Ev} {sz:Nat} {ops:List Oper}:∀ {l:List Oper} {id:Nat} {T:PT V} {hs:HS} {acc:List (List Nat×List Nat)} {r:(PT V×HS)×List (List Nat×List Nat)},
 regionD E ev sz ops l id T hs acc=some r→∃ (Ts:Nat→PT V) (hss:Nat→HS) (vs:Nat→V) (rs ws:Nat→List Nat),Ts 0=T∧hss 0=hs ∧
  (∀ (i:Nat) (o:Oper),l[i]?=some o→drawStep E ev ops o (id+i) (pickT (Ts i) (looks ops o)) (hss i)=some (vs i,hss (i+1),rs i,ws i)) ∧
  (∀ (i:Nat) (o:Oper),l[i]?=some o→putJ sz (Ts i) o.dst (vs i)=some (Ts (i+1)))∧r.1=(Ts l.length,hss l.length)∧r.2=acc++(List.range l.length).map fun i=>(rs i,ws i):=by
 intro l
 induction l with
 | nil =>
   intro id T hs acc r h
   cases h
   exact⟨fun _=>T,fun _=>hs,fun _=>undefV,fun _=>[],fun _=>[],rfl,rfl,fun i o hi=>by simp at hi,fun i o hi=>by simp at hi,rfl,by simp⟩
 | cons o l ih =>
   intro id T hs acc r h
   replace h:(ob (drawStep E ev ops o id (pickT T (looks ops o)) hs) fun r=>ob (putJ sz T o.dst r.1) fun T'=>regionD E ev sz ops l (id+1) T' r.2.1 (appL acc [r.2.2]))=some r:=h
   simp only[ob_eq]at h
   obtain⟨⟨v,hs1,rd,wr⟩,hq,T1,hp,h⟩:=h
   rw[appL_eq]at h
   obtain⟨Ts,hss,vs,rs,ws,h1,h2,h3,h4,h5,h6⟩:=ih h
   refine⟨consF T Ts,consF hs hss,consF v vs,consF rd rs,consF wr ws,rfl,rfl,?_,?_,h5,?_⟩
   · intro i o' hi
     cases i with
     | zero =>
       cases hi
       show drawStep E ev ops o (id+0) (pickT T (looks ops o)) hs=some (v,hss 0,rd,wr)
       grind
     | succ i =>
       have:=h3 i o' (by simpa using hi)
       rw[show id+1+i=id+(i+1) by omega]at this
       exact this
   · intro i o' hi
     cases i with
     | zero =>
       cases hi
       show putJ sz T o.dst v=some (Ts 0)
       grind
     |succ i=>exact h4 i o' (by simpa using hi)
   simp_all [List.append_assoc,List.range_succ_eq_map,Function.comp_def,consF]
theorem drawJ_trace{E:Env}{ev:Ev}{sz:Nat}{l:List Oper}{T T':PT V}{hs hs':HS}(h:drawJ E ev sz l T hs=some (T',hs')) :
 ∃ (Ts:Nat→PT V) (hss:Nat→HS) (vs:Nat→V) (rs ws:Nat→List Nat) (B:Nat→Nat→Prop),Tr E ev sz l hs.n Ts hss vs rs ws B∧Ts 0=T∧hss 0={ H:=hs.H,n:=hs.n+l.length,log:=hs.log }∧Ts l.length=T'∧hss l.length=hs':=by
 simp only[drawJ,drawOk,ob_eq,gd_eq]at h
 obtain⟨bs,⟨bs',hb,hap,e⟩,r,hr,hcl,h⟩:=h
 cases e
 obtain⟨Ts,hss,vs,rs,ws,h1,h2,h3,h4,h5,h6⟩:=regionD_trace hr
 obtain⟨k1,_,k3⟩:=befJ_ok hb rfl
 have e5:(T',hs')=(Ts l.length,hss l.length):=by rw[← h5];exact(Option.some.inj h).symm
 cases e5
 refine⟨Ts,hss,vs,rs,ws,fun j i=>∃ m,bs[j]?=some m∧tb m i=true,⟨h3,h4,?_,?_,?_,?_⟩,h1,by rw[h2,lenL_eq],rfl,rfl⟩
 · grind [edgesJ_ok]
 · rintro j i o ho ⟨m,hm,ht⟩
   obtain⟨m',g1,g2⟩:=k3 j o ho
   rw[Nat.zero_add]at g1 g2
   grind [edgesJ_ok,id]
 · intro i j x y hij hx hy
   obtain⟨m,g1,g2⟩:=allApart_ok hap j y hy
   rw[Nat.zero_add]at g2
   have:=apartJ_ok g2 i x hx (by omega)
   grind
 · intro i j hij hj
   rw[h6,List.nil_append]at hcl
   obtain⟨m,g1,g2⟩:=allClash_ok hcl j (rs j,ws j) (by simp[hj])
   rw[Nat.zero_add]at g2
   have:=clashJ_ok g2 i (rs i,ws i) (by rw[List.getElem?_map,List.getElem?_range (by omega)];rfl) (by omega)
   grind
end Go.J
/- A region that draws its order: facts of the evaluator's way through it. -/
namespace Go.J
theorem opClass_le(o:Op):opClass o=0∨opClass o=1∨opClass o=2:=by
 unfold opClass
 grind
theorem hasDst_false{d:Option Nat}{l:List Nat}(h:hasDst d l=false):∀ x,d=some x→x ∉ l:=by
 rintro x rfl hx
 have:memL x l=false:=h
 grind [memL_eq]
theorem indep_ok{ops:List Oper}{x y:Oper}(h:indep ops x y=true):(∀ d,x.dst=some d→d ∉ looks ops y)∧(∀ d,y.dst=some d→d ∉ looks ops x)∧(∀ d,x.dst=some d→y.dst≠some d)∧(opClass x.op=2→opClass y.op=2→isStore x.op=true∧isStore y.op=true):=by
 unfold indep at h
 rw[et_true,et_true,et_true,nt_true,nt_true,nt_true,nt_true]at h
 obtain⟨h1,h2,h3,h4⟩:=h
 refine⟨hasDst_false h1,hasDst_false h2,fun d hd he=>?_,fun e1 e2=>?_⟩
 · rw[hd,he]at h3
   have:Nat.beq d d=false:=h3
   simp_all
 · unfold wrD at h4
   rw[e1,e2]at h4
   replace h4:nt (et (isStore x.op) (isStore y.op))=false:=h4
   cases hx:isStore x.op<;>cases hy:isStore y.op<;>rw[hx,hy]at h4<;>first|exact⟨rfl,rfl⟩|cases h4
section
variable {E:Env}{ev:Ev}{sz:Nat}{ops:List Oper}{id0:Nat}{Ts:Nat→PT V}{hss:Nat→HS}{vs:Nat→V}{rs ws:Nat→List Nat}{B:Nat→Nat→Prop}
def Mk(ops:List Oper)(Ts:Nat→PT V)(i:Nat):Prop:=∃ o,ops[i]?=some o∧opClass o.op=1∧wantJ ops (pickT (Ts i) (looks ops o)) o=some true
def W2(ops:List Oper)(i:Nat):Prop:=∃ o,ops[i]?=some o∧opClass o.op=2
def St(ops:List Oper)(i:Nat):Prop:=∃ o,ops[i]?=some o∧isStore o.op=true
theorem drawStep_cases{o:Oper}{id:Nat}{T:PT V}{hs hs':HS}{v:V}{rd wr:List Nat}(h:drawStep E ev ops o id T hs=some (v,hs',rd,wr)) :
 (wantJ ops T o=some false∧v=undefV∧hs'=hs∧rd=[]∧wr=[])∨(wantJ ops T o=some true ∧
   ((opClass o.op=0∧hs'=hs∧rd=readsOf T o.op∧wr=[]∧∃ h2,stepJ E ev true T { H:=pickT hs.H (readsOf T o.op),n:=0,log:=[] } id o=some (v,h2)) ∨
    (opClass o.op=1∧hs.H.get id=none∧rd=[id]∧wr=[]∧∃ h2 o',stepJ E ev true T { H:=.leaf,n:=0,log:=[] } id o=some (v,h2)∧h2.H.get id=some o'∧o'.fz=false∧hs'=hs.put id o') ∨
    (opClass o.op=2∧isStore o.op=false∧hs.H.get id=none∧rd=[]∧∃ h2,stepJ E ev true T { H:=hs.H,n:=hs.n,log:=[] } id o=some (v,h2)∧hs'={ H:=h2.H,n:=h2.n,log:=appL h2.log hs.log }∧wr=h2.log) ∨
    (opClass o.op=2∧isStore o.op=true∧rd=readsS T hs o.op∧∃ h2,stepJ E ev true T { H:=pickT hs.H (readsS T hs o.op),n:=0,log:=[] } id o=some (v,h2)∧hs'={ H:=putX hs.H h2.H (readsS T hs o.op),n:=hs.n,log:=appL h2.log hs.log }∧wr=h2.log))):=by
 simp only[drawStep,ob_eq]at h
 obtain⟨w,hw,h⟩:=h
 rw[bi_eq]at h
 cases w with
 | false =>
   grind
 | true =>
   rw[if_pos rfl]at h
   refine .inr ⟨hw,?_⟩
   unfold drawRun at h
   rw[bi_eq]at h
   split at h
   · rename_i hst
     simp only[drawSt,ob_eq,gd_eq,vacant_eq]at h
     obtain⟨_,⟨v1,h2⟩,h1,h⟩:=h
     cases h
     obtain⟨t,a,x,hop⟩:=store_op hst
     exact .inr (.inr (.inr ⟨by rw[hop];rfl,hst,rfl,h2,h1,rfl,rfl⟩))
   rename_i hns
   have hns:isStore o.op=false:=by simpa using hns
   unfold drawOp at h
   rcases opClass_le o.op with hc|hc|hc
   · rw[hc]at h
     replace h:(ob (stepJ E ev true T { H:=pickT hs.H (readsOf T o.op),n:=0,log:=[] } id o) fun r=>some (r.1,hs,readsOf T o.op,[]))=some (v,hs',rd,wr):=h
     grind [ob_eq]
   · rw[hc]at h
     replace h:(gd (vacant hs id) (ob (stepJ E ev true T { H:=.leaf,n:=0,log:=[] } id o) fun r=>ob (r.2.H.get id) fun o'=>gd (nt o'.fz) (some (r.1,hs.put id o',[id],[]))))=some (v,hs',rd,wr):=h
     grind [ob_eq,gd_eq,vacant_eq,nt_true]
   · rw[hc]at h
     replace h:(gd (vacant hs id) (ob (stepJ E ev true T { H:=hs.H,n:=hs.n,log:=[] } id o) fun r=>some (r.1,{ H:=r.2.H,n:=r.2.n,log:=appL r.2.log hs.log },[],r.2.log)))=some (v,hs',rd,wr):=h
     simp only[ob_eq,gd_eq,vacant_eq]at h
     obtain⟨hv,⟨v1,h2⟩,h1,h⟩:=h
     cases h
     exact .inr (.inr (.inl ⟨hc,hns,hv,rfl,h2,h1,rfl,rfl⟩))
variable (hcon:ConKept E)(hev:EvKept ev)(tr:Tr E ev sz ops id0 Ts hss vs rs ws B)
include hcon hev tr
theorem Tr.kept{i:Nat}{o:Oper}(ho:ops[i]?=some o):Kept (hss i) (hss (i+1))∧∀ k o',(hss i).H.get k=some o'→k ∉ ws i→(hss (i+1)).H.get k=some o' :=
 drawStep_kept hcon hev (tr.step i o ho)
omit hcon hev in
theorem Tr.same{i:Nat}(hi:i<ops.length)(hw:¬ W2 ops i){k:Nat}(hk:Mk ops Ts i→k≠id0+i):(hss (i+1)).H.get k=(hss i).H.get k:=by
 have ho:ops[i]?=some ops[i]:=List.getElem?_eq_getElem hi
 rcases drawStep_cases (tr.step i _ ho)with⟨_,_,e,_⟩|⟨h0,⟨_,e,_⟩|⟨h1,_,_,_,h2,o',_,_,_,e⟩|⟨h1,_⟩|⟨h1,_⟩⟩
 · rw[e]
 · rw[e]
 · rw[e,put_get,if_neg (hk ⟨_,ho,h1,h0⟩)]
 · exact absurd ⟨_,ho,h1⟩ hw
 · exact absurd ⟨_,ho,h1⟩ hw
omit hcon hev in
theorem Tr.made{i:Nat}(hm:Mk ops Ts i):i<ops.length∧¬ W2 ops i∧(hss i).H.get (id0+i)=none∧(∃ o',(hss (i+1)).H.get (id0+i)=some o'∧o'.fz=false)∧rs i=[id0+i]:=by
 obtain⟨o,ho,hc,hw⟩:=hm
 have hn:¬ W2 ops i:=by
  rintro ⟨o2,ho2,h2⟩
  rw[ho]at ho2;cases ho2;rw[hc]at h2;cases h2
 rcases drawStep_cases (tr.step i _ ho)with⟨h0,_⟩|⟨h0,⟨h1,_⟩|⟨h1,h3,h4,_,h2,o',_,_,hz,e⟩|⟨h1,_⟩|⟨h1,_⟩⟩
 · rw[hw]at h0;cases h0
 · rw[hc]at h1;cases h1
 · exact⟨(List.getElem?_eq_some_iff.1 ho).1,hn,h3,⟨o',by rw[e,put_get,if_pos rfl],hz⟩,h4⟩
 · exact absurd ⟨o,ho,h1⟩ hn
 · exact absurd ⟨o,ho,h1⟩ hn
omit hcon hev in
theorem Tr.nowr{i:Nat}(hi:i<ops.length)(hw:¬ W2 ops i):ws i=[]:=by
 have ho:ops[i]?=some ops[i]:=List.getElem?_eq_getElem hi
 rcases drawStep_cases (tr.step i _ ho)with⟨_,_,_,_,e⟩|⟨h0,⟨_,_,_,e,_⟩|⟨h1,_,_,e,_⟩|⟨h1,_⟩|⟨h1,_⟩⟩
 · exact e
 · exact e
 · exact e
 · exact absurd ⟨_,ho,h1⟩ hw
 · exact absurd ⟨_,ho,h1⟩ hw
theorem Tr.some_mono{i j:Nat}(hij:i≤j)(hj:j≤ops.length){k:Nat}(h:(hss i).H.get k≠none):(hss j).H.get k≠none:=by
 induction hij with
 |refl=>exact h
 | @step j hij ih =>
   replace hij:i≤j:=hij
   exact(tr.kept hcon hev (List.getElem?_eq_getElem hj)).1.hm k (ih (by omega))
theorem Tr.none_back{i j:Nat}(hij:i≤j)(hj:j≤ops.length){k:Nat}(h:(hss j).H.get k=none):(hss i).H.get k=none :=
 Classical.byContradiction fun hne=>tr.some_mono hcon hev hij hj hne h
theorem Tr.keep{i j:Nat}(hij:i≤j)(hj:j≤ops.length){k:Nat}{o:Obj}(h:(hss i).H.get k=some o)(hw:∀ t,i≤t→t<j→W2 ops t→k ∉ ws t):(hss j).H.get k=some o:=by
 induction hij with
 |refl=>exact h
 | @step j hij ih =>
   replace hij:i≤j:=hij
   refine(tr.kept hcon hev (List.getElem?_eq_getElem hj)).2 k o (ih (by omega) fun t h1 h2=>hw t h1 (by omega)) ?_
   by_cases h2:W2 ops j
   · grind
   · rw[tr.nowr hj h2];simp
omit hcon hev in
theorem Tr.still{p q:Nat}(hpq:p≤q)(hq:q≤ops.length){k:Nat}(hw:∀ t,p≤t→t<q→W2 ops t→hss (t+1)=hss t)(hk:∀ t,p≤t→t<q→Mk ops Ts t→k≠id0+t):(hss q).H.get k=(hss p).H.get k:=by
 induction hpq with
 |refl=>rfl
 | @step q hpq ih =>
   replace hpq:p≤q:=hpq
   rw[← ih (by omega) (fun t h1 h2=>hw t h1 (by omega)) (fun t h1 h2=>hk t h1 (by omega))]
   by_cases h2:W2 ops q
   · grind
   · exact tr.same hq h2 (hk q hpq (by omega))
theorem Tr.le_n{i:Nat}(hi:i≤ops.length):(hss 0).n≤(hss i).n:=by
 induction i with
 |zero=>exact Nat.le_refl _
 |succ i ih=>exact Nat.le_trans (ih (by omega)) (tr.kept hcon hev (List.getElem?_eq_getElem hi)).1.le
omit hcon hev in
theorem Tr.tmp_same{m k:Nat}(hmk:m≤k)(hk:k≤ops.length){t:Nat}(h:∀ i o,m≤i→i<k→ops[i]?=some o→o.dst≠some t):(Ts k).get t=(Ts m).get t:=by
 induction hmk with
 |refl=>rfl
 | @step k hmk ih =>
   replace hmk:m≤k:=hmk
   rw[← ih (by omega) fun i o h1 h2=>h i o h1 (by omega)]
   have ho:ops[k]?=some ops[k]:=List.getElem?_eq_getElem hk
   have hp:=tr.put k _ ho
   have hne:=h k _ hmk (by omega) ho
   unfold putJ at hp
   cases hd:ops[k].dst with
   |none=>rw[hd,orc_none]at hp;rw[← Option.some.inj hp]
   | some d =>
     rw[hd,orc_some]at hp
     simp only[gd_eq]at hp
     rw[← Option.some.inj hp.2,PT.set_get,if_neg]
     grind
omit hcon hev in
theorem Tr.tmp_new{j:Nat}{o:Oper}(ho:ops[j]?=some o){t:Nat}(hd:o.dst=some t):(Ts (j+1)).get t=some (vs j)∧t<sz:=by
 have hp:=tr.put j o ho
 unfold putJ at hp
 rw[hd,orc_some]at hp
 simp only[gd_eq,blt_true]at hp
 rw[← Option.some.inj hp.2,PT.set_get,if_pos rfl]
 grind
end
end Go.J
/- A region that draws its order: the heap when some of the operations are done. -/
namespace Go.J
def Chg(hss:Nat→HS)(i id:Nat):Prop:=(hss (i+1)).H.get id≠(hss i).H.get id
open Classical in
def Gk(hss:Nat→HS)(S:Nat→Prop):Nat→Nat→Option Obj
 | 0,id=>(hss 0).H.get id
 |i+1,id=>if S i∧Chg hss i id then (hss (i+1)).H.get id else Gk hss S i id
section
variable {hss:Nat→HS}{S S':Nat→Prop}{j k id:Nat}
theorem Gk_at(h:∀ i,i<j→Chg hss i id→S i):Gk hss S j id=(hss j).H.get id:=by
 induction j with
 |zero=>rfl
 | succ j ih =>
   unfold Gk
   split
   · rfl
   · rename_i hn
     rw[ih fun i hi hc=>h i (by omega) hc]
     refine Classical.byContradiction fun hne=>hn ?_
     have hc:Chg hss j id:=fun e=>hne e.symm
     exact⟨h j (by omega) hc,hc⟩
theorem Gk_skip(hjk:j≤k)(h:∀ i,j≤i→i<k→Chg hss i id→¬ S i):Gk hss S k id=Gk hss S j id:=by
 induction hjk with
 |refl=>rfl
 | @step k hjk ih =>
   replace hjk:j≤k:=hjk
   have e:Gk hss S (k+1) id=Gk hss S k id:=by
    rw[Gk,if_neg fun hc=>h k hjk (by omega) hc.2 hc.1]
   rw[e]
   exact ih fun i h1 h2=>h i h1 (by omega)
theorem Gk_congr(h:∀ i,i<k→Chg hss i id→(S i↔S' i)):Gk hss S k id=Gk hss S' k id:=by
 induction k with
 |zero=>rfl
 | succ k ih =>
   unfold Gk
   have:=ih fun i hi=>h i (by omega)
   by_cases hc:Chg hss k id
   · by_cases hs:S k
     · rw[if_pos ⟨hs,hc⟩,if_pos ⟨(h k (by omega) hc).1 hs,hc⟩]
     · rw[if_neg fun h=>hs h.1,if_neg fun h'=>hs ((h k (by omega) hc).2 h'.1),this]
   · rw[if_neg fun h=>hc h.2,if_neg fun h=>hc h.2,this]
theorem Gk_one(hjk:j<k)(hS:¬ S j)(h:Chg hss j id→∀ i,j<i→i<k→S i→¬ Chg hss i id)(hc:Chg hss j id):Gk hss (fun i=>S i∨i=j) k id=(hss (j+1)).H.get id:=by
 rw[Gk_skip (j:=j+1) hjk fun i h1 h2 h3 h4=>?_]
 · unfold Gk;rw[if_pos ⟨.inr rfl,hc⟩]
 · rcases h4 with h4|h4
   · exact h hc i (by omega) h2 h4 h3
   · omega
theorem Gk_same(hc:¬ Chg hss j id):Gk hss (fun i=>S i∨i=j) k id=Gk hss S k id:=by
 refine Gk_congr fun i _ hi=>⟨fun h=>h.elim (fun h=>h) fun e=>absurd (e ▸ hi) hc,.inl⟩
end
theorem FrG.dom{w w':World}{F F':Nat→Prop}{μ μ':Nat→Nat→Option MI}{G G':Nat→Option Obj}{X:Nat→Prop}(h:FrG w F μ G w' F' μ' G')(hd:∀ id g,μ id g≠none→G id≠none∨X id) :
 ∀ id g,μ' id g≠none→G' id≠none∨X id:=by
 intro id g hg
 by_cases hn:G' id=none
 · rw[h.sm id hn g]at hg
   rcases hd id g hg with h1|h1
   · exact absurd hn (h.hm id h1)
   · exact .inr h1
 · exact .inl hn
section
variable {E:Env}{ev:Ev}{sz:Nat}{ops:List Oper}{id0:Nat}{Ts:Nat→PT V}{hss:Nat→HS}{vs:Nat→V}{rs ws:Nat→List Nat}{B:Nat→Nat→Prop}
variable (hcon:ConKept E)(hev:EvKept ev)(tr:Tr E ev sz ops id0 Ts hss vs rs ws B)
include hcon hev tr
theorem Tr.chg_class{t id:Nat}(ht:t<ops.length)(hc:Chg hss t id):(Mk ops Ts t∧id=id0+t)∨W2 ops t:=by
 by_cases hw:W2 ops t
 · exact .inr hw
 · left
   refine Classical.byContradiction fun hn=>hc (tr.same ht hw fun hm e=>hn ⟨hm,e⟩)
theorem Tr.chg_log{t id:Nat}(ht:t<ops.length)(hc:Chg hss t id):(hss t).H.get id=none∨id∈ws t:=by
 have ho:ops[t]?=some ops[t]:=List.getElem?_eq_getElem ht
 cases hg:(hss t).H.get id with
 |none=>exact .inl rfl
 | some o =>
   right
   refine Classical.byContradiction fun hn=>hc ?_
   rw[hg];exact(tr.kept hcon hev ho).2 id o hg hn
theorem Tr.chg_some{t id:Nat}(ht:t<ops.length)(hc:Chg hss t id):(hss (t+1)).H.get id≠none:=by
 intro hn
 have ho:ops[t]?=some ops[t]:=List.getElem?_eq_getElem ht
 refine hc ?_
 rw[hn]
 exact(Classical.byContradiction fun hne=>(tr.kept hcon hev ho).1.hm id (fun e=>hne e.symm) hn)
theorem Tr.store_rs{t:Nat}(hs:St ops t){id:Nat}(hc:Chg hss t id):(hss t).H.get id≠none∧id∈rs t∧id∈ws t:=by
 obtain⟨o,ho,hst⟩:=hs
 have ht:=(List.getElem?_eq_some_iff.1 ho).1
 have hstep:=tr.step t o ho
 obtain⟨ty,a,x,hop⟩:=store_op hst
 have hne:(hss t).H.get id≠none:=by
  intro hn
  have h1:=hstep
  unfold drawStep at h1
  simp only[ob_eq]at h1
  obtain⟨w,_,h1⟩:=h1
  rw[bi_eq]at h1
  split at h1
  · unfold drawRun at h1
    rw[hst,bi_true]at h1
    have:=(drawSt_kept hcon hev hst h1).2.2 id hn
    exact hc (by rw[hn];exact this)
  · have e:hss t=hss (t+1):=congrArg (fun q=>q.2.1) (Option.some.inj h1)
    exact hc (by rw[← e])
 refine⟨hne,?_,(tr.chg_log hcon hev ht hc).resolve_left hne⟩
 rcases drawStep_cases hstep with⟨_,_,e,_⟩|⟨_,⟨h1,_⟩|⟨h1,_⟩|⟨_,h1,_⟩|⟨_,_,h1,h2,_,h3,_⟩⟩
 · exact absurd (by rw[e]) hc
 · rw[hop]at h1;cases h1
 · rw[hop]at h1;cases h1
 · rw[hst]at h1;cases h1
 · refine Classical.byContradiction fun hn=>hc ?_
   rw[h3]
   show (putX (hss t).H h2.H _).get id=_
   rw[putX_get,if_neg fun h=>hn (by rw[h1];exact h.1)]
omit hcon hev in
theorem Tr.ord{i j:Nat}(hij:i<j)(hi:W2 ops i)(hj:W2 ops j)(hs:¬ (St ops i∧St ops j)):B j i:=by
 obtain⟨x,hx,hx2⟩:=hi
 obtain⟨y,hy,hy2⟩:=hj
 rcases tr.apart i j x y hij hx hy with h|h
 · exact h
 · have:=(indep_ok h).2.2.2 hx2 hy2
   exact absurd ⟨⟨x,hx,this.1⟩,⟨y,hy,this.2⟩⟩ hs
section
variable {S:Nat→Prop}{j:Nat}(hj:j<ops.length)(hS:¬ S j)(hdown:∀ i k,S k→B k i→S i)
include hj hS hdown
theorem Tr.noLater{id:Nat}(hc:Chg hss j id):∀ t,j<t→t<ops.length→S t→¬ Chg hss t id:=by
 intro t hjt ht hSt hct
 have hnb:¬ B t j:=fun h=>hS (hdown j t hSt h)
 have hsome:(hss t).H.get id≠none:=tr.some_mono hcon hev (i:=j+1) hjt (Nat.le_of_lt ht) (tr.chg_some hcon hev hj hc)
 have hcl:=(tr.clash j t hjt ht).resolve_left hnb
 have hws:=(tr.chg_log hcon hev ht hct).resolve_left hsome
 rcases tr.chg_class hcon hev ht hct with⟨hm,rfl⟩|hw
 · exact hsome (tr.made hm).2.2.1
 · rcases tr.chg_class hcon hev hj hc with⟨hm,rfl⟩|hwj
   · exact hcl.1 _ (by rw[(tr.made hm).2.2.2.2];simp) hws
   · by_cases hst:St ops j
     · exact hcl.1 _ (tr.store_rs hcon hev hst hc).2.1 hws
     · exact hnb (tr.ord hjt hwj hw fun h=>hst h.1)
theorem Tr.done{id:Nat}(hc:Chg hss j id):Gk hss (fun i=>S i∨i=j) ops.length id=(hss (j+1)).H.get id :=
 Gk_one hj hS (fun hc i h1 h2 h3=>tr.noLater hcon hev hj hS hdown hc i h1 h2 h3) hc
theorem Tr.notYet{i:Nat}(hm:Mk ops Ts i)(hSi:¬ S i):Gk hss S ops.length (id0+i)=none:=by
 have hmd:=tr.made hm
 rw[Gk_skip (j:=0) (Nat.zero_le _) fun u _ hu hcu hSu=>?_]
 · exact tr.none_back hcon hev (Nat.zero_le i) (Nat.le_of_lt hmd.1) hmd.2.2.1
 · have hui:u≠i:=fun e=>hSi (e ▸ hSu)
   rcases Nat.lt_or_gt_of_ne hui with h|h
   · exact tr.chg_some hcon hev hu hcu (tr.none_back hcon hev (i:=u+1) (j:=i) h (Nat.le_of_lt hmd.1) hmd.2.2.1)
   · obtain⟨o',ho',_⟩:=hmd.2.2.2.1
     have hsome:(hss u).H.get (id0+i)≠none:=tr.some_mono hcon hev (i:=i+1) h (Nat.le_of_lt hu) (by rw[ho'];simp)
     have hws:=(tr.chg_log hcon hev hu hcu).resolve_left hsome
     rcases tr.clash i u h hu with h1|h1
     · exact hSi (hdown i u hSu h1)
     · exact h1.1 _ (by rw[hmd.2.2.2.2];simp) hws
variable (hB:∀ i,B j i→S i)
include hB
theorem Tr.reads {id:Nat} {o o1:Obj} (hr:id∈rs j) (hg:(hss j).H.get id=some o) (hG:Gk hss S ops.length id=some o1):o1=o:=by
 have hA : ∀ t,t<j→Chg hss t id→S t:=by
  intro t htj hc
  refine Classical.byContradiction fun hSt=>?_
  have ht:t<ops.length:=by omega
  have hnb:¬ B j t:=fun h=>hSt (hB t h)
  have hcl:=(tr.clash t j htj hj).resolve_left hnb
  have hnone:(hss t).H.get id=none:=(tr.chg_log hcon hev ht hc).resolve_right (hcl.2 id hr)
  have hsome1:=tr.chg_some hcon hev ht hc
  have : Gk hss S ops.length id=none:=by
   rw[Gk_skip (j:=0) (Nat.zero_le _) fun u _ hu hcu hSu=>?_]
   · exact tr.none_back hcon hev (Nat.zero_le t) (Nat.le_of_lt ht) hnone
   · have hut:u≠t:=fun e=>hSt (e ▸ hSu)
     rcases Nat.lt_or_gt_of_ne hut with h|h
     · exact tr.chg_some hcon hev hu hcu (tr.none_back hcon hev (i:=u+1) (j:=t) h (Nat.le_of_lt ht) hnone)
     · have hsome:(hss u).H.get id≠none:=tr.some_mono hcon hev (i:=t+1) h (Nat.le_of_lt hu) hsome1
       have hws:=(tr.chg_log hcon hev hu hcu).resolve_left hsome
       rcases tr.chg_class hcon hev ht hc with⟨hm,rfl⟩|hw
       · rcases tr.clash t u h hu with h1|h1
         · grind
         · exact h1.1 _ (by rw[(tr.made hm).2.2.2.2];simp) hws
       · by_cases hst:St ops t
         · exact(tr.store_rs hcon hev hst hc).1 hnone
         · rcases tr.chg_class hcon hev hu hcu with⟨hm,rfl⟩|hwu
           · exact hsome (tr.made hm).2.2.1
           · exact hSt (hdown t u hSu (tr.ord h hw hwu fun h=>hst h.1))
  grind
 have hZ:∀ t,j≤t→t<ops.length→Chg hss t id→¬ S t:=by
  intro t h1 ht hc hSt
  have hjt:j≠t:=fun e=>hS (e ▸ hSt)
  have hnb:¬ B t j:=fun h=>hS (hdown j t hSt h)
  have hcl:=(tr.clash j t (by omega) ht).resolve_left hnb
  have hsome:(hss t).H.get id≠none:=tr.some_mono hcon hev (i:=j) h1 (Nat.le_of_lt ht) (by rw[hg];simp)
  exact hcl.1 id hr ((tr.chg_log hcon hev ht hc).resolve_left hsome)
 rw[Gk_skip (Nat.le_of_lt hj) hZ,Gk_at hA,hg]at hG
 grind
variable (hw:W2 ops j)(hns:¬ St ops j)
include hw hns
theorem Tr.before{t:Nat}(ht:t<j)(h:W2 ops t):S t:=hB t (tr.ord ht h hw fun h=>hns h.2)
theorem Tr.after{t:Nat}(hjt:j≤t)(ht:t<ops.length)(h:W2 ops t):¬ S t:=by
 intro hSt
 by_cases e:j=t
 · grind
 · exact hS (hdown j t hSt (tr.ord (by omega) hw h fun h=>hns h.1))
theorem Tr.G_else{id:Nat}(h:∀ i,Mk ops Ts i→id≠id0+i):Gk hss S ops.length id=(hss j).H.get id:=by
 rw[Gk_skip (Nat.le_of_lt hj) fun t h1 ht hc=>?_,Gk_at fun t ht hc=>?_]
 · rcases tr.chg_class hcon hev (by omega) hc with⟨hm,e⟩|hwt
   · grind
   · exact tr.before hcon hev hj hS hdown hB hw hns ht hwt
 · rcases tr.chg_class hcon hev ht hc with⟨hm,e⟩|hwt
   · grind
   · exact tr.after hcon hev hj hS hdown hB hw hns h1 ht hwt
theorem Tr.G_lt{i:Nat}(_hm:Mk ops Ts i)(hs:S i)(hij:i<j):Gk hss S ops.length (id0+i)=(hss j).H.get (id0+i):=by
 rw[Gk_skip (Nat.le_of_lt hj) fun t h1 ht hc=>?_,Gk_at fun t ht hc=>?_]
 · rcases tr.chg_class hcon hev (by omega) hc with⟨hm,e⟩|hwt
   · grind
   · exact tr.before hcon hev hj hS hdown hB hw hns ht hwt
 · rcases tr.chg_class hcon hev ht hc with⟨hm,e⟩|hwt
   · omega
   · exact tr.after hcon hev hj hS hdown hB hw hns h1 ht hwt
theorem Tr.G_ge{i:Nat}(hm:Mk ops Ts i)(hs:S i)(hij:j≤i):Gk hss S ops.length (id0+i)=(hss (i+1)).H.get (id0+i):=by
 have hmd:=tr.made hm
 rw[Gk_skip (j:=i+1) hmd.1 fun t h1 ht hc=>?_]
 · unfold Gk
   rw[if_pos]
   refine⟨hs,?_⟩
   obtain⟨o',ho',_⟩:=hmd.2.2.2.1
   show _≠_
   grind
 · rcases tr.chg_class hcon hev ht hc with⟨_,e⟩|hwt
   · omega
   · exact tr.after hcon hev hj hS hdown hB hw hns (by omega) ht hwt
end
end
theorem id_cases(id0:Nat)(M:Nat→Prop)(id:Nat):(∃ i,M i∧id=id0+i)∨∀ i,M i→id≠id0+i:=by
 grind
end Go.J
/- A region that draws its order: operations that read alone;operations that make one object. -/
namespace Go.J
section
variable {ρ:Nat→Value}{P:Program}{w w':World}{F:Nat→Prop}{μ:Nat→Nat→Option MI}{hs hs':HS}{T:PT V}
theorem builtin0_ok(hR:R ρ w F μ P hs){a:Act}(hT:TRel ρ w F μ T a.tmps){id:Nat}{b:Builtin}(hb:b=.len∨b=.min∨b=.max){ts:Array TypeId}{tR:TypeId}{cs:Array Bool}{xs:Array Operand}{vs:List V}{v:V}{hs':HS}
 (hvs:evalL T xs.toList=some vs) (h:builtinJ P hs id b ts.toList vs=some (v,hs')):NextA ρ P w F μ (builtin b ts tR cs (xs.map a.eval)) v:=by
 unfold builtinJ at h
 split at h
 · unfold lenOpJ at h
   simp only[ob_eq,oneL_eq]at h
   obtain⟨i,hi,x,rfl,n,hn,h⟩:=h
   cases h
   obtain⟨X,hX,hr⟩:=args_one hT hvs
   rw[hX]
   cases hts:ts.toList with
   |nil=>rw[hts]at hi;cases hi
   | cons t l =>
     rw[hts]at hi
     have e:ts=(t::l).toArray:=by rw[← hts]
     rw[e]
     exact(len_ok hR hi hr hn).next
 · grind
 · grind
 · unfold minmaxJ at h
   simp only[ob_eq,twoL_eq,V.int?_eq]at h
   obtain⟨p,rfl,q,h1,r,h2,h⟩:=h
   cases h
   obtain⟨X,Y,hX,hr,hs⟩:=args_two hT hvs
   rw[h1]at hr;rw[h2]at hs
   rw[hX,hr.int_inv,hs.int_inv]
   exact ValA.next (minmax_ok true ts tR)
 · unfold minmaxJ at h
   simp only[ob_eq,twoL_eq,V.int?_eq]at h
   obtain⟨p,rfl,q,h1,r,h2,h⟩:=h
   cases h
   obtain⟨X,Y,hX,hr,hs⟩:=args_two hT hvs
   rw[h1]at hr;rw[h2]at hs
   rw[hX,hr.int_inv,hs.int_inv]
   exact ValA.next (minmax_ok false ts tR)
 · cases h
theorem step0_ok (hρ:Good ρ) {E:Env} {ev:Ev} (hR:R ρ w F μ E.P hs) {a:Act} (hT:TRel ρ w F μ T a.tmps) {o:Oper} {dr:Bool} {id:Nat} {v:V} (hc:opClass o.op=0)
 (h:stepJ E ev dr T hs id o=some (v,hs')):(∀ c,o.op≠.defer c)∧NextA ρ E.P w F μ (execOp a.eval o) v:=by
 unfold stepJ at h
 cases hcall:callOf o.op with
 | none =>
   rw[hcall]at h
   replace h:opJ E.P dr T hs id (opR o.op)=some (v,hs'):=h
   exact⟨fun c hd=>(by rw[hd]at h;cases h),(op0_ok hρ hR hT hc hcall h).2⟩
 | some c =>
   have ho:=callOf_call hcall
   rw[hcall]at h
   replace h:stepCall E ev T hs id c=some (v,hs'):=h
   simp only[stepCall,ob_eq]at h
   obtain⟨vs,hvs,h⟩:=h
   refine⟨fun c' h'=>(by rw[ho]at h';cases h'),?_⟩
   rw[ho]at hc
   cases hcal:c.callee with
   | builtin b =>
     rw[hcal]at h
     replace h:builtinJ E.P hs id b c.argTypes.toList vs=some (v,hs'):=h
     obtain⟨cs,he⟩:∃ cs,execOp a.eval o=builtin b c.argTypes o.type cs (c.args.map a.eval) :=
      ⟨c.args.map fun x=>match x with|.const _=>true|_=>false,by simp only[execOp,ho,resolve,hcal,invoke];rfl⟩
     grind [builtin0_ok,opClass]
   |value x=>simp[opClass,hcal]at hc
   |invoke x n=>simp[opClass,hcal]at hc
theorem step3_ok(hρ:Good ρ){E:Env}{ev:Ev}(hR:R ρ w F μ E.P hs){a:Act}(hT:TRel ρ w F μ T a.tmps){o:Oper}{dr:Bool}{id:Nat}{v:V}(hc:isStore o.op=true)
 (h:stepJ E ev dr T hs id o=some (v,hs')):(∀ c,o.op≠.defer c)∧v=undefV∧∃ w' F',(execOp a.eval o).run E.P w=.ok .skip w'∧R ρ w' F' μ E.P hs'∧Fr w F μ hs w' F' μ hs':=by
 obtain⟨t,x,y,hop⟩:=store_op hc
 rw[stepJ_store hop]at h
 simp only[storeOpJ,ob_eq]at h
 obtain⟨i,hi,p,hp,u,hu,hs1,h1,h⟩:=h
 cases h
 obtain⟨w',F',h2,h3,h4⟩:=store_ok hρ hR hi (evalO_rep hT hp) (evalO_rep hT hu) h1
 obtain⟨dst,op,ty,pos,after,guard⟩:=o
 dsimp only at hop
 subst hop
 refine⟨fun c hd=>(by cases hd),rfl,w',F',?_,h3,h4⟩
 show (do Instr.storeAt t (a.eval x) (a.eval y);pure Next.skip:Sem Next).run E.P w=_
 simp[h2]
theorem purify_gen {v v':V} {hs hs':HS} (h:purify v hs=some (v',hs')) {k:Nat} {o:Obj} (hk:hs'.H.get k=some o):∃ o0,hs.H.get k=some o0∧o0.gen=o.gen:=by
 have hr:∀ (hs:HS) (i k:Nat) (o:Obj),(freezeRow hs i).H.get k=some o→∃ o0,hs.H.get k=some o0∧o0.gen=o.gen:=by
  intro hs i k o hk
  unfold freezeRow at hk
  cases ho:hs.H.get i with
  |none=>rw[ho,orc_none]at hk;exact⟨o,hk,rfl⟩
  | some q =>
    rw[ho,orc_some]at hk
    cases q with
    | arr a b c d e f =>
      replace hk:(hs.H.set i (.arr a b c d true f)).get k=some o:=hk
      rw[PT.set_get]at hk
      split at hk
      · rename_i e;cases hk;subst e;exact⟨_,ho,rfl⟩
      grind
    |mp _=>exact⟨o,hk,rfl⟩
    |lp _ _ _ _ _ _=>exact⟨o,hk,rfl⟩
 have h1:∀ (hs:HS) (v:V) (k:Nat) (o:Obj),(freeze1 hs v).H.get k=some o→∃ o0,hs.H.get k=some o0∧o0.gen=o.gen:=by
  intro hs v k o hk
  unfold freeze1 at hk
  grind
 simp only[purify,ob_eq]at h
 obtain⟨u,_,h⟩:=h
 cases h
 generalize v.cells=l at hk
 induction l generalizing o with
 |nil=>exact⟨o,hk,rfl⟩
 | cons c l ih =>
   obtain⟨o1,h2,h3⟩:=h1 _ _ _ _ hk
   obtain⟨o0,h4,h5⟩:=ih h2
   grind
theorem store_gen{E:Env}{ev:Ev}{o:Oper}{dr:Bool}{id:Nat}{v:V}(hc:isStore o.op=true)(h:stepJ E ev dr T hs id o=some (v,hs')){k:Nat}{q:Obj}(hk:hs'.H.get k=some q):∃ o0,hs.H.get k=some o0∧o0.gen=q.gen:=by
 have hr:∀ {i:TI} {id g off:Nat} {v:V} {hs hs':HS} {q:Obj},storeRow i id g off v hs=some hs'→hs'.H.get k=some q→∃ o0,hs.H.get k=some o0∧o0.gen=q.gen:=by
  intro i id g off v hs hs' q h hk
  simp only[storeRow,ob_eq,gd_eq]at h
  obtain⟨a,ha,_,_,e,he,h⟩:=h
  cases h
  replace hk:(hs.H.set id (.arr a.1 g (setL a.2.1 (off / a.1) (overL e (off % a.1) v.cells)) a.2.2.1 false a.2.2.2.2)).get k=some q:=hk
  rw[PT.set_get]at hk
  split at hk
  · rename_i e;cases hk;subst e
    obtain⟨h1,_⟩:=getRow_spec ha
    exact⟨_,h1,rfl⟩
  grind
 obtain⟨t,x,y,hop⟩:=store_op hc
 rw[stepJ_store hop]at h
 simp only[storeOpJ,ob_eq]at h
 obtain⟨i,_,p,_,u,_,h1,h2,h⟩:=h
 cases h
 unfold storeJ at h2
 grind [bi_eq,ob_eq,purify_gen]
theorem partsJ_dr{e:TI}{len:Nat}:∀ {l:List (Nat×Operand)} {hs:HS} {es:List (List V)} {r:List (List V)×HS},partsJ true T e len l hs es=some r→r.2=hs:=by
 intro l
 induction l with
 |nil=>intro hs es r h;cases h;rfl
 | cons p l ih =>
   intro hs es r h
   replace h:(ob (evalO T p.2) fun v=>ob (cleanJ true v hs) fun r=>gd (et (Nat.beq (lenL r.1.cells) e.size) (Nat.blt p.1 len)) (partsJ true T e len l r.2 (setL es p.1 r.1.cells)))=some r:=h
   simp only[ob_eq,gd_eq]at h
   obtain⟨v,_,q,hq,_,h⟩:=h
   replace hq:gd v.pure (some (v,hs))=some q:=hq
   grind [gd_eq]
theorem op1_only{o:Op}(hc:opClass o=1)(hcall:callOf o=none){id:Nat}{v:V}(h:opJ P true T hs id (opR o)=some (v,hs')):∃ o',∀ k,hs'.H.get k=if k=id then some o' else hs.H.get k:=by
 cases o<;>first|(cases hc;done)|(cases hcall;done)|(cases h;done)|skip
 case alloc t =>
  replace h:allocJ P hs id t=some (v,hs'):=h
  simp only[allocJ,ob_eq,gd_eq]at h
  obtain⟨_,_,_,h⟩:=h
  cases h;exact⟨_,fun k=>put_get ..⟩
 case box t x =>
  replace h:boxJ T hs id x=some (v,hs'):=h
  simp only[boxJ,ob_eq]at h
  obtain⟨_,_,h⟩:=h
  cases h;exact⟨_,fun k=>put_get ..⟩
 case buildSlice t n parts =>
  replace h:buildSliceOpJ P true T hs id t n parts=some (v,hs'):=h
  simp only[buildSliceOpJ,ob_eq,gd_eq]at h
  obtain⟨_,_,_,_,_,_,_,r,hr,h⟩:=h
  cases h
  rw[partsJ_dr hr]
  exact⟨_,fun k=>put_get ..⟩
 case makeMap t r =>
  replace h:makeMapJ hs id r=some (v,hs'):=h
  simp only[makeMapJ,gd_eq]at h
  obtain⟨_,h⟩:=h
  cases h;exact⟨_,fun k=>put_get ..⟩
 case makeSlice t l c =>
  replace h:makeSliceOpJ P T hs id t l c=some (v,hs'):=h
  simp only[makeSliceOpJ,makeSliceJ,ob_eq,gd_eq]at h
  obtain⟨_,_,_,_,_,_,_,_,_,_,_,_,_,_,_,h⟩:=h
  first
   |(cases h;exact⟨_,fun k=>put_get ..⟩)
   |(obtain⟨_,h⟩:=h;cases h;exact⟨_,fun k=>put_get ..⟩)
   |(obtain⟨_,_,h⟩:=h;cases h;exact⟨_,fun k=>put_get ..⟩)
   |(obtain⟨_,_,_,h⟩:=h;cases h;exact⟨_,fun k=>put_get ..⟩)
theorem class1_none{o:Op}(hc:opClass o=1):callOf o=none:=by
 cases o<;>first|rfl|skip
 grind [opClass]
end
end Go.J
/- A region that draws its order: whatever the order,it does what the evaluator does. -/
namespace Go.J
section
variable {ρ:Nat→Value}{E:Env}{ev:Ev}{sz:Nat}{ops:Array Oper}{id0:Nat}{Ts:Nat→PT V}{hss:Nat→HS}{vs:Nat→V}{rs ws:Nat→List Nat}{B:Nat→Nat→Prop}{X:Nat→Prop}{N:NB}
 {w0:World} {F0:Nat→Prop} {μ0:Nat→Nat→Option MI} {G0:Nat→Option Obj} {sz0:Nat}
variable (ρ E ops Ts hss B X N w0 F0 μ0 G0 sz0) in
structure Inv(S:Nat→Prop)(a:Act)(w:World)(F:Nat→Prop)(μ:Nat→Nat→Option MI):Prop where
 down:∀ i k,S k→B k i→S i
 rg:RG ρ w F μ E.P (Gk hss S ops.toList.length)
 fr:FrG w0 F0 μ0 G0 w F μ (Gk hss S ops.toList.length)
 dom:∀ id g,μ id g≠none→Gk hss S ops.toList.length id≠none∨X id
 tmp:∀ t k v,k≤ops.toList.length→(∀ i o,i<k→ops.toList[i]?=some o→o.dst=some t→S i)→(∀ i o,k≤i→ops.toList[i]?=some o→o.dst=some t→¬ S i) →
  (Ts k).get t=some v→∃ x,a.tmps[t]?=some x∧Rep ρ w F μ v x
 size:a.tmps.size=sz0
 marks:Marks N w a.defers
theorem Inv.trel(tr:Tr E ev sz ops.toList id0 Ts hss vs rs ws B){S:Nat→Prop}{a:Act}{w:World}{F:Nat→Prop}{μ:Nat→Nat→Option MI}(inv:Inv ρ E ops Ts hss B X N w0 F0 μ0 G0 sz0 S a w F μ)
 {j:Nat} {o:Oper} (ho:ops.toList[j]?=some o) (hS:¬ S j) (hB:∀ i,B j i→S i):TRel ρ w F μ (pickT (Ts j) (looks ops.toList o)) a.tmps:=by
 intro t v hv
 obtain⟨ht,hv⟩:=pickT_some hv
 refine inv.tmp t j v (Nat.le_of_lt (List.getElem?_eq_some_iff.1 ho).1) (fun i x hi hx hd=>?_) (fun i x hi hx hd hSi=>?_) hv
 · rcases tr.apart i j x o hi hx ho with h|h
   · exact hB i h
   · exact absurd ht ((indep_ok h).1 t hd)
 · have hne:i≠j:=fun e=>hS (e ▸ hSi)
   rcases tr.apart j i o x (by omega) ho hx with h|h
   · exact hS (inv.down j i hSi h)
   · exact(indep_ok h).2.1 t hd ht
theorem tmp_put (tr:Tr E ev sz ops.toList id0 Ts hss vs rs ws B) {S:Nat→Prop} {a:Act} {w w':World} {F F':Nat→Prop} {μ μ':Nat→Nat→Option MI} (inv:Inv ρ E ops Ts hss B X N w0 F0 μ0 G0 sz0 S a w F μ) (hsz:sz≤sz0)
 (hmono:∀ v x,Rep ρ w F μ v x→Rep ρ w' F' μ' v x) {j:Nat} {o:Oper} (ho:ops.toList[j]?=some o) (hS:¬ S j) (hB:∀ i,B j i→S i) {x:Value} (hx:Rep ρ w' F' μ' (vs j) x) :
 ∀ t k v,k≤ops.toList.length→(∀ i o,i<k→ops.toList[i]?=some o→o.dst=some t→S i∨i=j)→(∀ i o,k≤i→ops.toList[i]?=some o→o.dst=some t→¬ (S i∨i=j)) →
 (Ts k).get t=some v→∃ y,(a.put o.dst x).tmps[t]?=some y∧Rep ρ w' F' μ' v y:=by
 intro t k v hk h1 h2 hv
 by_cases hd:o.dst=some t
 · have hjk:j<k:=Nat.lt_of_not_le fun hle=>h2 j o hle ho hd (.inr rfl)
   have hsame:=tr.tmp_same (m:=j+1) hjk hk (t:=t) (fun i y hi hik hy hdy=>by
    rcases tr.apart j i o y (by omega) ho hy with h|h
    · rcases h1 i y hik hy hdy with h3|h3
      · exact hS (inv.down j i h3 h)
      · omega
    · exact(indep_ok h).2.2.1 t hd hdy)
   obtain⟨hnew,hlt⟩:=tr.tmp_new ho hd
   rw[hsame,hnew]at hv
   cases hv
   refine⟨x,?_,hx⟩
   rw[hd]
   have:t<a.tmps.size:=Nat.lt_of_lt_of_le hlt (Nat.le_trans hsz (Nat.le_of_eq inv.size.symm))
   simp[Act.put,this]
 · obtain⟨y,hy,hr⟩:=inv.tmp t k v hk (fun i x' hi hx' hd'=>(h1 i x' hi hx' hd').resolve_right (fun e=>hd (by subst e;rw[ho]at hx';cases hx';exact hd')))
    (fun i x' hi hx' hd' h3=>h2 i x' hi hx' hd' (.inl h3)) hv
   refine⟨y,?_,hmono _ _ hr⟩
   cases hdd:o.dst with
   |none=>exact hy
   | some d =>
     have hne:d≠t:=fun e=>hd (by rw[hdd,e])
     simpa [Act.put,Array.getElem?_setIfInBounds,hne]using hy
theorem Inv.step (hρ:Good ρ) (hcon:ConsOk ρ E) (hev:EvOk ρ E ev) (tr:Tr E ev sz ops.toList id0 Ts hss vs rs ws B) (hX:∀ i,id0≤i→¬ X i) (hn:id0+ops.toList.length≤(hss 0).n) (hO:Off X (hss ops.toList.length)) (hsz:sz≤sz0)
 {r:Option Nat} {S:Nat→Prop} {a:Act} {w:World} {F:Nat→Prop} {μ:Nat→Nat→Option MI} (inv:Inv ρ E ops Ts hss B X N w0 F0 μ0 G0 sz0 S a w F μ)
 {j:Nat} (hj:j<ops.toList.length) (hS:¬ S j) (hB:∀ i,B j i→S i) {K:Act→World→Prop} {Q:Exit→Act→World→Prop}
 (hK:∀ a' w' F' μ',Inv ρ E ops Ts hss B X N w0 F0 μ0 G0 sz0 (fun i=>S i∨i=j) a' w' F' μ'→K a' w'):wpOpIn (Wr r) 0 E.P ops Q j K a w:=by
 have hcK:ConKept E:=hcon.kept
 have heK:=hev.kept
 have ho:ops.toList[j]?=some ops.toList[j]:=List.getElem?_eq_getElem hj
 generalize ops.toList[j]=o at ho
 have ho':ops[j]?=some o:=by simpa using ho
 have hT:=inv.trel tr ho hS hB
 have hdown':∀ i k,(S k∨k=j)→B k i→(S i∨i=j):=by
  rintro i k (h|rfl) hb
  · exact .inl (inv.down i k h hb)
  · exact .inl (hB i hb)
 have hput:∀ x,(a.put o.dst x).tmps.size=sz0∧(a.put o.dst x).defers=a.defers:=by
  intro x
  rw[← inv.size]
  cases o.dst<;>simp[Act.put]
 have hdone:∀ {id:Nat},Chg hss j id→Gk hss (fun i=>S i∨i=j) ops.toList.length id=(hss (j+1)).H.get id:=fun hc=>tr.done hcK heK hj hS inv.down hc
 unfold wpOpIn
 rw[ho']
 dsimp only
 -- what is read
 have hrd:∀ {Y:List Nat} {n:Nat} {l:List Nat},(∀ id∈Y,id∈rs j)→∀ (id:Nat) (o1:Obj),({ H:=pickT (hss j).H Y,n:=n,log:=l }:HS).H.get id=some o1→(∀ g,μ id g=none)∨Gk hss S ops.toList.length id=some o1:=by
  intro Y n l hY id o1 h3
  obtain⟨h4,h5⟩:=pickT_some h3
  by_cases hpl:∀ g,μ id g=none
  · exact .inl hpl
  · right
    have hG:Gk hss S ops.toList.length id≠none:=by
     obtain⟨g,hg⟩:=Classical.not_forall.1 hpl
     refine(inv.dom id g hg).resolve_right fun hx=>?_
     have:=tr.some_mono hcK heK (i:=j) (j:=ops.toList.length) (by omega) (Nat.le_refl _) (k:=id) (by rw[h5];simp)
     exact this (hO id hx)
    cases hGe:Gk hss S ops.toList.length id with
    |none=>exact absurd hGe hG
    |some o2=>rw[tr.reads hcK heK hj hS inv.down hB (hY id h4) h5 hGe]
 have hsame:(hss (j+1)=hss j)→Gk hss S ops.toList.length=Gk hss (fun i=>S i∨i=j) ops.toList.length:=by
  intro e
  funext id
  exact(Gk_same fun hc=>hc (by rw[e])).symm
 rcases drawStep_cases (tr.step j o ho)with⟨hw,hv,hh,_,_⟩|⟨hw,h0|h1|h2|h3⟩
 · -- it is not run
   rw[if_neg (by rw[wantJ_ok hT hw];simp)]
   refine⟨fun _ _=>trivial,?_⟩
   have hx:Rep ρ w F μ (vs j) undef:=by rw[hv];exact .pure (.tuple [] #[] rfl fun i v hi=>by simp at hi)
   have e:=hsame hh
   exact hK _ w F μ ⟨hdown',e ▸ inv.rg,e ▸ inv.fr,e ▸ inv.dom,tmp_put tr inv hsz (fun _ _ h=>h) ho hS hB hx,(hput _).1,by rw[(hput _).2];exact inv.marks⟩
 · -- it reads alone
   obtain⟨hc,hh,hrs,_,h2,hst⟩:=h0
   rw[if_pos (wantJ_ok hT hw)]
   have hR:R ρ w F μ E.P { H:=pickT (hss j).H (readsOf (pickT (Ts j) (looks ops.toList o)) o.op),n:=0,log:=[] }:=inv.rg.toR (hrd fun id h=>by rw[hrs];exact h)
   obtain⟨hd,x,hx1,hx2⟩:=step0_ok hρ hR hT hc hst
   refine⟨fun _ _=>trivial,?_⟩
   rw[Oper.semAt_eq _ _ _ hd,hx1]
   have e:=hsame hh
   exact hK _ w F μ ⟨hdown',e ▸ inv.rg,e ▸ inv.fr,e ▸ inv.dom,tmp_put tr inv hsz (fun _ _ h=>h) ho hS hB hx2,(hput _).1,by rw[(hput _).2];exact inv.marks⟩
 · -- it makes an object
   obtain⟨hc,hnone,hrs,_,h2,o',hst,hget,hz,hh⟩:=h1
   rw[if_pos (wantJ_ok hT hw)]
   have hcall:=class1_none hc
   have hmk:Mk ops.toList Ts j:=⟨o,ho,hc,hw⟩
   have hst':opJ E.P true (pickT (Ts j) (looks ops.toList o)) { H:=.leaf,n:=0,log:=[] } (id0+j) (opR o.op)=some (vs j,h2):=by
    unfold stepJ at hst;rw[hcall]at hst;exact hst
   obtain⟨o2,honly⟩:=op1_only hc hcall hst'
   have e2:o2=o':=by rw[honly,if_pos rfl]at hget;exact Option.some.inj hget
   subst e2
   have hoth:∀ k,k≠id0+j→h2.H.get k=none:=fun k hk=>by rw[honly,if_neg hk];rfl
   have hG0:Gk hss S ops.toList.length (id0+j)=none:=tr.notYet hcK heK hj hS inv.down hmk hS
   have hleaf:∀ (id:Nat) (o:Obj),({ H:=.leaf,n:=0,log:=[] }:HS).H.get id=some o→(∀ g,μ id g=none)∨Gk hss S ops.toList.length id=some o:=fun id o h=>by cases h
   have hR:R ρ w F μ E.P { H:=.leaf,n:=0,log:=[] }:=inv.rg.toR hleaf
   have hfree:Free μ { H:=.leaf,n:=0,log:=[] } (id0+j):=⟨rfl,fun g=>Classical.byContradiction fun hne=>(inv.dom _ g hne).elim (fun h=>h hG0) (hX _ (by omega))⟩
   refine oper_next (hs:={ H:=.leaf,n:=0,log:=[] }) (fun c hd=>by rw[hd]at hc;cases hc) (opJ_ok hρ hR hT hcall (fun _=>hfree) hst') ?_
   intro x w' F' μ' hR' hx hf
   have hnew:(hss (j+1)).H.get (id0+j)=some o2:=by rw[hh,put_get,if_pos rfl]
   have hG1:Gk hss (fun i=>S i∨i=j) ops.toList.length (id0+j)=some o2:=by
    rw[hdone (by show _≠_;rw[hnew,hnone];simp)];exact hnew
   have hG2:∀ id,id≠id0+j→Gk hss (fun i=>S i∨i=j) ops.toList.length id=Gk hss S ops.toList.length id:=fun id hne=>Gk_same fun hc=>hc (by rw[hh,put_get,if_neg hne])
   obtain⟨k1,k2⟩:=inv.rg.merge (G':=Gk hss (fun i=>S i∨i=j) ops.toList.length) hleaf hR' hf
    (fun id o1 h=>by
      by_cases e:id=id0+j
      · subst e;rw[hG1]at h;cases h;exact .inl hget
      · rw[hG2 id e]at h;exact .inr ⟨h,hoth id e⟩)
    (fun id h=>by
      by_cases e:id=id0+j
      · subst e;rw[hG1];simp
      · rw[hG2 id e];exact h)
    (fun id h=>by
      by_cases e:id=id0+j
      · subst e;rw[hG1]at h;cases h
      · exact .inl (hoth id e))
    (.inr (.inl fun id o1 h=>by
      by_cases e:id=id0+j
      · subst e;rw[hget]at h;cases h;exact hz
      · rw[hoth id e]at h;cases h))
    (fun id _ h=>by
      by_cases e:id=id0+j
      · subst e;exact hG0
      · exact absurd (hoth id e) h)
   exact hK _ w' F' μ' ⟨hdown',k1,inv.fr.trans k2,k2.dom inv.dom,tmp_put tr inv hsz (fun _ _ h=>k2.rep inv.rg h) ho hS hB hx,(hput _).1,
    by rw[(hput _).2];exact inv.marks.keep hR hf⟩
 · -- it may write
   obtain⟨hc,hnst,hnone,hrs,h2,hst,hh,_⟩:=h2
   rw[if_pos (wantJ_ok hT hw)]
   have hw2:W2 ops.toList j:=⟨o,ho,hc⟩
   have hns:¬ St ops.toList j:=by rintro ⟨o2,ho2,h3⟩;rw[ho]at ho2;cases ho2;rw[hnst]at h3;cases h3
   have hnm:¬ Mk ops.toList Ts j:=by rintro ⟨o2,ho2,h3,_⟩;rw[ho]at ho2;cases ho2;rw[hc]at h3;cases h3
   have rg:=inv.rg
   have fr:=inv.fr
   have dom:=inv.dom
   have e2:(hss (j+1)).H=h2.H:=by rw[hh]
   have helse:∀ {id:Nat},(∀ i,Mk ops.toList Ts i→id≠id0+i)→Gk hss S ops.toList.length id=(hss j).H.get id:=fun h=>tr.G_else hcK heK hj hS inv.down hB hw2 hns h
   have hlt:∀ {i:Nat},Mk ops.toList Ts i→S i→i<j→Gk hss S ops.toList.length (id0+i)=(hss j).H.get (id0+i):=fun h1 h2 h3=>tr.G_lt hcK heK hj hS inv.down hB hw2 hns h1 h2 h3
   have hge:∀ {i:Nat},Mk ops.toList Ts i→S i→j≤i→Gk hss S ops.toList.length (id0+i)=(hss (i+1)).H.get (id0+i):=fun h1 h2 h3=>tr.G_ge hcK heK hj hS inv.down hB hw2 hns h1 h2 h3
   have hnot:∀ {i:Nat},Mk ops.toList Ts i→¬ S i→Gk hss S ops.toList.length (id0+i)=none:=fun h1 h2=>tr.notYet hcK heK hj hS inv.down h1 h2
   -- numbers of objects that are made by the region's own operations
   have hlate:∀ i,Mk ops.toList Ts i→j≤i→(hss j).H.get (id0+i)=none:=fun i hm hle=>tr.none_back hcK heK hle (by have:=(tr.made hm).1;omega) (tr.made hm).2.2.1
   have hlate1:∀ i,Mk ops.toList Ts i→j≤i→h2.H.get (id0+i)=none:=fun i hm hle=>by
    have hne:i≠j:=fun e=>hnm (e ▸ hm)
    rw[← e2]
    exact tr.none_back hcK heK (i:=j+1) (j:=i) (by omega) (by have:=(tr.made hm).1;omega) (tr.made hm).2.2.1
   have hmono:∀ k,(hss j).H.get k≠none→h2.H.get k≠none:=fun k hk=>by rw[← e2];exact(tr.kept hcK heK ho).1.hm k hk
   have hearly:∀ i,Mk ops.toList Ts i→i<j→(hss j).H.get (id0+i)≠none:=fun i hm hlt=>by
    obtain⟨o1,h3,_⟩:=(tr.made hm).2.2.2.1
    exact tr.some_mono hcK heK (i:=i+1) (j:=j) hlt (Nat.le_of_lt hj) (by rw[h3];simp)
   have hghost:∀ i,Mk ops.toList Ts i→¬ S i→∀ g,μ (id0+i) g=none:=fun i hm hs g=>Classical.byContradiction fun hne=>by
    rcases dom _ g hne with h3|h3
    · exact h3 (hnot hm hs)
    · exact hX _ (by omega) h3
   have hsub:∀ (id:Nat) (o1:Obj),({ H:=(hss j).H,n:=(hss j).n,log:=[] }:HS).H.get id=some o1→(∀ g,μ id g=none)∨Gk hss S ops.toList.length id=some o1:=by
    intro id o1 h
    rcases id_cases id0 (Mk ops.toList Ts) id with⟨i,hm,rfl⟩|hn'
    · by_cases hs:S i
      · by_cases h1:i<j
        · right;rw[hlt hm hs h1];exact h
        · have:=hlate i hm (by omega)
          rw[this]at h;cases h
      · exact .inl (hghost i hm hs)
    · right;rw[helse hn'];exact h
   have hR:R ρ w F μ E.P { H:=(hss j).H,n:=(hss j).n,log:=[] }:=rg.toR hsub
   have hnj:id0+ops.toList.length≤(hss j).n:=Nat.le_trans hn (tr.le_n hcK heK (Nat.le_of_lt hj))
   have hD:Dom (fun id=>X id∨∃ i,Mk ops.toList Ts i∧j≤i∧id=id0+i) μ { H:=(hss j).H,n:=(hss j).n,log:=[] }:=by
    refine⟨fun id g hg=>?_,?_⟩
    · grind
    · rintro id hid (h3|⟨i,hm,_,rfl⟩)
      · grind
      · have:=(tr.made hm).1
        grind
   have hO2:Off (fun id=>X id∨∃ i,Mk ops.toList Ts i∧j≤i∧id=id0+i) h2:=by
    rintro id (h3|⟨i,hm,hle,rfl⟩)
    · rw[← e2]
      exact tr.none_back hcK heK (i:=j+1) (j:=ops.toList.length) hj (Nat.le_refl _) (hO id h3)
    grind
   have hG0:Gk hss S ops.toList.length (id0+j)=none:=by
    grind
   have hfree:Free μ { H:=(hss j).H,n:=(hss j).n,log:=[] } (id0+j):=⟨hnone,fun g=>Classical.byContradiction fun hne=>(dom _ g hne).elim (fun h=>h hG0) (hX _ (by omega))⟩
   refine step_ok hρ hcon hev hR hD hO2 hT (fun _=>hfree) hst ?_
   intro x w' F' μ' hR' hx hf
   -- what is there afterwards
   have hG':∀ id,Gk hss (fun i=>S i∨i=j) ops.toList.length id=h2.H.get id∨(h2.H.get id=(hss j).H.get id∧Gk hss (fun i=>S i∨i=j) ops.toList.length id=Gk hss S ops.toList.length id):=by
    intro id
    by_cases hch:Chg hss j id
    · left;rw[hdone hch,e2]
    · right
      refine⟨?_,Gk_same hch⟩
      rw[← e2];exact Classical.byContradiction fun h=>hch h
   have hchs:∀ id,Chg hss j id→h2.H.get id≠none:=fun id hch=>by rw[← e2];exact tr.chg_some hcK heK hj hch
   obtain ⟨k1,k2⟩:=rg.merge (G':=Gk hss (fun i=>S i∨i=j) ops.toList.length) hsub hR' hf
    (fun id o1 h=>by
      by_cases hch:Chg hss j id
      · rw[hdone hch,e2]at h;exact .inl h
      · have e:h2.H.get id=(hss j).H.get id:=by rw[← e2];exact Classical.byContradiction fun h=>hch h
        rw[Gk_same hch]at h
        rcases id_cases id0 (Mk ops.toList Ts) id with⟨i,hm,rfl⟩|hn'
        · by_cases hs:S i
          · by_cases h1:i<j
            · rw[hlt hm hs h1]at h;exact .inl (by rw[e];exact h)
            · exact .inr ⟨h,hlate1 i hm (by omega)⟩
          · rw[hnot hm hs]at h;cases h
        · rw[helse hn']at h;exact .inl (by rw[e];exact h))
    (fun id h=>by
      by_cases hch:Chg hss j id
      · rw[hdone hch,e2];exact hchs id hch
      · rw[Gk_same hch];exact h)
    (fun id h=>by
      by_cases hch:Chg hss j id
      · rw[hdone hch,e2]at h;exact absurd h (hchs id hch)
      · have e:h2.H.get id=(hss j).H.get id:=by rw[← e2];exact Classical.byContradiction fun h=>hch h
        rw[Gk_same hch]at h
        rcases id_cases id0 (Mk ops.toList Ts) id with⟨i,hm,rfl⟩|hn'
        · by_cases h1:i<j
          · by_cases hs:S i
            · rw[hlt hm hs h1]at h;exact .inl (by rw[e];exact h)
            · exact .inr ⟨hearly i hm h1,hghost i hm hs⟩
          · exact .inl (hlate1 i hm (by omega))
        · rw[helse hn']at h;exact .inl (by rw[e];exact h))
    (.inl fun id o1 h hn2=>by
      rcases id_cases id0 (Mk ops.toList Ts) id with⟨i,hm,rfl⟩|hn'
      · by_cases hs:S i
        · by_cases h1:i<j
          · grind
          · rw[hge hm hs (by omega)]at h
            obtain⟨o3,h3,h4⟩:=(tr.made hm).2.2.2.1
            grind
        grind
      · rw[helse hn']at h
        exact absurd hn2 (hmono _ (by rw[h];simp)))
    (fun id h hne=>by
      rcases id_cases id0 (Mk ops.toList Ts) id with⟨i,hm,rfl⟩|hn'
      · by_cases h1:i<j
        · exact absurd h (hearly i hm h1)
        · exact absurd (hlate1 i hm (by omega)) hne
      · rw[helse hn'];exact h)
   exact hK _ w' F' μ' ⟨hdown',k1,fr.trans k2,k2.dom dom,tmp_put tr inv hsz (fun _ _ h=>k2.rep rg h) ho hS hB hx,(hput _).1,
    by rw[(hput _).2];exact inv.marks.keep hR hf⟩
 · -- a store
   obtain⟨hc,hst0,hrs,h2,hst,hh,_⟩:=h3
   rw[if_pos (wantJ_ok hT hw)]
   have hsub:=hrd (Y:=readsS (pickT (Ts j) (looks ops.toList o)) (hss j) o.op) (n:=0) (l:=[]) (fun id h=>by rw[hrs];exact h)
   have hR:=inv.rg.toR hsub
   obtain⟨hd,hv,w',F',hx1,hR',hf⟩:=step3_ok hρ hR hT hst0 hst
   refine⟨fun _ _=>trivial,?_⟩
   rw[Oper.semAt_eq _ _ _ hd,hx1]
   have e2:∀ id,(hss (j+1)).H.get id=if id∈readsS (pickT (Ts j) (looks ops.toList o)) (hss j) o.op∧h2.H.get id≠none then h2.H.get id else (hss j).H.get id:=fun id=>by rw[hh];exact putX_get _ _
   have hold:∀ id,h2.H.get id≠none→id∈readsS (pickT (Ts j) (looks ops.toList o)) (hss j) o.op∧(hss j).H.get id≠none:=by
    intro id h
    cases hq:h2.H.get id with
    |none=>exact absurd hq h
    | some q =>
      grind [store_gen,pickT_some]
   have hkp:∀ id,id∈readsS (pickT (Ts j) (looks ops.toList o)) (hss j) o.op→(hss j).H.get id≠none→h2.H.get id≠none:=by
    intro id h3 h4
    refine hf.hm id ?_
    show (pickT _ _).get id≠none
    rw[pickT_get,if_pos h3];exact h4
   have hnoX:∀ id,(hss j).H.get id≠none→¬ X id:=fun id h hx=>tr.some_mono hcK heK (i:=j) (j:=ops.toList.length) (by omega) (Nat.le_refl _) h (hO id hx)
   obtain ⟨k1,k2⟩:=inv.rg.merge (G':=Gk hss (fun i=>S i∨i=j) ops.toList.length) hsub hR' hf
    (fun id o1 h=>by
      by_cases hch:Chg hss j id
      · have h5:id∈readsS (pickT (Ts j) (looks ops.toList o)) (hss j) o.op∧h2.H.get id≠none:=Classical.byContradiction fun hn=>hch (by rw[e2,if_neg hn])
        grind
      · rw [Gk_same hch]at h
        by_cases hn:h2.H.get id=none
        · grind
        · left
          obtain⟨h3,h4⟩:=hold id hn
          have h5:h2.H.get id=(hss j).H.get id:=by
           have:(hss (j+1)).H.get id=(hss j).H.get id:=Classical.byContradiction fun h=>hch h
           rw[e2,if_pos ⟨h3,hn⟩]at this;exact this
          rw[h5]
          cases hq:(hss j).H.get id with
          |none=>exact absurd hq h4
          |some q=>rw[tr.reads hcK heK hj hS inv.down hB (by rw[hrs];exact h3) hq h])
    (fun id h=>by
      by_cases hch:Chg hss j id
      · rw[hdone hch];exact tr.chg_some hcK heK hj hch
      · rw[Gk_same hch];exact h)
    (fun id h=>by
      by_cases hn:h2.H.get id=none
      · exact .inl hn
      · right
        obtain⟨h3,h4⟩:=hold id hn
        refine⟨by show (pickT _ _).get id≠none;rw[pickT_get,if_pos h3];exact h4,fun g=>Classical.byContradiction fun hne=>?_⟩
        rcases inv.dom id g hne with h5|h5
        · by_cases hch:Chg hss j id
          · rw[hdone hch]at h;exact tr.chg_some hcK heK hj hch h
          · rw[Gk_same hch]at h;exact h5 h
        · exact hnoX id h4 h5)
    (.inr (.inr fun id q hq m hm=>by
      obtain⟨o0,h3,h4⟩:=store_gen hst0 hst hq
      exact⟨o0,h3,by rw[h4];exact hm⟩))
    (fun id h hne=>by
      obtain⟨h3,h4⟩:=hold id hne
      have:(pickT (hss j).H (readsS (pickT (Ts j) (looks ops.toList o)) (hss j) o.op)).get id=none:=h
      rw[pickT_get,if_pos h3]at this
      exact absurd this h4)
   have hx:Rep ρ w' F' μ (vs j) undef:=by rw[hv];exact .pure (.tuple [] #[] rfl fun i v hi=>by simp at hi)
   exact hK _ w' F' μ ⟨hdown',k1,inv.fr.trans k2,k2.dom inv.dom,tmp_put tr inv hsz (fun _ _ h=>k2.rep inv.rg h) ho hS hB hx,(hput _).1,
    by rw[(hput _).2];exact inv.marks.keep hR hf⟩
end
end Go.J
/- A region that draws its order,in the calculus of the walk. -/
namespace Go.J
section
variable {ρ:Nat→Value}{E:Env}{ev:Ev}{sz:Nat}{ops:Array Oper}{id0:Nat}{Ts:Nat→PT V}{hss:Nat→HS}{vs:Nat→V}{rs ws:Nat→List Nat}{B:Nat→Nat→Prop}{X:Nat→Prop}{N:NB}
 {w0:World} {F0:Nat→Prop} {μ0:Nat→Nat→Option MI} {G0:Nat→Option Obj} {sz0:Nat}
theorem all_done(tr:Tr E ev sz ops.toList id0 Ts hss vs rs ws B){listed:Array Bool}(hsz:listed.size=ops.size)(h:Region.ready .any ops listed=[]):∀ j,j<ops.toList.length→listed.getD j false=true:=by
 intro j
 induction j using Nat.strongRecOn with
 | _ j ih =>
   intro hj
   refine Classical.byContradiction fun hne=>?_
   have ho:ops.toList[j]?=some ops.toList[j]:=List.getElem?_eq_getElem hj
   have hlt:j<listed.size:=by rw[hsz];simpa using hj
   have hf:listed.getD j true=false:=by
    grind
   have hm:j∈Region.ready .any ops listed:=by
    refine mem_ready.2 ⟨hf,ops.toList[j],by rw[← Array.getElem?_toList];exact ho,fun e he hb=>?_⟩
    have:=tr.on j _ ho e (by simpa using he) hb
    grind
   grind
theorem any_ok (hρ:Good ρ) (hcon:ConsOk ρ E) (hev:EvOk ρ E ev) (tr:Tr E ev sz ops.toList id0 Ts hss vs rs ws B) (hX:∀ i,id0≤i→¬ X i) (hn:id0+ops.toList.length≤(hss 0).n) (hO:Off X (hss ops.toList.length)) (hsz:sz≤sz0)
 {r:Option Nat} {Q:Exit→Act→World→Prop} (hQ:∀ a' w' F' μ',R ρ w' F' μ' E.P (hss ops.toList.length)→TRel ρ w' F' μ' (Ts ops.toList.length) a'.tmps→a'.tmps.size=sz0→Marks N w' a'.defers →
   FrG w0 F0 μ0 G0 w' F' μ' (hss ops.toList.length).H.get→Q .normal a' w'):∀ (fuel:Nat) (listed:Array Bool) (a:Act) (w:World),listed.size=ops.size→listed.toList.count false≤fuel →
   (∃ F μ,Inv ρ E ops Ts hss B X N w0 F0 μ0 G0 sz0 (fun i=>listed.getD i false=true) a w F μ)→wpAnyIn (Wr r) 0 E.P .any ops Q fuel listed a w:=by
 have hcK:ConKept E:=hcon.kept
 have hfin:∀ (listed:Array Bool) (a:Act) (w:World),listed.size=ops.size→(∃ F μ,Inv ρ E ops Ts hss B X N w0 F0 μ0 G0 sz0 (fun i=>listed.getD i false=true) a w F μ) →
  Region.ready .any ops listed=[]→Q .normal a w:=by
  rintro listed a w hl ⟨F,μ,inv⟩ hr
  have hall:=all_done tr hl hr
  have rg:=inv.rg
  have fr:=inv.fr
  have e:Gk hss (fun i=>listed.getD i false=true) ops.toList.length=(hss ops.toList.length).H.get:=by
   grind [id,Gk_at]
  rw[e]at rg fr
  refine hQ a w F μ (rg.toR fun id o h=>.inr h) (fun t v hv=>?_) inv.size inv.marks fr
  refine inv.tmp t ops.toList.length v (Nat.le_refl _) (fun i o hi _ _=>hall i hi) (fun i o hi ho _ _=>?_) hv
  grind
 intro fuel
 induction fuel with
 | zero =>
   intro listed a w hl hc hinv
   have hnone:Region.ready .any ops listed=[]:=by
    refine List.eq_nil_iff_forall_not_mem.2 fun i hi=>?_
    obtain⟨h1,_⟩:=mem_ready.1 hi
    have hlt:i<listed.size:=Nat.lt_of_not_le fun h=>by simp[h]at h1
    have hm:false∈listed.toList:=by
     have h2:listed[i]=false:=by simpa [hlt]using h1
     grind
    grind
   exact⟨hnone,hfin listed a w hl hinv hnone⟩
 | succ fuel ih =>
   rintro listed a w hl hc ⟨F,μ,inv⟩
   refine⟨fun hr=>hfin listed a w hl ⟨F,μ,inv⟩ hr,fun j hj=>?_⟩
   obtain⟨h1,o,ho,hall⟩:=mem_ready.1 hj
   have hlt:j<listed.size:=Nat.lt_of_not_le fun h=>by simp[h]at h1
   have hfalse:listed.getD j false=false:=by simpa [hlt]using h1
   have ho':ops.toList[j]?=some o:=by simpa using ho
   have hjn:j<ops.toList.length:=(List.getElem?_eq_some_iff.1 ho').1
   refine inv.step hρ hcon hev tr hX hn hO hsz hjn (by rw[hfalse];simp) (fun i hb=>?_) ?_
   · obtain⟨e,he,hbe,h⟩:=tr.bef j i o ho' hb
     have h2:=hall e (by simpa using he) hbe
     rcases h with rfl|h
     · exact h2
     · exact inv.down i e.on h2 h
   · intro a' w' F' μ' inv'
     have eS:(fun i=>listed.getD i false=true∨i=j)=fun i=>(listed.setIfInBounds j true).getD i false=true:=by
      funext i
      by_cases e:i=j
      · simp_all
      · rw[getD_set_ne false (Ne.symm e)];simp[e]
     refine ih _ a' w' (by simpa using hl) ?_ ⟨F',μ',eS ▸ inv'⟩
     have h3:listed.toList[j]?=some false:=by
      simp_all
     grind
theorem draw_ok(hρ:Good ρ)(hcon:ConsOk ρ E)(hev:EvOk ρ E ev)(hP:E.P.follows .mixedOrders=true){r:Option Nat}{T T':PT V}{hs hs':HS}{w:World}{F:Nat→Prop}{μ:Nat→Nat→Option MI}{a:Act}{id:Nat}{Q:Exit→Act→World→Prop}
 (h:drawJ E ev sz ops.toList T hs=some (T',hs')) (hR:R ρ w F μ E.P hs) (hD:Dom X μ hs) (hO:Off X hs') (hT:TRel ρ w F μ T a.tmps) (hsz:sz≤a.tmps.size) (hM:Marks N w a.defers)
 (hQ:∀ a' w' F' μ',R ρ w' F' μ' E.P hs'→TRel ρ w' F' μ' T' a'.tmps→a'.tmps.size=a.tmps.size→Marks N w' a'.defers→Fr w F μ hs w' F' μ' hs'→Q .normal a' w'):(Code.region id ops true).wpIn (Wr r) 0 E.P Q a w:=by
 obtain⟨Ts,hss,vs,rs,ws,B,tr,e1,e2,e3,e4⟩:=drawJ_trace h
 have hcK:ConKept E:=hcon.kept
 refine wpIn_region_any hP ?_
 have hR1:R ρ { w with drawn:=w.drawn+1 } F μ E.P hs:=hR.grow (Nat.le_refl _) (fun _ _=>rfl)
 have hfr:FrG w F μ hs.H.get { w with drawn:=w.drawn+1 } F μ hs.H.get :=
  ⟨⟨rfl,rfl,rfl⟩,Nat.le_refl _,fun _ _ _=>rfl,fun _ h=>h,fun _ h=>.inl h,fun _ _ _ h=>h,fun _ h=>.inl h,fun _ h=>h,fun _ _ _=>rfl,fun _ _ h=>h,fun id g m h=>.inr ⟨id,g,m,h,rfl⟩⟩
 have hst:Gk hss (fun i=>(Array.replicate ops.size false).getD i false=true) ops.toList.length=hs.H.get:=by
  have:(fun i=>(Array.replicate ops.size false).getD i false=true)=fun _=>False:=by
   funext i
   by_cases h:i<ops.size<;>simp[h]
  rw[this]
  funext id
  rw[Gk_skip (j:=0) (Nat.zero_le _) fun _ _ _ _ h=>h]
  show (hss 0).H.get id=_
  rw[e2]
 have hnot:∀ i,¬ (Array.replicate ops.size false).getD i false=true:=by
  intro i
  by_cases h:i<ops.size<;>simp[h]
 refine any_ok (N:=N) (w0:=w) (F0:=F) (μ0:=μ) (G0:=hs.H.get) (sz0:=a.tmps.size) hρ hcon hev tr hD.2 (by rw[e2];exact Nat.le_refl _) (by rw[e4];exact hO) hsz ?_ ops.size _ a _ (by simp) (by simp) ⟨F,μ,?_⟩
 · intro a' w' F' μ' g1 g2 g3 g4 g5
   rw[e4]at g1 g5
   rw[e3]at g2
   exact hQ a' w' F' μ' g1 g2 g3 g4 g5.toFr
 · refine⟨fun i k hk=>absurd hk (hnot k),by rw[hst];exact hR1.toG,by rw[hst];exact hfr,fun id g hg=>by rw[hst];exact hD.1 id g hg,?_,rfl,hM⟩
   intro t k v hk h1 h2 hv
   have hs0:=tr.tmp_same (m:=0) (k:=k) (Nat.zero_le _) hk (t:=t) (fun i o _ hi ho hd=>absurd (h1 i o hi ho hd) (hnot i))
   rw[hs0,e1]at hv
   obtain⟨x,hx,hr⟩:=hT t v hv
   exact⟨x,hx,hr.mono ρ (fun _ h=>h) (fun _ _=>rfl) (fun _ _ _ h=>h)⟩
end
end Go.J
/- Code,as the evaluator runs it. -/
namespace Go.J
section
variable {ρ:Nat→Value}{E:Env}{ev:Ev}{T T':PT V}{hs hs':HS}
theorem seq_then{rd:Bool}{sz:Nat}{b:Code}{q:Ex×PT V×HS}{ex:Ex}(h:seqJ ev rd sz b q=some (ex,T',hs')) :
 (q.1=.normal∧ev.code rd sz b q.2.1 q.2.2=some (ex,T',hs'))∨(q.1≠.normal∧q=(ex,T',hs')):=by
 unfold seqJ at h
 grind
theorem then_of{e:Ex}{K:Act→World→Prop}{Q:Exit→Act→World→Prop}{a:Act}{w:World}(hne:e≠.normal)(h:Q (exOf e) a w):Exit.then K Q (exOf e) a w:=by
 cases e with
 |normal=>exact absurd rfl hne
 |ret=>exact h
 |exit id=>exact h
theorem enter_loop {w:World} {F:Nat→Prop} {μ:Nat→Nat→Option MI} {P:Program} {X:Nat→Prop} (hR:R ρ w F μ P hs) (hD:Dom X μ hs) (hvac:hs.H.get hs.n=none) {sz:Nat} {tmps:Array Value} (hT:TRel ρ w F μ T tmps) (hsz:sz≤tmps.size)
 (fn:FuncId) (ps:Array Tmp) (assign body:Code):∃ l w1 μ',(Instr.enterLoop fn tmps ps assign body none).run P w=.ok (l,[{ target:=.collected w.heap.size,args:=#[] }]) w1 ∧
   R ρ w1 F μ' P (HS.put { H:=hs.H,n:=hs.n+1,log:=hs.log } hs.n (.lp sz T ps.toList assign body 0))∧Fr w F μ hs w1 F μ' (HS.put { H:=hs.H,n:=hs.n+1,log:=hs.log } hs.n (.lp sz T ps.toList assign body 0)) ∧
   (∃ m,μ' hs.n 0=some m∧m.b=l)∧w1.heap[w.heap.size]?=some (.deferred (some [])):=by
 let L:Loop:={ state:=.ready,pending:=none,fn:=fn,tmps:=tmps,params:=ps,assign:=assign,body:=body,defers:=w.heap.size }
 let w1:World:=wpush w (.deferred (some []))
 let w2:World:=wpush w1 (.loop L)
 have hrun:(Instr.enterLoop fn tmps ps assign body none).run P w=.ok (w1.heap.size,[{ target:=.collected w.heap.size,args:=#[] }]) w2:=by
  simp[Instr.enterLoop];exact⟨(wpush_size ..).symm,rfl⟩
 have hs1:w1.heap.size=w.heap.size+1:=wpush_size ..
 have hs2:w2.heap.size=w1.heap.size+1:=wpush_size ..
 have hold:∀ b,b<w.heap.size→w2.heap[b]?=w.heap[b]?:=fun b hb=>by
  rw[wpush_old w1 _ (by omega),wpush_old w _ hb]
 let m:MI:={ b:=w1.heap.size,size:=0,total:=0 }
 obtain⟨k1,k2⟩:=hR.alloc (w':=w2) (hs':=HS.put { H:=hs.H,n:=hs.n+1,log:=hs.log } hs.n (.lp sz T ps.toList assign body 0)) hvac (hD.free (hD.2 _ (Nat.le_refl _)) hvac).2 (o:=.lp sz T ps.toList assign body 0) rfl rfl (m:=m)
  (show w.heap.size≤w1.heap.size by omega) (show w1.heap.size<w2.heap.size by omega) hold (fun k=>put_get ..) (by
    intro m' hm'
    have e:m'=m:=by rw[upd_same]at hm';exact(Option.some.inj hm').symm
    subst e
    refine⟨⟨L,wpush_new ..,⟨rfl,rfl⟩,rfl,rfl,rfl,fun t v hv=>?_,hsz⟩,fun hF=>?_⟩
    · obtain⟨x,hx,hr⟩:=hT t v hv
      refine⟨x,hx,hr.mono ρ (fun _ h=>h) (fun b hb=>hold b (hR.flt b hb)) (fun i g m' hm=>?_)⟩
      rw[upd_other];exact hm
      rintro ⟨rfl,rfl⟩
      rw[(hD.free (hD.2 _ (Nat.le_refl _)) hvac).2]at hm;cases hm
    · have:=hR.flt _ hF
      have e:m.b=w1.heap.size:=rfl
      omega)
 exact⟨_,w2,_,hrun,k1,k2,⟨m,upd_same ..,rfl⟩,by rw[wpush_old w1 _ (by omega)];exact wpush_new ..⟩
theorem run_endLoop{P:Program}{w:World}{l:Nat}{r:Loop}(h:w.heap[l]?=some (.loop r))(hs:r.state=.ready∨r.state=.done){pd:Option Code}(hp:r.pending=pd) :
 (Instr.endLoop l).run P w=.ok pd { w with heap:=w.heap.setIfInBounds l (.loop { r with state:=.exhausted,pending:=pd }) }:=by
 subst hp
 rcases hs with hs|hs<;>simp[Instr.endLoop,run_getLoop h,run_setObj h (fun _ _ _ h=>by cases h),hs]
def pdOf:Ex→Option Code
 |.normal=>none
 |.ret=>some .ret
 |.exit i=>some (.exit i)
theorem noEx_state{st:Nat}{ex:Ex}{l:Loop}(h:noEx st=some ex)(hl:LSt st l):(l.state=.ready∨l.state=.done)∧l.pending=pdOf ex:=by
 match st,h,hl with
 | 0,h,hl=>cases h;exact⟨.inl hl.1,hl.2⟩
 | 1,h,_=>cases h
 | 2,h,hl=>cases h;exact⟨.inr hl.1,hl.2⟩
 |i+3,h,hl=>cases h;exact⟨.inr hl.1,hl.2⟩
theorem rangeJ_ok (hev:EvOk ρ E ev) {sz:Nat} {g:Operand} {ps:Array Tmp} {assign body:Code} {ex:Ex} (h:(ob (evalO T g) fun v=>rangeJ ev sz ps assign body T hs v)=some (ex,T',hs')) :
 CodeOk ρ E.P false sz (.rangeFunc g ps assign body) T hs ex T' hs':=by
 intro N X r w F μ a Q hr hR hD hO hT hsz hM hQ
 obtain rfl:=hr.1 rfl
 have hpl:=hr.2
 simp only[ob_eq]at h
 obtain⟨v,hv,h⟩:=h
 simp only[rangeJ,ob_eq,gd_eq,vacant_eq,lp?_eq]at h
 obtain⟨gf,hgf,hvac,⟨v1,hs1⟩,hq,o,ho,l,rfl,ex1,hb,h⟩:=h
 cases h
 dsimp only at ho hO hQ
 have hgr:=evalO_rep (a:=a) hT hv
 have hfn:=hev.body hq
 obtain⟨f,caps⟩:=gf
 dsimp only at hq hfn
 have ev1:v=.func f caps:=by
  unfold funcOf at hgf
  grind
 subst ev1
 obtain⟨ys,hy,hys,hcap⟩:=hgr.func_inv
 refine wpIn_rangeFunc fun fn _=>?_
 obtain⟨lp,w1,μ1,hrun,hR1,hf1,⟨m,hm,rfl⟩,hdef⟩:=enter_loop hR hD hvac hT hsz fn ps assign body
 refine⟨m.b,_,w1,{ target:=.fn (.func f) ys,args:=#[.func (.yield m.b) #[] #[]] },w1,f,#[.func (.yield m.b) #[] #[]]++ys,w1,hrun,?_,fun _ _=>trivial,?_,(fun h=>by cases h),?_⟩
 · simp[resolve,rangeCall,hy,Deferred.ofValue,show ∀ v,a.eval (.const v)=v from fun _=>rfl]
 · simp[invoke,run_callFunc hfn]
 · have hk0:Kept hs (HS.put { H:=hs.H,n:=hs.n+1,log:=hs.log } hs.n (.lp sz T ps.toList assign body 0)):=by
    have:=put_kept (hs:={ H:=hs.H,n:=hs.n+1,log:=hs.log }) (.lp sz T ps.toList assign body 0) hvac
    exact⟨this.log,this.obj,Nat.le_succ _,this.hm⟩
   have hO1:Off X hs1:=(wr_kept ..).off hO
   have hA:Args ρ w1 F μ1 (.yld hs.n::caps) (#[.func (.yield m.b) #[] #[]]++ys):=by
    refine⟨by simp[hys];omega,fun i u hi=>?_⟩
    cases i with
    |zero=>cases hi;exact⟨_,by rw[Array.getElem?_append_left (by simp)];rfl,.yld _ m hm⟩
    | succ i =>
      have hi':caps[i]?=some u:=by simpa using hi
      have hlt:i<ys.size:=by
       grind
      have h2:=hf1.rep hR (hcap i u hi')
      rw[Array.getD_eq_getD_getElem?,Array.getElem?_eq_getElem hlt]at h2
      grind
   refine callsIn_wr ((hev.call hq X w1 F μ1 _ hR1 (hf1.dom hk0.le hD) hO1 hA).mono fun e w3 he=>?_)
   cases e with
   |panicked c=>exact he.elim
   |outgrown=>exact he.elim
   | returned y =>
     obtain⟨F3,μ3,hR3,_,hf3⟩:=he
     have hm3:=hf3.mm _ _ _ hm
     obtain⟨⟨lw,g0,g1,_⟩,_⟩:=hR3.obj _ _ ho m hm3
     obtain⟨g2,g3⟩:=noEx_state hb g1
     obtain⟨hR4,hf4⟩:=loop_write hR3 hm3 (b':=1) ho g0 (st:=.exhausted) (pd:=pdOf ex) trivial
     have hfr:=(hf1.trans hf3).trans hf4
     refine⟨pdOf ex,_,run_endLoop g0 g2 g3,?_⟩
     suffices hfin:Q (exOf ex) { a with defers:=[{ target:=.collected w.heap.size,args:=#[] }]++a.defers } { w3 with heap:=w3.heap.setIfInBounds m.b (.loop { lw with state:=.exhausted,pending:=pdOf ex }) } by
      cases ex with
      |normal=>exact hfin
      |ret=>exact wpIn_ret hfin
      |exit i=>exact wpIn_exit hfin
     refine hQ _ _ F3 μ3 hR4 (hfr.trelT hR hT) rfl ?_ hfr
     obtain⟨hN,rs,⟨r1,_⟩,r2,r3⟩:=hM
     have hfr1:=hf3.trans hf4
     have hlt1:w.heap.size<w1.heap.size:=(Array.getElem?_eq_some_iff.1 hdef).1
     refine⟨Nat.le_trans hN hfr.size,w.heap.size::rs,⟨?_,fun h=>by rw[hpl]at h;cases h⟩,?_,?_⟩
     · grind
     · simp[r2]
     · intro r hr
       rcases List.mem_cons.1 hr with rfl|hr
       · refine⟨hN,?_⟩
         rw[hfr1.keep _ hlt1 (hR1.deferred hdef)];exact hdef
       · refine⟨(r3 r hr).1,?_⟩
         have h4:=(r3 r hr).2
         rw[hfr.keep r (Array.getElem?_eq_some_iff.1 h4).1 (hR.deferred h4)];exact h4
end
end Go.J
/- Bodies of functions;and the evaluator at every depth. -/
namespace Go.J
section
variable {ρ:Nat→Value}{P:Program}{w w':World}{F:Nat→Prop}{μ:Nat→Nat→Option MI}{hs hs':HS}{T T':PT V}
def undefer(w:World)(r:Nat):World:={ w with heap:=w.heap.setIfInBounds r (.deferred none) }
theorem undefer_cell{r:Nat}{ds:Option (List Deferred)}(h:w.heap[r]?=some (.deferred ds))(b o:Nat):(undefer w r).cell? ⟨b,o,none⟩=w.cell? ⟨b,o,none⟩:=by
 have hlt:=(Array.getElem?_eq_some_iff.1 h).1
 by_cases e:b=r
 · subst e
   have e2:(undefer w b).heap[b]?=some (.deferred none):=by simp[undefer,hlt]
   simp only[World.cell?,e2,h]
 · simp[World.cell?,undefer,Ne.symm e]
theorem undefer_other{r b:Nat}(h:b≠r):(undefer w r).heap[b]?=w.heap[b]?:=by
 grind [undefer]
theorem PRep.cells{F:Nat→Prop}{v:V}{x:Value}(h:PRep ρ w F v x)(hw:∀ b o,w'.cell? ⟨b,o,none⟩=w.cell? ⟨b,o,none⟩):PRep ρ w' F v x:=by
 induction h with
 |bool b=>exact .bool b
 |int k n=>exact .int k n
 |str s=>exact .str s
 |nilptr=>exact .nilptr
 |snil=>exact .snil
 |nilmap=>exact .nilmap
 |nilFunc=>exact .nilFunc
 |nilIface=>exact .nilIface
 |sym k=>exact .sym k
 |func f=>exact .func f
 |iface t v y _ ih=>exact .iface t v y ih
 |ref cs b off ys hb hc _ ih=>exact .ref cs b off ys hb (fun i v hi=>by rw[hw];exact hc i v hi) ih
 |slE a c t h=>exact .slE a c t h
 |slC es b off size c t ys hb hl hc _ h1 h2 ih=>exact .slC es b off size c t ys hb hl (fun i e j v hi hj=>by rw[hw];exact hc i e j v hi hj) ih h1 h2
 |agg cs ys hs _ ih=>exact .agg cs ys hs ih
 |tuple cs ys hs _ ih=>exact .tuple cs ys hs ih
theorem Rep.cells{v:V}{x:Value}(h:Rep ρ w F μ v x)(hw:∀ b o,w'.cell? ⟨b,o,none⟩=w.cell? ⟨b,o,none⟩):Rep ρ w' F μ v x:=by
 induction h with
 |pure hp=>exact .pure (hp.cells hw)
 |ptr id g off m hm=>exact .ptr id g off m hm
 |own id g off len cap c m hm h1 h2 h3 h4=>exact .own id g off len cap c m hm h1 h2 h3 h4
 |map id m hm=>exact .map id m hm
 |yld id m hm=>exact .yld id m hm
 |func f cs ys hs _ ih=>exact .func f cs ys hs ih
 |iface t v y _ ih=>exact .iface t v y ih
 |agg cs ys hs _ ih=>exact .agg cs ys hs ih
 |tuple cs ys hs _ ih=>exact .tuple cs ys hs ih
theorem R.unmark(hR:R ρ w F μ P hs){r:Nat}{ds:Option (List Deferred)}(h:w.heap[r]?=some (.deferred ds)):R ρ (undefer w r) F μ P hs:=by
 have hc:=undefer_cell h
 have hsz:(undefer w r).heap.size=w.heap.size:=by simp[undefer]
 refine⟨fun id g m hm=>by rw[hsz];exact hR.lt id g m hm,fun b hb=>by rw[hsz];exact hR.flt b hb,fun id o ho=>?_,hR.inj,hR.gens,fun v hv=>⟨(hR.gl v hv).1,(hc v 0).trans (hR.gl v hv).2⟩⟩
 have hobj:=hR.obj id o ho
 cases o with
 | arr size gen es exact fz row =>
   intro m hm
   obtain⟨h1,h2,⟨cells,el,hcl,ht,hl,he,hall⟩,h4,h5⟩:=hobj m hm
   have hne:m.b≠r:=fun e=>by rw[e,h]at hcl;cases hcl
   refine⟨h1,h2,⟨cells,el,(undefer_other hne).trans hcl,ht,hl,he,fun k e j v hk hj=>?_⟩,h4,h5⟩
   obtain⟨y,hy,hr,hp⟩:=hall k e j v hk hj
   exact⟨y,hy,hr.cells hc,fun hr=>(hp hr).cells hc⟩
 | mp es =>
   intro m hm
   obtain⟨⟨en,clock,he,hs,hall⟩,h5⟩:=hobj m hm
   have hne:m.b≠r:=fun e=>by rw[e,h]at he;cases he
   refine⟨⟨en,clock,(undefer_other hne).trans he,hs,fun i k v hi=>?_⟩,h5⟩
   obtain⟨e,h1,h2,h3⟩:=hall i k v hi
   exact⟨e,h1,h2.cells hc,h3.cells hc⟩
 | lp fn T ps assign body busy =>
   intro m hm
   obtain⟨⟨l,hl,h1,h4,h5,h6,h7,h8⟩,hnn⟩:=hobj m hm
   have hne:m.b≠r:=fun e=>by rw[e,h]at hl;cases hl
   refine⟨⟨l,(undefer_other hne).trans hl,h1,h4,h5,h6,fun t v hv=>?_,h8⟩,hnn⟩
   obtain⟨x,hx,hr⟩:=h7 t v hv
   exact⟨x,hx,hr.cells hc⟩
theorem run_takeDeferred{r:Nat}(h:w.heap[r]?=some (.deferred (some []))):(Instr.takeDeferred r).run P w=.ok [] (undefer w r):=by
 simp[Instr.takeDeferred,run_getObj h (fun _ _ _ h=>by cases h),run_setObj h (fun _ _ _ h=>by cases h),undefer]
theorem leaves_ok{w0:World}{F0:Nat→Prop}{μ0:Nat→Nat→Option MI}{hs0:HS}{fn:Func}{tm:Array Value}{Rp:Ending→World→Prop}{N:Nat}(hN:w0.heap.size≤N)
 (hfin:∀ w,R ρ w F μ P hs→TRel ρ w F μ T tm→Fr w0 F0 μ0 hs0 w F μ hs→∃ v,(results fn tm).run P w=.ok v w∧Rp (.returned v) w):∀ (rs:List Nat) (w:World),R ρ w F μ P hs→TRel ρ w F μ T tm→Fr w0 F0 μ0 hs0 w F μ hs→rs.Nodup →
 (∀ r∈rs,N≤r∧w.heap[r]?=some (.deferred (some [])))→LeavesInM (Wr none) 0 P fn tm Rp (rs.map (fun r=>{ target:=.collected r,args:=#[] })) .returning w:=by
 intro rs
 induction rs with
 |nil=>intro w hR hT hf _ _;exact hfin w hR hT hf
 | cons r rs ih =>
   intro w hR hT hf hnd hall
   have hr:=hall r (List.mem_cons_self ..)
   refine⟨by simp,.inl ⟨r,undefer w r,rfl,run_takeDeferred hr.2,?_⟩⟩
   have hnd':=List.nodup_cons.1 hnd
   refine ih _ (hR.unmark hr.2) (fun t v hv=>?_) ?_ hnd'.2 (fun s hs=>⟨(hall s (List.mem_cons_of_mem _ hs)).1,?_⟩)
   · obtain⟨x,hx,h⟩:=hT t v hv
     exact⟨x,hx,h.cells (undefer_cell hr.2)⟩
   · refine⟨hf.io,by simpa [undefer]using hf.size,fun b hb hn=>?_,hf.fm,hf.fnew,hf.mm,hf.own,hf.hm,hf.sm,hf.dm,hf.mn⟩
     rw[undefer_other (by have:=hr.1;omega)];exact hf.keep b hb hn
   grind [undefer_other,List.mem_cons_of_mem]
theorem load_var(hR:R ρ w F μ P hs){t:TypeId}{i:TI}(hi:ti P t=some i){p v:V}{x:Value}(hx:Rep ρ w F μ p x)(h:loadJ i hs p=some v) :
 ∃ A y,x=.pointer (some A)∧(loadVar t A).run P w=.ok y w∧Rep ρ w F μ v y:=by
 obtain⟨y,h1,h2⟩:=load_ok hR hi hx h
 have hp:∃ A,x=.pointer (some A):=by
  unfold loadJ at h
  split at h
  · obtain⟨m,_,rfl⟩:=hx.ptr_inv;exact⟨_,rfl⟩
  · have hx:=hx.ref_inv
    cases hx;exact⟨_,rfl⟩
  · cases h
 obtain⟨A,rfl⟩:=hp
 exact⟨A,y,rfl,by simpa [Instr.loadAt,Instr.sureAddr]using h1,h2⟩
theorem resJ_ok (hR:R ρ w F μ P hs) {tm:Array Value} (hT:TRel ρ w F μ T tm):∀ {l:List ResultVar} {vs:List V},resJ P T hs l=some vs →
 ∃ xs:List Value,(l.mapM (fun x:ResultVar=>match x with
   |.tmp t=>(pure (tm.getD t undef):Sem Value)
   |.cell a t=>do loadVar t (← asAddr (tm.getD a undef)))).run P w=.ok xs w∧xs.length=vs.length∧∀ (i:Nat) (v:V),vs[i]?=some v→∃ x,xs[i]?=some x∧Rep ρ w F μ v x:=by
 intro l
 induction l with
 |nil=>intro vs h;cases h;exact⟨[],rfl,rfl,fun i v hi=>by simp at hi⟩
 | cons x l ih =>
   intro vs h
   replace h:(ob (match x with
    |.tmp t=>T.get t
    |.cell a t=>ob (ti P t) fun i=>ob (T.get a) fun p=>loadJ i hs p) fun v=>ob (resJ P T hs l) fun r=>some (v::r))=some vs:=h
   simp only[ob_eq]at h
   obtain⟨v,hv,r,hr,h⟩:=h
   cases h
   obtain⟨xs,h1,h2,h3⟩:=ih hr
   have hone:∃ y,(match x with
    |.tmp t=>(pure (tm.getD t undef):Sem Value)
    |.cell a t=>do loadVar t (← asAddr (tm.getD a undef))).run P w=.ok y w∧Rep ρ w F μ v y:=by
    cases x with
    | tmp t =>
      obtain⟨y,hy,hr⟩:=hT t v hv
      simp_all
    | cell a t =>
      simp only[ob_eq]at hv
      obtain⟨i,hi,p,hp,hl⟩:=hv
      obtain⟨y,hy,hr⟩:=hT a p hp
      obtain⟨A,z,rfl,hz,hrz⟩:=load_var hR hi hr hl
      refine⟨z,?_,hrz⟩
      simp[hy,asAddr,hz]
   obtain⟨y,hy,hyr⟩:=hone
   refine⟨y::xs,?_,by simp[h2],fun i u hi=>?_⟩
   · simp_all
   grind
theorem tuple_rep{vs:List V}{xs:Array Value}(hlen:xs.size=vs.length)(h:∀ (i:Nat) (v:V),vs[i]?=some v→∃ x,xs[i]?=some x∧Rep ρ w F μ v x) :
 Rep ρ w F μ (tupleJ vs) (if h:xs.size=1 then xs[0]else .tuple xs):=by
 match vs with
 | [] =>
   rw[dif_neg (by rw[hlen];simp)]
   exact .tuple [] xs hlen fun i v hi=>by simp at hi
 | [v] =>
   have hlen1:xs.size=1:=hlen
   rw[dif_pos hlen1]
   obtain⟨x,hx,hr⟩:=h 0 v rfl
   rw[Array.getElem?_eq_getElem (by rw[hlen];simp)]at hx
   cases hx;exact hr
 | v::u::t =>
   rw[dif_neg (by rw[hlen];simp)]
   refine .tuple (v::u::t) xs hlen fun i y hi=>?_
   obtain⟨x,hx,hr⟩:=h i y hi
   simp_all
theorem enterJ_ok {n:Nat}:∀ {vs:List V} {i:Nat} {T T':PT V} {tm:Array Value},enterJ n vs i T=some T'→TRel ρ w F μ T tm→(∀ (k:Nat) (v:V),vs[k]?=some v→∃ x,tm[i+k]?=some x∧Rep ρ w F μ v x)→TRel ρ w F μ T' tm:=by
 intro vs
 induction vs with
 |nil=>intro i T T' tm h hT _;cases h;exact hT
 | cons v vs ih =>
   intro i T T' tm h hT hx
   replace h:gd (Nat.blt i n) (enterJ n vs (i+1) (T.set i v))=some T':=h
   simp only[gd_eq]at h
   refine ih h.2 (fun t u hu=>?_) (fun k u hk=>?_)
   · rw[PT.set_get]at hu
     by_cases e:t=i
     · subst e
       rw[if_pos rfl]at hu;cases hu
       exact hx 0 v rfl
     · rw[if_neg e]at hu;exact hT t u hu
   · have:=hx (k+1) u (by simpa using hk)
     rwa [show i+(k+1)=i+1+k by omega]at this
theorem bodyJ_ok{E:Env}{ev:Ev}(hev:EvOk ρ E ev){f:FuncId}{vs:List V}{v:V}(h:bodyJ E ev f vs hs=some (v,hs')):CallOk ρ E.P f vs hs v hs':=by
 simp only[bodyJ,ob_eq]at h
 obtain⟨fn,hf,c,hb,T,hT,⟨ex,T1,hs1⟩,hq,h⟩:=h
 intro X w F μ xs hR hD hO hA
 have hsh:∃ l,ex≠.exit 0∧(∀ i,ex≠.exit i)∧resJ E.P T1 hs1 fn.results.toList=some l∧v=tupleJ l∧hs'=hs1:=by
  grind [leaveJ,ob_eq]
 obtain⟨l,_,hne,hl,rfl,rfl⟩:=hsh
 refine callsIn_of_wp_marks hf hb trivial ?_
 have hsz:fn.ntmps≤(xs++Array.replicate (fn.ntmps-xs.size) undef).size:=by simp;omega
 have hT0:TRel ρ w F μ T (xs++Array.replicate (fn.ntmps-xs.size) undef):=by
  refine enterJ_ok hT (fun t u hu=>by cases hu) fun k u hk=>?_
  obtain⟨x,hx,hr⟩:=hA.2 k u hk
  grind
 refine hev.code hq ⟨w.heap.size,[],false⟩ X none w F μ _ _ ⟨fun _=>rfl,rfl⟩ hR hD hO hT0 hsz (Marks.nil (Nat.le_refl _)) ?_
 intro a' w' F' μ' hR' hT' _ hM hf'
 have hleave:LeavesInM (Wr none) 0 E.P fn a'.tmps (Back ρ E.P w F μ hs (tupleJ l) hs') a'.defers .returning w':=by
  obtain⟨hN,rs,⟨r1,_⟩,r2,r3⟩:=hM
  rw[r2,show ∀ l:List Deferred,l++(NB.mk w.heap.size [] false).base=l from List.append_nil]
  refine leaves_ok (Nat.le_refl _) (fun w2 hR2 hT2 hf2=>?_) rs w' hR' hT' hf' r1 r3
  obtain⟨ys,h1,h2,h3⟩:=resJ_ok hR2 hT2 hl
  refine⟨_,?_,F',μ',hR2,tuple_rep (xs:=ys.toArray) (by simpa using h2) (fun i u hi=>by simpa using h3 i u hi),hf2⟩
  unfold results
  rw[Sem.run_bind,Array.mapM_eq_mapM_toList]
  rw[Sem.run_map]
  exact Eq.trans (congrArg (fun z:Result (List Value)=>(z.andThen fun a w'=>Result.ok a.toArray w').andThen fun a w'=>Sem.run E.P (pure (if h:a.size=1 then a[0]else Value.tuple a)) w') h1) rfl
 cases ex with
 |normal=>exact hleave
 |ret=>exact hleave
 |exit i=>exact absurd rfl (hne i)
theorem codeJ_ok (hρ:Good ρ) {E:Env} (hcon:ConsOk ρ E) (hP:E.P.follows .mixedOrders=true) {n:Nat} (hall:∀ i,i≤n→EvOk ρ E (evJ E i)) {rd:Bool} {sz:Nat} {c:Code} {ex:Ex}
 (h:codeJ E (evJ E n) rd sz c T hs=some (ex,T',hs')):CodeOk ρ E.P rd sz c T hs ex T' hs':=by
 have hev:=hall n (Nat.le_refl _)
 have hkept:=hev.kept
 have h0:=h
 unfold codeJ at h
 split at h
 · cases h
   intro N X r w F μ a Q _ hR hD hO hT hsz hM hQ
   exact wpIn_skip (hQ a w F μ hR hT rfl hM (Fr.refl ..))
 · rename_i id ops draw
   intro N X r w F μ a Q _ hR hD hO hT hsz hM hQ
   simp only[regJ,ob_eq]at h
   obtain⟨q,hq,h⟩:=h
   cases h
   rw[bi_eq]at hq
   cases draw with
   |true=>exact draw_ok hρ hcon hev hP hq hR hD hO hT hsz hM hQ
   |false=>exact region_ok hρ hcon hev hq hR hD hO hT hsz hM hQ
 · rename_i x y
   intro N X r w F μ a Q hr hR hD hO hT hsz hM hQ
   simp only[ob_eq]at h
   obtain⟨⟨e1,T1,hs1⟩,hq,h⟩:=h
   refine wpIn_seq ?_
   rcases seq_then h with⟨e,h⟩|⟨hne,e⟩
   · dsimp only at e h
     subst e
     refine hev.code hq N X r w F μ a _ hr hR hD ((hkept.code h).off hO) hT hsz hM ?_
     intro a1 w1 F1 μ1 hR1 hT1 hsz1 hM1 hf1
     refine hev.code h N X r w1 F1 μ1 a1 _ hr hR1 (hf1.dom (hkept.code hq).le hD) hO hT1 (by rw[hsz1];exact hsz) hM1 ?_
     intro a2 w2 F2 μ2 hR2 hT2 hsz2 hM2 hf2
     exact hQ a2 w2 F2 μ2 hR2 hT2 (by rw[hsz2,hsz1]) hM2 (hf1.trans hf2)
   · cases e
     refine hev.code hq N X r w F μ a _ hr hR hD hO hT hsz hM ?_
     grind [then_of]
 · rename_i q x y
   intro N X r w F μ a Q hr hR hD hO hT hsz hM hQ
   simp only[ob_eq,V.bool?_eq]at h
   obtain⟨_,hv,t,rfl,h⟩:=h
   have he:=(evalO_rep (a:=a) hT hv).bool_inv
   refine wpIn_cond he ?_
   rw[bi_eq]at h
   cases t with
   |true=>exact hev.code h N X r w F μ a Q hr hR hD hO hT hsz hM hQ
   |false=>exact hev.code h N X r w F μ a Q hr hR hD hO hT hsz hM hQ
 · rename_i id body
   intro N X r w F μ a Q hr hR hD hO hT hsz hM hQ
   simp only[ob_eq]at h
   obtain⟨⟨e1,T1,hs1⟩,hq,h⟩:=h
   refine wpIn_block ?_
   unfold blockJ at h
   split at h
   · rename_i j he
     dsimp only at he
     subst he
     rw[bi_eq]at h
     split at h
     · rename_i hj
       rw[beq_true]at hj
       subst hj
       cases h
       refine hev.code hq N X r w F μ a _ hr hR hD hO hT hsz hM ?_
       intro a1 w1 F1 μ1 hR1 hT1 hsz1 hM1 hf1
       show (if j=j then Q .normal a1 w1 else Q (.exit j) a1 w1)
       rw[if_pos rfl]
       exact hQ a1 w1 F1 μ1 hR1 hT1 hsz1 hM1 hf1
     · rename_i hj
       rw[beq_true]at hj
       cases h
       refine hev.code hq N X r w F μ a _ hr hR hD hO hT hsz hM ?_
       intro a1 w1 F1 μ1 hR1 hT1 hsz1 hM1 hf1
       show (if j=id then Q .normal a1 w1 else Q (.exit j) a1 w1)
       rw[if_neg hj]
       exact hQ a1 w1 F1 μ1 hR1 hT1 hsz1 hM1 hf1
   · rename_i hne
     cases h
     refine hev.code hq N X r w F μ a _ hr hR hD hO hT hsz hM ?_
     intro a1 w1 F1 μ1 hR1 hT1 hsz1 hM1 hf1
     have:=hQ a1 w1 F1 μ1 hR1 hT1 hsz1 hM1 hf1
     cases ex with
     |normal=>exact this
     |ret=>exact this
     |exit j=>exact absurd rfl (hne j)
 · rename_i body
   intro N X r w F μ a Q hr hR hD hO hT hsz hM hQ
   refine wpIn_loopN (j:=n+1) (fun j a' w'=>j≤n+1∧∃ T1 hs1 F1 μ1,(evJ E j).code rd sz (.loop body) T1 hs1=some (ex,T',hs')∧R ρ w' F1 μ1 E.P hs1∧Dom X μ1 hs1∧TRel ρ w' F1 μ1 T1 a'.tmps∧a'.tmps.size=a.tmps.size∧Marks N w' a'.defers∧Fr w F μ hs w' F1 μ1 hs1)
    ?_ ⟨Nat.le_refl _,T,hs,F,μ,h0,hR,hD,hT,rfl,hM,Fr.refl ..⟩
   rintro j a1 w1 ⟨hj,T1,hs1,F1,μ1,hc,hR1,hD1,hT1,hsz1,hM1,hf1⟩
   cases j with
   |zero=>cases hc
   | succ i =>
     have hev1:=hall i (by omega)
     replace hc:(ob ((evJ E i).code rd sz body T1 hs1) fun r=>seqJ (evJ E i) rd sz (.loop body) r)=some (ex,T',hs'):=hc
     simp only[ob_eq]at hc
     obtain⟨⟨e2,T2,hs2⟩,hq,hc⟩:=hc
     rcases seq_then hc with⟨e,hc⟩|⟨hne,e⟩
     · dsimp only at e hc
       subst e
       refine hev1.code hq N X r w1 F1 μ1 a1 _ hr hR1 hD1 ((hev1.kept.code hc).off hO) hT1 (by rw[hsz1];exact hsz) hM1 ?_
       intro a2 w2 F2 μ2 hR2 hT2 hsz2 hM2 hf2
       exact⟨i,Nat.lt_succ_self i,by omega,T2,hs2,F2,μ2,hc,hR2,hf2.dom (hev1.kept.code hq).le hD1,hT2,by rw[hsz2,hsz1],hM2,hf1.trans hf2⟩
     · cases e
       refine hev1.code hq N X r w1 F1 μ1 a1 _ hr hR1 hD1 hO hT1 (by rw[hsz1];exact hsz) hM1 ?_
       intro a2 w2 F2 μ2 hR2 hT2 hsz2 hM2 hf2
       exact then_of hne (hQ a2 w2 F2 μ2 hR2 hT2 (by rw[hsz2,hsz1]) hM2 (hf1.trans hf2))
 · cases h
   intro N X r w F μ a Q _ hR hD hO hT hsz hM hQ
   exact wpIn_exit (hQ a w F μ hR hT rfl hM (Fr.refl ..))
 · cases h
   intro N X r w F μ a Q _ hR hD hO hT hsz hM hQ
   exact wpIn_ret (hQ a w F μ hR hT rfl hM (Fr.refl ..))
 · rename_i g ps assign body
   grind [gd_eq,nt_true,rangeJ_ok]
 · cases h
def Named (P : Program) : Prop := ∀ (f : Nat) (fn : Func), P.funcs[f]? = some fn → fn.body.isSome = true → fn.name ≠ "runtime.NumGoroutine"
theorem evJ_ok(hρ:Good ρ){E:Env}(hcon:ConsOk ρ E)(hP:E.P.follows .mixedOrders=true)(hN:Named E.P):∀ n,EvOk ρ E (evJ E n):=by
 intro n
 induction n using Nat.strongRecOn with
 | _ n ih =>
   cases n with
   |zero=>exact⟨fun h=>(by cases h),fun h=>(by cases h),fun h=>(by cases h),evJ_kept hcon.kept 0⟩
   | succ n =>
     refine⟨fun h=>codeJ_ok hρ hcon hP (fun i hi=>ih i (by omega)) h,fun h=>bodyJ_ok (ih n (by omega)) h,fun h=>?_,evJ_kept hcon.kept (n+1)⟩
     replace h:bodyJ E (evJ E n) _ _ _=some _:=h
     simp only[bodyJ,ob_eq]at h
     obtain⟨fn,hf,c,hb,_⟩:=h
     exact⟨fn,hf,by rw[hb];rfl,hN _ _ hf (by rw[hb];rfl)⟩
end
end Go.J
/- Calls with values that hold no numbers: what the evaluator says of them. -/
namespace Go.J
section
variable {ρ:Nat→Value}{P:Program}
def Val(ρ:Nat→Value)(w:World)(v:V)(x:Value):Prop:=PRep ρ w (fun b=>b<w.heap.size) v x
theorem run_calls(hρ:Good ρ){E:Env}(hcon:ConsOk ρ E)(hP:E.P.follows .mixedOrders=true)(hN:Named E.P){n:Nat}{f:FuncId}{vs:List V}{v:V}(h:runJ E n f vs=some v){w:World}{xs:Array Value}
 (hlen:xs.size=vs.length) (hA:∀ (i:Nat) (v:V),vs[i]?=some v→∃ x,xs[i]?=some x∧Val ρ w v x)
 (hg:Gl ρ w (fun b=>b<w.heap.size):=by exact fun v hv=>absurd rfl hv) :
 Calls E.P f xs w fun e w'=>∃ x,e=.returned x∧Val ρ w' v x∧RowKit.Below w.heap.size w w':=by
 have hev:=evJ_ok hρ hcon hP hN n
 simp only[runJ,ob_eq]at h
 obtain⟨⟨v1,hs1⟩,h1,h2⟩:=h
 refine callsIn_wide.1 (CallsIn.mono (n:=0) (hev.call h1 _ w (fun b=>b<w.heap.size) (fun _ _=>none) xs (R.empty (fun _ h=>h) hg) Dom.empty (Off.no _) ⟨hlen,fun i u hi=>?_⟩) fun e w' he=>?_)
 · obtain⟨x,hx,hr⟩:=hA i u hi
   exact⟨x,hx,.pure hr⟩
 · cases e with
   | returned x =>
     obtain⟨F1,μ1,g1,g2,g3⟩:=he
     refine⟨x,rfl,?_,⟨g3.io.1,g3.io.2.1,g3.io.2.2,g3.size,fun b hb=>g3.keep b hb (owned_empty b _)⟩⟩
     exact still_all g1 g2 h2 g1.flt fun id g m hm=>g1.lt _ _ _ hm
   |panicked c=>exact he.elim
   |outgrown=>exact he.elim
theorem pure_callOk(hρ:Good ρ){E:Env}(hcon:ConsOk ρ E)(hP:E.P.follows .mixedOrders=true)(hN:Named E.P){n:Nat}{f:FuncId}{vs:List V}{v:V}{hs:HS}(h:runJ E n f vs=some v)(hp:allPure vs=true) :
 CallOk ρ E.P f vs hs v hs:=by
 refine callPure_ok (ev:=evJ E n) hp (fun h=>(evJ_ok hρ hcon hP hN n).call h) ?_
 grind [runJ,ob_eq,callPure]
theorem scal_callOk{f:FuncId}{vs:List V}{hs:HS}{v:V}(hv:v.scal=true)(h:∀ w F μ xs,Args ρ w F μ vs xs→Calls P f xs w fun e w'=>∃ x,e=.returned x∧PRep ρ w F v x∧w'=w):CallOk ρ P f vs hs v hs:=by
 intro X w F μ xs hR hD hO hA
 refine CallsIn.mono (callsIn_wide.2 (h w F μ xs hA)) fun e w' he=>?_
 obtain⟨x,rfl,hx,rfl⟩:=he
 exact⟨F,μ,hR,.pure hx,Fr.refl ..⟩
end
end Go.J
