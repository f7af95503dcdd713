import Derived.Test.YtpcmebclpindjaaGreatJE
import Derived.ChangeArms
set_option linter.all false
noncomputable section
/- Arguments that were read,as values of the evaluator: typed values without numbers. -/
namespace Go.J
def VT (P:Program):Nat->TypeId->List V->Prop
 | 0,_,_=>False
 | n+1,t,vs=>match P.underlying t with
   |some .bool=>∃ b,vs=[.bool b]
   |some (.int k)=>∃ m,vs=[.int k m]/\(Lit.int k m).wf=true
   |some .string=>∃ l,vs=[.str l]/\l.length<=maxLen/\∀ x∈l,x<256
   |some (.slice e)=>vs=[.snil]\/∃ es,vs=[.sl es false]/\es.length<=maxLen/\∀ c∈es,VT P n e c
   |some (.struct fs)=>vs.length=P.cellsOf t/\∀ f∈fs.toList,VT P n f.type ((vs.drop f.offset).take (P.cellsOf f.type))
   |_=>False
def zxg(P:Program):List Field->Nat->Nat->Bool
 | [],off,total=>Nat.beq off total
 |f::fs,off,total=>Nat.beq f.offset off&&zxg P fs (off+P.cellsOf f.type) total
def zqC(P:Program)(S:List TypeId):Bool:=S.all fun t=>match P.underlying t with
 |some .bool|some (.int _)|some .string=>Nat.beq (P.cellsOf t) 1
 |some (.slice e)=>S.contains e&&Nat.beq (P.cellsOf t) 1&&Nat.blt 0 (P.cellsOf e)
 |some (.struct fs)=>zxg P fs.toList 0 (P.cellsOf t)&&fs.toList.all fun f=>S.contains f.type
 |_=>false
section
variable (ρ:Nat->Value){H:Type}{enc:TypeId×Value->H}{P:Program}{w:World}{base:Nat}{sp:Nat->Bool}{held:Bool}
def Cells(w:World)(vs:List V)(cs:List Value):Prop:=vs.length=cs.length/\∀ (i:Nat) (v:V),vs[i]?=some v->∃ c,cs[i]?=some c/\Val ρ w v c
theorem Cells.one{v:V}{c:Value}(h:Val ρ w v c):Cells ρ w [v] [c]:=⟨rfl,fun i u hu=>by
 match i,hu with
 | 0,hu=>cases hu;exact⟨c,rfl,h⟩⟩
theorem Cells.append{vs us:List V}{cs ds:List Value}(h:Cells ρ w vs cs)(k:Cells ρ w us ds):Cells ρ w (vs++us) (cs++ds):=by
 refine⟨by rw[List.length_append,List.length_append,h.1,k.1],fun i v hv=>?_⟩;by_cases hi:i<vs.length
 . rw[List.getElem?_append_left hi]at hv;obtain⟨c,h1,h2⟩:=h.2 i v hv
   grind
 . rw[List.getElem?_append_right (by omega)]at hv;obtain⟨c,h1,h2⟩:=k.2 _ v hv;exact⟨c,by rw[List.getElem?_append_right (by rw[<- h.1];omega),<- h.1];exact h1,h2⟩
theorem zkU {T:TypeId->List Value->List V->Prop} (hT:∀ t cs vs,T t cs vs->Cells ρ w vs cs/\vs.length=P.cellsOf t) {cs:List Value}:∀ (fs:List Field) (off:Nat),zxg P fs off cs.length=true->off<=cs.length ->
 (∀ f∈fs,∃ vs,T f.type ((cs.drop f.offset).take (P.cellsOf f.type)) vs) ->
 ∃ vs,Cells ρ w vs (cs.drop off)/\∀ f∈fs,off<=f.offset/\T f.type ((cs.drop f.offset).take (P.cellsOf f.type)) ((vs.drop (f.offset-off)).take (P.cellsOf f.type)):=by
 intro fs
 induction fs with
 | nil =>
   intro off hl _ _;have he:off=cs.length:=Nat.eq_of_beq_eq_true hl;refine⟨[],?_,fun f hf=>by cases hf⟩;rw[he,List.drop_length];exact⟨rfl,fun i v hv=>by simp at hv⟩
 | cons f fs ih =>
   intro off hl hle hf;simp only[zxg,Bool.and_eq_true]at hl;have ho:f.offset=off:=Nat.eq_of_beq_eq_true hl.1;obtain⟨us,hus⟩:=hf f (List.mem_cons_self ..);obtain⟨hc,hlen⟩:=hT _ _ _ hus
   have hle2:off+P.cellsOf f.type<=cs.length:=by
    have:=hc.1
    grind
   obtain⟨vs,hvs,hr⟩:=ih _ hl.2 hle2 fun g hg=>hf g (List.mem_cons_of_mem _ hg)
   refine⟨us++vs,?_,fun g hg=>?_⟩
   . have e:cs.drop off=(cs.drop f.offset).take (P.cellsOf f.type)++cs.drop (off+P.cellsOf f.type):=by
      rw[ho,<- List.drop_drop,List.take_append_drop]
     rw[e];exact hc.append ρ hvs
   . rcases List.mem_cons.1 hg with rfl|hg
     . simp_all
     grind [List.drop_append,List.drop_eq_nil_of_le]
theorem zmG{α:Type}{p:Nat->α->Prop}:∀ n:Nat,(∀ i,i<n->∃ x,p i x)->∃ l:List α,l.length=n/\∀ (i:Nat) (x:α),l[i]?=some x->p i x:=by
 intro n
 induction n with
 |zero=>exact fun _=>⟨[],rfl,fun i x h=>by simp at h⟩
 | succ n ih =>
   intro h;obtain⟨l,h1,h2⟩:=ih fun i hi=>h i (by omega)
   obtain⟨x,hx⟩:=h n (by omega);refine⟨l++[x],by simp[h1],fun i y hy=>?_⟩
   grind
theorem zfy{a:Addr}{n:Nat}{row:List Value}(h:w.cells? base a n=some row):row.length=n/\∀ j,j<n->row[j]?=w.cell? (a.add j):=by
 unfold World.cells? at h;split at h
 . refine⟨by simpa using mapM_some_length h,fun j hj=>?_⟩;exact(mapM_some_get h j j (by simp[hj])).symm
 . cases h
theorem zo1{a:Addr}(ha:a.spot=none)(n m:Nat):(a.add n).add m=⟨a.block,a.off+n+m,none⟩:=by
 obtain⟨b,o,s⟩:=a;simp only at ha;subst ha;unfold Addr.add
 grind
theorem zqn {a:Addr} {es:List (List V)} {size cap:Nat} (hsz:0<size) (hlen:es.length<=cap) (h:∀ i e,es[i]?=some e->e.length=size/\∃ row,w.cells? base (a.add (i*size)) size=some row/\Cells ρ w e row) :
 Val ρ w (.sl es false) (.slice (some a) es.length cap):=by
 cases es with
 |nil=>exact .slE _ _ _ (fun h=>by cases h)
 | cons e0 es0 =>
   obtain⟨hl0,row0,hr0,hc0⟩:=h 0 e0 rfl;have h00:=(zfy hr0).2 0 hsz;have hlt0:0<row0.length:=by rw[(zfy hr0).1];exact hsz
   rw[List.getElem?_eq_getElem hlt0]at h00
   have hsp:a.spot=none/\a.block<w.heap.size:=by
    simp only[Nat.zero_mul,Addr.add,if_true]at h00;unfold World.cell? at h00;split at h00
    . rename_i hb;split at h00
      . cases h00
      . rename_i hs;refine⟨by simpa using hs,?_⟩
        grind
    . cases h00
   obtain⟨hs,hb⟩:=hsp;obtain⟨b,off,s⟩:=a;simp only at hs hb;subst hs;refine .slC (e0::es0) b off size cap false (fun i j=>(w.cell? ⟨b,off+i*size+j,none⟩).getD undef) hb (fun e he=>?_) (fun i e j v hi hj=>?_) (fun i e j v hi hj=>?_) hlen (fun h=>by cases h)
   . grind [List.mem_iff_getElem?]
   . obtain⟨hl,row,hr,hc⟩:=h i e hi;obtain⟨c,h1,h2⟩:=hc.2 j v hj;have hjl:j<size:=by rw[<- hl];exact(List.getElem?_eq_some_iff.1 hj).1
     grind [zfy,zo1]
   . obtain⟨hl,row,hr,hc⟩:=h i e hi;obtain⟨c,h1,h2⟩:=hc.2 j v hj;have hjl:j<size:=by rw[<- hl];exact(List.getElem?_eq_some_iff.1 hj).1
     have:=(zfy hr).2 j hjl;rw[h1,zo1 rfl]at this;rw[<- this];exact h2
theorem ziB {S:List TypeId} (hS:zqC P S=true):∀ (n:Nat) (t:TypeId) (cs:List Value) (x:DataW H×List MemPlace),t∈S->DataW.trod enc P w base sp held n t cs=some x ->
 ∃ vs,VT P n t vs/\Cells ρ w vs cs/\vs.length=P.cellsOf t:=by
 intro n
 induction n with
 |zero=>intro t cs x _ h;simp[DataW.trod]at h
 | succ n ih =>
   intro t cs x ht h;have hp:=List.all_eq_true.1 hS t ht
   cases hu:P.underlying t with
   |none=>rw[hu]at hp;cases hp
   | some d =>
     rw[hu]at hp
     cases d with
     | bool =>
       obtain⟨b,rfl,_⟩:=DataW.trod_bool hu h;exact⟨[.bool b],by unfold VT;rw[hu];exact⟨b,rfl⟩,Cells.one ρ (.bool b),(Nat.eq_of_beq_eq_true hp).symm⟩
     | int k =>
       obtain⟨m,rfl,_,hw⟩:=DataW.trod_int hu h;exact⟨[.int k m],by unfold VT;rw[hu];exact⟨m,rfl,hw⟩,Cells.one ρ (.int k m),(Nat.eq_of_beq_eq_true hp).symm⟩
     | string =>
       obtain⟨s,rfl,_,hl⟩:=DataW.trod_string hu h;refine⟨[.str (bytesOf s)],?_,Cells.one ρ (.str s),(Nat.eq_of_beq_eq_true hp).symm⟩;unfold VT;rw[hu];refine⟨_,rfl,?_,?_⟩
       . unfold bytesOf
         simp_all
       . intro x hx;unfold bytesOf at hx;obtain⟨b,_,rfl⟩:=List.mem_map.1 hx;exact b.toNat_lt
     | slice e =>
       simp only[Bool.and_eq_true]at hp;have he:e∈S:=by simpa using hp.1.1
       have hc1:P.cellsOf t=1:=Nat.eq_of_beq_eq_true hp.1.2;have hpos:0<P.cellsOf e:=blt_true.1 hp.2;rcases DataW.trod_slice hu h with⟨rfl,_⟩|⟨a,len,cap,elems,rest,m,hm,rfl,_,hb,hlc,hcm,hel,hread,_⟩
       . exact⟨[.snil],by unfold VT;rw[hu];exact .inl rfl,Cells.one ρ .snil,hc1.symm⟩
       . have hmn:m=n:=by omega
         subst hmn
         have key:∀ i,i<len->∃ vs,VT P m e vs/\vs.length=P.cellsOf e/\∃ row,w.cells? base (a.add (i*P.cellsOf e)) (P.cellsOf e)=some row/\Cells ρ w vs row:=by
          grind [List.getElem?_eq_getElem,Option.bind_eq_some_iff]
         obtain⟨es,hes,hall⟩:=zmG len key;refine⟨[.sl es false],?_,Cells.one ρ ?_,hc1.symm⟩
         . grind [VT,List.mem_iff_getElem?]
         . rw[<- hes];exact zqn ρ hpos (by omega) fun i e' hi=>⟨(hall i e' hi).2.1,(hall i e' hi).2.2⟩
     | struct fs =>
       simp only[Bool.and_eq_true]at hp;obtain⟨xs,m,hm,_,hcl,hxl,hf⟩:=DataW.trod_struct hu h;have hmn:m=n:=by omega
       subst hmn
       have hmem:∀ f∈fs.toList,f.type∈S:=fun f hf=>by
        grind
       obtain⟨vs,hvs,hall⟩:=zkU (P:=P) ρ (w:=w) (T:=fun t cs vs=>VT P m t vs/\Cells ρ w vs cs/\vs.length=P.cellsOf t) (fun t cs vs h=>⟨h.2.1,h.2.2⟩) (cs:=cs) fs.toList 0 (by rw[hcl];exact hp.1) (Nat.zero_le _) fun f hfm=>by
        obtain⟨i,hi⟩:=List.mem_iff_getElem?.1 hfm
        grind
       rw[List.drop_zero]at hvs;refine⟨vs,?_,hvs,by rw[hvs.1,hcl]⟩;unfold VT;rw[hu];refine⟨by rw[hvs.1,hcl],fun f hfm=>?_⟩
       grind
     |_=>cases hp
end
end Go.J
