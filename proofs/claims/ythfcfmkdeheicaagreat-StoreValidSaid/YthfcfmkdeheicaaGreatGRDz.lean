import Derived.Test.YthfcfmkdeheicaaGreatGP8
import Derived.Test.YthfcfmkdeheicaaGreatJEnd
set_option linter.all false
noncomputable section
/- Types and stores that were read. -/
namespace Go.Proofs.YthfcfmkdeheicaaGreat
open Go.J
open Go.J.Enc (enc)
set_option maxRecDepth 100000
theorem vt_zero {P:Program} {t:TypeId} {vs:List V} (h:VT P 0 t vs):False:=h
theorem vt_fields {P:Program} {n:Nat} {vs:List V} {fs:List Field} {L:List (TypeId×Nat)} (hL:fs.map (fun f=>(f.type,f.offset))=L) (h:∀ f∈fs,VT P n f.type ((vs.drop f.offset).take (P.cellsOf f.type))):∀ p∈L,VT P n p.1 ((vs.drop p.2).take (P.cellsOf p.1)):=by
  intro p hp
  rw[← hL] at hp
  obtain⟨f,hf,rfl⟩:=List.mem_map.1 hp
  exact h f hf
def fsOf (P:Program) (t:TypeId):Array Field:=match P.underlying t with
  | some (.struct fs)=>fs
  | _=>#[]
theorem vt_struct {P:Program} {n:Nat} {t:TypeId} {vs:List V} {L:List (TypeId×Nat)} (ht:P.underlying t=some (.struct (fsOf P t))) (hL:(fsOf P t).toList.map (fun f=>(f.type,f.offset))=L) (h:VT P (n+1) t vs) :
    vs.length=P.cellsOf t∧∀ p∈L,VT P n p.1 ((vs.drop p.2).take (P.cellsOf p.1)):=by
  unfold VT at h
  rw[ht] at h
  exact⟨h.1,vt_fields hL h.2⟩
theorem vt_int {P:Program} {n:Nat} {t:TypeId} {vs:List V} (ht:P.underlying t=some (.int .i64)) (h:VT P (n+1) t vs):∃ m,vs=[.int .i64 m]:=by
  unfold VT at h
  rw[ht] at h
  obtain⟨m,h,_⟩:=h
  exact⟨m,h⟩
theorem vt_bool {P:Program} {n:Nat} {t:TypeId} {vs:List V} (ht:P.underlying t=some .bool) (h:VT P (n+1) t vs):∃ b,vs=[.bool b]:=by
  unfold VT at h
  rw[ht] at h
  exact h
theorem vt_str {P:Program} {n:Nat} {t:TypeId} {vs:List V} (ht:P.underlying t=some .string) (h:VT P (n+1) t vs):∃ s,vs=[.str s]∧s.length<2^63:=by
  unfold VT at h
  rw[ht] at h
  obtain⟨s,h,hl,_⟩:=h
  have:maxLen=2^63-1:=rfl
  exact⟨s,h,by omega⟩
theorem vt_slice {P:Program} {n:Nat} {t e:TypeId} {vs:List V} {α:Type} {cells:α→List V} {p:α→Prop} (ht:P.underlying t=some (.slice e)) (hel:∀ c,VT P n e c→∃ a,normL c=cells a∧p a) (h:VT P (n+1) t vs) :
    ∃ l:List α,normL vs=[.sl (l.map cells) false]∧∀ a∈l,p a:=by
  unfold VT at h
  rw[ht] at h
  rcases h with rfl | ⟨es,rfl,_,hes⟩
  · exact⟨[],by simp[normL,normV],fun a ha=>by cases ha⟩
  · have key:∀ es:List (List V),(∀ c∈es,VT P n e c)→∃ l:List α,normLL es=l.map cells∧∀ a∈l,p a:=by
      intro es
      induction es with
      | nil=>intro _; exact⟨[],by simp[normLL],fun a ha=>by cases ha⟩
      | cons c es ih =>
        intro h
        obtain⟨l,h1,h2⟩:=ih fun c hc=>h c (List.mem_cons_of_mem _ hc)
        obtain⟨a,h3,h4⟩:=hel c (h c (List.mem_cons_self ..))
        refine⟨a::l,by rw[normLL,h1,h3]; rfl,fun b hb=>?_⟩
        rcases List.mem_cons.1 hb with rfl | hb
        · exact h4
        · exact h2 b hb
    obtain⟨l,h1,h2⟩:=key es hes
    exact⟨l,by simp[normL,normV,h1],h2⟩
theorem u41:Tryz.prog.underlying 41=some (.struct (fsOf Tryz.prog 41)):=by kernel_rfl
theorem l41:(fsOf Tryz.prog 41).toList.map (fun f=>(f.type,f.offset))=[(3,0),(9,1),(3,2),(3,3),(39,4)]:=by kernel_rfl
theorem u45:Tryz.prog.underlying 45=some (.struct (fsOf Tryz.prog 45)):=by kernel_rfl
theorem l45:(fsOf Tryz.prog 45).toList.map (fun f=>(f.type,f.offset))=[(4,0),(41,1),(3,6),(4,7)]:=by kernel_rfl
theorem u88:Tryz.prog.underlying 88=some (.struct (fsOf Tryz.prog 88)):=by kernel_rfl
theorem l88:(fsOf Tryz.prog 88).toList.map (fun f=>(f.type,f.offset))=[(3,0),(45,1),(4,9)]:=by kernel_rfl
theorem u25:Tryz.prog.underlying 25=some (.struct (fsOf Tryz.prog 25)):=by kernel_rfl
theorem l25:(fsOf Tryz.prog 25).toList.map (fun f=>(f.type,f.offset))=[(22,0),(23,1)]:=by kernel_rfl
theorem u3:Tryz.prog.underlying 3=some (.int .i64):=by kernel_rfl
theorem u4:Tryz.prog.underlying 4=some .bool:=by kernel_rfl
theorem u9:Tryz.prog.underlying 9=some .string:=by kernel_rfl
theorem u39:Tryz.prog.underlying 39=some (.slice 41):=by kernel_rfl
theorem u22:Tryz.prog.underlying 22=some (.slice 45):=by kernel_rfl
theorem u23:Tryz.prog.underlying 23=some (.slice 88):=by kernel_rfl
theorem cel3:Tryz.prog.cellsOf 3=1:=by kernel_rfl
theorem cel4:Tryz.prog.cellsOf 4=1:=by kernel_rfl
theorem cel9:Tryz.prog.cellsOf 9=1:=by kernel_rfl
theorem cel41:Tryz.prog.cellsOf 41=5:=by kernel_rfl
theorem cel39:Tryz.prog.cellsOf 39=1:=by kernel_rfl
theorem cel45:Tryz.prog.cellsOf 45=8:=by kernel_rfl
theorem cel22:Tryz.prog.cellsOf 22=1:=by kernel_rfl
theorem cel23:Tryz.prog.cellsOf 23=1:=by kernel_rfl
theorem cel25:Tryz.prog.cellsOf 25=2:=by kernel_rfl
theorem cel88:Tryz.prog.cellsOf 88=10:=by kernel_rfl
theorem vt_ty:∀ (n:Nat) (c:List V),VT Tryz.prog n 41 c→∃ t:Ty,normL c=encTy t∧t.short=true:=by
  intro n
  induction n using Nat.strongRecOn with
  | _ n ih =>
    intro c h
    cases n with
    | zero=>exact (vt_zero h).elim
    | succ n =>
      obtain⟨hlen,hf⟩:=vt_struct u41 l41 h
      rw[cel41] at hlen
      cases n with
      | zero=>exact (vt_zero (hf (3,0) (by simp))).elim
      | succ n =>
        match c,hlen with
        | [x0,x1,x2,x3,x4],_ =>
          obtain⟨k,e0⟩:=vt_int u3 (hf (3,0) (by simp))
          obtain⟨nm,e1,hs⟩:=vt_str u9 (hf (9,1) (by simp))
          obtain⟨i,e2⟩:=vt_int u3 (hf (3,2) (by simp))
          obtain⟨hh,e3⟩:=vt_int u3 (hf (3,3) (by simp))
          obtain⟨l,e4,hl⟩:=vt_slice (cells:=encTy) (p:=fun t=>t.short=true) u39 (fun c hc=>ih n (by omega) c hc) (hf (39,4) (by simp))
          simp only[cel3,cel9,cel39,List.drop,List.take,List.cons.injEq,and_true] at e0 e1 e2 e3 e4
          subst e0 e1 e2 e3
          rw[normL,normL,List.cons.injEq] at e4
          refine⟨.mk k nm i hh l,?_,Ty.short_iff.2 ⟨hs,Ty.shorts_iff.2 hl⟩⟩
          rw[encTy_n]
          simp only[normL,normV,e4.1,Ty.kind_mk,Ty.name_mk,Ty.id_mk,Ty.home_mk,Ty.args_mk]
theorem vt_slot (n:Nat) (c:List V) (h:VT Tryz.prog n 45 c):∃ x:Slot,normL c=encSlot x∧x.type.short=true:=by
  cases n with
  | zero=>exact (vt_zero h).elim
  | succ n =>
    obtain⟨hlen,hf⟩:=vt_struct u45 l45 h
    rw[cel45] at hlen
    cases n with
    | zero=>exact (vt_zero (hf (4,0) (by simp))).elim
    | succ n =>
      match c,hlen with
      | [x0,x1,x2,x3,x4,x5,x6,x7],_ =>
        obtain⟨b,e0⟩:=vt_bool u4 (hf (4,0) (by simp))
        obtain⟨t,e1,hs⟩:=vt_ty _ _ (hf (41,1) (by simp))
        obtain⟨m,e2⟩:=vt_int u3 (hf (3,6) (by simp))
        obtain⟨b2,e3⟩:=vt_bool u4 (hf (4,7) (by simp))
        simp only[cel3,cel4,cel41,List.drop,List.take,List.cons.injEq,and_true] at e0 e1 e2 e3
        subst e0 e2 e3
        refine⟨⟨b,t,m,b2⟩,?_,hs⟩
        rw[encTy_n] at e1
        simp only[normL,List.cons.injEq,and_true] at e1
        simp only[normL,e1,normV,encSlot]
theorem vt_change (n:Nat) (c:List V) (h:VT Tryz.prog n 88 c):∃ x:Change,normL c=encChange x∧x.old.type.short=true:=by
  cases n with
  | zero=>exact (vt_zero h).elim
  | succ n =>
    obtain⟨hlen,hf⟩:=vt_struct u88 l88 h
    rw[cel88] at hlen
    cases n with
    | zero=>exact (vt_zero (hf (3,0) (by simp))).elim
    | succ n =>
      match c,hlen with
      | [x0,x1,x2,x3,x4,x5,x6,x7,x8,x9],_ =>
        obtain⟨i,e0⟩:=vt_int u3 (hf (3,0) (by simp))
        obtain⟨x,e1,hs⟩:=vt_slot _ _ (hf (45,1) (by simp))
        obtain⟨b,e2⟩:=vt_bool u4 (hf (4,9) (by simp))
        simp only[cel3,cel4,cel45,List.drop,List.take,List.cons.injEq,and_true] at e0 e1 e2
        subst e0 e2
        refine⟨⟨i,x,b⟩,?_,hs⟩
        simp only[encSlot,normL,List.cons.injEq,and_true] at e1
        simp only[normL,e1,normV,encChange]
theorem vt_store (n:Nat) (c:List V) (h:VT Tryz.prog n 25 c):∃ s:Store,normL c=encStore s∧∀ x∈s.slots,x.type.short=true:=by
  cases n with
  | zero=>exact (vt_zero h).elim
  | succ n =>
    obtain⟨hlen,hf⟩:=vt_struct u25 l25 h
    rw[cel25] at hlen
    cases n with
    | zero=>exact (vt_zero (hf (22,0) (by simp))).elim
    | succ n =>
      match c,hlen with
      | [x0,x1],_ =>
        obtain⟨l,e0,h0⟩:=vt_slice (cells:=encSlot) (p:=fun x=>x.type.short=true) u22 (vt_slot n) (hf (22,0) (by simp))
        obtain⟨m,e1,h1⟩:=vt_slice (cells:=encChange) (p:=fun x=>x.old.type.short=true) u23 (vt_change n) (hf (23,1) (by simp))
        simp only[cel22,cel23,List.drop,List.take,normL,List.cons.injEq,and_true] at e0 e1
        refine⟨⟨l,m⟩,?_,h0⟩
        simp only[normL,e0,e1,encStore]
theorem plain25:plainB Tryz.prog [25,22,23,45,88,41,39,3,4,9]=true:=by kernel_rfl
theorem agg_val {ρ:Nat→Value} {w:World} {vs:List V} {v:Value} (h:Cells ρ w vs v.cells.toList) (h2:vs.length≠1):∃ cs,v=.agg cs∧Val ρ w (.agg vs) v:=by
  have hc:∃ cs,v=.agg cs:=by
    have hl:=h.1
    cases v<;>first | exact⟨_,rfl⟩ | (simp[Value.cells] at hl; exact absurd hl h2)
  obtain⟨cs,rfl⟩:=hc
  refine⟨cs,rfl,.agg vs cs (by have:=h.1; simpa [Value.cells] using this.symm) fun i u hi=>?_⟩
  obtain⟨c,h3,h4⟩:=h.2 i u hi
  have h5:cs[i]?=some c:=by simpa [Value.cells] using h3
  rw[Array.getD_eq_getD_getElem?,h5]; exact h4
theorem read_store {ρ:Nat→Value} {H:Type} {enc:TypeId×Value→H} {w:World} {base:Nat} {sp:Nat→Bool} {held:Bool} {v:Value} {d:DataW H} {ps:List MemPlace} (h:DataW.Trod enc Tryz.prog w base sp held 25 v d ps) :
    ∃ s:Store,(∀ x∈s.slots,x.type.short=true)∧Val ρ w (Enc.enc s) v:=by
  obtain⟨fuel,hf⟩:=h
  obtain⟨vs,h1,h2,h3⟩:=read_cells ρ plain25 fuel 25 _ _ (by simp) hf
  obtain⟨s,e,hs⟩:=vt_store fuel vs h1
  rw[cel25] at h3
  obtain⟨cs,_,hval⟩:=agg_val h2 (by omega)
  refine⟨s,hs,?_⟩
  have:=hval.norm
  rw[show normV (.agg vs)=.agg (normL vs) by simp[normV],e] at this
  exact this
end Go.Proofs.YthfcfmkdeheicaaGreat
