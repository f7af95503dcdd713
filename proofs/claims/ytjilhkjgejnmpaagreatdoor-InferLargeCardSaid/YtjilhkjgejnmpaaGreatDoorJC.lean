import Derived.Test.YtjilhkjgejnmpaaGreatDoorJB
import Derived.Laws.CopyRow
import Derived.Deep.AppendSrc
set_option linter.all false
noncomputable section
/- Operations that write a row. -/
namespace Go.J
section
variable {ρ:Nat→Value}{P:Program}{w w':World}{F:Nat→Prop}{μ:Nat→Nat→Option MI}{hs:HS}{T:PT V}
theorem prep_cells(hρ:Good ρ){v:V}{x:Value}(h:PRep ρ w F v x):x.cells.size=v.cells.length∧∀ (i:Nat) (u:V),v.cells[i]?=some u→PRep ρ w F u (x.cells.getD i undef):=by
 by_cases hv:∃ cs,v=.agg cs
 · obtain⟨cs,rfl⟩:=hv
   cases h with|agg _ ys hs hc=>exact⟨hs,hc⟩
 · have hv':∀ cs,v≠.agg cs:=fun cs e=>hv ⟨cs,e⟩
   rw[rep_one (μ:=fun _ _=>none) hρ (.pure h) hv']
   have hc:v.cells=[v]:=by cases v<;>first|rfl|(exact absurd rfl (hv' _))
   rw[hc]
   refine⟨rfl,fun i u hi=>?_⟩
   cases i with
   |zero=>simp at hi;subst hi;exact h
   |succ i=>simp at hi
def cover(cells:Array Value)(o:Nat)(vs:List Value):Array Value:=(cells.toList.take o++vs++cells.toList.drop (o+vs.length)).toArray
theorem cover_size{cells:Array Value}{o:Nat}{vs:List Value}(h:o+vs.length≤cells.size):(cover cells o vs).size=cells.size:=by
 simp[cover];omega
theorem cover_get{cells:Array Value}{o:Nat}{vs:List Value}(h:o+vs.length≤cells.size)(k:Nat) :
 (cover cells o vs)[k]?=if o≤k∧k<o+vs.length then vs[k-o]? else cells[k]?:=by
 unfold cover
 grind
theorem storeCells_ok{b o:Nat}{cells:Array Value}{el:TypeId}(hc:w.heap[b]?=some (.cells cells el (0,0))){vs:List Value}(hle:o+vs.length≤cells.size)(hone:∀ v∈vs,v.oneCell'=true) :
 (storeCells ⟨b,o,none⟩ vs).run P w=.ok () (w.setRow b (cover cells o vs)):=by
 have:=run_storeCells_at (P:=P) b o el vs 0 cells w hc (by simpa using hle) hone
 simpa [cover]using this
theorem write_row(hR:R ρ w F μ P hs){id g:Nat}{a:Nat×List (List V)×Bool×Bool×Bool}(ha:getRow hs id g=some a)(hfz:a.2.2.2.1=false){m:MI}(hm:μ id g=some m)
 {cells cells':Array Value} {el:TypeId} (hc:w.heap[m.b]?=some (.cells cells el (0,0))) (hsz:cells'.size=cells.size) {es':List (List V)}
 (hlen:∀ e∈es',e.length=a.1) (hl:es'.length=a.2.1.length)
 (hall:∀ (k:Nat) (e:List V) (j:Nat) (v:V),es'[k]?=some e→e[j]?=some v→∃ y,cells'[k*a.1+j]?=some y∧Rep ρ w F μ v y∧(a.2.2.2.2=true→PRep ρ w F v y)) :
 R ρ (w.setRow m.b cells') F μ P (hs.wr id (.arr a.1 g es' a.2.2.1 false a.2.2.2.2))∧Fr w F μ hs (w.setRow m.b cells') F μ (hs.wr id (.arr a.1 g es' a.2.2.1 false a.2.2.2.2)):=by
 obtain⟨hget,hne⟩:=getRow_spec ha
 have hrel:=hR.row ha hm
 have hnF:=hrel.hn hfz
 have hF:∀ b,F b→(w.setRow m.b cells').heap[b]?=w.heap[b]?:=fun b hb=>setRow_other w m.b b cells' (fun e=>hnF (e ▸ hb))
 refine hR.write (hs':=hs.wr id (.arr a.1 g es' a.2.2.1 false a.2.2.2.2)) (o':=.arr a.1 g es' a.2.2.1 false a.2.2.2.2) hget hfz (m:=m) hm rfl rfl (by simp) (fun b hb=>setRow_other w m.b b cells' hb) (fun k=>wr_get _ _ _ _) ?_
 intro m1 hm1
 rw[hm]at hm1;cases hm1
 obtain⟨c0,el0,hc0,ht,hle,hex,_⟩:=hrel.cells
 rw[hc]at hc0;cases hc0
 refine⟨hrel.hsize,hlen,⟨cells',el,setRow_heap w m.b _ _ _ _ hc,by omega,by rw[hl];exact hle,fun h=>by rw[hl];exact hex h,fun k e j v hk hj=>?_⟩,(fun h=>by cases h),fun _=>hnF⟩
 obtain⟨y,hy,hr,hp⟩:=hall k e j v hk hj
 exact⟨y,hy,hr.mono ρ (fun _ h=>h) hF (fun _ _ _ h=>h),fun h=>(hp h).mono ρ (fun _ h=>h) hF⟩
theorem storeRow_ok (hρ:Good ρ) (hR:R ρ w F μ P hs) {t:TypeId} {i:TI} (hi:ti P t=some i) {id g off:Nat} {v:V} {X x:Value} {hs':HS} (hX:Rep ρ w F μ (.ptr id g off) X) (hx:Rep ρ w F μ v x)
 (hp:∀ a,getRow hs id g=some a→a.2.2.2.2=true→PRep ρ w F v x) (h:storeRow i id g off v hs=some hs') :
 ∃ w',(Instr.storeAt t X x).run P w=.ok () w'∧R ρ w' F μ P hs'∧Fr w F μ hs w' F μ hs':=by
 simp only[storeRow,ob_eq,gd_eq,nt_true,et_true,beq_true,ble_true,lenL_eq,nthL_eq,allC_eq,setL_eq]at h
 obtain⟨a,ha,hfz,⟨hcell,hvl,hroom⟩,e,he,h⟩:=h
 cases h
 obtain⟨m,hm,rfl⟩:=hX.ptr_inv
 have hrel:=hR.row ha hm
 obtain⟨hget,hne⟩:=getRow_spec ha
 obtain⟨cells,el,hc,ht,hle,hex,hall⟩:=hrel.cells
 have hcr:=cells_rel hρ hx
 have helen:=hrel.hlen e (List.mem_of_getElem? he)
 obtain⟨hklt,_⟩:=List.getElem?_eq_some_iff.1 he
 have hpos:off=(off / a.1)*a.1+off % a.1:=by rw[Nat.mul_comm];exact(Nat.div_add_mod off a.1).symm
 have hend:(off / a.1+1)*a.1≤a.2.1.length*a.1:=Nat.mul_le_mul_right _ hklt
 have hend':(off / a.1)*a.1+a.1≤a.2.1.length*a.1:=by rw[Nat.add_mul]at hend;omega
 have hxs:x.cells.toList.length=i.size:=by simp[hcr.1,hvl]
 have hfit:off+x.cells.toList.length≤cells.size:=by rw[hxs];omega
 have hone:∀ u∈x.cells.toList,u.oneCell'=true:=by
  intro u hu
  obtain⟨j,hj⟩:=List.getElem?_of_mem hu
  have hjlt:j<v.cells.length:=by
   grind
  have hr:=hcr.2 j v.cells[j] (by simp[hjlt])
  rw[Array.getElem?_toList]at hj
  rw[Array.getD_eq_getD_getElem?,hj]at hr
  exact cell_one hρ hr (hcell _ (List.getElem_mem hjlt))
 have hw := write_row hR ha hfz hm hc (cells':=cover cells off x.cells.toList) (cover_size hfit) (es':=a.2.1.set (off / a.1) (overL e (off % a.1) v.cells)) (fun c hc'=>by
  rcases List.mem_or_eq_of_mem_set hc' with h|h
  · exact hrel.hlen c h
  · rw[h,overL_len];exact helen) (by simp) (fun k c j u hk hj=>by
  rw[List.getElem?_set]at hk
  by_cases hkk:off / a.1=k
  · rw [if_pos hkk,if_pos hklt]at hk
    cases hk
    subst hkk
    have hjl:j<e.length:=by
     obtain⟨hlt,_⟩:=List.getElem?_eq_some_iff.1 hj
     rwa [overL_len]at hlt
    rw[overL_get _ _ _ _ hjl]at hj
    rw[cover_get hfit,hxs]
    by_cases hin:off % a.1≤j∧j<off % a.1+v.cells.length
    · rw[if_pos hin]at hj
      rw[if_pos (by omega)]
      have hidx:off / a.1*a.1+j-off=j-off % a.1:=by omega
      have hlt2:j-off % a.1<x.cells.size:=by rw[hcr.1];omega
      rw[hidx,Array.getElem?_toList,Array.getElem?_eq_getElem hlt2]
      refine⟨_,rfl,?_,fun hrow=>?_⟩
      · have:=hcr.2 _ u hj
        rwa [Array.getD_eq_getD_getElem?,Array.getElem?_eq_getElem hlt2]at this
      · have:=(prep_cells hρ (hp a ha hrow)).2 _ u hj
        rwa [Array.getD_eq_getD_getElem?,Array.getElem?_eq_getElem hlt2]at this
    · rw[if_neg hin]at hj
      rw[if_neg (by omega)]
      exact hall _ e j u he hj
  · rw [if_neg hkk]at hk
    rw[cover_get hfit,hxs,if_neg]
    · exact hall k c j u hk hj
    · have hjl:j<a.1:=by
       obtain⟨hlt,_⟩:=List.getElem?_eq_some_iff.1 hj
       rw[hrel.hlen c (List.mem_of_getElem? hk)]at hlt;exact hlt
      rintro ⟨h1,h2⟩
      rcases Nat.lt_or_gt_of_ne hkk with hlt|hlt
      · have:(off / a.1+1)*a.1≤k*a.1:=Nat.mul_le_mul_right _ hlt
        rw[Nat.add_mul]at this;omega
      · have:(k+1)*a.1≤off / a.1*a.1:=Nat.mul_le_mul_right _ hlt
        rw[Nat.add_mul]at this;omega)
 refine⟨_,?_,hw.1,hw.2⟩
 have hsize:x.cells.size=i.size:=by rw[hcr.1,hvl]
 simp only[Instr.storeAt,Instr.sureAddr,Sem.run_bind,Sem.run_pure,Result.andThen_ok,storeVar,run_size hi,hsize,ne_eq,not_true_eq_false,if_false]
 grind [storeCells_ok]
theorem isRow_false{id g:Nat}(h:isRow hs id=false){a:Nat×List (List V)×Bool×Bool×Bool}(ha:getRow hs id g=some a):a.2.2.2.2=false:=by
 obtain⟨hget,_⟩:=getRow_spec ha
 unfold isRow at h
 rw[hget]at h
 exact h
theorem store_ok(hρ:Good ρ)(hR:R ρ w F μ P hs){t:TypeId}{i:TI}(hi:ti P t=some i){p v:V}{X x:Value}{hs':HS}(hX:Rep ρ w F μ p X)(hx:Rep ρ w F μ v x)(h:storeJ i hs p v=some hs') :
 ∃ w' F',(Instr.storeAt t X x).run P w=.ok () w'∧R ρ w' F' μ P hs'∧Fr w F μ hs w' F' μ hs':=by
 unfold storeJ at h
 split at h
 · rename_i id g off
   cases hrow:isRow hs id with
   | true =>
     rw[hrow,bi_true]at h
     simp only[ob_eq]at h
     obtain⟨⟨v',hs1⟩,hp,h⟩:=h
     obtain⟨F1,h1,h2,_,h3⟩:=purify_ok hR hx hp
     obtain⟨w',g1,g2,g3⟩:=storeRow_ok hρ h1 hi (h2.rep hR hX) (.pure h3) (fun _ _ _=>h3) h
     exact⟨w',F1,g1,g2,h2.trans g3⟩
   | false =>
     rw[hrow,bi_false]at h
     obtain⟨w',g1,g2,g3⟩:=storeRow_ok hρ hR hi hX hx (fun a ha hr=>by rw[isRow_false hrow ha]at hr;cases hr) h
     grind
 · cases h
end
end Go.J
/- append,copy,len. -/
namespace Go.J
section
variable {ρ:Nat→Value}{P:Program}{w w':World}{F:Nat→Prop}{μ:Nat→Nat→Option MI}{hs:HS}{T:PT V}
theorem allCells_eq{l:List (List V)}:allCells l=true↔∀ e∈l,∀ v∈e,v.isCell=true:=by
 refine(all_lr allC l).trans ?_
 simp[allC_eq]
def Flat(ρ:Nat→Value)(w:World)(F:Nat→Prop)(size:Nat)(es:List (List V))(arr:Array Value):Prop :=
 arr.size=es.length*size∧∀ (k:Nat) (e:List V) (j:Nat) (v:V),es[k]?=some e→e[j]?=some v→∃ y,arr[k*size+j]?=some y∧PRep ρ w F v y
theorem loadCells_flat{b off n size:Nat}{es:List (List V)}(hlen:∀ e∈es,e.length=size)(hn:es.length=n)(h:∀ (k:Nat) (e:List V) (j:Nat) (v:V),es[k]?=some e→e[j]?=some v→∃ y,w.cell? ⟨b,off+k*size+j,none⟩=some y∧PRep ρ w F v y) :
 ∃ arr,(loadCells ⟨b,off,none⟩ (n*size)).run P w=.ok arr w∧Flat ρ w F size es arr:=by
 subst hn
 have hex:∀ p,p<es.length*size→∃ y,w.cell? ⟨b,off+p,none⟩=some y:=by
  intro p hp
  have hs:0<size:=by rcases Nat.eq_zero_or_pos size with h0|h0;(subst h0;simp at hp);exact h0
  have hk:p / size<es.length:=Nat.div_lt_of_lt_mul (by rwa [Nat.mul_comm])
  have hj:p % size<size:=Nat.mod_lt _ hs
  have he:es[p / size]?=some es[p / size]:=by simp[hk]
  have hel:=hlen _ (List.getElem_mem hk)
  obtain⟨y,hy,_⟩:=h (p / size) _ (p % size) (es[p / size][p % size]'(by omega)) he (by simp[hel,hj])
  rw[show off+p / size*size+p % size=off+p by have:=Nat.div_add_mod p size;rw[Nat.mul_comm]at this;omega]at hy
  grind
 have hrun:=run_loadCells (P:=P) w ⟨b,off,none⟩ (es.length*size) (fun j=>(w.cell? ⟨b,off+j,none⟩).getD undef) (by
  intro j hj
  obtain⟨y,hy⟩:=hex j hj
  rw[addr_add,hy];rfl)
 refine⟨_,hrun,by simp,fun k e j v hk hj=>?_⟩
 obtain⟨y,hy,hp⟩:=h k e j v hk hj
 obtain⟨hklt,_⟩:=List.getElem?_eq_some_iff.1 hk
 obtain⟨hjlt,_⟩:=List.getElem?_eq_some_iff.1 hj
 have hel:=hlen e (List.mem_of_getElem? hk)
 have hlt:k*size+j<es.length*size:=by
  have:(k+1)*size≤es.length*size:=Nat.mul_le_mul_right _ hklt
  grind
 grind
theorem elems_take (hR:R ρ w F μ P hs) {size:Nat} {x:V} {X:Value} {es:List (List V)} (hx:Rep ρ w F μ x X) (h:elemsJ hs size x=some es) (hsz:∀ e∈es,e.length=size) :
 ∃ base c,X=.slice base es.length c∧∀ n,n≤es.length→∃ arr,(Builtin.firstCells size n X).run P w=.ok arr w∧Flat ρ w F size (es.take n) arr:=by
 unfold elemsJ at h
 split at h
 · cases h
   have e:=hx.snil_inv;subst e
   exact⟨none,0,rfl,fun n _=>⟨#[],rfl,by simp,fun k e j v hk=>by simp at hk⟩⟩
 · cases h
   have hx:=hx.sl_inv
   cases hx with
   | slE a c t ht =>
     refine⟨a,c,rfl,fun n hn=>⟨#[],?_,by simp,fun k e j v hk=>by simp at hk⟩⟩
     have:n=0:=by simpa using hn
     subst this
     cases a with
     |none=>rfl
     |some a=>simp[Builtin.firstCells,loadCells,loadCellsFrom]
   | slC _ b off size' c t ys hb hl hcell hrep hle ht =>
     refine⟨_,c,rfl,fun n hn=>?_⟩
     have hcell':∀ (k:Nat) (e:List V) (j:Nat) (v:V),(es.take n)[k]?=some e→e[j]?=some v→∃ y,w.cell? ⟨b,off+k*size+j,none⟩=some y∧PRep ρ w F v y:=by
      grind
     obtain⟨arr,h1,h2⟩:=loadCells_flat (P:=P) (n:=n) (fun e he=>hsz e (List.mem_of_mem_take he)) (by simp;omega) hcell'
     exact⟨arr,by simpa [Builtin.firstCells]using h1,h2⟩
 · rename_i id g off len cap
   simp only[ob_eq,gd_eq,et_true,beq_true]at h
   obtain⟨a,ha,⟨hrow,hs'⟩,hcut⟩:=h
   obtain⟨hmod,hlen,rfl⟩:=cutRow_eq hcut
   obtain⟨m,c,hm,rfl,g1,g2,g3,g4⟩:=hx.own_inv
   subst hs'
   have hll:((a.2.1.drop (off / a.1)).take len).length=len:=by simp;omega
   refine⟨_,c,by rw[hll],fun n hn=>?_⟩
   rw[hll]at hn
   have ht:((a.2.1.drop (off / a.1)).take len).take n=(a.2.1.drop (off / a.1)).take n:=by rw[List.take_take];congr 1;omega
   rw[ht]
   obtain⟨arr,h1,h2⟩:=loadCells_flat (P:=P) (n:=n) (es:=(a.2.1.drop (off / a.1)).take n) (fun e he=>(hR.row ha hm).hlen e (List.mem_of_mem_drop (List.mem_of_mem_take he))) (by simp;omega) (fun k e j v hk hj=>by
    obtain⟨y,hy,_,hp⟩:=row_part hR (len:=n) ha hm hmod k e j v hk hj
    exact⟨y,hy,hp hrow⟩)
   exact⟨arr,by simpa [Builtin.firstCells]using h1,h2⟩
 · cases h
theorem elems_ok(hR:R ρ w F μ P hs){size:Nat}{x:V}{X:Value}{es:List (List V)}(hx:Rep ρ w F μ x X)(h:elemsJ hs size x=some es)(hsz:∀ e∈es,e.length=size) :
 ∃ base c,X=.slice base es.length c∧∃ arr,(Builtin.firstCells size es.length X).run P w=.ok arr w∧Flat ρ w F size es arr:=by
 obtain⟨base,c,h1,h2⟩:=elems_take (P:=P) hR hx h hsz
 obtain⟨arr,h3,h4⟩:=h2 _ (Nat.le_refl _)
 grind
theorem Flat.one(hρ:Good ρ){size:Nat}{es:List (List V)}{arr:Array Value}(h:Flat ρ w F size es arr)(hsz:∀ e∈es,e.length=size)(hc:∀ e∈es,∀ v∈e,v.isCell=true) :
 ∀ y∈arr.toList,y.oneCell'=true:=by
 intro y hy
 obtain⟨p,hp⟩:=List.getElem?_of_mem hy
 rw[Array.getElem?_toList]at hp
 obtain⟨hplt,_⟩:=Array.getElem?_eq_some_iff.1 hp
 rw[h.1]at hplt
 have hs:0<size:=by rcases Nat.eq_zero_or_pos size with h0|h0;(subst h0;simp at hplt);exact h0
 have hk:p / size<es.length:=Nat.div_lt_of_lt_mul (by rwa [Nat.mul_comm])
 have hj:p % size<size:=Nat.mod_lt _ hs
 have hel:=hsz _ (List.getElem_mem hk)
 have hjl:p % size<es[p / size].length:=by omega
 obtain⟨y',hy',hpr⟩:=h.2 (p / size) es[p / size] (p % size) (es[p / size][p % size]) (by simp[hk]) (by simp[hjl])
 rw[show p / size*size+p % size=p by have:=Nat.div_add_mod p size;rw[Nat.mul_comm]at this;omega]at hy'
 rw[hp]at hy';cases hy'
 exact cell_one (μ:=fun _ _=>none) hρ (.pure hpr) (hc _ (List.getElem_mem hk) _ (List.getElem_mem hjl))
theorem over_flat {size st:Nat} {es new:List (List V)} {cells arr:Array Value} (hnew:Flat ρ w F size new arr) (hsn:∀ e∈new,e.length=size) (hse:∀ e∈es,e.length=size)
 (hfit:st*size+arr.size≤cells.size) {Q:V→Value→Prop} (hQ:∀ v y,PRep ρ w F v y→Q v y)
 (hall:∀ (k:Nat) (e:List V) (j:Nat) (v:V),es[k]?=some e→e[j]?=some v→∃ y,cells[k*size+j]?=some y∧Q v y) (hst:st+new.length≤es.length) :
 ∀ (k:Nat) (e:List V) (j:Nat) (v:V),(overL es st new)[k]?=some e→e[j]?=some v→∃ y,(cover cells (st*size) arr.toList)[k*size+j]?=some y∧Q v y:=by
 intro k e j v hk hj
 have hkl:k<es.length:=by
  grind [List.getElem?_eq_some_iff,overL_len]
 rw[overL_get _ _ _ _ hkl]at hk
 rw[cover_get (by simpa using hfit)]
 simp only[Array.length_toList,hnew.1]
 by_cases hin:st≤k∧k<st+new.length
 · rw[if_pos hin]at hk
   obtain⟨y,hy,hp⟩:=hnew.2 (k-st) e j v hk hj
   obtain⟨hylt,_⟩:=Array.getElem?_eq_some_iff.1 hy
   rw[hnew.1]at hylt
   have e1:k*size+j-st*size=(k-st)*size+j:=by rw[Nat.sub_mul];have:st*size≤k*size:=Nat.mul_le_mul_right _ hin.1;omega
   have e2:st*size≤k*size:=Nat.mul_le_mul_right _ hin.1
   grind
 · rw [if_neg hin]at hk
   have hjl:j<size:=by
    grind
   rw[if_neg]
   · grind
   · rintro ⟨h1,h2⟩
     rcases Nat.lt_or_ge k st with hlt|hge
     · have:(k+1)*size≤st*size:=Nat.mul_le_mul_right _ hlt
       grind
     · have hge2:st+new.length≤k:=by omega
       have:(st+new.length)*size≤k*size:=Nat.mul_le_mul_right _ hge2
       grind
theorem overL_mem{es new:List (List V)}{st:Nat}{e:List V}(h:e∈overL es st new):e∈es∨e∈new:=by
 obtain⟨k,hk⟩:=List.getElem?_of_mem h
 have hkl:k<es.length:=by
  obtain⟨hlt,_⟩:=List.getElem?_eq_some_iff.1 hk
  rwa [overL_len]at hlt
 rw[overL_get _ _ _ _ hkl]at hk
 split at hk
 · exact .inr (List.mem_of_getElem? hk)
 · exact .inl (List.mem_of_getElem? hk)
theorem write_elems(hρ:Good ρ)(hR:R ρ w F μ P hs){id g:Nat}{a:Nat×List (List V)×Bool×Bool×Bool}(ha:getRow hs id g=some a)(hfz:a.2.2.2.1=false){m:MI}(hm:μ id g=some m)
 {new:List (List V)} {arr:Array Value} (hnew:Flat ρ w F a.1 new arr) (hsn:∀ e∈new,e.length=a.1) (hcn:∀ e∈new,∀ v∈e,v.isCell=true) {st:Nat} (hst:st+new.length≤a.2.1.length) :
 ∃ w',(storeCells ⟨m.b,st*a.1,none⟩ arr.toList).run P w=.ok () w'∧R ρ w' F μ P (hs.wr id (.arr a.1 g (overL a.2.1 st new) a.2.2.1 false a.2.2.2.2)) ∧
   Fr w F μ hs w' F μ (hs.wr id (.arr a.1 g (overL a.2.1 st new) a.2.2.1 false a.2.2.2.2)):=by
 have hrel:=hR.row ha hm
 obtain⟨cells,el,hc,ht,hle,hex,hall⟩:=hrel.cells
 have hfit:st*a.1+arr.size≤cells.size:=by
  rw[hnew.1,← Nat.add_mul,ht]
  exact Nat.le_trans (Nat.mul_le_mul_right _ hst) hle
 have hw:=write_row hR ha hfz hm hc (cells':=cover cells (st*a.1) arr.toList) (cover_size (by simpa using hfit)) (es':=overL a.2.1 st new) (fun e he=>by
  rcases overL_mem he with h|h
  · exact hrel.hlen e h
  · exact hsn e h) (overL_len _ _ _)
  (over_flat hnew hsn hrel.hlen hfit (Q:=fun v y=>Rep ρ w F μ v y∧(a.2.2.2.2=true→PRep ρ w F v y)) (fun v y h=>⟨.pure h,fun _=>h⟩) hall hst)
 exact⟨_,storeCells_ok hc (by simpa using hfit) (hnew.one hρ hsn hcn),hw.1,hw.2⟩
end
end Go.J
/- append,copy. -/
namespace Go.J
theorem growBy_le(newLen:Nat):∀ (r c:Nat),256≤c→c≤2*newLen→Builtin.growBy newLen r c≤2*newLen:=by
 intro r
 induction r with
 |zero=>intro c _ h;exact h
 | succ r ih =>
   intro c h1 h2
   simp only[Builtin.growBy]
   grind
theorem nextslicecap_le{newLen oldCap:Nat}(h:oldCap<newLen):Builtin.nextslicecap newLen oldCap≤2*newLen:=by
 unfold Builtin.nextslicecap
 grind [growBy_le]
section
variable {ρ:Nat→Value}{P:Program}{w w':World}{F:Nat→Prop}{μ:Nat→Nat→Option MI}{hs:HS}{T:PT V}
theorem zeroCells_size(zero:Array Value)(n:Nat):(Builtin.zeroCells zero n).size=n*zero.size:=by simp[Builtin.zeroCells]
theorem grownCap_ge(w:World)(need old:Nat)(e:TypeId):need≤grownCap w need old e:=by simp[grownCap,Question.cut]
theorem R.drew(h:R ρ w F μ P hs):R ρ w.drew F μ P hs:=h.grow (Nat.le_refl _) (fun _ _=>rfl)
theorem loadCellsFrom_drew (a:Addr):∀ (n i:Nat) (acc r:Array Value),(loadCellsFrom a i n acc).run P w=.ok r w→(loadCellsFrom a i n acc).run P w.drew=.ok r w.drew:=by
 intro n
 induction n with
 |zero=>intro i acc r h;simp[loadCellsFrom]at h ⊢;exact h
 | succ n ih =>
   intro i acc r h
   simp only[loadCellsFrom,Sem.run_bind,run_load]at h ⊢
   have hcell:w.drew.cell? (a.add i)=w.cell? (a.add i):=rfl
   rw[hcell]
   cases hq:w.cell? (a.add i)with
   |some v=>rw[hq]at h;simp only[Result.andThen_ok]at h ⊢;exact ih _ _ _ h
   | none =>
     rw[hq]at h
     simp only at h
     cases hf:w.farLoad P (a.add i) (Mode.plain == Mode.atomic)with
     |error e=>rw[hf]at h;simp at h
     | ok p =>
       rw[hf]at h
       have hf':w.drew.farLoad P (a.add i) (Mode.plain == Mode.atomic)=.ok p:=hf
       simp_all
theorem firstCells_drew{size n len c:Nat}{base:Option Addr}{arr:Array Value}(h:(Builtin.firstCells size n (.slice base len c)).run P w=.ok arr w) :
 (Builtin.firstCells size n (.slice base len c)).run P w.drew=.ok arr w.drew:=by
 cases base with
 |none=>simp[Builtin.firstCells]at h ⊢;exact h
 |some a=>exact loadCellsFrom_drew a _ _ _ _ h
theorem src_ok(hρ:Good ρ)(hR:R ρ w F μ P hs){tX:TypeId}{elj:TypeId}(hu:P.underlying tX=some (.slice elj)){size:Nat}{x:V}{X:Value}{es:List (List V)}(hx:Rep ρ w F μ x X)(h:elemsJ hs size x=some es)
 (hsz:∀ e∈es,e.length=size) (hc:∀ e∈es,∀ v∈e,v.isCell=true):∃ arr,Src P size tX X es.length arr.toList w∧Flat ρ w F size es arr:=by
 obtain⟨base,c,rfl,arr,h1,h2⟩:=elems_ok (P:=P) hR hx h hsz
 exact⟨arr,⟨.inl ⟨elj,hu⟩,fun _=>rfl,by simpa using h1,by simpa using firstCells_drew h1,by simpa using h2.1,h2.one hρ hsz hc⟩,h2⟩
theorem grown_cells{e:TI}{z:Value}(hz:z.cells.size=e.size){es new:List (List V)}{old arr:Array Value}(hold:Flat ρ w F e.size es old)(hnew:Flat ρ w F e.size new arr)
 {newCap:Nat} (hcap:es.length+new.length≤newCap) :
 ((old.toList++arr.toList).toArray++Builtin.zeroCells z.cells (newCap-(es.length+new.length))).size=newCap*e.size ∧
 ∀ (k:Nat) (c:List V) (j:Nat) (v:V),(appL es new)[k]?=some c→c[j]?=some v→∃ y,((old.toList++arr.toList).toArray++Builtin.zeroCells z.cells (newCap-(es.length+new.length)))[k*e.size+j]?=some y∧PRep ρ w F v y:=by
 have hcs:((old.toList++arr.toList).toArray++Builtin.zeroCells z.cells (newCap-(es.length+new.length))).size=newCap*e.size:=by
  simp only[Array.size_append,List.size_toArray,List.length_append,Array.length_toList,zeroCells_size,hold.1,hnew.1,hz,← Nat.add_mul]
  congr 1;omega
 refine⟨hcs,?_⟩
 intro k c j v hk hj
 rw[appL_eq]at hk
 by_cases hkl:k<es.length
 · rw[List.getElem?_append_left hkl]at hk
   obtain⟨y,hy,hp⟩:=hold.2 k c j v hk hj
   grind
 · rw[List.getElem?_append_right (by omega)]at hk
   obtain⟨y,hy,hp⟩:=hnew.2 (k-es.length) c j v hk hj
   obtain⟨hlt,_⟩:=Array.getElem?_eq_some_iff.1 hy
   have e1:k*e.size=es.length*e.size+(k-es.length)*e.size:=by rw[← Nat.add_mul];congr 1;omega
   refine⟨y,?_,hp⟩
   have ho:=hold.1
   rw[Array.getElem?_append_left (by simp;omega),List.getElem?_toArray,List.getElem?_append_right (by simp;omega),Array.getElem?_toList]
   rw[← hy];congr 1;simp;omega
theorem grown_row(hR:R ρ w F μ P hs){id:Nat}(hid:Free μ hs id){el:TypeId}{e:TI}{z:Value}(hz:z.cells.size=e.size){es new:List (List V)}{old arr:Array Value}(hold:Flat ρ w F e.size es old)(hnew:Flat ρ w F e.size new arr)
 (hse:∀ c∈es,c.length=e.size) (hsn:∀ c∈new,c.length=e.size) {newCap:Nat} (hcap:es.length+new.length≤newCap) :
 ∃ μ',R ρ (w.drew.alloc (.cells ((old.toList++arr.toList).toArray++Builtin.zeroCells z.cells (newCap-(es.length+new.length))) el)) F μ' P (hs.put id (.arr e.size 0 (appL es new) false false true)) ∧
   Fr w F μ hs (w.drew.alloc (.cells ((old.toList++arr.toList).toArray++Builtin.zeroCells z.cells (newCap-(es.length+new.length))) el)) F μ' (hs.put id (.arr e.size 0 (appL es new) false false true)) ∧
   Rep ρ (w.drew.alloc (.cells ((old.toList++arr.toList).toArray++Builtin.zeroCells z.cells (newCap-(es.length+new.length))) el)) F μ' (.own id 0 0 (es.length+new.length) none) (.slice (some ⟨w.heap.size,0,none⟩) (es.length+new.length) newCap):=by
 obtain⟨hcs,hall⟩:=grown_cells hz hold hnew hcap
 have h:=mk_row hR hid (w':=w.drew.alloc (.cells ((old.toList++arr.toList).toArray++Builtin.zeroCells z.cells (newCap-(es.length+new.length))) el)) (size:=e.size) (es:=appL es new) (exact:=false) (row:=true)
  (cells:=(old.toList++arr.toList).toArray++Builtin.zeroCells z.cells (newCap-(es.length+new.length))) (el:=el) (wpush_size w.drew _) (wpush_new w.drew _) (fun b hb=>wpush_old w.drew _ hb) (fun c hc=>by
    rw[appL_eq]at hc
    rcases List.mem_append.1 hc with h|h
    · exact hse c h
    · exact hsn c h) (by rw[appL_eq,List.length_append,hcs];exact Nat.mul_le_mul_right _ hcap) (fun h=>by cases h) (fun k c j v hk hj=>by
    obtain⟨y,hy,hp⟩:=hall k c j v hk hj
    exact⟨y,hy,.pure hp,fun _=>hp⟩)
 refine⟨_,h.1,h.2,.own id 0 0 _ none newCap ⟨w.heap.size,e.size,_⟩ (upd_same ..) hcap ?_ (fun k hk=>by cases hk) (fun _=>?_)⟩
 · simp only[hcs];omega
 · simp only[hcs];omega
theorem next_row(hR:R ρ w F μ P hs){id g:Nat}{a:Nat×List (List V)×Bool×Bool×Bool}(ha:getRow hs id g=some a)(hfz:a.2.2.2.1=false){m m':MI}(hm:μ id g=some m){w':World}{cells:Array Value}{el:TypeId}{es':List (List V)}
 (hsz:w.heap.size≤w'.heap.size) (hlt:m'.b<w'.heap.size) (hb:m'.b=m.b∨w.heap.size≤m'.b) (hw:∀ b,b<w.heap.size→b≠m.b→w'.heap[b]?=w.heap[b]?)
 (hc:w'.heap[m'.b]?=some (.cells cells el (0,0))) (ht:cells.size=m'.total) (hms:m'.size=a.1) (hlen:∀ e∈es',e.length=a.1) (hle:es'.length*a.1≤m'.total)
 (hall:∀ (k:Nat) (e:List V) (j:Nat) (v:V),es'[k]?=some e→e[j]?=some v→∃ y,cells[k*a.1+j]?=some y∧PRep ρ w F v y) (hio:Io w w':=by exact⟨rfl,rfl,rfl⟩) :
 R ρ w' F (upd μ id (g+1) m') P (hs.wr id (.arr a.1 (g+1) es' false false true))∧Fr w F μ hs w' F (upd μ id (g+1) m') (hs.wr id (.arr a.1 (g+1) es' false false true)):=by
 obtain⟨hget,hne⟩:=getRow_spec ha
 have hrel:=hR.row ha hm
 have hnF:=hrel.hn hfz
 have hF:∀ b,F b→w'.heap[b]?=w.heap[b]?:=fun b hb=>hw b (hR.flt b hb) (fun e=>hnF (e ▸ hb))
 have hnF':¬ F m'.b:=by
  grind
 refine hR.next (hs':=hs.wr id (.arr a.1 (g+1) es' false false true)) (o':=.arr a.1 (g+1) es' false false true) hget hfz (m:=m) (m':=m') hm rfl rfl hsz hlt hb hw (fun k=>wr_get _ _ _ _) ?_ hio
 intro m1 hm1
 rw[show (Obj.arr a.1 g a.2.1 a.2.2.1 a.2.2.2.1 a.2.2.2.2).gen+1=g+1 from rfl,upd_same]at hm1
 cases hm1
 refine⟨hms,hlen,⟨cells,el,hc,ht,hle,(fun h=>by cases h),fun k e j v hk hj=>?_⟩,(fun h=>by cases h),fun _=>hnF'⟩
 obtain⟨y,hy,hp⟩:=hall k e j v hk hj
 have hp':=hp.mono ρ (fun _ h=>h) hF
 exact⟨y,hy,.pure hp',fun _=>hp'⟩
end
end Go.J
/- append,whole. -/
namespace Go.J
section
variable {ρ:Nat→Value}{P:Program}{w w':World}{F:Nat→Prop}{μ:Nat→Nat→Option MI}{hs:HS}{T:PT V}
theorem append_room{t tx ty e:TypeId}{i:TypeInfo}(ht:P.underlying t=some (.slice e))(hi:P.info? e=some i){a:Addr}{sLen sCap:Nat}{x:Value}{n:Nat}{news:List Value}(hs:Src P i.size tx x n news w)
 (hroom:sLen+n≤sCap) (hst:(storeCells (a.add (sLen*i.size)) news).run P w=.ok () w') :
 (Builtin.append_ #[t,tx] ty #[.slice (some a) sLen sCap,x]).run P w=.ok (.slice (some a) (sLen+n) sCap) w':=by
 rcases hs.kind with⟨e',hk⟩|hk<;>simp[Builtin.append_,Go.run_underlying ht,Go.run_underlying hk,sizeOf,typeInfo,hi,hs.len,hroom,hs.cells,hst]
theorem append_none{t tx ty e:TypeId}{i:TypeInfo}(ht:P.underlying t=some (.slice e))(hi:P.info? e=some i){base:Option Addr}{sLen sCap:Nat}{x:Value}(hs:Src P i.size tx x 0 [] w)
 (hroom:sLen≤sCap):(Builtin.append_ #[t,tx] ty #[.slice base sLen sCap,x]).run P w=.ok (.slice base sLen sCap) w:=by
 rcases hs.kind with⟨e',hk⟩|hk<;>cases base<;>simp[Builtin.append_,Go.run_underlying ht,Go.run_underlying hk,sizeOf,typeInfo,hi,hs.len,hroom,hs.cells,storeCells]
theorem append_ok (hρ:Good ρ) (hR:R ρ w F μ P hs) {id':Nat} (hid:Free μ hs id') {tS tX tR:TypeId} {i j e:TI} {el elj:TypeId} (hi:ti P tS=some i) (hd:i.desc=.slice el) (he:ti P el=some e)
 (hj:ti P tX=some j) (hdj:j.desc=.slice elj) {s x v:V} {S X:Value} (hS:Rep ρ w F μ s S) (hX:Rep ρ w F μ x X) {hs':HS} (h:appendJ e hs id' s x=some (v,hs')) :
 ValB ρ P w F μ hs (Builtin.append_ #[tS,tX] tR #[S,X]) v hs':=by
 simp only[appendJ,ob_eq,gd_eq,et_true,nt_true,beq_false,beq_true,lenL_eq,sizes_eq,allCells_eq]at h
 obtain⟨new,hnew,⟨hsn,hcn,hne,hnb,hzl⟩,h⟩:=h
 obtain⟨_,_,_,hu1,_⟩:=ti_spec hi
 obtain⟨_,_,_,hu2,_⟩:=ti_spec hj
 rw[hd]at hu1;rw[hdj]at hu2
 obtain⟨info,z,hinfo,hz,hzr,hrz,hzp,hsz,hby⟩:=zero_prep (ρ:=ρ) (w:=w) (F:=F) (μ:=μ) he
 obtain⟨arr,hsrc,hflat⟩:=src_ok (P:=P) hρ hR hu2 hX hnew hsn hcn
 rw[← hsz]at hsrc
 have hzs:z.cells.size=e.size:=by rw[hzr.1,hzl]
 -- growth by a new block
 have grow:∀ (es:List (List V)) (base:Option Addr) (sCap:Nat) (old:Array Value),(Builtin.firstCells e.size es.length (.slice base es.length sCap)).run P w=.ok old w→Flat ρ w F e.size es old →
  (∀ c∈es,c.length=e.size)→sCap<es.length+new.length→(es.length+new.length)*e.bytes≤1048576 →
  ∃ newCap,es.length+new.length≤newCap∧(Builtin.append_ #[tS,tX] tR #[.slice base es.length sCap,X]).run P w=.ok (.slice (some ⟨w.heap.size,0,none⟩) (es.length+new.length) newCap)
    (w.drew.alloc (.cells ((old.toList++arr.toList).toArray++Builtin.zeroCells z.cells (newCap-(es.length+new.length))) el)):=by
  intro es base sCap old hold hflo hse hlt hroom
  have hle:es.length+new.length≤1048576:=by
   have:(es.length+new.length)*1≤(es.length+new.length)*e.bytes:=Nat.mul_le_mul_left _ (by omega)
   omega
  refine⟨grownCap w (es.length+new.length) sCap el,grownCap_ge ..,?_⟩
  refine run_append_grow_src w tS tX tR el info z hu1 hinfo hz base es.length sCap old.toList ?_ X new.length arr.toList hsrc hlt (by omega) ?_
  · rw[hsz];simpa using firstCells_drew hold
  · rw[hby]
    have h2:=Nat.mul_le_mul_right e.bytes (nextslicecap_le hlt)
    have h3:2*(es.length+new.length)*e.bytes=2*((es.length+new.length)*e.bytes):=Nat.mul_assoc ..
    omega
 have nothing:new.length=0→∀ (base:Option Addr) (len c:Nat),len≤c→(Builtin.append_ #[tS,tX] tR #[.slice base len c,X]).run P w=.ok (.slice base len c) w:=by
  intro h0 base len c hle
  have hnil:arr.toList=[]:=by
   have:=hflat.1
   rw[h0]at this
   simpa using this
  rw[h0,hnil]at hsrc
  exact append_none hu1 hinfo hsrc hle
 split at h
 · simp only[appendNil,lenL_eq,roomOk]at h
   have e1:=hS.snil_inv;subst e1
   by_cases h0:new.length=0
   · rw[beq_true.2 h0,bi_true]at h
     cases h
     exact⟨_,w,F,μ,nothing h0 none 0 0 (Nat.le_refl _),hR,.pure .snil,Fr.refl ..⟩
   · rw[beq_false.2 h0,bi_false]at h
     simp only[gd_eq,ble_true,mkRowJ]at h
     obtain⟨hroom,h⟩:=h
     cases h
     have hfl0:Flat ρ w F e.size [] #[]:=⟨by simp,fun k c j v hk=>by simp at hk⟩
     obtain⟨nc,hnc,hrun⟩:=grow [] none 0 #[] rfl hfl0 (fun c hc=>by simp at hc) (by simp;omega) (by simpa using hroom)
     obtain⟨μ',g1,g2,g3⟩:=grown_row (el:=el) hR hid hzs hfl0 hflat (fun c hc=>by simp at hc) hsn hnc
     simp only[List.length_nil,Nat.zero_add]at hrun g1 g2 g3
     exact⟨_,_,F,μ',hrun,g1,g3,g2⟩
 · rename_i es tight
   simp only[appendSl,lenL_eq,roomOk]at h
   by_cases h0:new.length=0
   · rw[beq_true.2 h0,bi_true]at h
     cases h
     have hp:=hS.sl_inv
     have hshape:∃ base c,S=.slice base es.length c∧es.length≤c:=by
      cases hp with
      |slE a c t ht=>exact⟨a,c,rfl,Nat.zero_le _⟩
      |slC _ b off size c t ys hb hl hcell hrep hle ht=>exact⟨_,c,rfl,hle⟩
     obtain⟨base,c,rfl,hle⟩:=hshape
     exact⟨_,w,F,μ,nothing h0 base _ c hle,hR,.pure hp,Fr.refl ..⟩
   · rw[beq_false.2 h0,bi_false]at h
     simp only[gd_eq,et_true,ble_true,mkRowJ,sizes_eq]at h
     obtain⟨⟨ht,hroom,hse⟩,h⟩:=h
     cases h
     subst ht
     obtain⟨base,c,hSe,old,hold,hflo⟩:=elems_ok (P:=P) hR hS (size:=e.size) (es:=es) rfl hse
     have hc:c=es.length:=by
      have hp:=hS.sl_inv
      rw[hSe]at hp
      cases hp with
      |slE a c t ht=>exact ht rfl
      |slC _ b off size c t ys hb hl hcell hrep hle ht=>exact ht rfl
     subst hSe
     obtain⟨nc,hnc,hrun⟩:=grow es base c old hold hflo hse (by omega) hroom
     obtain⟨μ',g1,g2,g3⟩:=grown_row (el:=el) hR hid hzs hflo hflat hse hsn hnc
     exact⟨_,_,F,μ',hrun,g1,g3,g2⟩
 · rename_i id g off len cap
   simp only[appendOwn,ob_eq,gd_eq,et_true,beq_true,lenL_eq,roomOk,ble_true]at h
   obtain⟨a,ha,⟨hrow,hasz,hmod,hroom⟩,h⟩:=h
   obtain⟨m,c,hm,rfl,g1,g2,g3,g4⟩:=hS.own_inv
   have hrel:=hR.row ha hm
   obtain⟨hget,hane⟩:=getRow_spec ha
   have hms:m.size=a.1:=hrel.hsize
   have hflat':Flat ρ w F a.1 new arr:=by rw[hasz];exact hflat
   have hsn':∀ c∈new,c.length=a.1:=by rw[hasz];exact hsn
   have hoff:off=off / a.1*a.1:=by have:=Nat.div_add_mod off a.1;rw[Nat.mul_comm];omega
   obtain⟨cells,elm,hcells,htot,hle,hex,hall⟩:=hrel.cells
   -- into the row's own cells
   have inplace:appendIn hs id g off len cap a new=some (v,hs')→len+new.length≤c→ValB ρ P w F μ hs (Builtin.append_ #[tS,tX] tR #[.slice (some ⟨m.b,off,none⟩) len c,X]) v hs':=by
    intro h hfit
    simp only[appendIn,gd_eq,et_true,nt_true,ble_true,lenL_eq]at h
    obtain⟨⟨hfz,hst⟩,h⟩:=h
    cases h
    obtain⟨w',k1,k2,k3⟩:=write_elems hρ hR ha hfz hm hflat' hsn' hcn hst
    have hadd:(off / a.1+len)*a.1=off+len*info.size:=by rw[Nat.add_mul,← hoff,hsz,hasz]
    rw[hadd]at k1
    refine⟨_,w',F,μ,append_room hu1 hinfo hsrc hfit (by rw[addr_add];exact k1),k2,?_,k3⟩
    exact .own id g off _ cap c m hm hfit g2 g3 g4
   cases cap with
   | some k =>
     rw[orc_some]at h
     have hck:=g3 k rfl
     subst hck
     by_cases hfit:len+new.length≤c
     · rw[ble_true.2 hfit,bi_true]at h
       exact inplace h hfit
     · rw[ble_false.2 (by omega),bi_false]at h
       simp only[ob_eq,mkRowJ]at h
       obtain⟨oldes,hcut,h⟩:=h
       obtain⟨hm1,hm2,rfl⟩:=cutRow_eq hcut
       cases h
       have hll:((a.2.1.drop (off / a.1)).take len).length=len:=by simp;omega
       have hse:∀ c∈(a.2.1.drop (off / a.1)).take len,c.length=e.size:=fun c hc=>by rw[← hasz];exact hrel.hlen c (List.mem_of_mem_drop (List.mem_of_mem_take hc))
       obtain⟨base,c',hSe,old,hold,hflo⟩:=elems_ok (P:=P) hR hS (size:=e.size) (es:=(a.2.1.drop (off / a.1)).take len) (by
        show (ob (getRow hs id g) fun a=>gd (et a.2.2.2.2 (Nat.beq a.1 e.size)) (cutRow a.1 off len a.2.1))=_
        rw[ha,ob_some,hrow,hasz,← hasz]
        rw[show et true (Nat.beq a.1 a.1)=true from et_true.2 ⟨rfl,beq_true.2 rfl⟩,gd_true]
        exact hcut) hse
       rw[hll]at hSe hold
       cases hSe
       have hgrow:=grow ((a.2.1.drop (off / a.1)).take len) (some ⟨m.b,off,none⟩) c old (by rw[hll];exact hold) hflo hse (by rw[hll];omega) (by rw[hll];exact hroom)
       obtain⟨nc,hnc,hrun⟩:=hgrow
       obtain⟨μ',k1,k2,k3⟩:=grown_row (el:=el) hR hid hzs hflo hflat hse hsn hnc
       rw[hll]at hrun k1 k2 k3
       exact⟨_,_,F,μ',hrun,k1,k3,k2⟩
   | none =>
     rw[orc_none]at h
     have hnat:=g4 rfl
     have hpos:0<a.1:=Nat.pos_of_ne_zero hane
     by_cases hfit:off / a.1+len+new.length≤a.2.1.length
     · rw[ble_true.2 hfit,bi_true]at h
       refine inplace h ?_
       have h1:(off / a.1+len+new.length)*a.1≤a.2.1.length*a.1:=Nat.mul_le_mul_right _ hfit
       rw[Nat.add_assoc,Nat.add_mul,← hoff]at h1
       have h2:off+(len+new.length)*a.1≤off+c*a.1:=by rw[hms]at hnat;omega
       exact Nat.le_of_mul_le_mul_right (by omega) hpos
     · rw [ble_false.2 (by omega),bi_false]at h
       simp only[gd_eq,et_true,nt_true,beq_true,ble_true]at h
       obtain⟨⟨hfz,rfl,hlen⟩,h⟩:=h
       cases h
       rw[takeL_eq]
       have hzd:(0:Nat) / a.1=0:=Nat.zero_div _
       have hse:∀ c∈a.2.1.take len,c.length=a.1:=fun c hc=>hrel.hlen c (List.mem_of_mem_take hc)
       have hll:(a.2.1.take len).length=len:=by simp;omega
       have hlt:m.b<w.heap.size:=hR.lt _ _ _ hm
       have hes:∀ c∈appL (a.2.1.take len) new,c.length=a.1:=by
        intro c hc
        rw[appL_eq]at hc
        rcases List.mem_append.1 hc with h|h
        · exact hse c h
        · exact hsn' c h
       have hesl:(appL (a.2.1.take len) new).length=len+new.length:=by rw[appL_eq,List.length_append,hll]
       by_cases hroomc:len+new.length≤c
       · -- in place
         have hfitc:len*a.1+arr.size≤cells.size:=by
          rw[hflat'.1,← Nat.add_mul,htot]
          have:(len+new.length)*a.1≤c*a.1:=Nat.mul_le_mul_right _ hroomc
          rw[hms]at hnat;omega
         have hst:=storeCells_ok (P:=P) (o:=len*a.1) hcells (vs:=arr.toList) (by simpa using hfitc) (hflat'.one hρ hsn' hcn)
         have hallc:∀ (k:Nat) (c:List V) (j:Nat) (v:V),(appL (a.2.1.take len) new)[k]?=some c→c[j]?=some v→∃ y,(cover cells (len*a.1) arr.toList)[k*a.1+j]?=some y∧PRep ρ w F v y:=by
          intro k c j v hk hj
          rw[cover_get (by simpa using hfitc)]
          simp only[Array.length_toList,hflat'.1]
          have hjl:j<a.1:=by
           obtain⟨hlt,_⟩:=List.getElem?_eq_some_iff.1 hj
           rwa [hes c (List.mem_of_getElem? hk)]at hlt
          rw[appL_eq]at hk
          by_cases hkl:k<len
          · rw[List.getElem?_append_left (by omega),List.getElem?_take,if_pos hkl]at hk
            obtain⟨y,hy,_,hp⟩:=hall k c j v hk hj
            have:(k+1)*a.1≤len*a.1:=Nat.mul_le_mul_right _ hkl
            rw[Nat.add_mul]at this
            rw[if_neg (by omega)]
            exact⟨y,hy,hp hrow⟩
          · rw[List.getElem?_append_right (by omega),hll]at hk
            obtain⟨y,hy,hp⟩:=hflat'.2 (k-len) c j v hk hj
            obtain⟨hylt,_⟩:=Array.getElem?_eq_some_iff.1 hy
            rw[hflat'.1]at hylt
            have e1:k*a.1=len*a.1+(k-len)*a.1:=by rw[← Nat.add_mul];congr 1;omega
            rw[if_pos (by omega),show k*a.1+j-len*a.1=(k-len)*a.1+j by omega,Array.getElem?_toList]
            exact⟨y,hy,hp⟩
         have hn:=next_row hR ha hfz hm (w':=w.setRow m.b (cover cells (len*a.1) arr.toList)) (m':=m) (cells:=cover cells (len*a.1) arr.toList) (es':=appL (a.2.1.take len) new) (by simp) (by simpa using hlt) (.inl rfl)
          (fun b _ hb=>setRow_other w m.b b _ hb) (setRow_heap w m.b _ _ _ _ hcells) (by rw[cover_size (by simpa using hfitc)];exact htot) hms hes (by
            rw[hesl]
            have:(len+new.length)*a.1≤c*a.1:=Nat.mul_le_mul_right _ hroomc
            rw[hms]at hnat;omega) hallc
         refine⟨_,_,F,_,append_room hu1 hinfo hsrc hroomc (by rw[addr_add,Nat.zero_add,hsz,← hasz];exact hst),hn.1,?_,hn.2⟩
         exact .own id (g+1) 0 _ none c m (upd_same ..) hroomc (by omega) (fun k hk=>by cases hk) (fun _=>hnat)
       · -- a new block
         obtain⟨base,c',hSe,old,hold,hflo⟩:=elems_ok (P:=P) hR hS (size:=e.size) (es:=a.2.1.take len) (by
          show (ob (getRow hs id g) fun a=>gd (et a.2.2.2.2 (Nat.beq a.1 e.size)) (cutRow a.1 0 len a.2.1))=_
          rw[ha,ob_some,hrow,← hasz]
          rw[show et true (Nat.beq a.1 a.1)=true from et_true.2 ⟨rfl,beq_true.2 rfl⟩,gd_true]
          unfold cutRow
          rw[Nat.zero_mod,hzd,Nat.zero_add,lenL_eq,show et (Nat.beq 0 0) (Nat.ble len a.2.1.length)=true from et_true.2 ⟨rfl,ble_true.2 hlen⟩,gd_true,takeL_eq,dropL_eq,List.drop_zero]) (by rw[← hasz];exact hse)
         rw[hll]at hSe hold
         cases hSe
         obtain⟨nc,hnc,hrun⟩:=grow (a.2.1.take len) (some ⟨m.b,0,none⟩) c old (by rw[hll];exact hold) hflo (by rw[← hasz];exact hse) (by rw[hll];omega) (by rw[hll];exact hroom)
         obtain⟨hcs,hallc⟩:=grown_cells hzs hflo hflat hnc
         have hn:=next_row hR ha hfz hm (w':=w.drew.alloc (.cells ((old.toList++arr.toList).toArray++Builtin.zeroCells z.cells (nc-((a.2.1.take len).length+new.length))) el)) (m':=⟨w.heap.size,a.1,nc*a.1⟩)
          (cells:=(old.toList++arr.toList).toArray++Builtin.zeroCells z.cells (nc-((a.2.1.take len).length+new.length))) (el:=el) (es':=appL (a.2.1.take len) new) (by rw[show (w.drew.alloc _).heap.size=w.heap.size+1 from wpush_size w.drew _];omega)
          (by rw[show (w.drew.alloc _).heap.size=w.heap.size+1 from wpush_size w.drew _];exact Nat.lt_succ_self _) (.inr (Nat.le_refl _)) (fun b hb _=>wpush_old w.drew _ hb) (wpush_new w.drew _) (by rw[hcs,hasz]) rfl hes
          (by rw[hesl];exact Nat.mul_le_mul_right _ (by rw[← hll];exact hnc)) (by rw[hasz];exact hallc)
         have hrep:∀ W:World,Rep ρ W F (upd μ id (g+1) ⟨w.heap.size,a.1,nc*a.1⟩) (.own id (g+1) 0 (len+new.length) none) (.slice (some ⟨w.heap.size,0,none⟩) ((a.2.1.take len).length+new.length) nc):=by
          intro W
          rw[hll]
          refine .own id (g+1) 0 _ none nc ⟨w.heap.size,a.1,nc*a.1⟩ (upd_same ..) (by rw[← hll];exact hnc) ?_ (fun k hk=>by cases hk) (fun _=>?_)
          · show 0+nc*a.1≤nc*a.1;omega
          · show 0+nc*a.1=nc*a.1;omega
         have hrun':(Builtin.append_ #[tS,tX] tR #[.slice (some ⟨m.b,0,none⟩) len c,X]).run P w=.ok (.slice (some ⟨w.heap.size,0,none⟩) ((a.2.1.take len).length+new.length) nc)
          (w.drew.alloc (.cells ((old.toList++arr.toList).toArray++Builtin.zeroCells z.cells (nc-((a.2.1.take len).length+new.length))) el)):=by
          rw[← hrun,hll]
         exact⟨_,_,F,_,hrun',hn.1,hrep _,hn.2⟩
 · cases h
end
end Go.J
/- copy,len,the making of a slice,maps. -/
namespace Go.J
section
variable {ρ:Nat→Value}{P:Program}{w w':World}{F:Nat→Prop}{μ:Nat→Nat→Option MI}{hs:HS}{T:PT V}
theorem minN_eq(a b:Nat):minN a b=Nat.min a b:=by
 grind [minN,ble_true,bi_true,Nat.min_eq_left,ble_false,bi_false,Nat.min_eq_right]
theorem copy_ok (hρ:Good ρ) (hR:R ρ w F μ P hs) {tD tX tR:TypeId} {i e:TI} {el:TypeId} (hi:ti P tD=some i) (hd:i.desc=.slice el) (he:ti P el=some e)
 {d x v:V} {D X:Value} (hD:Rep ρ w F μ d D) (hX:Rep ρ w F μ x X) {hs':HS} (h:copyJ e hs d x=some (v,hs')) :
 ValB ρ P w F μ hs (Builtin.copy_ #[tD,tX] tR #[D,X]) v hs':=by
 simp only[copyJ,ob_eq]at h
 obtain⟨src,hsrc,h⟩:=h
 have head:∀ (base:Option Addr) (dl dc:Nat) (bx:Option Addr) (n c:Nat) (arr:Array Value) (W:World),D=.slice base dl dc→X=.slice bx n c→(Builtin.firstCells e.size (Nat.min n dl) X).run P w=.ok arr w →
  (match base with
  |some a=>storeCells a arr.toList
  |none=>pure ():Sem Unit).run P w=.ok () W→(Builtin.copy_ #[tD,tX] tR #[D,X]).run P w=.ok (.int .i64 (Nat.min n dl:Nat)) W:=by
  intro base dl dc bx n c arr W h1 h2 h3 h4
  subst h1;subst h2
  cases base with
  | none =>
    simp only[Sem.run_pure]at h4;cases h4
    simp[Builtin.copy_,run_und hi,hd,Builtin.lenOf,run_size he,h3,goInt]
  | some a =>
    simp only at h4
    simp[Builtin.copy_,run_und hi,hd,Builtin.lenOf,run_size he,h3,goInt,h4]
 split at h
 · rename_i id g off len cap
   simp only[copyOwn,ob_eq,gd_eq,et_true,nt_true,beq_true,sizes_eq,allCells_eq,ble_true,lenL_eq,minN_eq,takeL_eq]at h
   obtain⟨a,ha,⟨hfz,hrow,hasz,hmod,hss,hcc,hfit⟩,h⟩:=h
   cases h
   obtain⟨base,c,rfl,hel⟩:=elems_take (P:=P) hR hX hsrc hss
   obtain⟨m,cD,hm,rfl,g1,g2,g3,g4⟩:=hD.own_inv
   obtain⟨arr,h1,h2⟩:=hel (Nat.min src.length len) (Nat.min_le_left ..)
   have hlen:(src.take (Nat.min src.length len)).length=Nat.min src.length len:=by simp[Nat.min_def];split<;>omega
   obtain⟨w',k1,k2,k3⟩:=write_elems hρ hR ha hfz hm (by rw[hasz];exact h2) (fun c hc=>by rw[hasz];exact hss c (List.mem_of_mem_take hc)) (fun c hc=>hcc c (List.mem_of_mem_take hc)) (st:=off / a.1) (by rw[hlen];exact hfit)
   have hoff:off / a.1*a.1=off:=by have:=Nat.div_add_mod off a.1;rw[Nat.mul_comm];omega
   rw[hoff]at k1
   rw[hrow]at k2 k3
   exact⟨_,w',F,μ,head _ _ _ _ _ _ arr w' rfl rfl h1 k1,k2,.pure (.int _ _),k3⟩
 · cases h
   have e1:=hD.snil_inv;subst e1
   have:∃ bx n c,X=.slice bx n c:=by
    unfold elemsJ at hsrc
    split at hsrc
    · exact⟨_,_,_,hX.snil_inv⟩
    · have hp:=hX.sl_inv
      cases hp with
      |slE a c t ht=>exact⟨_,_,_,rfl⟩
      |slC _ b off size c t ys hb hl hcell hrep hle ht=>exact⟨_,_,_,rfl⟩
    · obtain⟨m,c,hm,rfl,_⟩:=hX.own_inv;exact⟨_,_,_,rfl⟩
    · cases hsrc
   obtain⟨bx,n,c,rfl⟩:=this
   refine⟨_,w,F,μ,head none 0 0 bx n c #[] w rfl rfl ?_ rfl,hR,?_,Fr.refl ..⟩
   · rw[show Nat.min n 0=0 from Nat.min_eq_right (Nat.zero_le _)]
     cases bx<;>simp[Builtin.firstCells,loadCells,loadCellsFrom]
   · rw[show Nat.min n 0=0 from Nat.min_eq_right (Nat.zero_le _)]
     exact .pure (.int _ _)
 · cases h
theorem clean_ok(hR:R ρ w F μ P hs){dr:Bool}{v v':V}{x:Value}{hs':HS}(hx:Rep ρ w F μ v x)(h:cleanJ dr v hs=some (v',hs')) :
 ∃ F',R ρ w F' μ P hs'∧Fr w F μ hs w F' μ hs'∧Colder hs hs'∧PRep ρ w F' v' x:=by
 unfold cleanJ at h
 cases dr with
 | true =>
   grind [bi_true,gd_eq,Fr.refl,Colder.refl,Rep.of_pure]
 |false=>rw[bi_false]at h;exact purify_ok hR hx h
theorem partsJ_nil(dr:Bool)(e:TI)(len:Nat)(hs:HS)(es:List (List V)):partsJ dr T e len [] hs es=some (es,hs):=rfl
theorem partsJ_cons(dr:Bool)(e:TI)(len:Nat)(p:Nat×Operand)(l:List (Nat×Operand))(hs:HS)(es:List (List V)):partsJ dr T e len (p::l) hs es =
 ob (evalO T p.2) fun v=>ob (cleanJ dr v hs) fun r=>gd (et (Nat.beq (lenL r.1.cells) e.size) (Nat.blt p.1 len)) (partsJ dr T e len l r.2 (setL es p.1 r.1.cells)):=rfl
theorem parts_ok (hρ:Good ρ) {dr:Bool} {e:TI} {len:Nat} {a:Act}:∀ (l:List (Nat×Operand)) {F:Nat→Prop} {hs:HS} {es es':List (List V)} {hs':HS} {cells:Array Value},
 R ρ w F μ P hs→TRel ρ w F μ T a.tmps→partsJ dr T e len l hs es=some (es',hs')→es.length=len→(∀ c∈es,c.length=e.size)→Flat ρ w F e.size es cells →
 ∃ F' cells',Instr.fill (fun i=>some (i*e.size,e.size)) cells (l.map fun (i,x)=>(i,a.eval x))=some cells'∧R ρ w F' μ P hs'∧Fr w F μ hs w F' μ hs'∧Colder hs hs'∧es'.length=len∧(∀ c∈es',c.length=e.size)∧Flat ρ w F' e.size es' cells':=by
 intro l
 induction l with
 | nil =>
   intro F hs es es' hs' cells hR hT h hl hc hf
   rw[partsJ_nil]at h;cases h
   exact⟨F,cells,rfl,hR,Fr.refl ..,Colder.refl _,hl,hc,hf⟩
 | cons p l ih =>
   intro F hs es es' hs' cells hR hT h hl hc hf
   rw[partsJ_cons]at h
   simp only[ob_eq,gd_eq,et_true,beq_true,blt_true,lenL_eq,setL_eq]at h
   obtain⟨v,hv,⟨v',hs1⟩,hcl,⟨h1,h2⟩,h⟩:=h
   dsimp only at h1 h
   obtain⟨F1,k1,k2,k3,k4⟩:=clean_ok hR (evalO_rep hT hv) hcl
   have hpc:=prep_cells hρ k4
   have hxs:(a.eval p.2).cells.size=e.size:=by rw[hpc.1,h1]
   have hend:(p.1+1)*e.size≤es.length*e.size:=Nat.mul_le_mul_right _ (by omega)
   rw[Nat.add_mul,Nat.one_mul]at hend
   have hf1:=hf.1
   obtain⟨q1,q2⟩:=fold_arr (p.1*e.size) (a.eval p.2).cells cells
   have hFm:∀ v y,PRep ρ w F v y→PRep ρ w F1 v y:=fun v y h=>h.mono ρ k2.fm (fun _ _=>rfl)
   have hflat:Flat ρ w F1 e.size (es.set p.1 v'.cells) ((a.eval p.2).cells.zipIdx.foldl (fun cs (q:Value×Nat)=>cs.setIfInBounds (p.1*e.size+q.2) q.1) cells):=by
    refine⟨by rw[q1,List.length_set];exact hf1,fun k c j u hk hj=>?_⟩
    rw[q2,hxs]
    rw[List.getElem?_set]at hk
    by_cases hkk:p.1=k
    · subst hkk
      rw[if_pos rfl,if_pos (by omega)]at hk
      cases hk
      obtain⟨hjl,_⟩:=List.getElem?_eq_some_iff.1 hj
      rw[if_pos (by omega),show p.1*e.size+j-p.1*e.size=j by omega]
      have hlt:j<(a.eval p.2).cells.size:=by omega
      refine⟨(a.eval p.2).cells[j],by simp[hlt],?_⟩
      have:=hpc.2 j u hj
      rwa [Array.getD_eq_getD_getElem?,Array.getElem?_eq_getElem hlt]at this
    · rw [if_neg hkk]at hk
      have hjl:j<e.size:=by
       grind
      rw[if_neg]
      · obtain⟨y,hy,hp⟩:=hf.2 k c j u hk hj
        grind
      · rintro ⟨h3,h4,_⟩
        rcases Nat.lt_or_gt_of_ne hkk with hlt|hlt
        · have:(p.1+1)*e.size≤k*e.size:=Nat.mul_le_mul_right _ hlt
          grind
        · have:(k+1)*e.size≤p.1*e.size:=Nat.mul_le_mul_right _ hlt
          rw[Nat.add_mul]at this;omega
   obtain⟨F',cells',r1,r2,r3,r4,r5,r6,r7⟩:=ih k1 (k2.trel hR hT) h (by rw[List.length_set];exact hl) (fun c hc'=>by
    rcases List.mem_or_eq_of_mem_set hc' with h|h
    · exact hc c h
    · rw[h];exact h1) hflat
   refine⟨F',cells',?_,r2,k2.trans r3,k3.trans r4,r5,r6,r7⟩
   obtain⟨pi,px⟩:=p
   simp only[List.map_cons,Instr.fill]
   rw[if_neg]
   · exact r1
   · simp only[Bool.or_eq_true,decide_eq_true_eq,ne_eq,not_or,Decidable.not_not]
     dsimp only at hxs hend
     constructor
     · exact hxs
     · omega
theorem Colder.none{a b:HS}{id:Nat}(h:Colder a b)(hf:a.H.get id=none):b.H.get id=none:=by
 rcases h.2 id with h1|⟨_,_,_,_,_,_,h1,_⟩
 · rw[h1];exact hf
 · rw[hf]at h1;cases h1
theorem Colder.free{a b:HS}{id:Nat}(h:Colder a b)(hf:Free μ a id):Free μ b id:=⟨h.none hf.1,hf.2⟩
theorem mk_ghost(hR:R ρ w F μ P hs){id:Nat}(hid:Free μ hs id)(B:_root_.Go.Obj) :
 R ρ (wpush w B) (fun b=>F b∨b=w.heap.size) μ P (hs.put id (.mp []))∧Fr w F μ hs (wpush w B) (fun b=>F b∨b=w.heap.size) μ (hs.put id (.mp [])):=by
 have hold:∀ b,b<w.heap.size→(wpush w B).heap[b]?=w.heap[b]?:=fun b hb=>wpush_old _ _ hb
 have hget:∀ k,(hs.put id (.mp [])).H.get k=if k=id then some (.mp [])else hs.H.get k:=fun k=>put_get _ _ _ _
 have hsz:=wpush_size w B
 refine⟨⟨fun i g m hm=>by have:=hR.lt i g m hm;omega,fun b hb=>?_,fun i o ho=>?_,fun i j o o' m m' ho ho' hm hm' he=>?_,fun i o ho g hg=>?_,hR.gl.keep (fun b hb=>.inl hb) fun b hb=>hold b (hR.flt b hb)⟩,
  ⟨⟨rfl,rfl,rfl⟩,by omega,fun b hb _=>hold b hb,fun b hb=>.inl hb,fun b hb=>?_,fun _ _ _ h=>h,?_,fun k hk=>?_,fun k _ g=>rfl,fun k _ h=>h,fun i g m hm=>.inr ⟨i,g,m,hm,rfl⟩⟩⟩
 · rcases hb with hb|rfl
   · have:=hR.flt b hb;omega
   · omega
 · rw[hget]at ho
   split at ho
   · rename_i e;cases ho;subst e
     intro m hm;rw[hid.2]at hm;cases hm
   · refine(hR.obj i o ho).mono (fun b hb=>.inl hb) (fun b hb=>hold b (hR.flt b hb)) (fun _ _ _ h=>h) (fun _ h=>h) (fun m hm=>hold _ (hR.lt _ _ _ hm)) (fun m hm _ hn hF=>?_)
     rcases hF with hF|hF
     · exact hn hF
     · have:=hR.lt _ _ _ hm;omega
 · rw[hget]at ho ho'
   split at ho
   · rename_i e;cases ho;subst e;rw[hid.2]at hm;cases hm
   · split at ho'
     · rename_i e;cases ho';subst e;rw[hid.2]at hm';cases hm'
     · exact hR.inj i j o o' m m' ho ho' hm hm' he
 · rw[hget]at ho
   split at ho
   · rename_i e;subst e;exact hid.2 g
   · exact hR.gens i o ho g hg
 · grind
 · rintro b ⟨i,o,m,ho,hz,hm,rfl⟩
   rw[hget]at ho
   split at ho
   · rename_i e;cases ho;subst e;rw[hid.2]at hm;cases hm
   · exact .inl ⟨i,o,m,ho,hz,hm,rfl⟩
 grind
theorem buildSlice_ok (hρ:Good ρ) (hR:R ρ w F μ P hs) {id:Nat} (hid:Free μ hs id) {dr:Bool} {a:Act} (hT:TRel ρ w F μ T a.tmps) {t:TypeId} {len:Nat} {parts:Array (Nat×Operand)} {v:V} {hs':HS}
 (h:buildSliceOpJ P dr T hs id t len parts=some (v,hs')):ValB ρ P w F μ hs (Instr.buildSlice t len (parts.map fun (i,x)=>(i,a.eval x))) v hs':=by
 simp only[buildSliceOpJ,ob_eq,gd_eq,et_true,nt_true,beq_true,beq_false,ble_true,lenL_eq,sliceOf_eq,repL_eq]at h
 obtain⟨i,hi,el,hd,e,he,⟨hsmall,hne,hzl,hpz⟩,⟨es,hs1⟩,hparts,h⟩:=h
 cases h
 obtain⟨info,z,hinfo,hz,hzr,hrz,hzp,hsz,hby⟩:=zero_prep (ρ:=ρ) (w:=w) (F:=F) (μ:=μ) he
 have hall:=zeros_all (w:=w) he hzl hzr len hzp
 obtain⟨F',cells',r1,r2,r3,r4,r5,r6,r7⟩:=parts_ok hρ parts.toList hR hT hparts (by simp) (fun c hc=>by rw[List.eq_of_mem_replicate hc];exact hzl) (cells:=(Array.range (len*e.size)).map (z.cells[· % z.cells.size]!)) ⟨by simp,hall⟩
 have hfill:(parts.map fun (i,x)=>(i,a.eval x)).toList=parts.toList.map fun (i,x)=>(i,a.eval x):=by simp
 have hrun:(Instr.buildSlice t len (parts.map fun (i,x)=>(i,a.eval x))).run P w=.ok (.slice (some ⟨w.heap.size,0,none⟩) len len) (wpush w (.cells cells' el)):=by
  have hbig:¬ len*e.size>2 ^ 24:=by omega
  simp only[Instr.buildSlice,Sem.run_bind,run_und hi,Result.andThen_ok,hd,run_size he,if_neg hbig,hfill]
  by_cases h0:len*e.size=0
  · have hrange:(Array.range (len*e.size)).map (z.cells[· % z.cells.size]!)=(Array.range (len*e.size)).map (fun x=>(#[]:Array Value)[x % (#[]:Array Value).size]!):=by
     rw[h0];simp[show Array.range 0=#[] from rfl]
    rw[hrange]at r1
    simp only[if_pos h0,Sem.run_pure,Result.andThen_ok,r1,Go.newRow,Sem.run_bind,run_newObj]
    rfl
  · simp only[if_neg h0,Sem.run_bind,hrz,Sem.run_pure,Result.andThen_ok,r1,Go.newRow,run_newObj]
    rfl
 cases hby2:Nat.beq e.bytes 128 with
 | true =>
   have hrow:=mk_row r2 (r4.free hid) (w':=wpush w (.cells cells' el)) (size:=e.size) (es:=es) (exact:=true) (row:=true) (cells:=cells') (el:=el) (wpush_size _ _) (wpush_new _ _) (fun b hb=>wpush_old _ _ hb) r6 (Nat.le_of_eq r7.1.symm) (fun _=>r7.1) (fun k x j v hk hj=>by
    obtain⟨y,hy,hp⟩:=r7.2 k x j v hk hj
    exact⟨y,hy,.pure hp,fun _=>hp⟩)
   refine⟨.slice (some ⟨w.heap.size,0,none⟩) len len,wpush w (.cells cells' el),_,_,hrun,hrow.1,?_,r3.trans hrow.2⟩
   have hc:cells'.size=len*e.size:=by rw[r7.1,r5]
   exact .own id 0 0 len (some len) len _ (upd_same ..) (Nat.le_refl _) (by simp[hc]) (fun k hk=>by cases hk;rfl) (fun h=>by cases h)
 | false =>
   have hg:=mk_ghost r2 (r4.free hid) (.cells cells' el)
   refine⟨.slice (some ⟨w.heap.size,0,none⟩) len len,wpush w (.cells cells' el),_,μ,hrun,hg.1,.pure ?_,r3.trans hg.2⟩
   rw[← r5]
   have hcell:∀ (k:Nat) (c:List V) (j:Nat) (u:V),es[k]?=some c→c[j]?=some u→∃ y,(wpush w (.cells cells' el)).cell? ⟨w.heap.size,0+k*e.size+j,none⟩=some y∧PRep ρ (wpush w (.cells cells' el)) (fun b=>F' b∨b=w.heap.size) u y:=by
    intro k c j u hk hj
    obtain⟨y,hy,hp⟩:=r7.2 k c j u hk hj
    refine⟨y,?_,hp.mono ρ (fun b hb=>.inl hb) (fun b hb=>wpush_old _ _ (r2.flt b hb))⟩
    rw[Nat.zero_add]
    simp only[World.cell?,wpush_new,Option.some.injEq]
    exact hy
   exact .slC es w.heap.size 0 e.size es.length true (fun k j=>((wpush w (.cells cells' el)).cell? ⟨w.heap.size,0+k*e.size+j,none⟩).getD undef) (.inr rfl) r6 (fun k c j u hk hj=>by
    obtain⟨y,hy,_⟩:=hcell k c j u hk hj
    rw[hy];rfl) (fun k c j u hk hj=>by
    obtain⟨y,hy,hp⟩:=hcell k c j u hk hj
    rw[hy];exact hp) (Nat.le_refl _) (fun _=>rfl)
end
end Go.J
/- len,maps. -/
namespace Go.J
section
variable {ρ:Nat→Value}{P:Program}{w w':World}{F:Nat→Prop}{μ:Nat→Nat→Option MI}{hs:HS}{T:PT V}
theorem run_getObj{r:Nat}{o:_root_.Go.Obj}(h:w.heap[r]?=some o)(hc:∀ c e f,o≠.cells c e f):(getObj r).run P w=.ok o w:=by
 cases o<;>first|(exact absurd rfl (hc _ _ _))|simp[getObj,Sem.run,h]
theorem run_setObj{r:Nat}{o o':_root_.Go.Obj}(h:w.heap[r]?=some o)(hc:∀ c e f,o≠.cells c e f):(setObj r o').run P w=.ok () { w with heap:=w.heap.setIfInBounds r o' }:=by
 cases o<;>first|(exact absurd rfl (hc _ _ _))|simp[setObj,Sem.run,h]
theorem R.map(hR:R ρ w F μ P hs){id:Nat}{es:List (V×V)}(h:hs.H.get id=some (.mp es)){m:MI}(hm:μ id 0=some m):MapRel ρ w F m es:=hR.obj id _ h m hm
theorem mp?_eq {o:Obj}{es:List (V×V)}:o.mp?=some es↔o=.mp es:=by cases o<;>simp[Obj.mp?]
theorem len_ok(hR:R ρ w F μ P hs){t tR:TypeId}{ts:List TypeId}{i:TI}(hi:ti P t=some i){v:V}{n:Nat}{x:Value}(hx:Rep ρ w F μ v x)(h:lenJ hs i.desc v=some n) :
 ValA ρ P w F μ (Builtin.len_ (t::ts).toArray tR #[x]) (.int .i64 (Int.ofNat n)):=by
 refine⟨.int .i64 (n:Int),?_,.pure (.int _ _)⟩
 unfold lenJ at h
 split at h
 · rename_i hd
   simp only[ob_eq,V.str?_eq]at h
   obtain⟨s,rfl,h⟩:=h
   cases h
   obtain⟨s,rfl,rfl⟩:=hx.str_inv
   rw[lenL_eq,bytesOf_len]
   simp[Builtin.len_,run_und hi,hd,goInt]
 · rename_i el hd
   split at h
   · cases h
     rw[hx.snil_inv]
     simp[Builtin.len_,run_und hi,hd,goInt]
   · cases h
     rw[lenL_eq]
     have hp:=hx.sl_inv
     cases hp with
     |slE a c t ht=>simp[Builtin.len_,run_und hi,hd,goInt]
     |slC _ b off size c t ys hb hl hcell hrep hle ht=>simp[Builtin.len_,run_und hi,hd,goInt]
   · cases h
     obtain⟨m,c,hm,rfl,_⟩:=hx.own_inv
     simp[Builtin.len_,run_und hi,hd,goInt]
   · cases h
 · rename_i k el hd
   split at h
   · cases h
     rw[hx.nilmap_inv]
     simp[Builtin.len_,run_und hi,hd,goInt]
   · simp only[ob_eq,mp?_eq]at h
     obtain⟨o,ho,es,rfl,h⟩:=h
     cases h
     obtain⟨m,hm,rfl⟩:=hx.map_inv
     obtain⟨⟨en,clock,hen,hes,_⟩,_⟩:=hR.map ho hm
     rw[lenL_eq]
     have hg:=run_getObj (P:=P) hen (fun c e f h=>by cases h)
     simp[Builtin.len_,run_und hi,hd,goInt,hg,hes]
   · cases h
 · cases h
theorem keyOk_kind{d:TypeDesc}{k:V}{K:Value}(h:keyOk d k=true)(hk:Rep ρ w F μ k K) :
 (∃ j n,d=.int j∧k=.int j n∧K=.int j n)∨(∃ s,d=.string∧k=.str (bytesOf s)∧K=.string s)∨(∃ b,d=.bool∧k=.bool b∧K=.bool b):=by
 unfold keyOk at h
 split at h
 · split at h
   · rename_i j k' n
     rw[kindEq_true]at h;subst h
     exact .inl ⟨_,_,rfl,rfl,hk.int_inv⟩
   · cases h
 · split at h
   · obtain⟨s,rfl,rfl⟩:=hk.str_inv
     grind
   · cases h
 · split at h
   · exact .inr (.inr ⟨_,rfl,rfl,hk.bool_inv⟩)
   · cases h
 · cases h
theorem keyEq_ok{d:TypeDesc}{k a:V}{K A:Value}{b:Bool}(hk:Rep ρ w F μ k K)(ha:PRep ρ w F a A)(hok:keyOk d k=true)(h:keyEq k a=some b) :
 Instr.sameNow d K A=some b∧(b=true→a=k):=by
 have ha':Rep ρ w F (fun _ _=>none) a A:=.pure ha
 rcases keyOk_kind hok hk with⟨j,n,rfl,rfl,rfl⟩|⟨s,rfl,rfl,rfl⟩|⟨q,rfl,rfl,rfl⟩
 · simp only[keyEq,ob_eq,gd_eq,V.int?_eq,kindEq_true]at h
   obtain⟨⟨k',m⟩,rfl,he,h⟩:=h
   dsimp only at he;subst he
   cases h
   rw[ha'.int_inv]
   refine⟨by simp[Instr.sameNow,eqI_beq],fun h=>?_⟩
   rw[eqI_true]at h;rw[h]
 · simp only[keyEq,ob_eq,V.str?_eq]at h
   obtain⟨t,rfl,h⟩:=h
   cases h
   obtain⟨t,rfl,rfl⟩:=ha'.str_inv
   refine⟨by simp[Instr.sameNow,eqNs_beq],fun h=>?_⟩
   rw[eqNs_true]at h;rw[h]
 · simp only[keyEq,ob_eq,V.bool?_eq]at h
   obtain⟨c,rfl,h⟩:=h
   cases h
   rw[ha'.bool_inv]
   refine⟨by simp[Instr.sameNow,boolEq_eq],fun h=>?_⟩
   grind [boolEq_eq]
theorem findJ_nil(k:V):findJ k []=some none:=rfl
theorem findJ_cons(k:V)(p:V×V)(l:List (V×V)):findJ k (p::l)=ob (keyEq k p.1) fun q=>bi q (some (some p.2)) (findJ k l):=rfl
theorem find_ok {d:TypeDesc} {k:V} {K:Value} (hk:Rep ρ w F μ k K) (hok:keyOk d k=true):∀ (es:List (V×V)) (en:List MapEntry) (i:Nat) {r:Option V},en.length=es.length →
 (∀ (i:Nat) (k v:V),es[i]?=some (k,v)→∃ e:MapEntry,en[i]?=some e∧PRep ρ w F k e.key∧PRep ρ w F v e.val)→findJ k es=some r →
 (r=none∧Instr.findNow d K en i=some none)∨(∃ v j x,r=some v∧Instr.findNow d K en i=some (some (i+j,x))∧PRep ρ w F v x∧j<es.length):=by
 intro es
 induction es with
 | nil =>
   intro en i r hl _ h
   rw[findJ_nil]at h;cases h
   have:en=[]:=by simpa using hl
   subst this
   exact .inl ⟨rfl,rfl⟩
 | cons p es ih =>
   intro en i r hl hall h
   cases en with
   |nil=>simp at hl
   | cons e en =>
     rw[findJ_cons]at h
     simp only[ob_eq]at h
     obtain⟨q,hq,h⟩:=h
     obtain⟨e',he',h1,h2⟩:=hall 0 p.1 p.2 rfl
     simp at he';subst he'
     obtain⟨hs,_⟩:=keyEq_ok hk h1 hok hq
     cases q with
     | true =>
       rw[bi_true]at h;cases h
       exact .inr ⟨p.2,0,e.val,rfl,by simp[Instr.findNow,hs],h2,by simp⟩
     | false =>
       rw[bi_false]at h
       have:=ih en (i+1) (by simpa using hl) (fun i k v hi=>hall (i+1) k v (by simpa using hi)) h
       rcases this with⟨h3,h4⟩|⟨v,j,x,h3,h4,h5,h6⟩
       · exact .inl ⟨h3,by simp[Instr.findNow,hs,h4]⟩
       · exact .inr ⟨v,j+1,x,h3,by simp[Instr.findNow,hs,h4];omega,h5,by simp;omega⟩
theorem checkKey_ok{t:TypeId}{ki:TI}(hki:ti P t=some ki){k:V}{K:Value}(hk:Rep ρ w F μ k K)(hok:keyOk ki.desc k=true)(b:Bool):(Instr.checkKey b 10000 t K).run P w=.ok () w:=by
 have key:∀ n,(Instr.checkKey b (n+1) t K).run P w=.ok () w:=by
  intro n
  simp only[Instr.checkKey,Sem.run_bind,run_und hki,Result.andThen_ok]
  rcases keyOk_kind hok hk with⟨j,n,hd,rfl,rfl⟩|⟨s,hd,rfl,rfl⟩|⟨q,hd,rfl,rfl⟩<;>rw[hd]<;>rfl
 exact key 9999
theorem zeroJ_rep{t:TypeId}{e:TI}(he:ti P t=some e){v:V}(h:zeroJ e=some v):∃ z,(zeroValue t).run P w=.ok z w∧Rep ρ w F μ v z:=by
 have he':=he
 simp only[ti,ob_eq]at he'
 obtain⟨info,h1,d,h2,z,h3,cs,h4,h5⟩:=he'
 cases h5
 obtain⟨hl,hz⟩:=ofConst1L_prep (ρ:=ρ) (w:=w) (F:=F) h4
 refine⟨z,by simp[zeroValue,typeInfo,h1,h3],?_⟩
 unfold zeroJ at h
 simp only at h
 cases hz':isAggV z with
 | true =>
   rw[hz',bi_true]at h
   cases h
   cases z<;>first|(cases hz';done)|skip
   rename_i cells
   refine .agg cs cells (by simpa [Value.cells]using hl) fun i u hi=>?_
   obtain⟨x,hx,hr⟩:=hz i u hi
   have hx':cells[i]?=some x:=by simpa [Value.cells]using hx
   rw[Array.getD_eq_getD_getElem?,hx'];exact .pure hr
 | false =>
   rw[hz',bi_false,nthL_eq]at h
   obtain⟨x,hx,hr⟩:=hz 0 v h
   have hc:z.cells=#[z]:=by cases z<;>first|rfl|(cases hz')
   rw[hc]at hx
   simp at hx;subst hx
   exact .pure hr
theorem lookup_ok (hR:R ρ w F μ P hs) {a:Act} (hT:TRel ρ w F μ T a.tmps) {t:TypeId} {m k:Operand} {ok:Bool} {v:V} {hs':HS} (h:lookupJ P T hs t m k ok=some (v,hs')) :
 hs'=hs∧ValA ρ P w F μ (Instr.lookup t (a.eval m) (a.eval k) ok) v:=by
 simp only[lookupJ,ob_eq,gd_eq,mapOf_eq]at h
 obtain⟨i,hi,⟨kt,el⟩,hd,ki,hki,e,he,mv,hm,kv,hk,hok,es,hes,r,hr,u,hu,h⟩:=h
 cases h
 refine⟨rfl,?_⟩
 have hkr:=evalO_rep hT hk
 have hmr:=evalO_rep hT hm
 have hck:=checkKey_ok (P:=P) hki hkr hok
 have fin:∀ (en:Array MapEntry),((a.eval m=.map none∧en=#[])∨∃ r c,a.eval m=.map (some r)∧(getObj r).run P w=.ok (.map en c) w)→en.size=es.length →
  (∀ (i:Nat) (k v:V),es[i]?=some (k,v)→∃ e:MapEntry,en[i]?=some e∧PRep ρ w F k e.key∧PRep ρ w F v e.val) →
  ValA ρ P w F μ (Instr.lookup t (a.eval m) (a.eval k) ok) (bi ok (.tuple [u,.bool (isSomeO r)]) u):=by
  intro en hen hsz hall
  have hf:=find_ok hkr hok es en.toList 0 (by simpa using hsz) (fun i k v hi=>by simpa using hall i k v hi) hr
  have hfk:∀ q,Instr.findNow ki.desc (a.eval k) en.toList 0=some q→(Instr.findKey kt (a.eval k) en.toList).run P w=.ok q w:=by
   intro q hq
   simp only[Instr.findKey,Sem.run_bind,run_und hki,Result.andThen_ok,hq,Sem.run_pure]
  have hval:∃ x,Rep ρ w F μ u x∧(Instr.lookup t (a.eval m) (a.eval k) ok).run P w=.ok (if ok then .tuple #[x,.bool (isSomeO r)]else x) w:=by
   rcases hf with⟨rfl,hq⟩|⟨v,j,x,rfl,hq,hp,_⟩
   · rw[orc_none]at hu
     obtain⟨z,hz,hzr⟩:=zeroJ_rep (ρ:=ρ) (w:=w) (F:=F) (μ:=μ) he hu
     refine⟨z,hzr,?_⟩
     unfold Instr.lookup
     rcases hen with⟨hm,rfl⟩|⟨r,c,hm,hg⟩
     · simp_all [run_und,isSomeO]
     · rw[hm]
       simp[run_und hi,hd,hg,hck,hfk _ hq,hz,isSomeO]
       try (split<;>rfl)
   · rw[orc_some]at hu
     cases hu
     refine⟨x,.pure hp,?_⟩
     unfold Instr.lookup
     rcases hen with⟨hm,rfl⟩|⟨r,c,hm,hg⟩
     · grind
     · rw[hm]
       simp[run_und hi,hd,hg,hck,hfk _ hq,isSomeO]
       try (split<;>rfl)
  obtain⟨x,hx,hrun⟩:=hval
  refine⟨_,hrun,?_⟩
  cases ok with
  |false=>exact hx
  | true =>
    refine .tuple _ _ rfl fun i c hi=>?_
    match i,hi with
    | 0,hi=>simp at hi;subst hi;exact hx
    | 1,hi=>simp at hi;subst hi;exact .pure (.bool _)
    |i+2,hi=>simp at hi
 unfold entriesJ at hes
 split at hes
 · cases hes
   have e1:=hmr.nilmap_inv
   simp_all
 · simp only[ob_eq,mp?_eq]at hes
   obtain⟨o,ho,rfl⟩:=hes
   obtain⟨mi,hmi,e1⟩:=hmr.map_inv
   obtain⟨⟨en,clock,hen,hsz,hall⟩,_⟩:=hR.map ho hmi
   simp_all [run_getObj]
 · cases hes
theorem putMapJ_nil(k v:V):putMapJ k v []=some [(k,v)]:=rfl
theorem putMapJ_cons(k v:V)(p:V×V)(l:List (V×V)):putMapJ k v (p::l)=ob (keyEq k p.1) fun q=>bi q (some ((p.1,v)::l)) (ob (putMapJ k v l) fun r=>some (p::r)):=rfl
theorem put_ok {d:TypeDesc} {k v:V} {K:Value} (hk:Rep ρ w F μ k K) (hok:keyOk d k=true):∀ (es:List (V×V)) (en:List MapEntry) (i:Nat) {es':List (V×V)},en.length=es.length →
 (∀ (i:Nat) (k v:V),es[i]?=some (k,v)→∃ e:MapEntry,en[i]?=some e∧PRep ρ w F k e.key∧PRep ρ w F v e.val)→putMapJ k v es=some es' →
 (Instr.findNow d K en i=some none∧es'=es++[(k,v)])∨(∃ j x u,Instr.findNow d K en i=some (some (i+j,x))∧es[j]?=some (k,u)∧es'=es.set j (k,v)):=by
 intro es
 induction es with
 | nil =>
   intro en i es' hl _ h
   rw[putMapJ_nil]at h;cases h
   have:en=[]:=by simpa using hl
   subst this
   exact .inl ⟨rfl,rfl⟩
 | cons p es ih =>
   intro en i es' hl hall h
   cases en with
   |nil=>simp at hl
   | cons e en =>
     rw[putMapJ_cons]at h
     simp only[ob_eq]at h
     obtain⟨q,hq,h⟩:=h
     obtain⟨e',he',h1,h2⟩:=hall 0 p.1 p.2 rfl
     simp at he';subst he'
     obtain⟨hs,hkk⟩:=keyEq_ok hk h1 hok hq
     cases q with
     | true =>
       rw[bi_true]at h;cases h
       obtain⟨p1,p2⟩:=p
       have:=hkk rfl
       dsimp only at this;subst this
       exact .inr ⟨0,e.val,p2,by simp[Instr.findNow,hs],rfl,rfl⟩
     | false =>
       rw[bi_false]at h
       simp only[ob_eq]at h
       obtain⟨r,hr,h⟩:=h
       cases h
       rcases ih en (i+1) (by simpa using hl) (fun i k v hi=>hall (i+1) k v (by simpa using hi)) hr with⟨h3,rfl⟩|⟨j,x,u,h3,h4,rfl⟩
       · exact .inl ⟨by simp[Instr.findNow,hs,h3],rfl⟩
       · exact .inr ⟨j+1,x,u,by simp[Instr.findNow,hs,h3];omega,by simpa using h4,rfl⟩
theorem key_stays{d:TypeDesc}{k:V}{K e:Value}(hk:Rep ρ w F μ k K)(hok:keyOk d k=true)(he:PRep ρ w F k e)(w':World):PRep ρ w F k K∧(Instr.keyThatStays e K).run P w'=.ok K w':=by
 have he':Rep ρ w F (fun _ _=>none) k e:=.pure he
 have hk':PRep ρ w F k K:=by
  refine hk.of_pure ρ ?_
  rcases keyOk_kind hok hk with⟨j,n,rfl,rfl,rfl⟩|⟨s,rfl,rfl,rfl⟩|⟨q,rfl,rfl,rfl⟩<;>rfl
 refine⟨hk',?_⟩
 have hsb:Instr.sameBits 10000 e K=true:=by
  rcases keyOk_kind hok hk with⟨j,n,rfl,rfl,rfl⟩|⟨s,rfl,rfl,rfl⟩|⟨q,rfl,rfl,rfl⟩
  · rw[he'.int_inv];simp[Instr.sameBits]
  · obtain⟨t,rfl,ht⟩:=he'.str_inv
    have:(t == s)=true:=by rw[← eqNs_beq,eqNs_true];exact ht
    simpa [Instr.sameBits]using this
  · rw[he'.bool_inv];simp[Instr.sameBits]
 simp[Instr.keyThatStays,hsb]
theorem mapUpdate_ok (hR:R ρ w F μ P hs) {a:Act} (hT:TRel ρ w F μ T a.tmps) {t:TypeId} {m k x:Operand} {v:V} {hs':HS} (h:mapUpdateJ P T hs t m k x=some (v,hs')) :
 ∃ w' F',v=undefV∧(Instr.mapUpdate t (a.eval m) (a.eval k) (a.eval x)).run P w=.ok () w'∧R ρ w' F' μ P hs'∧Fr w F μ hs w' F' μ hs':=by
 simp only[mapUpdateJ,ob_eq,gd_eq,mapOf_eq]at h
 obtain⟨i,hi,⟨kt,el⟩,hd,ki,hki,mv,hm,kv,hk,xv,hx,hok,h⟩:=h
 dsimp only at *
 split at h
 case h_2=>cases h
 rename_i id
 simp only[ob_eq,mp?_eq]at h
 obtain⟨⟨v',hs1⟩,hp,o,ho,es,rfl,es',hput,h⟩:=h
 cases h
 have hkr:=evalO_rep hT hk
 have hmr:=evalO_rep hT hm
 obtain⟨F',hR1,hF1,_,hv'⟩:=purify_ok hR (evalO_rep hT hx) hp
 dsimp only at *
 have hkr':Rep ρ w F' μ kv (a.eval k):=hF1.rep hR hkr
 obtain⟨mi,hmi,e1⟩:=(hF1.rep hR hmr).map_inv
 have hck:=checkKey_ok (P:=P) hki hkr hok false
 obtain⟨⟨en,clock,hen,hsz,hall⟩,hnF⟩:=hR1.map ho hmi
 have hg:=run_getObj (P:=P) hen (fun c e f h=>by cases h)
 have hlt:=hR1.lt _ _ _ hmi
 have hkp:PRep ρ w F' kv (a.eval k):=by
  refine hkr'.of_pure ρ ?_
  rcases keyOk_kind hok hkr' with⟨j,n,_,h,_⟩|⟨s,_,h,_⟩|⟨q,_,h,_⟩<;>rw[h]<;>rfl
 have fin:∀ (en':Array MapEntry) (clock':Nat),en'.size=es'.length →
  (∀ (i:Nat) (k v:V),es'[i]?=some (k,v)→∃ e:MapEntry,en'[i]?=some e∧PRep ρ w F' k e.key∧PRep ρ w F' v e.val) →
  (Instr.mapUpdate t (a.eval m) (a.eval k) (a.eval x)).run P w=.ok () { w with heap:=w.heap.setIfInBounds mi.b (.map en' clock') } →
  ∃ w' F',undefV=undefV∧(Instr.mapUpdate t (a.eval m) (a.eval k) (a.eval x)).run P w=.ok () w'∧R ρ w' F' μ P (hs1.wr id (.mp es'))∧Fr w F μ hs w' F' μ (hs1.wr id (.mp es')):=by
  intro en' clock' hsz' hall' hrun
  have hkeep:∀ b,b≠mi.b→({ w with heap:=w.heap.setIfInBounds mi.b (.map en' clock') }:World).heap[b]?=w.heap[b]?:=fun b hb=>by
   grind
  have hFk:∀ b,F' b→({ w with heap:=w.heap.setIfInBounds mi.b (.map en' clock') }:World).heap[b]?=w.heap[b]?:=fun b hb=>hkeep b (fun e=>hnF (e ▸ hb))
  obtain⟨h1,h2⟩:=hR1.write (w':={ w with heap:=w.heap.setIfInBounds mi.b (.map en' clock') }) (hs':=hs1.wr id (.mp es')) (o':=.mp es') ho rfl hmi rfl rfl (by simp) hkeep (fun j=>wr_get hs1 id (.mp es') j) (by
   intro m' hm'
   rw[show m'=mi from Option.some.inj (hm'.symm.trans hmi)]
   refine⟨⟨en',clock',by simp[hlt],hsz',fun i k v hi=>?_⟩,hnF⟩
   obtain⟨e,h1,h2,h3⟩:=hall' i k v hi
   exact⟨e,h1,h2.mono ρ (fun _ h=>h) hFk,h3.mono ρ (fun _ h=>h) hFk⟩)
  exact⟨_,F',rfl,hrun,h1,hF1.trans h2⟩
 have hset:∀ o',(setObj mi.b o').run P w=.ok () { w with heap:=w.heap.setIfInBounds mi.b o' }:=fun o'=>run_setObj hen (fun c e f h=>by cases h)
 rcases put_ok hkr' hok es en.toList 0 (by simpa using hsz) (fun i k v hi=>by simpa using hall i k v hi) hput with⟨hq,rfl⟩|⟨j,y,u,hq,hj,rfl⟩
 · have hfk:(Instr.findKey kt (a.eval k) en.toList).run P w=.ok none w:=by
    simp only[Instr.findKey,Sem.run_bind,run_und hki,Result.andThen_ok,hq,Sem.run_pure]
   refine fin (en.push { key:=a.eval k,val:=a.eval x,born:=clock }) (clock+1) (by simp[hsz]) (fun i k v hi=>?_) ?_
   · by_cases e:i<es.length
     · grind
     · rw[List.getElem?_append_right (by omega)]at hi
       have:i=es.length:=by
        grind
       subst this
       simp at hi
       obtain⟨rfl,rfl⟩:=hi
       exact⟨_,by rw[Array.getElem?_push,if_pos hsz.symm],hkp,hv'⟩
   · unfold Instr.mapUpdate
     simp_all [run_und]
 · have hfk:(Instr.findKey kt (a.eval k) en.toList).run P w=.ok (some (0+j,y)) w:=by
    simp only[Instr.findKey,Sem.run_bind,run_und hki,Result.andThen_ok,hq,Sem.run_pure]
   obtain⟨e,he,hek,_⟩:=hall j _ _ hj
   have hst:=(key_stays (P:=P) hkr' hok hek w).2
   refine fin (en.modify j fun e=>{ e with key:=a.eval k,val:=a.eval x }) clock (by simp[hsz]) (fun i k v hi=>?_) ?_
   · grind
   · unfold Instr.mapUpdate
     simp_all [run_und]
end
end Go.J
