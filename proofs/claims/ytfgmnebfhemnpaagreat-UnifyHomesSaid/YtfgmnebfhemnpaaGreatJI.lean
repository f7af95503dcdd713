import Derived.Test.YtfgmnebfhemnpaaGreatJF
import Derived.LoopNIn
import Derived.Test.YtfgmnebfhemnpaaGreatJH
import Derived.IntWalk
set_option linter.all false
noncomputable section
/- Runs of an activation with a heap of its own: what does not matter any more may be left out,and objects may be numbered anew. -/
namespace Go.J
def V.ren1(π:Nat→Nat):V→V
 |.ptr id g off=>.ptr (π id) g off
 |.own id g off len cap=>.own (π id) g off len cap
 |.map id=>.map (π id)
 |.yld id=>.yld (π id)
 |v=>v
def V.ren2(π:Nat→Nat):V→V
 |.agg cs=>.agg (cs.map (V.ren1 π))
 |.func f cs=>.func f (cs.map (V.ren1 π))
 |.iface t v=>.iface t (v.ren1 π)
 |v=>v.ren1 π
def V.ren(π:Nat→Nat):V→V
 |.tuple cs=>.tuple (cs.map (V.ren2 π))
 |v=>v.ren2 π
def V.in1(A:Nat→Bool):V→Bool
 |.ptr id _ _=>A id
 |.own id _ _ _ _=>A id
 |.map id=>A id
 |.yld id=>A id
 |v=>v.pure2
def V.in2(A:Nat→Bool):V→Bool
 |.agg cs=>cs.all (V.in1 A)
 |.func _ cs=>cs.all (V.in1 A)
 |.iface _ v=>v.in1 A
 |v=>v.in1 A
def V.in3(A:Nat→Bool):V→Bool
 |.tuple cs=>cs.all (V.in2 A)
 |v=>v.in2 A
def Obj.ren(π:Nat→Nat):Obj→Obj
 |.arr size gen es ex fz row=>.arr size gen (es.map fun e=>e.map (V.ren2 π)) ex fz row
 |o=>o
def Obj.in(A:Nat→Bool):Obj→Bool
 |.arr _ _ es _ _ row=>es.all fun e=>e.all fun v=>if row then v.pure2 else v.in2 A
 |.mp _=>true
 |.lp _ _ _ _ _ _=>false
section
variable {ρ:Nat→Value}{P:Program}{w w':World}{F F':Nat→Prop}{μ μ':Nat→Nat→Option MI}{hs hs':HS}{π:Nat→Nat}{A:Nat→Bool}
theorem V.ren2_pure{v:V}(h:v.pure2=true):v.ren2 π=v:=by
 cases v with
 | func f cs=>cases cs with
   |nil=>rfl
   |cons _ _=>cases h
 | iface t v =>
   replace h:v.pure1=true:=h
   cases v<;>first|rfl|cases h
 |agg _=>cases h
 |_=>first|rfl|cases h
theorem Rep.anew1{v:V}{x:Value}(h:Rep ρ w F μ (v.ren1 π) x)(hA:v.in1 A=true)(hμ:∀ id,A id=true→∀ g m,μ (π id) g=some m→μ' id g=some m):Rep ρ w F μ' v x:=by
 cases v with
 | ptr id g off =>
   obtain⟨m,h1,rfl⟩:=Rep.ptr_inv ρ h
   exact .ptr id g off m (hμ id hA g m h1)
 | own id g off len cap =>
   obtain⟨m,c,h1,rfl,h2,h3,h4,h5⟩:=Rep.own_inv ρ h
   exact .own id g off len cap c m (hμ id hA g m h1) h2 h3 h4 h5
 | map id =>
   obtain⟨m,h1,rfl⟩:=Rep.map_inv ρ h
   exact .map id m (hμ id hA 0 m h1)
 | yld id =>
   obtain⟨m,h1,rfl⟩:=Rep.yld_inv ρ h
   exact .yld id m (hμ id hA 0 m h1)
 |_=>exact .pure (Rep.pure2 ρ h hA)
theorem Rep.anew2{v:V}{x:Value}(h:Rep ρ w F μ (v.ren2 π) x)(hA:v.in2 A=true)(hμ:∀ id,A id=true→∀ g m,μ (π id) g=some m→μ' id g=some m):Rep ρ w F μ' v x:=by
 cases v with
 | agg cs =>
   obtain⟨ys,rfl,h1,h2⟩:=Rep.agg_inv ρ h
   replace hA:cs.all (V.in1 A)=true:=hA
   rw[List.all_eq_true]at hA
   refine .agg cs ys (by simpa using h1) fun i v hi=>?_
   exact(h2 i (v.ren1 π) (by simp[hi])).anew1 (hA v (List.mem_of_getElem? hi)) hμ
 | func f cs =>
   obtain⟨ys,rfl,h1,h2⟩:=Rep.func_inv ρ h
   replace hA:cs.all (V.in1 A)=true:=hA
   rw[List.all_eq_true]at hA
   refine .func f cs ys (by simpa using h1) fun i v hi=>?_
   exact(h2 i (v.ren1 π) (by simp[hi])).anew1 (hA v (List.mem_of_getElem? hi)) hμ
 | iface t v =>
   obtain⟨y,rfl,hy⟩:=Rep.iface_inv ρ h
   exact .iface t v y (hy.anew1 hA hμ)
 |_=>exact Rep.anew1 (π:=π) h hA hμ
theorem Rep.anew{v:V}{x:Value}(h:Rep ρ w F μ (v.ren π) x)(hA:v.in3 A=true)(hμ:∀ id,A id=true→∀ g m,μ (π id) g=some m→μ' id g=some m):Rep ρ w F μ' v x:=by
 cases v with
 | tuple cs =>
   obtain⟨ys,rfl,h1,h2⟩:=Rep.tuple_inv ρ h
   replace hA:cs.all (V.in2 A)=true:=hA
   rw[List.all_eq_true]at hA
   refine .tuple cs ys (by simpa using h1) fun i v hi=>?_
   exact(h2 i (v.ren2 π) (by simp[hi])).anew2 (hA v (List.mem_of_getElem? hi)) hμ
 |_=>exact Rep.anew2 (π:=π) h hA hμ
theorem Rep.back1{v:V}{x:Value}(h:Rep ρ w F μ v x)(hA:v.in1 A=true)(hμ:∀ id,A id=true→∀ g m,μ id g=some m→μ' (π id) g=some m):Rep ρ w F μ' (v.ren1 π) x:=by
 cases v with
 | ptr id g off =>
   obtain⟨m,h1,rfl⟩:=Rep.ptr_inv ρ h
   exact .ptr _ g off m (hμ id hA g m h1)
 | own id g off len cap =>
   obtain⟨m,c,h1,rfl,h2,h3,h4,h5⟩:=Rep.own_inv ρ h
   exact .own _ g off len cap c m (hμ id hA g m h1) h2 h3 h4 h5
 | map id =>
   obtain⟨m,h1,rfl⟩:=Rep.map_inv ρ h
   exact .map _ m (hμ id hA 0 m h1)
 | yld id =>
   obtain⟨m,h1,rfl⟩:=Rep.yld_inv ρ h
   exact .yld _ m (hμ id hA 0 m h1)
 |_=>exact .pure (Rep.pure2 ρ h hA)
theorem Rep.back2{v:V}{x:Value}(h:Rep ρ w F μ v x)(hA:v.in2 A=true)(hμ:∀ id,A id=true→∀ g m,μ id g=some m→μ' (π id) g=some m):Rep ρ w F μ' (v.ren2 π) x:=by
 cases v with
 | agg cs =>
   obtain⟨ys,rfl,h1,h2⟩:=Rep.agg_inv ρ h
   replace hA:cs.all (V.in1 A)=true:=hA
   rw[List.all_eq_true]at hA
   refine .agg _ ys (by simpa using h1) fun i v hi=>?_
   rw[List.getElem?_map,Option.map_eq_some_iff]at hi
   obtain⟨u,hu,rfl⟩:=hi
   exact(h2 i u hu).back1 (hA u (List.mem_of_getElem? hu)) hμ
 | func f cs =>
   obtain⟨ys,rfl,h1,h2⟩:=Rep.func_inv ρ h
   replace hA:cs.all (V.in1 A)=true:=hA
   rw[List.all_eq_true]at hA
   refine .func f _ ys (by simpa using h1) fun i v hi=>?_
   rw[List.getElem?_map,Option.map_eq_some_iff]at hi
   obtain⟨u,hu,rfl⟩:=hi
   exact(h2 i u hu).back1 (hA u (List.mem_of_getElem? hu)) hμ
 | iface t v =>
   obtain⟨y,rfl,hy⟩:=Rep.iface_inv ρ h
   exact .iface t _ y (hy.back1 hA hμ)
 |_=>exact Rep.back1 (π:=π) h hA hμ
theorem Rep.back{v:V}{x:Value}(h:Rep ρ w F μ v x)(hA:v.in3 A=true)(hμ:∀ id,A id=true→∀ g m,μ id g=some m→μ' (π id) g=some m):Rep ρ w F μ' (v.ren π) x:=by
 cases v with
 | tuple cs =>
   obtain⟨ys,rfl,h1,h2⟩:=Rep.tuple_inv ρ h
   replace hA:cs.all (V.in2 A)=true:=hA
   rw[List.all_eq_true]at hA
   refine .tuple _ ys (by simpa using h1) fun i v hi=>?_
   rw[List.getElem?_map,Option.map_eq_some_iff]at hi
   obtain⟨u,hu,rfl⟩:=hi
   exact(h2 i u hu).back2 (hA u (List.mem_of_getElem? hu)) hμ
 |_=>exact Rep.back2 (π:=π) h hA hμ
theorem Obj.ren_gen(o:Obj):(o.ren π).gen=o.gen:=by cases o<;>rfl
theorem Obj.ren_fz(o:Obj):(o.ren π).fz=o.fz:=by cases o<;>rfl
theorem ORel.anew {id:Nat} {o:Obj} (h:ORel ρ w F μ P (π id) (o.ren π)) (hin:o.in A=true) (hg:∀ g m,μ' id g=some m→μ (π id) g=some m)
 (hμ:∀ id,A id=true→∀ g m,μ (π id) g=some m→μ' id g=some m):ORel ρ w F μ' P id o:=by
 cases o with
 | arr size gen es exact fz row =>
   intro m hm
   have a:=h m (hg _ _ hm)
   replace hin:(es.all fun e=>e.all fun v=>if row then v.pure2 else v.in2 A)=true:=hin
   rw[List.all_eq_true]at hin
   obtain⟨cells,el,c1,c2,c3,c4,c5⟩:=a.cells
   refine⟨a.hsize,fun e he=>?_,⟨cells,el,c1,c2,by simpa using c3,by simpa using c4,fun k e j v he hv=>?_⟩,a.hf,a.hn⟩
   · have:=a.hlen (e.map (V.ren2 π)) (List.mem_map.2 ⟨e,he,rfl⟩)
     simpa using this
   · have hin':=hin e (List.mem_of_getElem? he)
     rw[List.all_eq_true]at hin'
     have hv':=hin' v (List.mem_of_getElem? hv)
     obtain⟨y,y1,y2,y3⟩:=c5 k (e.map (V.ren2 π)) j (v.ren2 π) (by simp[he]) (by simp[hv])
     cases row with
     | true =>
       replace hv':v.pure2=true:=hv'
       rw[V.ren2_pure hv']at y3
       exact⟨y,y1,.pure (y3 rfl),y3⟩
     | false =>
       replace hv':v.in2 A=true:=hv'
       exact⟨y,y1,y2.anew2 hv' hμ,fun h=>by cases h⟩
 |mp es=>exact fun m hm=>h m (hg _ _ hm)
 |lp a b c d e f=>cases hin
theorem ORel.back {id:Nat} {o:Obj} (h:ORel ρ w F μ P id o) (hin:o.in A=true) (hg:∀ g m,μ' (π id) g=some m→μ id g=some m)
 (hμ:∀ id,A id=true→∀ g m,μ id g=some m→μ' (π id) g=some m):ORel ρ w F μ' P (π id) (o.ren π):=by
 cases o with
 | arr size gen es exact fz row =>
   intro m hm
   have a:=h m (hg _ _ hm)
   replace hin:(es.all fun e=>e.all fun v=>if row then v.pure2 else v.in2 A)=true:=hin
   rw[List.all_eq_true]at hin
   obtain⟨cells,el,c1,c2,c3,c4,c5⟩:=a.cells
   refine⟨a.hsize,fun e he=>?_,⟨cells,el,c1,c2,by simpa using c3,by simpa using c4,fun k e j v he hv=>?_⟩,a.hf,a.hn⟩
   · obtain⟨e0,h0,rfl⟩:=List.mem_map.1 he
     simpa using a.hlen e0 h0
   · rw[List.getElem?_map,Option.map_eq_some_iff]at he
     obtain⟨e0,he0,rfl⟩:=he
     rw[List.getElem?_map,Option.map_eq_some_iff]at hv
     obtain⟨v0,hv0,rfl⟩:=hv
     have hin':=hin e0 (List.mem_of_getElem? he0)
     rw[List.all_eq_true]at hin'
     have hv':=hin' v0 (List.mem_of_getElem? hv0)
     obtain⟨y,y1,y2,y3⟩:=c5 k e0 j v0 he0 hv0
     cases row with
     | true =>
       replace hv':v0.pure2=true:=hv'
       rw[V.ren2_pure hv']
       exact⟨y,y1,.pure (y3 rfl),y3⟩
     | false =>
       replace hv':v0.in2 A=true:=hv'
       exact⟨y,y1,y2.back2 hv' hμ,fun h=>by cases h⟩
 |mp es=>exact fun m hm=>h m (hg _ _ hm)
 |lp a b c d e f=>cases hin
end
mutual
def zas:V→V
 |.snil=>.sl [] false
 |.sl es _=>.sl (zax es) false
 |.ref cs=>.ref (zak cs)
 |.agg cs=>.agg (zak cs)
 |.tuple cs=>.tuple (zak cs)
 |.iface t v=>.iface t (zas v)
 |v=>v
def zak:List V→List V
 | []=>[]
 |v::l=>zas v::zak l
def zax:List (List V)→List (List V)
 | []=>[]
 |v::l=>zak v::zax l
end
theorem zaO:∀ l,zak l=l.map zas:=by
 intro l
 induction l with
 |nil=>simp[zak]
 |cons v l ih=>simp[zak,ih]
theorem zhy:∀ l,zax l=l.map zak:=by
 intro l
 induction l with
 |nil=>simp[zax]
 |cons v l ih=>simp[zax,ih]
section
variable {ρ:Nat→Value}{P:Program}{w:World}{F:Nat→Prop}
theorem PRep.norm{v:V}{x:Value}(h:PRep ρ w F v x):PRep ρ w F (zas v) x:=by
 induction h with
 |bool b=>exact .bool b
 |int k n=>exact .int k n
 |str s=>exact .str s
 |nilptr=>exact .nilptr
 |snil=>exact .slE none 0 false (fun h=>by cases h)
 |nilmap=>exact .nilmap
 |nilFunc=>exact .nilFunc
 |nilIface=>exact .nilIface
 |sym k=>exact .sym k
 |func f=>exact .func f
 |iface t v y _ ih=>exact .iface t _ y ih
 | ref cs b off ys hb hc _ ih =>
   show PRep ρ w F (.ref (zak cs)) _
   rw[zaO]
   refine .ref _ b off ys hb (fun i v hi=>?_) (fun i v hi=>?_)
   · rw[List.getElem?_map,Option.map_eq_some_iff]at hi
     obtain⟨u,hu,rfl⟩:=hi
     exact hc i u hu
   · rw[List.getElem?_map,Option.map_eq_some_iff]at hi
     obtain⟨u,hu,rfl⟩:=hi
     exact ih i u hu
 |slE a c t h=>exact .slE a c false (fun h=>by cases h)
 | slC es b off size c t ys hb hl hc _ h1 h2 ih =>
   show PRep ρ w F (.sl (zax es) false) _
   rw[zhy]
   have hlen:(es.map zak).length=es.length:=List.length_map ..
   rw[← hlen]
   have hmap:∀ (i:Nat) (e:List V),(es.map zak)[i]?=some e→∃ e0:List V,es[i]?=some e0∧e=e0.map zas:=by
    intro i e hi
    rw[List.getElem?_map,Option.map_eq_some_iff]at hi
    obtain⟨e0,h0,rfl⟩:=hi
    exact⟨e0,h0,zaO _⟩
   refine .slC _ b off size c false ys hb (fun e he=>?_) (fun i e j v hi hj=>?_) (fun i e j v hi hj=>?_) (by rw[hlen];exact h1) (fun h=>by cases h)
   · obtain⟨e0,h0,rfl⟩:=List.mem_map.1 he
     rw[zaO,List.length_map];exact hl e0 h0
   · obtain⟨e0,h0,rfl⟩:=hmap i e hi
     rw[List.getElem?_map,Option.map_eq_some_iff]at hj
     obtain⟨u,hu,rfl⟩:=hj
     exact hc i e0 j u h0 hu
   · obtain⟨e0,h0,rfl⟩:=hmap i e hi
     rw[List.getElem?_map,Option.map_eq_some_iff]at hj
     obtain⟨u,hu,rfl⟩:=hj
     exact ih i e0 j u h0 hu
 | agg cs ys hs _ ih =>
   show PRep ρ w F (.agg (zak cs)) _
   rw[zaO]
   refine .agg _ ys (by simpa using hs) fun i v hi=>?_
   rw[List.getElem?_map,Option.map_eq_some_iff]at hi
   obtain⟨u,hu,rfl⟩:=hi
   exact ih i u hu
 | tuple cs ys hs _ ih =>
   show PRep ρ w F (.tuple (zak cs)) _
   rw[zaO]
   refine .tuple _ ys (by simpa using hs) fun i v hi=>?_
   rw[List.getElem?_map,Option.map_eq_some_iff]at hi
   obtain⟨u,hu,rfl⟩:=hi
   exact ih i u hu
end
section
variable {ρ:Nat→Value}{P:Program}{w w':World}{F F':Nat→Prop}{μ μ':Nat→Nat→Option MI}
theorem Rep.norm{v:V}{x:Value}(h:Rep ρ w F μ v x):Rep ρ w F μ (zas v) x:=by
 induction h with
 |pure h=>exact .pure h.norm
 |ptr id g off m hm=>simpa [zas]using Rep.ptr id g off m hm
 |own id g off len cap c m hm h1 h2 h3 h4=>simpa [zas]using Rep.own id g off len cap c m hm h1 h2 h3 h4
 |map id m hm=>simpa [zas]using Rep.map id m hm
 |yld id m hm=>simpa [zas]using Rep.yld id m hm
 |func f cs ys h1 h2 _=>simpa [zas]using Rep.func f cs ys h1 h2
 |iface t v y _ ih=>simpa [zas]using Rep.iface t _ y ih
 | agg cs ys h1 _ ih =>
   simp only[zas,zaO]
   refine .agg _ ys (by simpa using h1) fun i v hi=>?_
   rw[List.getElem?_map,Option.map_eq_some_iff]at hi
   obtain⟨u,hu,rfl⟩:=hi
   exact ih i u hu
 | tuple cs ys h1 _ ih =>
   simp only[zas,zaO]
   refine .tuple _ ys (by simpa using h1) fun i v hi=>?_
   rw[List.getElem?_map,Option.map_eq_some_iff]at hi
   obtain⟨u,hu,rfl⟩:=hi
   exact ih i u hu
def zws:Obj→Obj
 |.arr s g es x z r=>.arr s g (es.map zak) x z r
 |o=>o
theorem zqZ(o:Obj):(zws o).gen=o.gen:=by cases o<;>rfl
theorem zwr(o:Obj):(zws o).fz=o.fz:=by cases o<;>rfl
theorem ORel.norm{id:Nat}{o:Obj}(h:ORel ρ w F μ P id o):ORel ρ w F μ P id (zws o):=by
 cases o with
 | arr size gen es exact fz row =>
   intro m hm
   have a:=h m hm
   obtain⟨cells,el,c1,c2,c3,c4,c5⟩:=a.cells
   refine⟨a.hsize,fun e he=>?_,⟨cells,el,c1,c2,by simpa using c3,by simpa using c4,fun k e j v he hv=>?_⟩,a.hf,a.hn⟩
   · obtain⟨e0,h0,rfl⟩:=List.mem_map.1 he
     rw[zaO,List.length_map];exact a.hlen e0 h0
   · rw[List.getElem?_map,Option.map_eq_some_iff]at he
     obtain⟨e0,he0,rfl⟩:=he
     rw[zaO,List.getElem?_map,Option.map_eq_some_iff]at hv
     obtain⟨v0,hv0,rfl⟩:=hv
     obtain⟨y,y1,y2,y3⟩:=c5 k e0 j v0 he0 hv0
     exact⟨y,y1,y2.norm,fun hr=>(y3 hr).norm⟩
 |mp es=>exact h
 |lp a b c d e f=>exact h
end
section
variable {ρ:Nat→Value}{P:Program}{w w':World}{F F':Nat→Prop}{μ μ':Nat→Nat→Option MI}{hs hs':HS}{π:Nat→Nat}{A:Nat→Bool}
structure Start where
 O:Nat→Prop
 w:World
 F:Nat→Prop
 k:Nat
 μ:Nat→Nat→Option MI
structure Loc(s:Start)(w:World)(F:Nat→Prop)(μ:Nat→Nat→Option MI)(hs:HS):Prop where
 io:Io s.w w
 size:s.w.heap.size≤w.heap.size
 keep:∀ b,b<s.w.heap.size→¬ s.O b→w.heap[b]?=s.w.heap[b]?
 fm:∀ b,s.F b→F b
 fnew:∀ b,F b→s.F b∨s.w.heap.size≤b∨s.O b
 mm:∀ id g m,id<s.k→s.μ id g=some m→μ id g=some m
 own:∀ b,zdM hs μ b→s.O b∨s.w.heap.size≤b
 pres:∀ id,id<s.k→hs.H.get id≠none
 dm:∀ id,id<s.k→(∀ g,s.μ id g=none)→∀ g,μ id g=none
 mn:∀ id g m,μ id g=some m→s.w.heap.size≤m.b∨∃ i j m0,s.μ i j=some m0∧m0.b=m.b
theorem Loc.step{s:Start}(h:Loc s w F μ hs)(f:Fr w F μ hs w' F' μ' hs'):Loc s w' F' μ' hs' where
 io:=h.io.trans f.io
 size:=Nat.le_trans h.size f.size
 keep b hb hn:=by
  rw[f.keep b (Nat.lt_of_lt_of_le hb h.size) (fun ho=>(h.own b ho).elim hn (fun hge=>by omega)),h.keep b hb hn]
 fm b hb:=f.fm b (h.fm b hb)
 fnew b hb:=by
  rcases f.fnew b hb with h1|h1|h1
  · exact h.fnew b h1
  · exact .inr (.inl (Nat.le_trans h.size h1))
  · rcases h.own b h1 with h2|h2
    · exact .inr (.inr h2)
    · exact .inr (.inl h2)
 mm id g m hk hm:=f.mm _ _ _ (h.mm _ _ _ hk hm)
 own b hb:=by
  rcases f.own b hb with h1|h1
  · exact h.own b h1
  · exact .inr (Nat.le_trans h.size h1)
 pres id hk:=f.hm id (h.pres id hk)
 dm id hk hg:=f.dm id (h.pres id hk) (h.dm id hk hg)
 mn id g m hm:=by
  rcases f.mn id g m hm with h1|⟨i,j,m0,h1,h2⟩
  · exact .inl (Nat.le_trans h.size h1)
  · rcases h.mn i j m0 h1 with h3|⟨i',j',m1,h3,h4⟩
    · exact .inl (h2 ▸ h3)
    · exact .inr ⟨i',j',m1,h3,h4.trans h2⟩
def Dom0(μ:Nat→Nat→Option MI)(hs:HS):Prop:=∀ id g,μ id g≠none→hs.H.get id≠none
theorem Dom0.dom(h:Dom0 μ hs):Dom (fun _=>False) μ hs:=⟨fun id g hg=>.inl (h id g hg),fun _ _ h=>h⟩
theorem Dom.dom0(h:Dom (fun _=>False) μ hs):Dom0 μ hs:=fun id g hg=>(h.1 id g hg).elim (fun h=>h) False.elim
def Lt (ρ:Nat→Value) (P:Program) (k:Nat) (rd:Bool) (sz:Nat) (c:Code) (T:PT V) (hs:HS) (Q:Ex→PT V→HS→Prop):Prop :=
 ∀ (s:Start) (N:NB) (r:Option Nat) (w:World) (F:Nat→Prop) (μ:Nat→Nat→Option MI) (a:Act) (K:Exit→Act→World→Prop),s.k=k→((rd=false→r=none)∧N.plain=false)→Loc s w F μ hs→R ρ w F μ P hs→Dom0 μ hs→zbK ρ w F μ T a.tmps→sz≤a.tmps.size→Marks N w a.defers →
   (∀ ex T' hs' a' w' F' μ',Q ex T' hs'→Loc s w' F' μ' hs'→R ρ w' F' μ' P hs'→Dom0 μ' hs'→zbK ρ w' F' μ' T' a'.tmps→a'.tmps.size=a.tmps.size→Marks N w' a'.defers→K (zDX ex) a' w')→c.wpIn (Wr r) 0 P K a w
variable {k:Nat}{rd:Bool}{sz:Nat}{c:Code}{T:PT V}{Q Q':Ex→PT V→HS→Prop}
theorem zuJ(h:Lt ρ P k rd sz c T hs Q)(hq:∀ e T hs,Q e T hs→Q' e T hs):Lt ρ P k rd sz c T hs Q' :=
 fun s N r w F μ a K hk hr hL hR hD hT hsz hM hK=>h s N r w F μ a K hk hr hL hR hD hT hsz hM fun ex T' hs' a' w' F' μ' q=>hK ex T' hs' a' w' F' μ' (hq _ _ _ q)
theorem zFk(hρ:Good ρ){E:Env}(hcon:ConsOk ρ E)(hP:E.P.follows .mixedOrders=true)(hN:zdN E.P){n:Nat}{ex:Ex}{T':PT V}(h:(evJ E n).code rd sz c T hs=some (ex,T',hs'))(hq:Q ex T' hs'):Lt ρ E.P k rd sz c T hs Q:=by
 intro s N r w F μ a K hk hr hL hR hD hT hsz hM hK
 have hev:=zos hρ hcon hP hN n
 refine hev.code h N (fun _=>False) r w F μ a K hr hR hD.dom (Off.no _) hT hsz hM ?_
 intro a' w' F' μ' hR' hT' hsz' hM' hf'
 exact hK ex T' hs' a' w' F' μ' hq (hL.step hf') hR' (hf'.dom (hev.kept.code h).le hD.dom).dom0 hT' hsz' hM'
theorem z8u(h:Q .normal T hs):Lt ρ P k rd sz .skip T hs Q :=
 fun _ _ _ w F μ a _ _ _ hL hR hD hT _ hM hK=>wpIn_skip (hK _ _ _ a w F μ h hL hR hD hT rfl hM)
theorem z8x{i:Nat}(h:Q (.exit i) T hs):Lt ρ P k rd sz (.exit i) T hs Q :=
 fun _ _ _ w F μ a _ _ _ hL hR hD hT _ hM hK=>wpIn_exit (hK _ _ _ a w F μ h hL hR hD hT rfl hM)
theorem zFl(h:Q .ret T hs):Lt ρ P k rd sz .ret T hs Q :=
 fun _ _ _ w F μ a _ _ _ hL hR hD hT _ hM hK=>wpIn_ret (hK _ _ _ a w F μ h hL hR hD hT rfl hM)
theorem zFj{x y:Code}(h:Lt ρ P k rd sz x T hs (Ex.then (fun T hs=>Lt ρ P k rd sz y T hs Q) Q)):Lt ρ P k rd sz (.seq x y) T hs Q:=by
 intro s N r w F μ a K hk hr hL hR hD hT hsz hM hK
 refine wpIn_seq (h s N r w F μ a _ hk hr hL hR hD hT hsz hM ?_)
 intro ex T1 hs1 a1 w1 F1 μ1 q hL1 hR1 hD1 hT1 hsz1 hM1
 cases ex with
 | normal =>
   refine q s N r w1 F1 μ1 a1 K hk hr hL1 hR1 hD1 hT1 (by rw[hsz1];exact hsz) hM1 ?_
   intro ex T2 hs2 a2 w2 F2 μ2 q2 hL2 hR2 hD2 hT2 hsz2 hM2
   exact hK ex T2 hs2 a2 w2 F2 μ2 q2 hL2 hR2 hD2 hT2 (by rw[hsz2,hsz1]) hM2
 |ret=>exact hK .ret T1 hs1 a1 w1 F1 μ1 q hL1 hR1 hD1 hT1 hsz1 hM1
 |exit i=>exact hK (.exit i) T1 hs1 a1 w1 F1 μ1 q hL1 hR1 hD1 hT1 hsz1 hM1
theorem z8y{q:Operand}{x y:Code}{t:Bool}(hq:zB T q=some (.bool t))(h:if t=true then Lt ρ P k rd sz x T hs Q else Lt ρ P k rd sz y T hs Q):Lt ρ P k rd sz (.cond q x y) T hs Q:=by
 intro s N r w F μ a K hk hr hL hR hD hT hsz hM hK
 refine wpIn_cond (zH (a:=a) hT hq).bool_inv ?_
 cases t with
 |true=>exact h s N r w F μ a K hk hr hL hR hD hT hsz hM hK
 |false=>exact h s N r w F μ a K hk hr hL hR hD hT hsz hM hK
theorem zx4{i:Nat}{x:Code}(h:Lt ρ P k rd sz x T hs (Ex.inBlock i Q)):Lt ρ P k rd sz (.block i x) T hs Q:=by
 intro s N r w F μ a K hk hr hL hR hD hT hsz hM hK
 refine wpIn_block (h s N r w F μ a _ hk hr hL hR hD hT hsz hM ?_)
 intro ex T1 hs1 a1 w1 F1 μ1 q hL1 hR1 hD1 hT1 hsz1 hM1
 cases ex with
 |normal=>exact hK .normal T1 hs1 a1 w1 F1 μ1 q hL1 hR1 hD1 hT1 hsz1 hM1
 |ret=>exact hK .ret T1 hs1 a1 w1 F1 μ1 q hL1 hR1 hD1 hT1 hsz1 hM1
 | exit j =>
   show (if j=i then K .normal a1 w1 else K (.exit j) a1 w1)
   replace q:(if j=i then Q .normal T1 hs1 else Q (.exit j) T1 hs1):=q
   split
   · rename_i e;rw[if_pos e]at q;exact hK .normal T1 hs1 a1 w1 F1 μ1 q hL1 hR1 hD1 hT1 hsz1 hM1
   · rename_i e;rw[if_neg e]at q;exact hK (.exit j) T1 hs1 a1 w1 F1 μ1 q hL1 hR1 hD1 hT1 hsz1 hM1
def LtN(ρ:Nat→Value)(P:Program)(k:Nat)(rd:Bool)(sz:Nat)(c:Code)(Q:Ex→PT V→HS→Prop):Nat→PT V→HS→Prop
 | 0,_,_=>False
 |n+1,T,hs=>Lt ρ P k rd sz c T hs (Ex.then (LtN ρ P k rd sz c Q n) Q)
theorem z8w{n:Nat}(h:LtN ρ P k rd sz c Q n T hs):Lt ρ P k rd sz (.loop c) T hs Q:=by
 intro s N r w F μ a K hk hr hL hR hD hT hsz hM hK
 refine wpIn_loop_rounds n ?_
 induction n generalizing T hs w F μ a with
 |zero=>exact h.elim
 | succ n ih =>
   refine h s N r w F μ a _ hk hr hL hR hD hT hsz hM ?_
   intro ex T1 hs1 a1 w1 F1 μ1 q hL1 hR1 hD1 hT1 hsz1 hM1
   cases ex with
   | normal =>
     refine ih q w1 F1 μ1 a1 hL1 hR1 hD1 hT1 (by rw[hsz1];exact hsz) hM1 ?_
     intro ex T2 hs2 a2 w2 F2 μ2 q2 hL2 hR2 hD2 hT2 hsz2 hM2
     exact hK ex T2 hs2 a2 w2 F2 μ2 q2 hL2 hR2 hD2 hT2 (by rw[hsz2,hsz1]) hM2
   |ret=>exact hK .ret T1 hs1 a1 w1 F1 μ1 q hL1 hR1 hD1 hT1 hsz1 hM1
   |exit i=>exact hK (.exit i) T1 hs1 a1 w1 F1 μ1 q hL1 hR1 hD1 hT1 hsz1 hM1
structure Less(k:Nat)(T:PT V)(hs:HS)(T2:PT V)(hs2:HS):Prop where
 ex:∃ (π:Nat→Nat) (A:Nat→Bool),(∀ id,A id=true↔hs2.H.get id≠none)∧(∀ t v,T2.get t=some v→v.in3 A=true∧∃ u,T.get t=some u∧(u=v.ren π∨zas u=v.ren π)) ∧
  (∀ id o,hs2.H.get id=some o→o.in A=true∧∃ q,hs.H.get (π id)=some q∧(q=o.ren π∨zws q=o.ren π))∧(∀ i j,A i=true→A j=true→π i=π j→i=j)∧(∀ id,id<k→π id=id∧A id=true)
theorem Less.state {s:Start} {T2:PT V} {hs2:HS} {tm:Array Value} (h:Less s.k T hs T2 hs2) (hL:Loc s w F μ hs) (hR:R ρ w F μ P hs) (hT:zbK ρ w F μ T tm) :
 ∃ μ2,Loc s w F μ2 hs2∧R ρ w F μ2 P hs2∧Dom0 μ2 hs2∧zbK ρ w F μ2 T2 tm:=by
 obtain⟨π,A,hA,h1,h2',h3,h4⟩:=h.ex
 have h2:∀ id o,hs2.H.get id=some o→o.in A=true∧∃ q,hs.H.get (π id)=some q∧q.gen=(o.ren π).gen∧q.fz=(o.ren π).fz∧ORel ρ w F μ P (π id) (o.ren π):=by
  intro id o ho
  obtain⟨g1,q,g2,g3⟩:=h2' id o ho
  refine⟨g1,q,g2,?_⟩
  rcases g3 with g3|g3
  · subst g3;exact⟨rfl,rfl,hR.obj _ _ g2⟩
  · rw[← g3];exact⟨(zqZ q).symm,(zwr q).symm,(hR.obj _ _ g2).norm⟩
 refine⟨fun id g=>if A id=true then μ (π id) g else none,?_,?_,?_,?_⟩
 · refine⟨hL.io,hL.size,hL.keep,hL.fm,hL.fnew,fun id g m hk hm=>?_,?_,fun id hk=>(hA id).1 (h4 id hk).2,fun id hk hg g=>?_,fun id g m hm=>?_⟩
   · show (if A id=true then μ (π id) g else none)=_
     rw[if_pos (h4 id hk).2,(h4 id hk).1];exact hL.mm id g m hk hm
   · rintro b ⟨id,o,m,ho,hz,hm,rfl⟩
     have hAi:=(hA id).2 (by rw[ho];simp)
     replace hm:(if A id=true then μ (π id) o.gen else none)=some m:=hm
     rw[if_pos hAi]at hm
     obtain⟨_,q,q1,q2,q3,_⟩:=h2 id o ho
     exact hL.own _ ⟨π id,q,m,q1,by rw[q3,Obj.ren_fz];exact hz,by rw[q2,Obj.ren_gen];exact hm,rfl⟩
   · show (if A id=true then μ (π id) g else none)=_
     rw[if_pos (h4 id hk).2,(h4 id hk).1];exact hL.dm id hk hg g
   · replace hm:(if A id=true then μ (π id) g else none)=some m:=hm
     split at hm
     · exact hL.mn _ g m hm
     · cases hm
 · refine⟨fun id g m hm=>?_,hR.flt,fun id o ho=>?_,fun id id' o o' m m' ho ho' hm hm' hb=>?_,fun id o ho g hg=>?_⟩
   · replace hm:(if A id=true then μ (π id) g else none)=some m:=hm
     split at hm
     · exact hR.lt _ g m hm
     · cases hm
   · have hAi:=(hA id).2 (by rw[ho];simp)
     obtain⟨q0,q,q1,q2,q3,q4⟩:=h2 id o ho
     refine ORel.anew (π:=π) (A:=A) q4 q0 (fun g m hm=>?_) (fun i hi g m hm=>?_)
     · replace hm:(if A id=true then μ (π id) g else none)=some m:=hm
       rw[if_pos hAi]at hm;exact hm
     · show (if A i=true then _ else _)=_
       rw[if_pos hi];exact hm
   · have hAi:=(hA id).2 (by rw[ho];simp)
     have hAi':=(hA id').2 (by rw[ho'];simp)
     replace hm:(if A id=true then μ (π id) o.gen else none)=some m:=hm
     replace hm':(if A id'=true then μ (π id') o'.gen else none)=some m':=hm'
     rw[if_pos hAi]at hm
     rw[if_pos hAi']at hm'
     obtain⟨_,q,q1,q2,_⟩:=h2 id o ho
     obtain⟨_,q',q1',q2',_⟩:=h2 id' o' ho'
     exact h3 _ _ hAi hAi' (hR.inj _ _ _ _ m m' q1 q1' (by rw[q2,Obj.ren_gen];exact hm) (by rw[q2',Obj.ren_gen];exact hm') hb)
   · have hAi:=(hA id).2 (by rw[ho];simp)
     show (if A id=true then _ else _)=_
     rw[if_pos hAi]
     obtain⟨_,q,q1,q2,_⟩:=h2 id o ho
     exact hR.gens _ _ q1 g (by rw[q2,Obj.ren_gen];exact hg)
 · intro id g hg
   by_cases hAi:A id=true
   · exact(hA id).1 hAi
   · simp[hAi]at hg
 · intro t v hv
   obtain⟨g1,u,g2,g3⟩:=h1 t v hv
   obtain⟨x,hx,hr⟩:=hT t _ g2
   have hr':Rep ρ w F μ (v.ren π) x:=by
    rcases g3 with g3|g3
    · rw[← g3];exact hr
    · rw[← g3];exact hr.norm
   refine⟨x,hx,hr'.anew g1 fun i hi g m hm=>?_⟩
   show (if A i=true then _ else _)=_
   rw[if_pos hi];exact hm
theorem zuK{T2:PT V}{hs2:HS}(h:Less k T hs T2 hs2)(hl:Lt ρ P k rd sz c T2 hs2 Q):Lt ρ P k rd sz c T hs Q:=by
 intro s N r w F μ a K hk hr hL hR hD hT hsz hM hK
 subst hk
 obtain⟨μ2,hL2,hR2,hD2,hT2⟩:=h.state hL hR hT
 exact hl s N r w F μ2 a K rfl hr hL2 hR2 hD2 hT2 hsz hM hK
theorem z8v{Q':Ex→PT V→HS→Prop}(hl:Lt ρ P k rd sz c T hs Q')(h:∀ ex T1 hs1,Q' ex T1 hs1→∃ T2 hs2,Less k T1 hs1 T2 hs2∧Q ex T2 hs2):Lt ρ P k rd sz c T hs Q:=by
 intro s N r w F μ a K hk hr hL hR hD hT hsz hM hK
 subst hk
 refine hl s N r w F μ a K rfl hr hL hR hD hT hsz hM ?_
 intro ex T1 hs1 a1 w1 F1 μ1 q hL1 hR1 hD1 hT1 hsz1 hM1
 obtain⟨T2,hs2,h2,q2⟩:=h ex T1 hs1 q
 obtain⟨μ2,hL2,hR2,hD2,hT2⟩:=h2.state hL1 hR1 hT1
 exact hK ex T2 hs2 a1 w1 F1 μ2 q2 hL2 hR2 hD2 hT2 hsz1 hM1
end
end Go.J
/- The rules of local runs over code that is stripped;calls of functions with arguments without numbers. -/
universe u
namespace Go.J
inductive Tg {α:Sort u} (a:α):Type where
 |mk
def okT{α:Type}(x:Option α)(K:α→Prop)(_t:Tg K:=.mk):Prop:=ok x K
def brT(c A B:Prop)(_t:Tg A:=.mk)(_u:Tg B:=.mk):Prop:=br c A B
@[simp ↓ high] theorem ok_T {α:Type} (x:Option α) (K:α→Prop):ok x K=okT x K:=(rfl)
@[simp ↓ high] theorem br_T (c A B:Prop):br c A B=brT c A B:=(rfl)
@[simp ↓] theorem zwl {α:Type} (a:α) (K:α→Prop):okT (some a) K=K a:=zF a K
@[simp ↓] theorem zC6 {α β:Type} (x:Option α) (f:α→Option β) (K:β→Prop):okT (ob x f) K=okT x fun a=>okT (f a) K:=zaj x f K
@[simp ↓] theorem zC7 {α:Type} (c:Bool) (x:Option α) (K:α→Prop):okT (gd c x) K=(c=true∧okT x K):=zbY c x K
attribute [simp] zwl zC6 zC7
@[simp ↓] theorem zxp (A B:Prop):brT True A B=A:=zu3 A B
@[simp ↓] theorem zu4 (A B:Prop):brT False A B=B:=zoy A B
attribute [simp] zxp zu4
theorem zdI{c A B:Prop}(h1:c→A)(h2:¬ c→B):brT c A B:=⟨h1,h2⟩
def mkP{α:Type}:List (Nat×α)→PT α
 | []=>.leaf
 |p::l=>(mkP l).set p.1 p.2
def dom{α:Type}(l:List (Nat×α))(id:Nat):Bool:=l.any fun p=>Nat.beq p.1 id
theorem zfY{α:Type}:∀ {l:List (Nat×α)} {t:Nat} {v:α},(mkP l).get t=some v→(t,v)∈l:=by
 intro l
 induction l with
 |nil=>intro t v h;cases h
 | cons p l ih =>
   intro t v h
   replace h:((mkP l).set p.1 p.2).get t=some v:=h
   rw[PT.set_get]at h
   split at h
   · rename_i e;cases h;subst e;exact List.mem_cons_self ..
   · exact List.mem_cons_of_mem _ (ih h)
theorem z6F{α:Type}:∀ {l:List (Nat×α)} {id:Nat},dom l id=true↔(mkP l).get id≠none:=by
 intro l
 induction l with
 |nil=>intro id;exact⟨fun h=>(by cases h),fun h=>absurd rfl h⟩
 | cons p l ih =>
   intro id
   show (Nat.beq p.1 id||dom l id)=true↔((mkP l).set p.1 p.2).get id≠none
   rw[PT.set_get,Bool.or_eq_true,beq_true,ih]
   by_cases e:id=p.1
   · rw[if_pos e];simp[e]
   · rw[if_neg e]
     exact⟨fun h=>h.elim (fun h=>absurd h.symm e) (fun h=>h),.inr⟩
def nodupB:List Nat→Bool
 | []=>true
 |x::l=>!(l.any (Nat.beq x))&&nodupB l
theorem zkZ:∀ {l:List Nat},nodupB l=true→l.Nodup:=by
 intro l
 induction l with
 |nil=>intro _;exact List.nodup_nil
 | cons x l ih =>
   intro h
   simp only[nodupB,Bool.and_eq_true,Bool.not_eq_true']at h
   refine List.nodup_cons.2 ⟨fun hm=>?_,ih h.2⟩
   have:l.any (Nat.beq x)=true:=List.any_eq_true.2 ⟨x,hm,beq_true.2 rfl⟩
   rw[h.1]at this;cases this
theorem V.ren1_id(v:V):v.ren1 id=v:=by cases v<;>rfl
theorem V.ren1_id':V.ren1 id=id:=funext V.ren1_id
theorem V.ren2_id(v:V):v.ren2 id=v:=by
 cases v<;>first|rfl|(simp[V.ren2,V.ren1_id'])
theorem V.ren2_id':V.ren2 id=id:=funext V.ren2_id
theorem V.ren_id(v:V):v.ren id=v:=by
 cases v<;>first|exact V.ren2_id _|(simp[V.ren,V.ren2_id'])
theorem Obj.ren_id(o:Obj):o.ren id=o:=by
 cases o<;>first|rfl|(simp[Obj.ren,V.ren2_id'])
section
variable {k:Nat}{T:PT V}{hs:HS}
theorem Less.lit (π:Nat→Nat) {TL:List (Nat×V)} {HL:List (Nat×Obj)} (n:Nat) (hT:∀ p∈TL,p.2.in3 (dom HL)=true∧T.get p.1=some (p.2.ren π))
 (hH:∀ p∈HL,p.2.in (dom HL)=true∧hs.H.get (π p.1)=some (p.2.ren π)) (hi:nodupB (HL.map fun p=>π p.1)=true) (hk:(List.range k).all (fun i=>Nat.beq (π i) i&&dom HL i)=true) :
 Less k T hs (mkP TL) { H:=mkP HL,n:=n,log:=[] } where
 ex := by
  refine⟨π,dom HL,fun id=>z6F,fun t v hv=>⟨(hT (t,v) (zfY hv)).1,_,(hT (t,v) (zfY hv)).2,.inl rfl⟩,fun id o ho=>⟨(hH (id,o) (zfY ho)).1,_,(hH (id,o) (zfY ho)).2,.inl rfl⟩,?_,fun id hid=>?_⟩
  · intro i j hi1 hj1 e
    have hnd:=zkZ hi
    have key:∀ (l:List (Nat×Obj)),(l.map fun p=>π p.1).Nodup→dom l i=true→dom l j=true→i=j:=by
     intro l
     induction l with
     |nil=>intro _ h;cases h
     | cons p l ih =>
       intro hnd h1 h2
       rw[List.map_cons,List.nodup_cons]at hnd
       replace h1:(Nat.beq p.1 i||dom l i)=true:=h1
       replace h2:(Nat.beq p.1 j||dom l j)=true:=h2
       rw[Bool.or_eq_true,beq_true]at h1 h2
       have hm:∀ a,dom l a=true→π a∈l.map fun p=>π p.1:=by
        intro a ha
        obtain⟨q,hq,hqa⟩:=List.any_eq_true.1 ha
        exact List.mem_map.2 ⟨q,hq,by rw[beq_true.1 hqa]⟩
       rcases h1 with h1|h1<;>rcases h2 with h2|h2
       · rw[← h1,← h2]
       · exact absurd (by rw[h1,e];exact hm j h2) hnd.1
       · exact absurd (by rw[h2,← e];exact hm i h1) hnd.1
       · exact ih hnd.2 h1 h2
    exact key HL hnd hi1 hj1
  · have:=List.all_eq_true.1 hk id (List.mem_range.2 hid)
    rw[Bool.and_eq_true,beq_true]at this
    exact this
theorem Less.keep{TL:List (Nat×V)}{HL:List (Nat×Obj)}(n:Nat)(hT:∀ p∈TL,p.2.in3 (dom HL)=true∧T.get p.1=some p.2)
 (hH:∀ p∈HL,p.2.in (dom HL)=true∧hs.H.get p.1=some p.2) (hi:nodupB (HL.map fun p=>p.1)=true) (hk:(List.range k).all (fun i=>dom HL i)=true) :
 Less k T hs (mkP TL) { H:=mkP HL,n:=n,log:=[] }:=by
 refine Less.lit id n (fun p hp=>?_) (fun p hp=>?_) hi ?_
 · rw[V.ren_id];exact hT p hp
 · rw[Obj.ren_id];exact hH p hp
 · rw[List.all_eq_true]at hk ⊢
   intro x hx
   rw[Bool.and_eq_true]
   exact⟨beq_true.2 rfl,hk x hx⟩
end
section
variable {ρ:Nat→Value}{E:Env}{k sz:Nat}{s:SC}{T:PT V}{hs:HS}{Q Q':Ex→PT V→HS→Prop}
def Ls(ρ:Nat→Value)(E:Env)(k sz:Nat)(s:SC)(T:PT V)(hs:HS)(Q:Ex→PT V→HS→Prop)(_t:Tg Q:=.mk):Prop:=∀ c,zy c=some s→Lt ρ E.P k false sz c T hs Q
def LsN(ρ:Nat→Value)(E:Env)(k sz:Nat)(s:SC)(Q:Ex→PT V→HS→Prop)(n:Nat)(T:PT V)(hs:HS)(_t:Tg Q:=.mk):Prop:=∀ c,zy c=some s→LtN ρ E.P k false sz c Q n T hs
theorem za2{n:Nat}(h:LsN ρ E k sz s Q n T hs):Ls ρ E k sz (.loop s) T hs Q:=fun c hc=>by
 obtain⟨x,rfl,hx⟩:=zae hc
 exact z8w (h x hx)
theorem zcP{T2:PT V}{hs2:HS}(h:Less k T hs T2 hs2)(hl:Ls ρ E k sz s T2 hs2 Q):Ls ρ E k sz s T hs Q:=fun c hc=>zuK h (hl c hc)
theorem z8z(hl:Ls ρ E k sz s T hs Q')(h:∀ ex T1 hs1,Q' ex T1 hs1→∃ T2 hs2,Less k T1 hs1 T2 hs2∧Q ex T2 hs2):Ls ρ E k sz s T hs Q:=fun c hc=>z8v (hl c hc) h
theorem z81(hρ:Good ρ)(hcon:ConsOk ρ E)(hP:E.P.follows .mixedOrders=true)(hN:zdN E.P)(h:Js E false sz s T hs Q):Ls ρ E k sz s T hs Q:=fun c hc=>by
 obtain⟨n,ex,T',hs',h1,h2⟩:=h c hc
 exact zFk hρ hcon hP hN h1 h2
def WpR(ρ:Nat→Value)(E:Env)(k sz:Nat):SC→PT V→HS→(Ex→PT V→HS→Prop)→Prop
 |.skip,T,hs,Q=>Q .normal T hs
 |.ret,T,hs,Q=>Q .ret T hs
 |.exit i,T,hs,Q=>Q (.exit i) T hs
 |.reg l,T,hs,Q=>Rs E sz l hs.n T { H:=hs.H,n:=hs.n+l.length,log:=hs.log } fun T hs=>Q .normal T hs
 |.draw l bs,T,hs,Q=>Rd E sz l hs.n T { H:=hs.H,n:=hs.n+l.length,log:=hs.log } [] fun T hs acc=>zcl acc acc 0 bs=true∧Q .normal T hs
 |.seq a b,T,hs,Q=>WpR ρ E k sz a T hs (Ex.then (fun T hs=>WpR ρ E k sz b T hs Q) Q)
 |.cond q a b,T,hs,Q=>ok (zB T q) fun v=>ok v.bool? fun t=>if t=true then WpR ρ E k sz a T hs Q else WpR ρ E k sz b T hs Q
 |.block i a,T,hs,Q=>WpR ρ E k sz a T hs (Ex.inBlock i Q)
 |.loop a,T,hs,Q=>Ls ρ E k sz (.loop a) T hs Q
 |.range g ps a b,T,hs,Q=>Ls ρ E k sz (.range g ps a b) T hs Q
def Wp(ρ:Nat→Value)(E:Env)(k sz:Nat)(s:SC)(T:PT V)(hs:HS)(Q:Ex→PT V→HS→Prop)(_t:Tg Q:=.mk):Prop:=WpR ρ E k sz s T hs Q
theorem zi8(hρ:Good ρ)(hcon:ConsOk ρ E)(hP:E.P.follows .mixedOrders=true)(hN:zdN E.P):∀ {s:SC} {T:PT V} {hs:HS} {Q:Ex→PT V→HS→Prop},Wp ρ E k sz s T hs Q→Ls ρ E k sz s T hs Q:=by
 intro s
 induction s with
 |skip=>intro T hs Q h c hc;have e:c=.skip:=zae hc;subst e;exact z8u h
 |ret=>intro T hs Q h c hc;have e:c=.ret:=zae hc;subst e;exact zFl h
 |exit i=>intro T hs Q h c hc;have e:c=.exit i:=zae hc;subst e;exact z8x h
 |reg l=>intro T hs Q h;exact z81 hρ hcon hP hN (zjm h)
 |draw l bs=>intro T hs Q h;exact z81 hρ hcon hP hN (zuN h)
 | seq a b iha ihb =>
   intro T hs Q h c hc
   obtain⟨x,y,rfl,hx,hy⟩:=zae hc
   refine zFj (zuJ (iha h x hx) fun e T hs q=>?_)
   cases e with
   |normal=>exact ihb q y hy
   |ret=>exact q
   |exit i=>exact q
 | cond q a b iha ihb =>
   intro T hs Q h c hc
   obtain⟨x,y,rfl,hx,hy⟩:=zae hc
   obtain⟨v,hv,t,ht,h⟩:=h
   rw[V.bool?_eq]at ht
   subst ht
   refine z8y hv ?_
   split
   · rename_i e;rw[if_pos e]at h;exact iha h x hx
   · rename_i e;rw[if_neg e]at h;exact ihb h y hy
 | block i a iha =>
   intro T hs Q h c hc
   obtain⟨x,rfl,hx⟩:=zae hc
   exact zx4 (iha h x hx)
 |loop a _=>intro T hs Q h;exact h
 |range g ps a b _ _=>intro T hs Q h;exact h
theorem zkd(hρ:Good ρ)(hcon:ConsOk ρ E)(hP:E.P.follows .mixedOrders=true)(hN:zdN E.P){n:Nat}(h:∀ K:PT V→HS→Prop,(∀ T hs,LsN ρ E k sz s Q n T hs→K T hs)→Wp ρ E k sz s T hs (Ex.then K Q)):LsN ρ E k sz s Q (n+1) T hs:=fun c hc =>
 zuJ (zi8 hρ hcon hP hN (h _ fun _ _ h=>h) c hc) fun e T hs q=>by
  cases e with
  |normal=>exact q c hc
  |ret=>exact q
  |exit i=>exact q
theorem zJ{n:Nat}{T2:PT V}{hs2:HS}(h:Less k T hs T2 hs2)(hl:LsN ρ E k sz s Q n T2 hs2):LsN ρ E k sz s Q n T hs:=fun c hc=>by
 cases n with
 |zero=>exact(hl c hc).elim
 |succ n=>exact zuK h (hl c hc)
end
section
variable {ρ:Nat→Value}{E:Env}{k sz:Nat}{T:PT V}{hs:HS}{Q:Ex→PT V→HS→Prop}
@[simp ↓] theorem zL8:Wp ρ E k sz .skip T hs Q=Q .normal T hs:=(rfl)
@[simp ↓] theorem zPF:Wp ρ E k sz .ret T hs Q=Q .ret T hs:=(rfl)
@[simp ↓] theorem zLA {i:Nat}:Wp ρ E k sz (.exit i) T hs Q=Q (.exit i) T hs:=(rfl)
@[simp ↓] theorem zPG {l:List SOp}:Wp ρ E k sz (.reg l) T hs Q=Rs E sz l hs.n T { H:=hs.H,n:=hs.n+l.length,log:=hs.log } fun T hs=>Q .normal T hs:=(rfl)
@[simp ↓] theorem zLB {l:List SD} {bs:List Nat}:Wp ρ E k sz (.draw l bs) T hs Q=Rd E sz l hs.n T { H:=hs.H,n:=hs.n+l.length,log:=hs.log } [] fun T hs acc=>zcl acc acc 0 bs=true∧Q .normal T hs:=(rfl)
@[simp ↓] theorem zPE {a b:SC}:Wp ρ E k sz (.seq a b) T hs Q=Wp ρ E k sz a T hs (Ex.then (fun T hs=>Wp ρ E k sz b T hs Q) Q):=(rfl)
@[simp ↓] theorem zLC {q:Operand} {a b:SC}:Wp ρ E k sz (.cond q a b) T hs Q=ok (zB T q) fun v=>ok v.bool? fun t=>br (t=true) (Wp ρ E k sz a T hs Q) (Wp ρ E k sz b T hs Q):=by
  simp only[z8k];rfl
@[simp ↓] theorem zIv {i:Nat} {a:SC}:Wp ρ E k sz (.block i a) T hs Q=Wp ρ E k sz a T hs (Ex.inBlock i Q):=(rfl)
@[simp ↓] theorem zIt {g:Operand} {ps:Array Tmp} {a b:SC}:Wp ρ E k sz (.range g ps a b) T hs Q=Ls ρ E k sz (.range g ps a b) T hs Q:=(rfl)
@[simp ↓] theorem zL9 {a:SC}:Wp ρ E k sz (.loop a) T hs Q=Ls ρ E k sz (.loop a) T hs Q:=(rfl)
@[congr] theorem zIu {s:SC} {T':PT V} {hs':HS} (h1:T=T') (h2:hs=hs'):Wp ρ E k sz s T hs Q=Wp ρ E k sz s T' hs' Q:=by rw[h1,h2]
@[congr] theorem zIx {s:SC} {T':PT V} {hs':HS} (h1:T=T') (h2:hs=hs'):Ls ρ E k sz s T hs Q=Ls ρ E k sz s T' hs' Q:=by rw[h1,h2]
@[congr] theorem zFm {s:SC} {T':PT V} {hs':HS} {n:Nat} (h1:T=T') (h2:hs=hs'):LsN ρ E k sz s Q n T hs=LsN ρ E k sz s Q n T' hs':=by rw[h1,h2]
@[simp] theorem zJO {α:Type}:mkP ([]:List (Nat×α))=.leaf:=(rfl)
@[simp] theorem zGZ {α:Type} {p:Nat×α} {l:List (Nat×α)}:mkP (p::l)=(mkP l).set p.1 p.2:=(rfl)
end
section
variable {ρ:Nat→Value}{P:Program}{w w':World}{F F':Nat→Prop}{μ μ':Nat→Nat→Option MI}{hs hs':HS}{T:PT V}
theorem zpg{s:Start}{fn:Func}{tm:Array Value}{Rp:Ending→World→Prop}{N:Nat}(hN:s.w.heap.size≤N)
 (hfin:∀ w,R ρ w F μ P hs→zbK ρ w F μ T tm→Loc s w F μ hs→∃ v,(results fn tm).run P w=.ok v w∧Rp (.returned v) w):∀ (rs:List Nat) (w:World),R ρ w F μ P hs→zbK ρ w F μ T tm→Loc s w F μ hs→rs.Nodup →
 (∀ r∈rs,N≤r∧w.heap[r]?=some (.deferred (some [])))→LeavesInM (Wr none) 0 P fn tm Rp (rs.map (fun r=>{ target:=.collected r,args:=#[] })) .returning w:=by
 intro rs
 induction rs with
 |nil=>intro w hR hT hf _ _;exact hfin w hR hT hf
 | cons r rs ih =>
   intro w hR hT hf hnd hall
   have hr:=hall r (List.mem_cons_self ..)
   refine⟨by simp,.inl ⟨r,zbF w r,rfl,run_takeDeferred hr.2,?_⟩⟩
   have hnd':=List.nodup_cons.1 hnd
   refine ih _ (hR.unmark hr.2) (fun t v hv=>?_) ?_ hnd'.2 (fun s hs=>⟨(hall s (List.mem_cons_of_mem _ hs)).1,?_⟩)
   · obtain⟨x,hx,h⟩:=hT t v hv
     exact⟨x,hx,h.cells (zdO hr.2)⟩
   · refine⟨hf.io,by simpa [zbF]using hf.size,fun b hb hn=>?_,hf.fm,hf.fnew,hf.mm,hf.own,hf.pres,hf.dm,hf.mn⟩
     rw[zbj (by have:=hr.1;omega)];exact hf.keep b hb hn
   · rw[zbj (fun e=>hnd'.1 (by rw[← e];exact hs))];exact(hall s (List.mem_cons_of_mem _ hs)).2
def zmb(ρ:Nat→Value)(P:Program)(s:Start)(K:V→HS→Prop):Ending→World→Prop
 |.returned x,w'=>∃ v hs' F' μ',K v hs'∧Loc s w' F' μ' hs'∧R ρ w' F' μ' P hs'∧Dom0 μ' hs'∧Rep ρ w' F' μ' v x
 |_,_=>False
theorem zoz{E:Env}{f:FuncId}{fn:Func}{sc:SC}{vs:List V}{k:Nat}{K:V→HS→Prop}(hf:E.P.funcs[f]?=some fn)(hb:fn.body.bind zy=some sc)(he:zbv fn.ntmps vs 0 .leaf=some T)
 (h:Ls ρ E k fn.ntmps sc T hs (Leaves E.P fn K)) {s:Start} {xs:Array Value} (hk:s.k=k) (hL:Loc s w F μ hs) (hR:R ρ w F μ E.P hs) (hD:Dom0 μ hs) (hA:zpM ρ w F μ vs xs):CallsIn Fence.wide 0 E.P f xs w (zmb ρ E.P s K):=by
 cases hc:fn.body with
 |none=>rw[hc]at hb;cases hb
 |some c =>
 rw[hc]at hb
 refine callsIn_of_wp_marks hf hc trivial ?_
 have hsz:fn.ntmps≤(xs++Array.replicate (fn.ntmps-xs.size) undef).size:=by simp;omega
 have hT0:zbK ρ w F μ T (xs++Array.replicate (fn.ntmps-xs.size) undef):=by
  refine zl8 he (fun t u hu=>by cases hu) fun k u hk=>?_
  obtain⟨x,hx,hr⟩:=hA.2 k u hk
  exact⟨x,by rw[Nat.zero_add,Array.getElem?_append_left (Array.getElem?_eq_some_iff.1 hx).1];exact hx,hr⟩
 refine h c hb s ⟨w.heap.size,[],false⟩ none w F μ _ _ hk ⟨fun _=>rfl,rfl⟩ hL hR hD hT0 hsz (Marks.nil (Nat.le_refl _)) ?_
 intro ex T1 hs1 a' w' F' μ' q hL' hR' hD' hT' _ hM
 obtain⟨hne,l,hl,hK⟩:=q
 have hleave:LeavesInM (Wr none) 0 E.P fn a'.tmps (zmb ρ E.P s K) a'.defers .returning w':=by
  obtain⟨hN,rs,⟨r1,_⟩,r2,r3⟩:=hM
  rw[r2,show ∀ l:List Deferred,l++(NB.mk w.heap.size [] false).base=l from List.append_nil]
  refine zpg (N:=w.heap.size) hL.size (fun w2 hR2 hT2 hf2=>?_) rs w' hR' hT' hL' r1 r3
  obtain⟨ys,h1,h2,h3⟩:=zq8 hR2 hT2 hl
  refine⟨_,?_,zcR l,hs1,F',μ',hK,hf2,hR2,hD',zk1 (xs:=ys.toArray) (by simpa using h2) (fun i u hi=>by simpa using h3 i u hi)⟩
  unfold results
  rw[Sem.run_bind,Array.mapM_eq_mapM_toList]
  rw[Sem.run_map]
  exact Eq.trans (congrArg (fun z:Result (List Value)=>(z.andThen fun a w'=>Result.ok a.toArray w').andThen fun a w'=>Sem.run E.P (pure (if h:a.size=1 then a[0]else Value.tuple a)) w') h1) rfl
 cases ex with
 |normal=>exact hleave
 |ret=>exact hleave
 |exit i=>exact absurd rfl (hne i)
def zeo(r:V)(v:V)(hs:HS):Prop:=ok (still hs v) fun v'=>zas v'=r
theorem zux{E:Env}{f:FuncId}{fn:Func}{sc:SC}{vs:List V}{r:V}(hf:E.P.funcs[f]?=some fn)(hb:fn.body.bind zy=some sc)(he:zbv fn.ntmps vs 0 .leaf=some T)
 (h:Ls ρ E 0 fn.ntmps sc T { H:=.leaf,n:=0,log:=[] } (Leaves E.P fn (zeo r))) (hp:zC vs=true) (hs:HS):CallOk ρ E.P f vs hs r hs:=by
 intro X w F μ xs hR hD hO hA
 have hA':zpM ρ w F (fun _ _=>none) vs xs:=⟨hA.1,fun i u hi=>by
  obtain⟨x,hx,hr⟩:=hA.2 i u hi
  exact⟨x,hx,.pure (hr.of_pure ρ (zaD hp u (List.mem_of_getElem? hi)))⟩⟩
 have hL:Loc ⟨fun _=>False,w,F,0,fun _ _=>none⟩ w F (fun _ _=>none) emptyHS :=
  ⟨⟨rfl,rfl,rfl⟩,Nat.le_refl _,fun _ _ _=>rfl,fun _ h=>h,fun _ h=>.inl h,fun _ _ _ h=>absurd h (Nat.not_lt_zero _),fun b hb=>absurd hb (zbH b _),fun _ h=>absurd h (Nat.not_lt_zero _),fun _ h=>absurd h (Nat.not_lt_zero _),fun _ _ _ h=>by cases h⟩
 refine(zoz hf hb he h rfl hL (R.empty hR.flt) (fun _ _ h=>absurd rfl h) hA').mono fun e w' he=>?_
 cases e with
 | returned x =>
   obtain⟨v1,hs1,F1,μ1,hK,hL1,g1,_,g2⟩:=he
   obtain⟨v',h2,rfl⟩:=hK
   have hkeep:∀ b,b<w.heap.size→w'.heap[b]?=w.heap[b]?:=fun b hb=>hL1.keep b hb (fun h=>h)
   obtain⟨a1,a2⟩:=alone hR hL1.io hL1.size hkeep
   refine⟨_,μ,a1,.pure (zhc g1 g2 h2 ?_ ?_).norm,a2⟩
   · intro b hb
     have hlt:=g1.flt b hb
     rcases hL1.fnew b hb with h|h|h
     · exact .inl h
     · exact .inr ⟨h,hlt⟩
     · exact h.elim
   · intro id g m hm
     rcases hL1.mn id g m hm with h|⟨i,j,m0,h,_⟩
     · exact .inr ⟨h,g1.lt _ _ _ hm⟩
     · cases h
 |panicked c=>exact he
 |outgrown=>exact he
end
def fnS(s:List V→Option V):Spec:=fun vs hs=>ob (zaF vs hs) fun q=>gd (zC q.1) (ob (s (zak q.1)) fun v=>some (v,q.2))
def fnC(s:List V→Option V):Spec:=fun vs hs=>ob (zaB hs vs) fun vs'=>gd (zC vs') (ob (s (zak vs')) fun v=>gd v.scal (some (v,hs)))
section
variable {ρ:Nat→Value}{P:Program}{f:Nat}{s:List V→Option V}
theorem CallOk.norm{vs:List V}{hs hs':HS}{v:V}(hp:zC vs=true)(h:CallOk ρ P f (zak vs) hs v hs'):CallOk ρ P f vs hs v hs':=by
 intro X w F μ xs hR hD hO hA
 refine h X w F μ xs hR hD hO ⟨by rw[zaO,List.length_map];exact hA.1,fun i u hi=>?_⟩
 rw[zaO,List.getElem?_map,Option.map_eq_some_iff]at hi
 obtain⟨u0,h0,rfl⟩:=hi
 obtain⟨x,hx,hr⟩:=hA.2 i u0 h0
 exact⟨x,hx,.pure (hr.of_pure ρ (zaD hp u0 (List.mem_of_getElem? h0))).norm⟩
theorem Valid.fnS (hf:zeF P f) (h:∀ vs v,s vs=some v→∀ hs,CallOk ρ P f vs hs v hs):Valid ρ P f (fnS s) where
 fn:=hf
 ok := by
  intro vs hs v hs' hq
  simp only[J.fnS,zz,zq]at hq
  obtain⟨⟨vs',hs1⟩,hp,hpure,v',hv,hq⟩:=hq
  cases hq
  intro X w F μ xs hR hD hO hA
  obtain⟨F',k1,k2,k3,k4,k5⟩:=zdp (xs:=xs.toList) hp hR (fun i u hi=>by simpa using hA.2 i u hi)
  have hc:CallOk ρ P f vs' hs1 v hs1:=(h _ _ hv hs1).norm hpure
  refine(hc X w F' μ xs k1 (k2.dom k3.le hD) hO ⟨by rw[k4];exact hA.1,fun i u hi=>?_⟩).mono fun e w' he=>?_
  · obtain⟨x,hx,hr⟩:=k5 i u hi
    exact⟨x,by simpa using hx,.pure hr⟩
  · cases e with
    | returned x =>
      obtain⟨F2,μ2,g1,g2,g3⟩:=he
      exact⟨F2,μ2,g1,g2,k2.trans g3⟩
    |panicked c=>exact he
    |outgrown=>exact he
 kept:=by
  intro vs hs q hq
  simp only[J.fnS,zz,zq]at hq
  obtain⟨⟨vs',hs1⟩,hp,_,v',_,hq⟩:=hq
  cases hq
  exact zco hp
theorem Valid.fnC(hf:zeF P f)(h:∀ vs v,s vs=some v→∀ hs,CallOk ρ P f vs hs v hs):Valid ρ P f (fnC s) where
 fn:=hf
 ok:=by
  intro vs hs v hs' hq
  simp only[J.fnC,zz,zq]at hq
  obtain⟨vs',hst,hp,v',hv,hsc,hq⟩:=hq
  cases hq
  intro X w F μ xs hR hD hO hA
  obtain⟨hlen,hall⟩:=zff hR (F':=fun b=>b<w.heap.size) hR.flt hst (fun _ _ _ _ id g off len cap _ m hm=>hR.lt id g m hm)
  have hA':zpM ρ w (fun b=>b<w.heap.size) (fun _ _=>none) vs' xs:=⟨hA.1.trans hlen.symm,fun i u hi=>by
   obtain⟨u0,hu0,hr⟩:=hall i u hi
   obtain⟨x,hx,hr0⟩:=hA.2 i u0 hu0
   exact⟨x,hx,.pure (hr x hr0)⟩⟩
  have hc:CallOk ρ P f vs' emptyHS v emptyHS:=(h _ _ hv _).norm hp
  refine(hc _ w _ (fun _ _=>none) xs (R.empty fun _ h=>h) Dom.empty (Off.no _) hA').mono fun e w' he=>?_
  cases e with
  | returned x =>
    obtain⟨F1,μ1,g1,g2,g3⟩:=he
    have hkeep:∀ b,b<w.heap.size→w'.heap[b]?=w.heap[b]?:=fun b hb=>g3.keep b hb (zbH b _)
    obtain⟨a1,a2⟩:=alone hR g3.io g3.size hkeep
    exact⟨_,μ,a1,.pure (znG g2 hsc),a2⟩
  |panicked c=>exact he
  |outgrown=>exact he
 kept:=by
  intro vs hs q hq
  simp only[J.fnC,zz,zq]at hq
  obtain⟨_,_,_,_,_,_,hq⟩:=hq
  cases hq
  exact .refl _
end
end Go.J
namespace Go.J
section
variable {ρ:Nat→Value}{P:Program}{E:Env}{k sz:Nat}{s:SC}{T:PT V}{hs:HS}{Q Q':Ex→PT V→HS→Prop}
def LessQ(k:Nat)(Q:Ex→PT V→HS→Prop)(e:Ex)(T:PT V)(hs:HS):Prop:=∃ T2 hs2,Less k T hs T2 hs2∧Q e T2 hs2
theorem zah(h:Ls ρ E k sz s T hs (LessQ k Q)):Ls ρ E k sz s T hs Q:=z8z h fun _ _ _ q=>q
theorem LessQ.mk{e:Ex}{T2:PT V}{hs2:HS}(h:Less k T hs T2 hs2)(q:Q e T2 hs2):LessQ k Q e T hs:=⟨T2,hs2,h,q⟩
end
end Go.J
/- Values of types of Lean as values of the evaluator. -/
namespace Go.J
class Cel (α:Type) where
 cells:α→List V
 dec:List V→Option α
 dec_enc:∀ a,dec (cells a)=some a
 enc_dec:∀ c a,dec c=some a→c=cells a
 pure2:∀ a,(cells a).all V.pure2=true
 norm:∀ a,zak (cells a)=cells a
class Enc (α:Type) where
 enc:α→V
 dec:V→Option α
 dec_enc:∀ a,dec (enc a)=some a
 enc_dec:∀ v a,dec v=some a→v=enc a
 norm:∀ a,zas (enc a)=enc a
open Enc (enc)
instance:Enc Int where
 enc n:=.int .i64 n
 dec v:=match v with
  |.int .i64 n=>some n
  |_=>none
 dec_enc _:=rfl
 enc_dec v a h:=by
  split at h
  · cases h;rfl
  · cases h
 norm _:=rfl
instance:Enc Bool where
 enc b:=.bool b
 dec v:=match v with
  |.bool b=>some b
  |_=>none
 dec_enc _:=rfl
 enc_dec v a h:=by
  split at h
  · cases h;rfl
  · cases h
 norm _:=rfl
instance instStr:Enc (List Nat) where
 enc b:=.str b
 dec v:=match v with
  |.str b=>some b
  |_=>none
 dec_enc _:=rfl
 enc_dec v a h:=by
  split at h
  · cases h;rfl
  · cases h
 norm _:=rfl
instance:Cel Int where
 cells n:=[.int .i64 n]
 dec v:=match v with
  | [.int .i64 n]=>some n
  |_=>none
 dec_enc _:=rfl
 enc_dec v a h:=by
  split at h
  · cases h;rfl
  · cases h
 pure2 _:=rfl
 norm _:=rfl
instance:Cel Bool where
 cells n:=[.bool n]
 dec v:=match v with
  | [.bool n]=>some n
  |_=>none
 dec_enc _:=rfl
 enc_dec v a h:=by
  split at h
  · cases h;rfl
  · cases h
 pure2 _:=rfl
 norm _:=rfl
instance instStrC:Cel (List Nat) where
 cells n:=[.str n]
 dec v:=match v with
  | [.str n]=>some n
  |_=>none
 dec_enc _:=rfl
 enc_dec v a h:=by
  split at h
  · cases h;rfl
  · cases h
 pure2 _:=rfl
 norm _:=rfl
section
variable {α:Type} [Cel α]
def zai:List (List V)→Option (List α)
 | []=>some []
 | e::r=>match Cel.dec e,zai r with
   |some a,some l=>some (a::l)
   |_,_=>none
theorem zaX:∀ l:List α,zai (l.map Cel.cells)=some l:=by
 intro l
 induction l with
 |nil=>rfl
 |cons a l ih=>simp[zai,Cel.dec_enc,ih]
theorem zao:∀ {es:List (List V)} {l:List α},zai es=some l→es=l.map Cel.cells:=by
 intro es
 induction es with
 |nil=>intro l h;cases h;rfl
 | cons e r ih =>
   intro l h
   unfold zai at h
   split at h
   · rename_i a m h1 h2
     cases h
     rw[List.map_cons,← ih h2,Cel.enc_dec _ _ h1]
   · cases h
theorem zar(l:List α):zax (l.map Cel.cells)=l.map Cel.cells:=by
 rw[zhy,List.map_map]
 exact List.map_congr_left fun a _=>Cel.norm a
theorem zau(l:List α):((l.map Cel.cells).all fun e=>e.all V.pure2)=true:=by
 rw[List.all_eq_true]
 intro e he
 obtain⟨a,_,rfl⟩:=List.mem_map.1 he
 exact Cel.pure2 a
instance instSl:Enc (List α) where
 enc l:=.sl (l.map Cel.cells) false
 dec v:=match v with
  |.sl es false=>zai es
  |_=>none
 dec_enc l:=zaX l
 enc_dec v a h:=by
  split at h
  · rw[zao h]
  · cases h
 norm l:=by
  show V.sl (zax (l.map Cel.cells)) false=_
  rw[zar]
end
@[reducible] def zdK {α:Type} [Cel α]:Enc α where
  enc a:=.agg (Cel.cells a)
  dec v:=match v with
   |.agg c=>Cel.dec c
   |_=>none
  dec_enc a:=Cel.dec_enc a
  enc_dec v a h:=by
   split at h
   · rw[Cel.enc_dec _ _ h]
   · cases h
  norm a:=by
   show V.agg (zak (Cel.cells a))=_
   rw[Cel.norm]
instance instPair{α β:Type} [Enc α] [Enc β]:Enc (α×β) where
 enc p:=.tuple [enc p.1,enc p.2]
 dec v:=match v with
  |.tuple [x,y]=>ob (Enc.dec x) fun a=>ob (Enc.dec y) fun b=>some (a,b)
  |_=>none
 dec_enc p:=by simp[Enc.dec_enc]
 enc_dec v a h:=by
  split at h
  · simp only[zq]at h
    obtain⟨x,hx,y,hy,h⟩:=h
    cases h
    rw[Enc.enc_dec _ _ hx,Enc.enc_dec _ _ hy]
  · cases h
 norm p:=by simp[zas,zak,Enc.norm]
end Go.J
/- Types,and structures of them,as values of the evaluator. -/
namespace Go.J
open Enc (enc)
inductive Ty where
 |mk (kind:Int) (name:List Nat) (id home:Int) (args:List Ty)
 deriving Inhabited
namespace Ty
def kind:Ty→Int|.mk k _ _ _ _=>k
def name:Ty→List Nat|.mk _ n _ _ _=>n
def id:Ty→Int|.mk _ _ i _ _=>i
def home:Ty→Int|.mk _ _ _ h _=>h
def args:Ty→List Ty|.mk _ _ _ _ l=>l
section
variable {k i h:Int}{n:List Nat}{l:List Ty}
@[simp] theorem kind_mk:(mk k n i h l).kind=k:=(rfl)
@[simp] theorem name_mk:(mk k n i h l).name=n:=(rfl)
@[simp] theorem id_mk:(mk k n i h l).id=i:=(rfl)
@[simp] theorem home_mk:(mk k n i h l).home=h:=(rfl)
@[simp] theorem args_mk:(mk k n i h l).args=l:=(rfl)
@[simp] theorem eta (t:Ty):mk t.kind t.name t.id t.home t.args=t:=by cases t;rfl
end
theorem ext'{a b:Ty}(h1:a.kind=b.kind)(h2:a.name=b.name)(h3:a.id=b.id)(h4:a.home=b.home)(h5:a.args=b.args):a=b:=by
 cases a;cases b;simp_all
theorem eq_iff{a b:Ty}:a=b↔a.kind=b.kind∧a.name=b.name∧a.id=b.id∧a.home=b.home∧a.args=b.args :=
 ⟨fun h=>by subst h;simp,fun ⟨h1,h2,h3,h4,h5⟩=>ext' h1 h2 h3 h4 h5⟩
mutual
def beq:Ty→Ty→Bool
 |.mk k n i h l,.mk k' n' i' h' l'=>decide (k=k')&&decide (n=n')&&decide (i=i')&&decide (h=h')&&z8m l l'
def z8m:List Ty→List Ty→Bool
 | [],[]=>true
 |a::l,b::m=>beq a b&&z8m l m
 |_,_=>false
end
mutual
theorem z4V:∀ a b:Ty,beq a b=true↔a=b
 | .mk k n i h l,.mk k' n' i' h' l'=>by
   simp[beq,zu7 l l',and_assoc]
theorem zu7:∀ a b:List Ty,z8m a b=true↔a=b
 | [],[]=>by simp[z8m]
 | [],_::_=>by simp[z8m]
 |_::_,[]=>by simp[z8m]
 |a::l,b::m=>by simp[z8m,z4V a b,zu7 l m]
end
instance:DecidableEq Ty:=fun a b=>decidable_of_iff _ (z4V a b)
mutual
def size:Ty→Nat
 |.mk _ _ _ _ l=>sizes l+1
def sizes:List Ty→Nat
 | []=>0
 |t::l=>size t+sizes l
end
theorem size_eq(t:Ty):t.size=sizes t.args+1:=by cases t;simp[size]
theorem size_pos(t:Ty):0<t.size:=by rw[size_eq];omega
theorem size_mem{t:Ty}{l:List Ty}(h:t∈l):t.size≤sizes l:=by
 induction l with
 |nil=>cases h
 | cons a l ih =>
   simp only[sizes]
   rcases List.mem_cons.1 h with rfl|h
   · omega
   · have:=ih h;omega
theorem size_arg{t u:Ty}(h:u∈t.args):u.size<t.size:=by
 have:=size_mem h;rw[size_eq t];omega
theorem ind{p:Ty→Prop}(h:∀ t,(∀ u∈t.args,p u)→p t)(t:Ty):p t:=by
 generalize hn:t.size=n
 induction n using Nat.strongRecOn generalizing t with
 |_ n ih=>exact h t fun u hu=>ih u.size (by have:=size_arg hu;omega) u rfl
mutual
def ok:Ty→Bool
 |.mk _ _ _ _ l=>decide (l.length≤10000)&&oks l
def oks:List Ty→Bool
 | []=>true
 |t::l=>ok t&&oks l
end
theorem oks_iff{l:List Ty}:oks l=true↔∀ t∈l,t.ok=true:=by
 induction l with
 |nil=>simp[oks]
 |cons a l ih=>simp[oks,ih]
theorem ok_iff{t:Ty}:t.ok=true↔t.args.length≤10000∧∀ u∈t.args,u.ok=true:=by
 cases t;simp[ok,oks_iff]
theorem ok_len{t:Ty}(h:t.ok=true):t.args.length≤10000:=(ok_iff.1 h).1
theorem ok_arg{t u:Ty}(h:t.ok=true)(hu:u∈t.args):u.ok=true:=(ok_iff.1 h).2 u hu
end Ty
mutual
def zw:Ty→List V
 |.mk k n i h l=>[.int .i64 k,.str n,.int .i64 i,.int .i64 h,.sl (zc0 l) false]
def zc0:List Ty→List (List V)
 | []=>[]
 |t::l=>zw t::zc0 l
end
theorem zuh(l:List Ty):zc0 l=l.map zw:=by
 induction l with
 |nil=>simp[zc0]
 |cons t l ih=>simp[zc0,ih]
theorem zgc(t:Ty):zw t=[.int .i64 t.kind,.str t.name,.int .i64 t.id,.int .i64 t.home,.sl (t.args.map zw) false]:=by
 cases t;simp[zw,zuh]
mutual
def zlI:V→Option (List Ty)
 |.sl es false=>zed es
 |_=>none
def zed:List (List V)→Option (List Ty)
 | []=>some []
 | e::r=>match zg7 e,zed r with
   |some t,some l=>some (t::l)
   |_,_=>none
def zg7:List V→Option Ty
 | [.int .i64 k,.str n,.int .i64 i,.int .i64 h,a]=>(zlI a).map (Ty.mk k n i h)
 |_=>none
end
mutual
theorem zlH:∀ t:Ty,zg7 (zw t)=some t
 |.mk k n i h l=>by simp[zw,zg7,zlI,zjf l]
theorem zjf:∀ l:List Ty,zed (zc0 l)=some l
 | []=>by simp[zc0,zed]
 |t::l=>by simp[zc0,zed,zlH t,zjf l]
end
mutual
theorem zpw:∀ (v:V) (l:List Ty),zlI v=some l→v=.sl (zc0 l) false
 | v,l,h=>by
   unfold zlI at h
   split at h
   · rename_i es;rw[zjc es l h]
   · cases h
theorem zjc:∀ (es:List (List V)) (l:List Ty),zed es=some l→es=zc0 l
 | [],l,h=>by simp[zed]at h;subst h;simp[zc0]
 | e :: r,l,h=>by
   unfold zed at h
   split at h
   · rename_i t m h1 h2
     cases h
     rw[zl9 e t h1,zjc r m h2];simp[zc0]
   · cases h
theorem zl9:∀ (c:List V) (t:Ty),zg7 c=some t→c=zw t
 | c,t,h=>by
   unfold zg7 at h
   split at h
   · rename_i k n i hm a
     rw[Option.map_eq_some_iff]at h
     obtain⟨l,hl,rfl⟩:=h
     rw[zpw a l hl];simp[zw]
   · cases h
end
mutual
theorem ziP:∀ t:Ty,zak (zw t)=zw t
 |.mk k n i h l=>by simp[zw,zak,zas,zhx l]
theorem zhx:∀ l:List Ty,zax (zc0 l)=zc0 l
 | []=>by simp[zc0,zax]
 |t::l=>by simp[zc0,zax,ziP t,zhx l]
end
instance:Cel Ty where
 cells:=zw
 dec:=zg7
 dec_enc:=zlH
 enc_dec:=zl9
 pure2 t:=by cases t;simp[zw,V.pure2,V.pure1]
 norm:=ziP
instance:Enc Ty:=zdK
theorem zun:∀ es:List (List V),zed es=zai es:=by
 intro es
 induction es with
 |nil=>simp[zed,zai]
 | cons e r ih =>
   simp only[zed,zai,ih]
   rw[show (Cel.dec e:Option Ty)=zg7 e from rfl]
   cases zg7 e<;>cases(zai r:Option (List Ty))<;>rfl
theorem z7V{k i h:Int}{n:List Nat}{es:List (List V)}:zg7 [.int .i64 k,.str n,.int .i64 i,.int .i64 h,.sl es false]=ob (zai es) fun l=>some (Ty.mk k n i h l):=by
 simp only[zg7,zlI,zun]
 cases(zai es:Option (List Ty))<;>rfl
@[simp] theorem zIa:@Cel.cells Ty _=zw:=(rfl)
@[simp] theorem zEB:@Cel.dec Ty _=zg7:=(rfl)
@[simp] theorem zPy (a:Ty):enc a=.agg (zw a):=(rfl)
@[simp] theorem zP2 {c:List V}:Enc.dec (α:=Ty) (.agg c)=zg7 c:=(rfl)
@[simp] theorem zef (l:List Ty):zai (l.map zw)=some l:=zaX l
@[simp] theorem zdV (l:List Ty):zax (l.map zw)=l.map zw:=zar l
@[simp] theorem zfq (l:List Ty):((l.map zw).all fun e=>e.all V.pure2)=true:=zau l
@[simp] theorem zLe (l:List Ty):enc l=.sl (l.map zw) false:=(rfl)
@[simp] theorem zLl {es:List (List V)}:Enc.dec (α:=List Ty) (.sl es false)=zai es:=(rfl)
theorem zab{α:Type}{f:α→List V}(h:∀ l:List α,((l.map f).all fun e=>e.all V.pure2)=true){l:List α}:zW (l.map f)=true:=by
 have h:=h l
 rw[List.all_eq_true]at h
 refine(zie zuG _).2 fun e he=>allC_eq.2 fun v hv=>?_
 have:=List.all_eq_true.1 (h e he) v hv
 cases v<;>first|rfl|cases this
@[simp] theorem zQp (l:List Ty):sizes 5 (l.map zw)=true:=by rw[sizes_eq];intro e he;obtain⟨a,_,rfl⟩:=List.mem_map.1 he;rw[zgc];rfl
@[simp] theorem zRe (l:List Ty):zW (l.map zw)=true:=zab zfq
attribute [simp] z7V zgc
structure T3(α β γ:Type) where
 a:α
 b:β
 c:γ
structure T4(α β γ δ:Type) where
 a:α
 b:β
 c:γ
 d:δ
instance instT3{α β γ:Type} [Enc α] [Enc β] [Enc γ]:Enc (T3 α β γ) where
 enc p:=.tuple [enc p.a,enc p.b,enc p.c]
 dec v:=match v with
  |.tuple [x,y,z]=>ob (Enc.dec x) fun a=>ob (Enc.dec y) fun b=>ob (Enc.dec z) fun c=>some ⟨a,b,c⟩
  |_=>none
 dec_enc p:=by simp[Enc.dec_enc,ob]
 enc_dec v a h:=by
  split at h
  · simp only[zq]at h
    obtain⟨x,hx,y,hy,z,hz,h⟩:=h
    cases h
    rw[Enc.enc_dec _ _ hx,Enc.enc_dec _ _ hy,Enc.enc_dec _ _ hz]
  · cases h
 norm p:=by simp[zas,zak,Enc.norm]
instance instT4{α β γ δ:Type} [Enc α] [Enc β] [Enc γ] [Enc δ]:Enc (T4 α β γ δ) where
 enc p:=.tuple [enc p.a,enc p.b,enc p.c,enc p.d]
 dec v:=match v with
  |.tuple [x,y,z,u]=>ob (Enc.dec x) fun a=>ob (Enc.dec y) fun b=>ob (Enc.dec z) fun c=>ob (Enc.dec u) fun d=>some ⟨a,b,c,d⟩
  |_=>none
 dec_enc p:=by simp[Enc.dec_enc,ob]
 enc_dec v a h:=by
  split at h
  · simp only[zq]at h
    obtain⟨x,hx,y,hy,z,hz,u,hu,h⟩:=h
    cases h
    rw[Enc.enc_dec _ _ hx,Enc.enc_dec _ _ hy,Enc.enc_dec _ _ hz,Enc.enc_dec _ _ hu]
  · cases h
 norm p:=by simp[zas,zak,Enc.norm]
@[simp] theorem zP1 {α β γ:Type} [Enc α] [Enc β] [Enc γ] (p:T3 α β γ):enc p=.tuple [enc p.a,enc p.b,enc p.c]:=(rfl)
@[simp] theorem zP0 {α β γ δ:Type} [Enc α] [Enc β] [Enc γ] [Enc δ] (p:T4 α β γ δ):enc p=.tuple [enc p.a,enc p.b,enc p.c,enc p.d]:=(rfl)
abbrev encI(n:Int):List V:=[.int .i64 n]
abbrev zg6(b:Bool):List V:=[.bool b]
abbrev encS(s:List Nat):List V:=[.str s]
@[simp] theorem zwY (l:List Int):zai (l.map encI)=some l:=zaX l
@[simp] theorem zEx (l:List Bool):zai (l.map zg6)=some l:=zaX l
@[simp] theorem zwX (l:List (List Nat)):zai (l.map encS)=some l:=zaX l
@[simp] theorem zwp (l:List Int):zax (l.map encI)=l.map encI:=zar l
@[simp] theorem zCJ (l:List Bool):zax (l.map zg6)=l.map zg6:=zar l
@[simp] theorem zwo (l:List (List Nat)):zax (l.map encS)=l.map encS:=zar l
@[simp] theorem zkR (l:List Int):((l.map encI).all fun e=>e.all V.pure2)=true:=zau l
@[simp] theorem ziL (l:List Bool):((l.map zg6).all fun e=>e.all V.pure2)=true:=zau l
@[simp] theorem zqI (l:List (List Nat)):((l.map encS).all fun e=>e.all V.pure2)=true:=zau l
@[simp] theorem zMe (l:List Int):sizes 1 (l.map encI)=true:=by rw[sizes_eq];intro e he;obtain⟨a,_,rfl⟩:=List.mem_map.1 he;rfl
@[simp] theorem zIW (l:List Bool):sizes 1 (l.map zg6)=true:=by rw[sizes_eq];intro e he;obtain⟨a,_,rfl⟩:=List.mem_map.1 he;rfl
@[simp] theorem zMd (l:List (List Nat)):sizes 1 (l.map encS)=true:=by rw[sizes_eq];intro e he;obtain⟨a,_,rfl⟩:=List.mem_map.1 he;rfl
@[simp] theorem zPD (l:List Int):zW (l.map encI)=true:=zab zkR
@[simp] theorem zL7 (l:List Bool):zW (l.map zg6)=true:=zab ziL
@[simp] theorem zPC (l:List (List Nat)):zW (l.map encS)=true:=zab zqI
@[simp] theorem zHI (l:List Int):enc l=.sl (l.map encI) false:=(rfl)
@[simp] theorem zEj (l:List Bool):enc l=.sl (l.map zg6) false:=(rfl)
@[simp] theorem zHH (l:List (List Nat)):enc l=.sl (l.map encS) false:=(rfl)
@[simp] theorem zHQ {es:List (List V)}:Enc.dec (α:=List Int) (.sl es false)=zai es:=(rfl)
@[simp] theorem zEt {es:List (List V)}:Enc.dec (α:=List Bool) (.sl es false)=zai es:=(rfl)
@[simp] theorem zHP {es:List (List V)}:Enc.dec (α:=List (List Nat)) (.sl es false)=zai es:=(rfl)
@[simp] theorem zLg (n:Int):enc n=.int .i64 n:=(rfl)
@[simp] theorem zHL (b:Bool):enc b=.bool b:=(rfl)
@[simp] theorem zLd (s:List Nat):enc s=.str s:=(rfl)
@[simp] theorem zLn {n:Int}:Enc.dec (α:=Int) (.int .i64 n)=some n:=(rfl)
@[simp] theorem zHT {b:Bool}:Enc.dec (α:=Bool) (.bool b)=some b:=(rfl)
@[simp] theorem zLk {s:List Nat}:Enc.dec (α:=List Nat) (.str s)=some s:=(rfl)
@[simp] theorem zEA:@Cel.cells Int _=encI:=(rfl)
@[simp] theorem zA3:@Cel.cells Bool _=zg6:=(rfl)
@[simp] theorem zE9:@Cel.cells (List Nat) _=encS:=(rfl)
@[simp] theorem zA5 {n:Int}:Cel.dec (α:=Int) [.int .i64 n]=some n:=(rfl)
@[simp] theorem z8j {b:Bool}:Cel.dec (α:=Bool) [.bool b]=some b:=(rfl)
@[simp] theorem zA4 {s:List Nat}:Cel.dec (α:=List Nat) [.str s]=some s:=(rfl)
@[simp] theorem zHF {α β:Type} [Enc α] [Enc β] (a:α) (b:β):enc (a,b)=.tuple [enc a,enc b]:=(rfl)
@[simp] theorem zHU {α:Type} [Cel α]:zai ([]:List (List V))=some ([]:List α):=(rfl)
@[simp] theorem zlL {α:Type} [Cel α] {e:List V} {r:List (List V)}:(zai (e::r):Option (List α))=ob (Cel.dec e) fun a=>ob (zai r) fun l=>some (a::l):=by
  show (match (Cel.dec e:Option α),(zai r:Option (List α))with|some a,some l=>some (a::l)|_,_=>none)=_
  cases(Cel.dec e:Option α)<;>cases(zai r:Option (List α))<;>rfl
@[simp] theorem z7W {α:Type} [Cel α] {e r:List (List V)}:(zai (e++r):Option (List α))=ob (zai e) fun a=>ob (zai r) fun l=>some (a++l):=by
  induction e with
  | nil =>
    show zai r=ob (some []) _
    rw[zL];cases(zai r:Option (List α))<;>rfl
  | cons x e ih =>
    show zai (x::(e++r))=_
    rw[zlL,zlL,ih]
    cases(Cel.dec x:Option α)<;>cases(zai e:Option (List α))<;>cases(zai r:Option (List α))<;>rfl
structure Slot where
 bound:Bool
 type:Ty
 home:Int
 base:Bool
 deriving DecidableEq
def zG(a:Slot):List V:=[.bool a.bound,.int .i64 a.type.kind,.str a.type.name,.int .i64 a.type.id,.int .i64 a.type.home,.sl (a.type.args.map zw) false,.int .i64 a.home,.bool a.base]
def zhI(c:List V):Option Slot :=
 match c with
 | [.bool x0,.int .i64 x1,.str x2,.int .i64 x3,.int .i64 x4,.sl x5 false,.int .i64 x6,.bool x7]=>ob (zai x5) fun y5=>some ⟨x0,(Ty.mk x1 x2 x3 x4 y5),x6,x7⟩
 |_=>none
theorem zlJ{x0:Bool}{x1:Int}{x2:List Nat}{x3:Int}{x4:Int}{x5:List (List V)}{x6:Int}{x7:Bool}:zhI [.bool x0,.int .i64 x1,.str x2,.int .i64 x3,.int .i64 x4,.sl x5 false,.int .i64 x6,.bool x7]=ob (zai x5) fun y5=>some ⟨x0,(Ty.mk x1 x2 x3 x4 y5),x6,x7⟩:=(rfl)
instance:Cel Slot where
 cells:=zG
 dec:=zhI
 dec_enc a:=by simp only[zG,zlJ,zef,zL,Ty.eta]
 enc_dec c a h:=by
  unfold zhI at h
  split at h
  · simp only[zq]at h
    obtain⟨y5,hy5,h⟩:=h
    cases h
    have hy5:=zao hy5
    subst_vars
    rfl
  · cases h
 pure2 a:=rfl
 norm a:=by simp only[zG,zak,zas,zdV]
instance:Enc Slot:=zdK
@[simp] theorem zAz:@Cel.cells Slot _=zG:=(rfl)
@[simp] theorem z8f:@Cel.dec Slot _=zhI:=(rfl)
@[simp] theorem zHE (a:Slot):enc a=.agg (zG a):=(rfl)
@[simp] theorem zHN {c:List V}:Enc.dec (α:=Slot) (.agg c)=zhI c:=(rfl)
@[simp] theorem zhL (l:List Slot):zai (l.map zG)=some l:=zaX l
@[simp] theorem zkY (l:List Slot):zax (l.map zG)=l.map zG:=zar l
@[simp] theorem zf (l:List Slot):((l.map zG).all fun e=>e.all V.pure2)=true:=zau l
@[simp] theorem zEf (l:List Slot):enc l=.sl (l.map zG) false:=(rfl)
@[simp] theorem zEp {es:List (List V)}:Enc.dec (α:=List Slot) (.sl es false)=zai es:=(rfl)
@[simp] theorem zIS (l:List Slot):sizes 8 (l.map zG)=true:=by rw[sizes_eq];intro e he;obtain⟨a,_,rfl⟩:=List.mem_map.1 he;rfl
@[simp] theorem zL3 (l:List Slot):zW (l.map zG)=true:=zab zf
@[simp] theorem zH7 (a:Slot):Slot.mk a.bound a.type a.home a.base=a:=(rfl)
attribute [simp] zlJ zG
structure Change where
 id:Int
 old:Slot
 new:Bool
 deriving DecidableEq
def z8(a:Change):List V:=[.int .i64 a.id,.bool a.old.bound,.int .i64 a.old.type.kind,.str a.old.type.name,.int .i64 a.old.type.id,.int .i64 a.old.type.home,.sl (a.old.type.args.map zw) false,.int .i64 a.old.home,.bool a.old.base,.bool a.new]
def zeg(c:List V):Option Change :=
 match c with
 | [.int .i64 x0,.bool x1,.int .i64 x2,.str x3,.int .i64 x4,.int .i64 x5,.sl x6 false,.int .i64 x7,.bool x8,.bool x9]=>ob (zai x6) fun y6=>some ⟨x0,⟨x1,(Ty.mk x2 x3 x4 x5 y6),x7,x8⟩,x9⟩
 |_=>none
theorem zhO{x0:Int}{x1:Bool}{x2:Int}{x3:List Nat}{x4:Int}{x5:Int}{x6:List (List V)}{x7:Int}{x8:Bool}{x9:Bool}:zeg [.int .i64 x0,.bool x1,.int .i64 x2,.str x3,.int .i64 x4,.int .i64 x5,.sl x6 false,.int .i64 x7,.bool x8,.bool x9]=ob (zai x6) fun y6=>some ⟨x0,⟨x1,(Ty.mk x2 x3 x4 x5 y6),x7,x8⟩,x9⟩:=(rfl)
instance:Cel Change where
 cells:=z8
 dec:=zeg
 dec_enc a:=by simp only[z8,zhO,zef,zL,Ty.eta]
 enc_dec c a h:=by
  unfold zeg at h
  split at h
  · simp only[zq]at h
    obtain⟨y6,hy6,h⟩:=h
    cases h
    have hy6:=zao hy6
    subst_vars
    rfl
  · cases h
 pure2 a:=rfl
 norm a:=by simp only[z8,zak,zas,zdV]
instance:Enc Change:=zdK
@[simp] theorem z4Q:@Cel.cells Change _=z8:=(rfl)
@[simp] theorem zxh:@Cel.dec Change _=zeg:=(rfl)
@[simp] theorem zAk (a:Change):enc a=.agg (z8 a):=(rfl)
@[simp] theorem zAr {c:List V}:Enc.dec (α:=Change) (.agg c)=zeg c:=(rfl)
@[simp] theorem zd7 (l:List Change):zai (l.map z8)=some l:=zaX l
@[simp] theorem zmH (l:List Change):zax (l.map z8)=l.map z8:=zar l
@[simp] theorem za (l:List Change):((l.map z8).all fun e=>e.all V.pure2)=true:=zau l
@[simp] theorem z7M (l:List Change):enc l=.sl (l.map z8) false:=(rfl)
@[simp] theorem z7T {es:List (List V)}:Enc.dec (α:=List Change) (.sl es false)=zai es:=(rfl)
@[simp] theorem zBE (l:List Change):sizes 10 (l.map z8)=true:=by rw[sizes_eq];intro e he;obtain⟨a,_,rfl⟩:=List.mem_map.1 he;rfl
@[simp] theorem zFf (l:List Change):zW (l.map z8)=true:=zab za
@[simp] theorem zAf (a:Change):Change.mk a.id a.old a.new=a:=(rfl)
attribute [simp] zhO z8
structure Store where
 slots:List Slot
 trail:List Change
 deriving DecidableEq
def zD(a:Store):List V:=[.sl (a.slots.map zG) false,.sl (a.trail.map z8) false]
def zf6(c:List V):Option Store :=
 match c with
 | [.sl x0 false,.sl x1 false]=>ob (zai x0) fun y0=>ob (zai x1) fun y1=>some ⟨y0,y1⟩
 |_=>none
theorem zjg{x0:List (List V)}{x1:List (List V)}:zf6 [.sl x0 false,.sl x1 false]=ob (zai x0) fun y0=>ob (zai x1) fun y1=>some ⟨y0,y1⟩:=(rfl)
instance:Cel Store where
 cells:=zD
 dec:=zf6
 dec_enc a:=by simp only[zD,zjg,zd7,zhL,zL,Ty.eta]
 enc_dec c a h:=by
  unfold zf6 at h
  split at h
  · simp only[zq]at h
    obtain⟨y0,hy0,y1,hy1,h⟩:=h
    cases h
    have hy0:=zao hy0
    have hy1:=zao hy1
    subst_vars
    rfl
  · cases h
 pure2 a:=rfl
 norm a:=by simp only[zD,zak,zas,zmH,zkY]
instance:Enc Store:=zdK
@[simp] theorem z8d:@Cel.cells Store _=zD:=(rfl)
@[simp] theorem z4S:@Cel.dec Store _=zf6:=(rfl)
@[simp] theorem zEe (a:Store):enc a=.agg (zD a):=(rfl)
@[simp] theorem zEo {c:List V}:Enc.dec (α:=Store) (.agg c)=zf6 c:=(rfl)
@[simp] theorem zAt (l:List Store):zai (l.map zD)=some l:=zaX l
@[simp] theorem z99 (l:List Store):zax (l.map zD)=l.map zD:=zar l
@[simp] theorem zmC (l:List Store):((l.map zD).all fun e=>e.all V.pure2)=true:=zau l
@[simp] theorem zAi (l:List Store):enc l=.sl (l.map zD) false:=(rfl)
@[simp] theorem zAp {es:List (List V)}:Enc.dec (α:=List Store) (.sl es false)=zai es:=(rfl)
@[simp] theorem zFU (l:List Store):sizes 2 (l.map zD)=true:=by rw[sizes_eq];intro e he;obtain⟨a,_,rfl⟩:=List.mem_map.1 he;rfl
@[simp] theorem zIr (l:List Store):zW (l.map zD)=true:=zab zmC
@[simp] theorem zDZ (a:Store):Store.mk a.slots a.trail=a:=(rfl)
attribute [simp] zjg zD
structure Assign where
 id:Int
 type:Ty
 deriving DecidableEq
def zbg(a:Assign):List V:=[.int .i64 a.id,.int .i64 a.type.kind,.str a.type.name,.int .i64 a.type.id,.int .i64 a.type.home,.sl (a.type.args.map zw) false]
def zeh(c:List V):Option Assign :=
 match c with
 | [.int .i64 x0,.int .i64 x1,.str x2,.int .i64 x3,.int .i64 x4,.sl x5 false]=>ob (zai x5) fun y5=>some ⟨x0,(Ty.mk x1 x2 x3 x4 y5)⟩
 |_=>none
theorem zhP{x0:Int}{x1:Int}{x2:List Nat}{x3:Int}{x4:Int}{x5:List (List V)}:zeh [.int .i64 x0,.int .i64 x1,.str x2,.int .i64 x3,.int .i64 x4,.sl x5 false]=ob (zai x5) fun y5=>some ⟨x0,(Ty.mk x1 x2 x3 x4 y5)⟩:=(rfl)
instance:Cel Assign where
 cells:=zbg
 dec:=zeh
 dec_enc a:=by simp only[zbg,zhP,zef,zL,Ty.eta]
 enc_dec c a h:=by
  unfold zeh at h
  split at h
  · simp only[zq]at h
    obtain⟨y5,hy5,h⟩:=h
    cases h
    have hy5:=zao hy5
    subst_vars
    rfl
  · cases h
 pure2 a:=rfl
 norm a:=by simp only[zbg,zak,zas,zdV]
instance:Enc Assign:=zdK
@[simp] theorem z4R:@Cel.cells Assign _=zbg:=(rfl)
@[simp] theorem zxi:@Cel.dec Assign _=zeh:=(rfl)
@[simp] theorem zAl (a:Assign):enc a=.agg (zbg a):=(rfl)
@[simp] theorem zAs {c:List V}:Enc.dec (α:=Assign) (.agg c)=zeh c:=(rfl)
@[simp] theorem z7Y (l:List Assign):zai (l.map zbg)=some l:=zaX l
@[simp] theorem z6u (l:List Assign):zax (l.map zbg)=l.map zbg:=zar l
@[simp] theorem zkS (l:List Assign):((l.map zbg).all fun e=>e.all V.pure2)=true:=zau l
@[simp] theorem z7N (l:List Assign):enc l=.sl (l.map zbg) false:=(rfl)
@[simp] theorem z7U {es:List (List V)}:Enc.dec (α:=List Assign) (.sl es false)=zai es:=(rfl)
@[simp] theorem zBF (l:List Assign):sizes 6 (l.map zbg)=true:=by rw[sizes_eq];intro e he;obtain⟨a,_,rfl⟩:=List.mem_map.1 he;rfl
@[simp] theorem zFg (l:List Assign):zW (l.map zbg)=true:=zab zkS
@[simp] theorem zAg (a:Assign):Assign.mk a.id a.type=a:=(rfl)
attribute [simp] zhP zbg
structure Equation where
 left:Ty
 right:Ty
 deriving DecidableEq
def zu(a:Equation):List V:=[.int .i64 a.left.kind,.str a.left.name,.int .i64 a.left.id,.int .i64 a.left.home,.sl (a.left.args.map zw) false,.int .i64 a.right.kind,.str a.right.name,.int .i64 a.right.id,.int .i64 a.right.home,.sl (a.right.args.map zw) false]
def zcN(c:List V):Option Equation :=
 match c with
 | [.int .i64 x0,.str x1,.int .i64 x2,.int .i64 x3,.sl x4 false,.int .i64 x5,.str x6,.int .i64 x7,.int .i64 x8,.sl x9 false]=>ob (zai x4) fun y4=>ob (zai x9) fun y9=>some ⟨(Ty.mk x0 x1 x2 x3 y4),(Ty.mk x5 x6 x7 x8 y9)⟩
 |_=>none
theorem zf7{x0:Int}{x1:List Nat}{x2:Int}{x3:Int}{x4:List (List V)}{x5:Int}{x6:List Nat}{x7:Int}{x8:Int}{x9:List (List V)}:zcN [.int .i64 x0,.str x1,.int .i64 x2,.int .i64 x3,.sl x4 false,.int .i64 x5,.str x6,.int .i64 x7,.int .i64 x8,.sl x9 false]=ob (zai x4) fun y4=>ob (zai x9) fun y9=>some ⟨(Ty.mk x0 x1 x2 x3 y4),(Ty.mk x5 x6 x7 x8 y9)⟩:=(rfl)
instance:Cel Equation where
 cells:=zu
 dec:=zcN
 dec_enc a:=by simp only[zu,zf7,zef,zL,Ty.eta]
 enc_dec c a h:=by
  unfold zcN at h
  split at h
  · simp only[zq]at h
    obtain⟨y4,hy4,y9,hy9,h⟩:=h
    cases h
    have hy4:=zao hy4
    have hy9:=zao hy9
    subst_vars
    rfl
  · cases h
 pure2 a:=rfl
 norm a:=by simp only[zu,zak,zas,zdV]
instance:Enc Equation:=zdK
@[simp] theorem zve:@Cel.cells Equation _=zu:=(rfl)
@[simp] theorem zuv:@Cel.dec Equation _=zcN:=(rfl)
@[simp] theorem z4L (a:Equation):enc a=.agg (zu a):=(rfl)
@[simp] theorem z4M {c:List V}:Enc.dec (α:=Equation) (.agg c)=zcN c:=(rfl)
@[simp] theorem zwZ (l:List Equation):zai (l.map zu)=some l:=zaX l
@[simp] theorem zwq (l:List Equation):zax (l.map zu)=l.map zu:=zar l
@[simp] theorem zx (l:List Equation):((l.map zu).all fun e=>e.all V.pure2)=true:=zau l
@[simp] theorem zwV (l:List Equation):enc l=.sl (l.map zu) false:=(rfl)
@[simp] theorem zwW {es:List (List V)}:Enc.dec (α:=List Equation) (.sl es false)=zai es:=(rfl)
@[simp] theorem zmt (l:List Equation):sizes 10 (l.map zu)=true:=by rw[sizes_eq];intro e he;obtain⟨a,_,rfl⟩:=List.mem_map.1 he;rfl
@[simp] theorem z8s (l:List Equation):zW (l.map zu)=true:=zab zx
@[simp] theorem z4J (a:Equation):Equation.mk a.left a.right=a:=(rfl)
attribute [simp] zf7 zu
structure Pair where
 a:Ty
 b:Ty
 deriving DecidableEq
def zcf(a:Pair):List V:=[.int .i64 a.a.kind,.str a.a.name,.int .i64 a.a.id,.int .i64 a.a.home,.sl (a.a.args.map zw) false,.int .i64 a.b.kind,.str a.b.name,.int .i64 a.b.id,.int .i64 a.b.home,.sl (a.b.args.map zw) false]
def zhK(c:List V):Option Pair :=
 match c with
 | [.int .i64 x0,.str x1,.int .i64 x2,.int .i64 x3,.sl x4 false,.int .i64 x5,.str x6,.int .i64 x7,.int .i64 x8,.sl x9 false]=>ob (zai x4) fun y4=>ob (zai x9) fun y9=>some ⟨(Ty.mk x0 x1 x2 x3 y4),(Ty.mk x5 x6 x7 x8 y9)⟩
 |_=>none
theorem zlK{x0:Int}{x1:List Nat}{x2:Int}{x3:Int}{x4:List (List V)}{x5:Int}{x6:List Nat}{x7:Int}{x8:Int}{x9:List (List V)}:zhK [.int .i64 x0,.str x1,.int .i64 x2,.int .i64 x3,.sl x4 false,.int .i64 x5,.str x6,.int .i64 x7,.int .i64 x8,.sl x9 false]=ob (zai x4) fun y4=>ob (zai x9) fun y9=>some ⟨(Ty.mk x0 x1 x2 x3 y4),(Ty.mk x5 x6 x7 x8 y9)⟩:=(rfl)
instance:Cel Pair where
 cells:=zcf
 dec:=zhK
 dec_enc a:=by simp only[zcf,zlK,zef,zL,Ty.eta]
 enc_dec c a h:=by
  unfold zhK at h
  split at h
  · simp only[zq]at h
    obtain⟨y4,hy4,y9,hy9,h⟩:=h
    cases h
    have hy4:=zao hy4
    have hy9:=zao hy9
    subst_vars
    rfl
  · cases h
 pure2 a:=rfl
 norm a:=by simp only[zcf,zak,zas,zdV]
instance:Enc Pair:=zdK
@[simp] theorem zA0:@Cel.cells Pair _=zcf:=(rfl)
@[simp] theorem z8g:@Cel.dec Pair _=zhK:=(rfl)
@[simp] theorem zHG (a:Pair):enc a=.agg (zcf a):=(rfl)
@[simp] theorem zHO {c:List V}:Enc.dec (α:=Pair) (.agg c)=zhK c:=(rfl)
@[simp] theorem zEv (l:List Pair):zai (l.map zcf)=some l:=zaX l
@[simp] theorem zCH (l:List Pair):zax (l.map zcf)=l.map zcf:=zar l
@[simp] theorem zoV (l:List Pair):((l.map zcf).all fun e=>e.all V.pure2)=true:=zau l
@[simp] theorem zEg (l:List Pair):enc l=.sl (l.map zcf) false:=(rfl)
@[simp] theorem zEq {es:List (List V)}:Enc.dec (α:=List Pair) (.sl es false)=zai es:=(rfl)
@[simp] theorem zIT (l:List Pair):sizes 10 (l.map zcf)=true:=by rw[sizes_eq];intro e he;obtain⟨a,_,rfl⟩:=List.mem_map.1 he;rfl
@[simp] theorem zL4 (l:List Pair):zW (l.map zcf)=true:=zab zoV
@[simp] theorem zH8 (a:Pair):Pair.mk a.a a.b=a:=(rfl)
attribute [simp] zlK zcf
structure Tp where
 l:List Int
 i:Int
 deriving DecidableEq
def zgd(a:Tp):List V:=[.sl (a.l.map (fun n=>[V.int .i64 n])) false,.int .i64 a.i]
def zup(c:List V):Option Tp :=
 match c with
 | [.sl x0 false,.int .i64 x1]=>ob (zai x0) fun y0=>some ⟨y0,x1⟩
 |_=>none
theorem zuo{x0:List (List V)}{x1:Int}:zup [.sl x0 false,.int .i64 x1]=ob (zai x0) fun y0=>some ⟨y0,x1⟩:=(rfl)
instance:Cel Tp where
 cells:=zgd
 dec:=zup
 dec_enc a:=by simp only[zgd,zuo,zwY,zL,Ty.eta]
 enc_dec c a h:=by
  unfold zup at h
  split at h
  · simp only[zq]at h
    obtain⟨y0,hy0,h⟩:=h
    cases h
    have hy0:=zao hy0
    subst_vars
    rfl
  · cases h
 pure2 a:=rfl
 norm a:=by simp only[zgd,zak,zas,zwp]
instance:Enc Tp:=zdK
@[simp] theorem zIb:@Cel.cells Tp _=zgd:=(rfl)
@[simp] theorem zEC:@Cel.dec Tp _=zup:=(rfl)
@[simp] theorem zPz (a:Tp):enc a=.agg (zgd a):=(rfl)
@[simp] theorem zP3 {c:List V}:Enc.dec (α:=Tp) (.agg c)=zup c:=(rfl)
@[simp] theorem zLo (l:List Tp):zai (l.map zgd)=some l:=zaX l
@[simp] theorem zJL (l:List Tp):zax (l.map zgd)=l.map zgd:=zar l
@[simp] theorem zwb (l:List Tp):((l.map zgd).all fun e=>e.all V.pure2)=true:=zau l
@[simp] theorem zLf (l:List Tp):enc l=.sl (l.map zgd) false:=(rfl)
@[simp] theorem zLm {es:List (List V)}:Enc.dec (α:=List Tp) (.sl es false)=zai es:=(rfl)
@[simp] theorem zQq (l:List Tp):sizes 2 (l.map zgd)=true:=by rw[sizes_eq];intro e he;obtain⟨a,_,rfl⟩:=List.mem_map.1 he;rfl
@[simp] theorem zRf (l:List Tp):zW (l.map zgd)=true:=zab zwb
@[simp] theorem zPx (a:Tp):Tp.mk a.l a.i=a:=(rfl)
attribute [simp] zuo zgd
end Go.J
/- Functions of typed values. -/
namespace Go.J
open Enc (enc)
section
variable {α β γ δ ε ζ:Type} [Enc α] [Enc β] [Enc γ] [Enc δ] [Enc ε] [Enc ζ]
def zfi(b:β)(vs:List V):Option V:=match vs with
 | []=>some (enc b)
 |_=>none
def zaU(F:α→Option β)(vs:List V):Option V:=match vs with
 | [x]=>ob (Enc.dec x) fun a=>ob (F a) fun b=>some (enc b)
 |_=>none
def zU(F:α→β→Option γ)(vs:List V):Option V:=match vs with
 | [x,y]=>ob (Enc.dec x) fun a=>ob (Enc.dec y) fun b=>ob (F a b) fun c=>some (enc c)
 |_=>none
def zaT(F:α→β→γ→Option δ)(vs:List V):Option V:=match vs with
 | [x,y,z]=>ob (Enc.dec x) fun a=>ob (Enc.dec y) fun b=>ob (Enc.dec z) fun c=>ob (F a b c) fun d=>some (enc d)
 |_=>none
def zJb(F:α→β→γ→δ→Option ε)(vs:List V):Option V:=match vs with
 | [x,y,z,u]=>ob (Enc.dec x) fun a=>ob (Enc.dec y) fun b=>ob (Enc.dec z) fun c=>ob (Enc.dec u) fun d=>ob (F a b c d) fun e=>some (enc e)
 |_=>none
@[simp] theorem zJf {b:β}:zfi b []=some (enc b):=(rfl)
@[simp] theorem zJe {F:α→Option β} {x:V}:zaU F [x]=ob (Enc.dec x) fun a=>ob (F a) fun b=>some (enc b):=(rfl)
@[simp] theorem zJd {F:α→β→Option γ} {x y:V}:zU F [x,y]=ob (Enc.dec x) fun a=>ob (Enc.dec y) fun b=>ob (F a b) fun c=>some (enc c):=(rfl)
@[simp] theorem zJc {F:α→β→γ→Option δ} {x y z:V}:zaT F [x,y,z]=ob (Enc.dec x) fun a=>ob (Enc.dec y) fun b=>ob (Enc.dec z) fun c=>ob (F a b c) fun d=>some (enc d):=(rfl)
@[simp] theorem zJa {F:α→β→γ→δ→Option ε} {x y z u:V}:zJb F [x,y,z,u]=ob (Enc.dec x) fun a=>ob (Enc.dec y) fun b=>ob (Enc.dec z) fun c=>ob (Enc.dec u) fun d=>ob (F a b c d) fun e=>some (enc e):=(rfl)
theorem zqq{b:β}{vs:List V}{v:V}(h:zfi b vs=some v):vs=[]∧v=enc b:=by
 unfold zfi at h
 split at h
 · cases h;exact⟨rfl,rfl⟩
 · cases h
theorem zhg{F:α→Option β}{vs:List V}{v:V}(h:zaU F vs=some v):∃ a r,vs=[enc a]∧F a=some r∧v=enc r:=by
 unfold zaU at h
 split at h
 · simp only[zq]at h
   obtain⟨a,ha,r,hr,h⟩:=h
   cases h
   exact⟨a,r,by rw[Enc.enc_dec _ _ ha],hr,rfl⟩
 · cases h
theorem zk9{F:α→β→Option γ}{vs:List V}{v:V}(h:zU F vs=some v):∃ a b r,vs=[enc a,enc b]∧F a b=some r∧v=enc r:=by
 unfold zU at h
 split at h
 · simp only[zq]at h
   obtain⟨a,ha,b,hb,r,hr,h⟩:=h
   cases h
   exact⟨a,b,r,by rw[Enc.enc_dec _ _ ha,Enc.enc_dec _ _ hb],hr,rfl⟩
 · cases h
theorem zk8{F:α→β→γ→Option δ}{vs:List V}{v:V}(h:zaT F vs=some v):∃ a b c r,vs=[enc a,enc b,enc c]∧F a b c=some r∧v=enc r:=by
 unfold zaT at h
 split at h
 · simp only[zq]at h
   obtain⟨a,ha,b,hb,c,hc,r,hr,h⟩:=h
   cases h
   exact⟨a,b,c,r,by rw[Enc.enc_dec _ _ ha,Enc.enc_dec _ _ hb,Enc.enc_dec _ _ hc],hr,rfl⟩
 · cases h
end
section
variable {ρ:Nat→Value}{E:Env}{f:FuncId}{fn:Func}{sc:SC}{vs:List V}{T:PT V}{r:V}
theorem zr0(hρ:Good ρ)(hcon:ConsOk ρ E)(hP:E.P.follows .mixedOrders=true)(hN:zdN E.P)(hf:E.P.funcs[f]?=some fn)(hb:fn.body.bind zy=some sc)(he:zbv fn.ntmps vs 0 .leaf=some T)(hp:zC vs=true)
 (h:Wp ρ E 0 fn.ntmps sc T { H:=.leaf,n:=0,log:=[] } (Leaves E.P fn (zeo r))) (hs:HS):CallOk ρ E.P f vs hs r hs :=
 zux hf hb he (zi8 hρ hcon hP hN h) hp hs
end
section
variable {A:Nat→Bool}{π:Nat→Nat}
@[simp] theorem zKu {k:IntKind} {n:Int}:V.in1 A (.int k n)=true:=(rfl)
@[simp] theorem zHt {b:Bool}:V.in1 A (.bool b)=true:=(rfl)
@[simp] theorem zKp {s:List Nat}:V.in1 A (.str s)=true:=(rfl)
@[simp] theorem zMN {es:List (List V)} {t:Bool}:V.in1 A (.sl es t)=true:=(rfl)
@[simp] theorem zHr :V.in1 A .snil=true:=(rfl)
@[simp] theorem z9U :V.in1 A .nilptr=true:=(rfl)
@[simp] theorem z9V :V.in1 A .nilmap=true:=(rfl)
@[simp] theorem z7j :V.in1 A .nilFunc=true:=(rfl)
@[simp] theorem zyz :V.in1 A .nilIface=true:=(rfl)
@[simp] theorem zKq {cs:List V}:V.in1 A (.ref cs)=true:=(rfl)
@[simp] theorem zKo {k:Nat}:V.in1 A (.sym k)=true:=(rfl)
@[simp] theorem zKr {i g o:Nat}:V.in1 A (.ptr i g o)=A i:=(rfl)
@[simp] theorem zKs {i g o n:Nat} {c:Option Nat}:V.in1 A (.own i g o n c)=A i:=(rfl)
@[simp] theorem zKt {i:Nat}:V.in1 A (.map i)=A i:=(rfl)
@[simp] theorem zKn {i:Nat}:V.in1 A (.yld i)=A i:=(rfl)
@[simp] theorem zKl {k:IntKind} {n:Int}:V.in2 A (.int k n)=true:=(rfl)
@[simp] theorem zHq {b:Bool}:V.in2 A (.bool b)=true:=(rfl)
@[simp] theorem zKg {s:List Nat}:V.in2 A (.str s)=true:=(rfl)
@[simp] theorem zMM {es:List (List V)} {t:Bool}:V.in2 A (.sl es t)=true:=(rfl)
@[simp] theorem zHo :V.in2 A .snil=true:=(rfl)
@[simp] theorem z9S :V.in2 A .nilptr=true:=(rfl)
@[simp] theorem z9T :V.in2 A .nilmap=true:=(rfl)
@[simp] theorem z7i :V.in2 A .nilFunc=true:=(rfl)
@[simp] theorem zyy :V.in2 A .nilIface=true:=(rfl)
@[simp] theorem zKh {cs:List V}:V.in2 A (.ref cs)=true:=(rfl)
@[simp] theorem zKf {k:Nat}:V.in2 A (.sym k)=true:=(rfl)
@[simp] theorem zKi {i g o:Nat}:V.in2 A (.ptr i g o)=A i:=(rfl)
@[simp] theorem zKj {i g o n:Nat} {c:Option Nat}:V.in2 A (.own i g o n c)=A i:=(rfl)
@[simp] theorem zKk {i:Nat}:V.in2 A (.map i)=A i:=(rfl)
@[simp] theorem zKe {i:Nat}:V.in2 A (.yld i)=A i:=(rfl)
@[simp] theorem zKm {l:List V}:V.in2 A (.agg l)=l.all (V.in1 A):=(rfl)
@[simp] theorem zHp {i:Nat} {l:List V}:V.in2 A (.func i l)=l.all (V.in1 A):=(rfl)
@[simp] theorem zKc {k:IntKind} {n:Int}:V.in3 A (.int k n)=true:=(rfl)
@[simp] theorem zHn {b:Bool}:V.in3 A (.bool b)=true:=(rfl)
@[simp] theorem zJX {s:List Nat}:V.in3 A (.str s)=true:=(rfl)
@[simp] theorem zML {es:List (List V)} {t:Bool}:V.in3 A (.sl es t)=true:=(rfl)
@[simp] theorem zHl :V.in3 A .snil=true:=(rfl)
@[simp] theorem z9Q :V.in3 A .nilptr=true:=(rfl)
@[simp] theorem z9R :V.in3 A .nilmap=true:=(rfl)
@[simp] theorem z7h :V.in3 A .nilFunc=true:=(rfl)
@[simp] theorem zyx :V.in3 A .nilIface=true:=(rfl)
@[simp] theorem zJY {cs:List V}:V.in3 A (.ref cs)=true:=(rfl)
@[simp] theorem zJW {k:Nat}:V.in3 A (.sym k)=true:=(rfl)
@[simp] theorem zJZ {i g o:Nat}:V.in3 A (.ptr i g o)=A i:=(rfl)
@[simp] theorem zKa {i g o n:Nat} {c:Option Nat}:V.in3 A (.own i g o n c)=A i:=(rfl)
@[simp] theorem zKb {i:Nat}:V.in3 A (.map i)=A i:=(rfl)
@[simp] theorem zJV {i:Nat}:V.in3 A (.yld i)=A i:=(rfl)
@[simp] theorem zKd {l:List V}:V.in3 A (.agg l)=l.all (V.in1 A):=(rfl)
@[simp] theorem zHm {i:Nat} {l:List V}:V.in3 A (.func i l)=l.all (V.in1 A):=(rfl)
@[simp] theorem zHs {i:Nat}:V.in1 A (.func i [])=true:=(rfl)
@[simp] theorem zG0 {k:IntKind} {n:Int}:V.ren1 π (.int k n)=(.int k n):=(rfl)
@[simp] theorem zCk {b:Bool}:V.ren1 π (.bool b)=(.bool b):=(rfl)
@[simp] theorem zGv {s:List Nat}:V.ren1 π (.str s)=(.str s):=(rfl)
@[simp] theorem zJv {es:List (List V)} {t:Bool}:V.ren1 π (.sl es t)=(.sl es t):=(rfl)
@[simp] theorem zCi :V.ren1 π .snil=.snil:=(rfl)
@[simp] theorem z6c :V.ren1 π .nilptr=.nilptr:=(rfl)
@[simp] theorem z6d :V.ren1 π .nilmap=.nilmap:=(rfl)
@[simp] theorem zxY :V.ren1 π .nilFunc=.nilFunc:=(rfl)
@[simp] theorem zvX :V.ren1 π .nilIface=.nilIface:=(rfl)
@[simp] theorem zGw {cs:List V}:V.ren1 π (.ref cs)=(.ref cs):=(rfl)
@[simp] theorem zGu {k:Nat}:V.ren1 π (.sym k)=(.sym k):=(rfl)
@[simp] theorem zGx {i g o:Nat}:V.ren1 π (.ptr i g o)=.ptr (π i) g o:=(rfl)
@[simp] theorem zGy {i g o n:Nat} {c:Option Nat}:V.ren1 π (.own i g o n c)=.own (π i) g o n c:=(rfl)
@[simp] theorem zGz {i:Nat}:V.ren1 π (.map i)=.map (π i):=(rfl)
@[simp] theorem zGt {i:Nat}:V.ren1 π (.yld i)=.yld (π i):=(rfl)
@[simp] theorem zGr {k:IntKind} {n:Int}:V.ren2 π (.int k n)=(.int k n):=(rfl)
@[simp] theorem zCh {b:Bool}:V.ren2 π (.bool b)=(.bool b):=(rfl)
@[simp] theorem zGm {s:List Nat}:V.ren2 π (.str s)=(.str s):=(rfl)
@[simp] theorem zJu {es:List (List V)} {t:Bool}:V.ren2 π (.sl es t)=(.sl es t):=(rfl)
@[simp] theorem zCf :V.ren2 π .snil=.snil:=(rfl)
@[simp] theorem z6a :V.ren2 π .nilptr=.nilptr:=(rfl)
@[simp] theorem z6b :V.ren2 π .nilmap=.nilmap:=(rfl)
@[simp] theorem zxX :V.ren2 π .nilFunc=.nilFunc:=(rfl)
@[simp] theorem zvW :V.ren2 π .nilIface=.nilIface:=(rfl)
@[simp] theorem zGn {cs:List V}:V.ren2 π (.ref cs)=(.ref cs):=(rfl)
@[simp] theorem zGl {k:Nat}:V.ren2 π (.sym k)=(.sym k):=(rfl)
@[simp] theorem zGo {i g o:Nat}:V.ren2 π (.ptr i g o)=.ptr (π i) g o:=(rfl)
@[simp] theorem zGp {i g o n:Nat} {c:Option Nat}:V.ren2 π (.own i g o n c)=.own (π i) g o n c:=(rfl)
@[simp] theorem zGq {i:Nat}:V.ren2 π (.map i)=.map (π i):=(rfl)
@[simp] theorem zGk {i:Nat}:V.ren2 π (.yld i)=.yld (π i):=(rfl)
@[simp] theorem zGs {l:List V}:V.ren2 π (.agg l)=.agg (l.map (V.ren1 π)):=(rfl)
@[simp] theorem zCg {i:Nat} {l:List V}:V.ren2 π (.func i l)=.func i (l.map (V.ren1 π)):=(rfl)
@[simp] theorem zJs {k:IntKind} {n:Int}:V.ren π (.int k n)=(.int k n):=(rfl)
@[simp] theorem zGj {b:Bool}:V.ren π (.bool b)=(.bool b):=(rfl)
@[simp] theorem zJn {s:List Nat}:V.ren π (.str s)=(.str s):=(rfl)
@[simp] theorem zMq {es:List (List V)} {t:Bool}:V.ren π (.sl es t)=(.sl es t):=(rfl)
@[simp] theorem zGh :V.ren π .snil=.snil:=(rfl)
@[simp] theorem z9p :V.ren π .nilptr=.nilptr:=(rfl)
@[simp] theorem z9q :V.ren π .nilmap=.nilmap:=(rfl)
@[simp] theorem z5Z :V.ren π .nilFunc=.nilFunc:=(rfl)
@[simp] theorem zxW :V.ren π .nilIface=.nilIface:=(rfl)
@[simp] theorem zJo {cs:List V}:V.ren π (.ref cs)=(.ref cs):=(rfl)
@[simp] theorem zJm {k:Nat}:V.ren π (.sym k)=(.sym k):=(rfl)
@[simp] theorem zJp {i g o:Nat}:V.ren π (.ptr i g o)=.ptr (π i) g o:=(rfl)
@[simp] theorem zJq {i g o n:Nat} {c:Option Nat}:V.ren π (.own i g o n c)=.own (π i) g o n c:=(rfl)
@[simp] theorem zJr {i:Nat}:V.ren π (.map i)=.map (π i):=(rfl)
@[simp] theorem zJl {i:Nat}:V.ren π (.yld i)=.yld (π i):=(rfl)
@[simp] theorem zJt {l:List V}:V.ren π (.agg l)=.agg (l.map (V.ren1 π)):=(rfl)
@[simp] theorem zGi {i:Nat} {l:List V}:V.ren π (.func i l)=.func i (l.map (V.ren1 π)):=(rfl)
@[simp] theorem zCj {i:Nat} {l:List V}:V.ren1 π (.func i l)=.func i l:=(rfl)
@[simp] theorem zCe {l:List V}:V.ren π (.tuple l)=.tuple (l.map (V.ren2 π)):=(rfl)
@[simp] theorem zLH {a g:Nat} {es:List (List V)} {x z:Bool}:Obj.in A (.arr a g es x z true)=es.all fun e=>e.all V.pure2:=(rfl)
@[simp] theorem zLI {a g:Nat} {es:List (List V)} {x z:Bool}:Obj.in A (.arr a g es x z false)=es.all fun e=>e.all (V.in2 A):=(rfl)
@[simp] theorem zPK {es:List (V×V)}:Obj.in A (.mp es)=true:=(rfl)
@[simp] theorem zIw {a g:Nat} {es:List (List V)} {x z r:Bool}:Obj.ren π (.arr a g es x z r)=.arr a g (es.map fun e=>e.map (V.ren2 π)) x z r:=(rfl)
@[simp] theorem zLG {es:List (V×V)}:Obj.ren π (.mp es)=.mp es:=(rfl)
@[simp] theorem zLj {α:Type} {i:Nat}:dom ([]:List (Nat×α)) i=false:=(rfl)
@[simp] theorem zHM {α:Type} {p:Nat×α} {l:List (Nat×α)} {i:Nat}:dom (p::l) i=(Nat.beq p.1 i||dom l i):=(rfl)
@[simp] theorem zM5 {k:IntKind} {n:Int}:V.pure2 (.int k n)=true:=(rfl)
@[simp] theorem zJF {b:Bool}:V.pure2 (.bool b)=true:=(rfl)
@[simp] theorem zM3 {s:List Nat}:V.pure2 (.str s)=true:=(rfl)
@[simp] theorem zQG {es:List (List V)} {t:Bool}:V.pure2 (.sl es t)=true:=(rfl)
@[simp] theorem zJE :V.pure2 .snil=true:=(rfl)
@[simp] theorem zCz :V.pure2 .nilptr=true:=(rfl)
@[simp] theorem zC0 :V.pure2 .nilmap=true:=(rfl)
@[simp] theorem z9w :V.pure2 .nilFunc=true:=(rfl)
@[simp] theorem z6m :V.pure2 .nilIface=true:=(rfl)
@[simp] theorem zM4 {cs:List V}:V.pure2 (.ref cs)=true:=(rfl)
@[simp] theorem zM2 {k:Nat}:V.pure2 (.sym k)=true:=(rfl)
end
section
variable {r:V}{hs:HS}
@[simp] theorem z8H {b:Bool}:zeo r (.bool b) hs=(.bool b=r):=by show ok (some (V.bool b)) _=_;rw[zF];rfl
@[simp] theorem zAO {k:IntKind} {n:Int}:zeo r (.int k n) hs=(.int k n=r):=by show ok (some (V.int k n)) _=_;rw[zF];rfl
@[simp] theorem zAM {b:List Nat}:zeo r (.str b) hs=(.str b=r):=by show ok (some (V.str b)) _=_;rw[zF];rfl
@[simp] theorem z8G:zeo r .snil hs=(.sl [] false=r):=by show ok (some V.snil) _=_;rw[zF];rfl
@[simp] theorem zFv {es:List (List V)} {t:Bool}:zeo r (.sl es t) hs=(.sl (zax es) false=r):=by show ok (some (V.sl es t)) _=_;rw[zF];rfl
@[simp] theorem zAN {i g o n:Nat} {c:Option Nat}:zeo r (.own i g o n c) hs=ok (zb8 hs (.own i g o n c)) fun v'=>zas v'=r:=(rfl)
@[simp] theorem zAP {l:List V}:zeo r (.agg l) hs=ok (zcE hs l) fun l=>.agg (zak l)=r:=by
  show ok (ob (zcE hs l) fun l=>some (V.agg l)) _=_
  rw[zaj];simp only[zF,zas]
@[simp] theorem z5c {l:List V}:zeo r (.tuple l) hs=ok (zaB hs l) fun l=>.tuple (zak l)=r:=by
  show ok (ob (zaB hs l) fun l=>some (V.tuple l)) _=_
  rw[zaj];simp only[zF,zas]
theorem wrap_i64{n:Int}(h1:-9223372036854775808≤n)(h2:n≤9223372036854775807):IntKind.i64.wrap n=n:=IntWalk.i64_in n ⟨h1,h2⟩
theorem zN{i:Nat}(h:i<9223372036854775807):IntKind.i64.wrap ((i:Int)+1)=((i+1:Nat):Int):=by rw[wrap_i64 (by omega) (by omega)];omega
@[simp] theorem zHB (a b:List Nat):zov a b=decide (a=b):=by
  rw[Bool.eq_iff_iff,decide_eq_true_eq];exact eqNs_true
@[simp] theorem zBV {b:Bool}:(V.bool b).scal=true:=(rfl)
@[simp] theorem zGa {k:IntKind} {n:Int}:(V.int k n).scal=true:=(rfl)
@[simp] theorem zFZ {b:List Nat}:(V.str b).scal=true:=(rfl)
@[simp] theorem zxP {α β:Type} (f:α→β) (l:List α):List.take l.length (l.map f)=l.map f:=List.take_of_length_le (by simp)
@[simp] theorem zBA {α β:Type} (f:α→β) (l:List α) (x:β):List.take (l.length+1) (l.map f++[x])=l.map f++[x]:=List.take_of_length_le (by simp)
@[simp] theorem zB9 {α β:Type} (f:α→β) (l:List α) (x y:β):List.take (l.length+1+1) (l.map f++[x,y])=l.map f++[x,y]:=List.take_of_length_le (by simp)
@[simp] theorem zyc {α:Type} (l:List α) (n:Nat) (m:List α):(zbl l n m).length=l.length:=zcq l n m
@[simp] theorem z9y {α β:Type} (f:α→β) (l:List α) (z:β):zbl (List.replicate l.length z) 0 (l.map f)=l.map f:=by
  rw[zjE _ _ _ (by simp) (by simp)];simp
@[simp] theorem z9x {α β:Type} (f:α→β) (l:List α) (z:β):zbl (List.replicate (l.length+1) z) 0 (l.map f)=l.map f++[z]:=by
  rw[zjE _ _ _ (by simp) (by simp)];simp
@[simp] theorem zC2 {α β:Type} (f:α→β) (l:List α) (z x:β):zbl (l.map f++[z]) l.length [x]=l.map f++[x]:=by
  rw[zjE _ _ _ (by simp) (by simp)]
  simp[List.take_append]
attribute [simp] bytesOf
attribute [simp] zas zak zjl zfH
@[simp] theorem z9B:zax []=[]:=by simp only[zax]
@[simp] theorem z6v {e:List V} {l:List (List V)}:zax (e::l)=zak e::zax l:=by simp only[zax]
@[simp] theorem z9C {e l:List (List V)}:zax (e++l)=zax e++zax l:=by simp only[zhy,List.map_append]
@[simp] theorem z7g {A:Nat→Bool} {l:List V}:(V.tuple l).in3 A=l.all (V.in2 A):=(rfl)
variable {s:List V→Option V}{vs:List V}{K:V×HS→Prop}
@[simp] theorem zNE:okT (fnS s vs hs) K=okT (zaF vs hs) fun q=>zC q.1=true∧okT (s (zak q.1)) fun v=>K (v,q.2):=by
  show ok (fnS s vs hs) K=ok (zaF vs hs) fun q=>zC q.1=true∧ok (s (zak q.1)) fun v=>K (v,q.2)
  simp only[fnS,zbY,zaj,zF]
@[simp] theorem zNG:okT (fnC s vs hs) K=okT (zaB hs vs) fun vs'=>zC vs'=true∧okT (s (zak vs')) fun v=>v.scal=true∧K (v,hs):=by
  show ok (fnC s vs hs) K=ok (zaB hs vs) fun vs'=>zC vs'=true∧ok (s (zak vs')) fun v=>v.scal=true∧K (v,hs)
  simp only[fnC,zbY,zaj,zF]
@[simp] theorem zvj {K:PT V→HS→Prop} {Q:Ex→PT V→HS→Prop} {T:PT V} {hs:HS}:Ex.then K Q .normal T hs=K T hs:=(rfl)
@[simp] theorem z8I {K:PT V→HS→Prop} {Q:Ex→PT V→HS→Prop} {T:PT V} {hs:HS}:Ex.then K Q .ret T hs=Q .ret T hs:=(rfl)
@[simp] theorem z5d {K:PT V→HS→Prop} {Q:Ex→PT V→HS→Prop} {T:PT V} {hs:HS} {i:Nat}:Ex.then K Q (.exit i) T hs=Q (.exit i) T hs:=(rfl)
@[simp] theorem zuO {i:Nat} {Q:Ex→PT V→HS→Prop} {T:PT V} {hs:HS}:Ex.inBlock i Q .normal T hs=Q .normal T hs:=(rfl)
@[simp] theorem z5e {i:Nat} {Q:Ex→PT V→HS→Prop} {T:PT V} {hs:HS}:Ex.inBlock i Q .ret T hs=Q .ret T hs:=(rfl)
@[simp] theorem zx9 {i j:Nat} {Q:Ex→PT V→HS→Prop} {T:PT V} {hs:HS}:Ex.inBlock i Q (.exit j) T hs=if j=i then Q .normal T hs else Q (.exit j) T hs:=(rfl)
end
end Go.J
