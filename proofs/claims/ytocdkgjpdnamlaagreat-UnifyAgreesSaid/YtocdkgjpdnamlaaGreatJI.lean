import Derived.Test.YtocdkgjpdnamlaaGreatJF
import Derived.LoopNIn
import Derived.Test.YtocdkgjpdnamlaaGreatJH
import Derived.IntWalk
set_option linter.all false
noncomputable section
/- zSP of an activation with a heap of its own: what does not matter any more may be left out,and objects may be numbered anew. -/
namespace Go.J
def V.jI(π:Nat->Nat):V->V
 |.ptr id g off=>.ptr (π id) g off
 |.own id g off len cap=>.own (π id) g off len cap
 |.map id=>.map (π id)
 |.yld id=>.yld (π id)
 |v=>v
def V.iy(π:Nat->Nat):V->V
 |.agg cs=>.agg (cs.map (V.jI π))
 |.func f cs=>.func f (cs.map (V.jI π))
 |.iface t v=>.iface t (v.jI π)
 |v=>v.jI π
def V.ren(π:Nat->Nat):V->V
 |.tuple cs=>.tuple (cs.map (V.iy π))
 |v=>v.iy π
def V.wL(A:Nat->Bool):V->Bool
 |.ptr id _ _=>A id
 |.own id _ _ _ _=>A id
 |.map id=>A id
 |.yld id=>A id
 |v=>v.aI
def V.o5(A:Nat->Bool):V->Bool
 |.agg cs=>cs.all (V.wL A)
 |.func _ cs=>cs.all (V.wL A)
 |.iface _ v=>v.wL A
 |v=>v.wL A
def V.nk(A:Nat->Bool):V->Bool
 |.tuple cs=>cs.all (V.o5 A)
 |v=>v.o5 A
def Obj.ren(π:Nat->Nat):Obj->Obj
 |.arr size gen es ex fz row=>.arr size gen (es.map fun e=>e.map (V.iy π)) ex fz row
 |o=>o
def Obj.in(A:Nat->Bool):Obj->Bool
 |.arr _ _ es _ _ row=>es.all fun e=>e.all fun v=>if row then v.aI else v.o5 A
 |.mp _=>true
 |.lp _ _ _ _ _ _=>false
section
variable {ρ:Nat->Value}{P:Program}{w w':World}{F F':Nat->Prop}{μ μ':Nat->Nat->Option MI}{hs hs':HS}{π:Nat->Nat}{A:Nat->Bool}
theorem V.jb{v:V}(h:v.aI=true):v.iy π=v:=by
 cases v with
 | func f cs=>cases cs with
   |nil=>rfl
   |cons _ _=>cases h
 | iface t v =>
   replace h:v.rW=true:=h;cases v<;>first|rfl|cases h
 |agg _=>cases h
 |_=>first|rfl|cases h
theorem bR.Yr{v:V}{x:Value}(h:bR ρ w F μ (v.jI π) x)(hA:v.wL A=true)(hμ:∀ id,A id=true->∀ g m,μ (π id) g=some m->μ' id g=some m):bR ρ w F μ' v x:=by
 cases v with
 | ptr id g off =>
   obtain⟨m,h1,rfl⟩:=bR.nE ρ h;exact .ptr id g off m (hμ id hA g m h1)
 | own id g off len cap =>
   obtain⟨m,c,h1,rfl,h2,h3,h4,h5⟩:=bR.l9 ρ h;exact .own id g off len cap c m (hμ id hA g m h1) h2 h3 h4 h5
 | map id =>
   obtain⟨m,h1,rfl⟩:=bR.vO ρ h;exact .map id m (hμ id hA 0 m h1)
 | yld id =>
   obtain⟨m,h1,rfl⟩:=bR.AJ ρ h;exact .yld id m (hμ id hA 0 m h1)
 |_=>exact .pure (bR.aI ρ h hA)
theorem bR.zlk{v:V}{x:Value}(h:bR ρ w F μ (v.iy π) x)(hA:v.o5 A=true)(hμ:∀ id,A id=true->∀ g m,μ (π id) g=some m->μ' id g=some m):bR ρ w F μ' v x:=by
 cases v with
 | agg cs =>
   obtain⟨ys,rfl,h1,h2⟩:=bR.q8 ρ h;replace hA:cs.all (V.wL A)=true:=hA;rw[List.all_eq_true]at hA;refine .agg cs ys (by simpa using h1) fun i v hi=>?_
   exact(h2 i (v.jI π) (by simp[hi])).Yr (hA v (List.mem_of_getElem? hi)) hμ
 | func f cs =>
   obtain⟨ys,rfl,h1,h2⟩:=bR.pO ρ h;replace hA:cs.all (V.wL A)=true:=hA;rw[List.all_eq_true]at hA;refine .func f cs ys (by simpa using h1) fun i v hi=>?_
   exact(h2 i (v.jI π) (by simp[hi])).Yr (hA v (List.mem_of_getElem? hi)) hμ
 | iface t v =>
   obtain⟨y,rfl,hy⟩:=bR.yJ ρ h;exact .iface t v y (hy.Yr hA hμ)
 |_=>exact bR.Yr (π:=π) h hA hμ
theorem bR.anew{v:V}{x:Value}(h:bR ρ w F μ (v.ren π) x)(hA:v.nk A=true)(hμ:∀ id,A id=true->∀ g m,μ (π id) g=some m->μ' id g=some m):bR ρ w F μ' v x:=by
 cases v with
 | tuple cs =>
   obtain⟨ys,rfl,h1,h2⟩:=bR.jv ρ h;replace hA:cs.all (V.o5 A)=true:=hA;rw[List.all_eq_true]at hA;refine .tuple cs ys (by simpa using h1) fun i v hi=>?_
   exact(h2 i (v.iy π) (by simp[hi])).zlk (hA v (List.mem_of_getElem? hi)) hμ
 |_=>exact bR.zlk (π:=π) h hA hμ
theorem bR.Yp{v:V}{x:Value}(h:bR ρ w F μ v x)(hA:v.wL A=true)(hμ:∀ id,A id=true->∀ g m,μ id g=some m->μ' (π id) g=some m):bR ρ w F μ' (v.jI π) x:=by
 cases v with
 | ptr id g off =>
   obtain⟨m,h1,rfl⟩:=bR.nE ρ h;exact .ptr _ g off m (hμ id hA g m h1)
 | own id g off len cap =>
   obtain⟨m,c,h1,rfl,h2,h3,h4,h5⟩:=bR.l9 ρ h;exact .own _ g off len cap c m (hμ id hA g m h1) h2 h3 h4 h5
 | map id =>
   obtain⟨m,h1,rfl⟩:=bR.vO ρ h;exact .map _ m (hμ id hA 0 m h1)
 | yld id =>
   obtain⟨m,h1,rfl⟩:=bR.AJ ρ h;exact .yld _ m (hμ id hA 0 m h1)
 |_=>exact .pure (bR.aI ρ h hA)
theorem bR.zlc{v:V}{x:Value}(h:bR ρ w F μ v x)(hA:v.o5 A=true)(hμ:∀ id,A id=true->∀ g m,μ id g=some m->μ' (π id) g=some m):bR ρ w F μ' (v.iy π) x:=by
 cases v with
 | agg cs =>
   obtain⟨ys,rfl,h1,h2⟩:=bR.q8 ρ h;replace hA:cs.all (V.wL A)=true:=hA;rw[List.all_eq_true]at hA;refine .agg _ ys (by simpa using h1) fun i v hi=>?_
   rw[List.getElem?_map,Option.map_eq_some_iff]at hi;obtain⟨u,hu,rfl⟩:=hi;exact(h2 i u hu).Yp (hA u (List.mem_of_getElem? hu)) hμ
 | func f cs =>
   obtain⟨ys,rfl,h1,h2⟩:=bR.pO ρ h;replace hA:cs.all (V.wL A)=true:=hA;rw[List.all_eq_true]at hA;refine .func f _ ys (by simpa using h1) fun i v hi=>?_
   rw[List.getElem?_map,Option.map_eq_some_iff]at hi;obtain⟨u,hu,rfl⟩:=hi;exact(h2 i u hu).Yp (hA u (List.mem_of_getElem? hu)) hμ
 | iface t v =>
   obtain⟨y,rfl,hy⟩:=bR.yJ ρ h;exact .iface t _ y (hy.Yp hA hμ)
 |_=>exact bR.Yp (π:=π) h hA hμ
theorem bR.back{v:V}{x:Value}(h:bR ρ w F μ v x)(hA:v.nk A=true)(hμ:∀ id,A id=true->∀ g m,μ id g=some m->μ' (π id) g=some m):bR ρ w F μ' (v.ren π) x:=by
 cases v with
 | tuple cs =>
   obtain⟨ys,rfl,h1,h2⟩:=bR.jv ρ h;replace hA:cs.all (V.o5 A)=true:=hA;rw[List.all_eq_true]at hA;refine .tuple _ ys (by simpa using h1) fun i v hi=>?_
   rw[List.getElem?_map,Option.map_eq_some_iff]at hi;obtain⟨u,hu,rfl⟩:=hi;exact(h2 i u hu).zlc (hA u (List.mem_of_getElem? hu)) hμ
 |_=>exact bR.zlc (π:=π) h hA hμ
theorem Obj.jP(o:Obj):(o.ren π).gen=o.gen:=by cases o<;>rfl
theorem Obj.zcj(o:Obj):(o.ren π).fz=o.fz:=by cases o<;>rfl
theorem oU.anew {id:Nat} {o:Obj} (h:oU ρ w F μ P (π id) (o.ren π)) (hin:o.in A=true) (hg:∀ g m,μ' id g=some m->μ (π id) g=some m)
 (hμ:∀ id,A id=true->∀ g m,μ (π id) g=some m->μ' id g=some m):oU ρ w F μ' P id o:=by
 cases o with
 | arr size gen es exact fz row =>
   intro m hm;have a:=h m (hg _ _ hm);replace hin:(es.all fun e=>e.all fun v=>if row then v.aI else v.o5 A)=true:=hin;rw[List.all_eq_true]at hin;obtain⟨cells,el,c1,c2,c3,c4,c5⟩:=a.cells;refine⟨a.hsize,fun e he=>?_,⟨cells,el,c1,c2,by simpa using c3,by simpa using c4,fun k e j v he hv=>?_⟩,a.hf,a.hn⟩
   . have:=a.hlen (e.map (V.iy π)) (List.mem_map.2 ⟨e,he,rfl⟩);simpa using this
   . have hin':=hin e (List.mem_of_getElem? he);rw[List.all_eq_true]at hin';have hv':=hin' v (List.mem_of_getElem? hv);obtain⟨y,y1,y2,y3⟩:=c5 k (e.map (V.iy π)) j (v.iy π) (by simp[he]) (by simp[hv])
     cases row with
     | true =>
       replace hv':v.aI=true:=hv';rw[V.jb hv']at y3;exact⟨y,y1,.pure (y3 rfl),y3⟩
     | false =>
       replace hv':v.o5 A=true:=hv';exact⟨y,y1,y2.zlk hv' hμ,fun h=>by cases h⟩
 |mp es=>exact fun m hm=>h m (hg _ _ hm)
 |lp a b c d e f=>cases hin
theorem oU.back {id:Nat} {o:Obj} (h:oU ρ w F μ P id o) (hin:o.in A=true) (hg:∀ g m,μ' (π id) g=some m->μ id g=some m)
 (hμ:∀ id,A id=true->∀ g m,μ id g=some m->μ' (π id) g=some m):oU ρ w F μ' P (π id) (o.ren π):=by
 cases o with
 | arr size gen es exact fz row =>
   intro m hm;have a:=h m (hg _ _ hm);replace hin:(es.all fun e=>e.all fun v=>if row then v.aI else v.o5 A)=true:=hin;rw[List.all_eq_true]at hin;obtain⟨cells,el,c1,c2,c3,c4,c5⟩:=a.cells;refine⟨a.hsize,fun e he=>?_,⟨cells,el,c1,c2,by simpa using c3,by simpa using c4,fun k e j v he hv=>?_⟩,a.hf,a.hn⟩
   . obtain⟨e0,h0,rfl⟩:=List.mem_map.1 he;simpa using a.hlen e0 h0
   . rw[List.getElem?_map,Option.map_eq_some_iff]at he;obtain⟨e0,he0,rfl⟩:=he;rw[List.getElem?_map,Option.map_eq_some_iff]at hv;obtain⟨v0,hv0,rfl⟩:=hv;have hin':=hin e0 (List.mem_of_getElem? he0);rw[List.all_eq_true]at hin';have hv':=hin' v0 (List.mem_of_getElem? hv0);obtain⟨y,y1,y2,y3⟩:=c5 k e0 j v0 he0 hv0
     cases row with
     | true =>
       replace hv':v0.aI=true:=hv';rw[V.jb hv'];exact⟨y,y1,.pure (y3 rfl),y3⟩
     | false =>
       replace hv':v0.o5 A=true:=hv';exact⟨y,y1,y2.zlc hv' hμ,fun h=>by cases h⟩
 |mp es=>exact fun m hm=>h m (hg _ _ hm)
 |lp a b c d e f=>cases hin
end
mutual
def dL:V->V
 |.snil=>.sl [] false
 |.sl es _=>.sl (eY es) false
 |.ref cs=>.ref (dB cs)
 |.agg cs=>.agg (dB cs)
 |.tuple cs=>.tuple (dB cs)
 |.iface t v=>.iface t (dL v)
 |v=>v
def dB:List V->List V
 | []=>[]
 |v::l=>dL v::dB l
def eY:List (List V)->List (List V)
 | []=>[]
 |v::l=>dB v::eY l
end
theorem gY:∀ l,dB l=l.map dL:=by
 intro l
 induction l with
 |nil=>simp[dB]
 |cons v l ih=>simp[dB,ih]
theorem CW:∀ l,eY l=l.map dB:=by
 intro l
 induction l with
 |nil=>simp[eY]
 |cons v l ih=>simp[eY,ih]
section
variable {ρ:Nat->Value}{P:Program}{w:World}{F:Nat->Prop}
theorem bY.norm{v:V}{x:Value}(h:bY ρ w F v x):bY ρ w F (dL v) x:=by
 induction h with
 |bool b=>exact .bool b
 |int k n=>exact .int k n
 |str s=>exact .str s
 |nilptr=>exact .nilptr
 |snil=>exact .slE none 0 false (fun h=>by cases h)
 |nilmap=>exact .nilmap
 |nilFunc=>exact .nilFunc
 |nilIface=>exact .nilIface
 |sym k=>exact .sym k
 |func f=>exact .func f
 |iface t v y _ ih=>exact .iface t _ y ih
 | ref cs b off ys hb hc _ ih =>
   show bY ρ w F (.ref (dB cs)) _;rw[gY];refine .ref _ b off ys hb (fun i v hi=>?_) (fun i v hi=>?_)
   . rw[List.getElem?_map,Option.map_eq_some_iff]at hi;obtain⟨u,hu,rfl⟩:=hi;exact hc i u hu
   . rw[List.getElem?_map,Option.map_eq_some_iff]at hi;obtain⟨u,hu,rfl⟩:=hi;exact ih i u hu
 |slE a c t h=>exact .slE a c false (fun h=>by cases h)
 | slC es b off size c t ys hb hl hc _ h1 h2 ih =>
   show bY ρ w F (.sl (eY es) false) _;rw[CW];have hlen:(es.map dB).length=es.length:=List.length_map ..;rw[<- hlen]
   have hmap:∀ (i:Nat) (e:List V),(es.map dB)[i]?=some e->∃ e0:List V,es[i]?=some e0/\e=e0.map dL:=by
    intro i e hi;rw[List.getElem?_map,Option.map_eq_some_iff]at hi;obtain⟨e0,h0,rfl⟩:=hi;exact⟨e0,h0,gY _⟩
   refine .slC _ b off size c false ys hb (fun e he=>?_) (fun i e j v hi hj=>?_) (fun i e j v hi hj=>?_) (by rw[hlen];exact h1) (fun h=>by cases h)
   . obtain⟨e0,h0,rfl⟩:=List.mem_map.1 he;rw[gY,List.length_map];exact hl e0 h0
   . obtain⟨e0,h0,rfl⟩:=hmap i e hi;rw[List.getElem?_map,Option.map_eq_some_iff]at hj;obtain⟨u,hu,rfl⟩:=hj;exact hc i e0 j u h0 hu
   . obtain⟨e0,h0,rfl⟩:=hmap i e hi;rw[List.getElem?_map,Option.map_eq_some_iff]at hj;obtain⟨u,hu,rfl⟩:=hj;exact ih i e0 j u h0 hu
 | agg cs ys hs _ ih =>
   show bY ρ w F (.agg (dB cs)) _;rw[gY];refine .agg _ ys (by simpa using hs) fun i v hi=>?_
   rw[List.getElem?_map,Option.map_eq_some_iff]at hi;obtain⟨u,hu,rfl⟩:=hi;exact ih i u hu
 | tuple cs ys hs _ ih =>
   show bY ρ w F (.tuple (dB cs)) _;rw[gY];refine .tuple _ ys (by simpa using hs) fun i v hi=>?_
   rw[List.getElem?_map,Option.map_eq_some_iff]at hi;obtain⟨u,hu,rfl⟩:=hi;exact ih i u hu
end
section
variable {ρ:Nat->Value}{P:Program}{w w':World}{F F':Nat->Prop}{μ μ':Nat->Nat->Option MI}
theorem bR.norm{v:V}{x:Value}(h:bR ρ w F μ v x):bR ρ w F μ (dL v) x:=by
 induction h with
 |pure h=>exact .pure h.norm
 |ptr id g off m hm=>simpa [dL]using bR.ptr id g off m hm
 |own id g off len cap c m hm h1 h2 h3 h4=>simpa [dL]using bR.own id g off len cap c m hm h1 h2 h3 h4
 |map id m hm=>simpa [dL]using bR.map id m hm
 |yld id m hm=>simpa [dL]using bR.yld id m hm
 |func f cs ys h1 h2 _=>simpa [dL]using bR.func f cs ys h1 h2
 |iface t v y _ ih=>simpa [dL]using bR.iface t _ y ih
 | agg cs ys h1 _ ih =>
   simp only[dL,gY];refine .agg _ ys (by simpa using h1) fun i v hi=>?_
   grind
 | tuple cs ys h1 _ ih =>
   simp only[dL,gY];refine .tuple _ ys (by simpa using h1) fun i v hi=>?_
   grind
def Uh:Obj->Obj
 |.arr s g es x z r=>.arr s g (es.map dB) x z r
 |o=>o
theorem ZB(o:Obj):(Uh o).gen=o.gen:=by cases o<;>rfl
theorem zcK(o:Obj):(Uh o).fz=o.fz:=by cases o<;>rfl
theorem oU.norm{id:Nat}{o:Obj}(h:oU ρ w F μ P id o):oU ρ w F μ P id (Uh o):=by
 cases o with
 | arr size gen es exact fz row =>
   intro m hm;have a:=h m hm;obtain⟨cells,el,c1,c2,c3,c4,c5⟩:=a.cells;refine⟨a.hsize,fun e he=>?_,⟨cells,el,c1,c2,by simpa using c3,by simpa using c4,fun k e j v he hv=>?_⟩,a.hf,a.hn⟩
   . obtain⟨e0,h0,rfl⟩:=List.mem_map.1 he;rw[gY,List.length_map];exact a.hlen e0 h0
   . rw[List.getElem?_map,Option.map_eq_some_iff]at he;obtain⟨e0,he0,rfl⟩:=he;rw[gY,List.getElem?_map,Option.map_eq_some_iff]at hv;obtain⟨v0,hv0,rfl⟩:=hv;obtain⟨y,y1,y2,y3⟩:=c5 k e0 j v0 he0 hv0;exact⟨y,y1,y2.norm,fun hr=>(y3 hr).norm⟩
 |mp es=>exact h
 |lp a b c d e f=>exact h
end
section
variable {ρ:Nat->Value}{P:Program}{w w':World}{F F':Nat->Prop}{μ μ':Nat->Nat->Option MI}{hs hs':HS}{π:Nat->Nat}{A:Nat->Bool}
structure Start where
 O:Nat->Prop
 w:World
 F:Nat->Prop
 k:Nat
 μ:Nat->Nat->Option MI
structure Loc(s:Start)(w:World)(F:Nat->Prop)(μ:Nat->Nat->Option MI)(hs:HS):Prop where
 io:Io s.w w
 size:s.w.heap.size<=w.heap.size
 keep:∀ b,b<s.w.heap.size->¬ s.O b->w.heap[b]?=s.w.heap[b]?
 fm:∀ b,s.F b->F b
 pQ:∀ b,F b->s.F b\/s.w.heap.size<=b\/s.O b
 mm:∀ id g m,id<s.k->s.μ id g=some m->μ id g=some m
 own:∀ b,nV hs μ b->s.O b\/s.w.heap.size<=b
 zn3:∀ id,id<s.k->hs.H.get id≠none
 dm:∀ id,id<s.k->(∀ g,s.μ id g=none)->∀ g,μ id g=none
 mn:∀ id g m,μ id g=some m->s.w.heap.size<=m.b\/∃ i j m0,s.μ i j=some m0/\m0.b=m.b
theorem Loc.step{s:Start}(h:Loc s w F μ hs)(f:Fr w F μ hs w' F' μ' hs'):Loc s w' F' μ' hs' where
 io:=h.io.trans f.io
 size:=Nat.le_trans h.size f.size
 keep b hb hn:=by
  rw[f.keep b (Nat.lt_of_lt_of_le hb h.size) (fun ho=>(h.own b ho).elim hn (fun hge=>by omega)),h.keep b hb hn]
 fm b hb:=f.fm b (h.fm b hb)
 pQ b hb:=by
  rcases f.pQ b hb with h1|h1|h1
  . exact h.pQ b h1
  . exact .inr (.inl (Nat.le_trans h.size h1))
  . rcases h.own b h1 with h2|h2
    . exact .inr (.inr h2)
    . exact .inr (.inl h2)
 mm id g m hk hm:=f.mm _ _ _ (h.mm _ _ _ hk hm)
 own b hb:=by
  rcases f.own b hb with h1|h1
  . exact h.own b h1
  . exact .inr (Nat.le_trans h.size h1)
 zn3 id hk:=f.hm id (h.zn3 id hk)
 dm id hk hg:=f.dm id (h.zn3 id hk) (h.dm id hk hg)
 mn id g m hm:=by
  rcases f.mn id g m hm with h1|⟨i,j,m0,h1,h2⟩
  . exact .inl (Nat.le_trans h.size h1)
  . rcases h.mn i j m0 h1 with h3|⟨i',j',m1,h3,h4⟩
    . exact .inl (h2 ▸ h3)
    . exact .inr ⟨i',j',m1,h3,h4.trans h2⟩
def M0(μ:Nat->Nat->Option MI)(hs:HS):Prop:=∀ id g,μ id g≠none->hs.H.get id≠none
theorem M0.dom(h:M0 μ hs):Ck (fun _=>False) μ hs:=⟨fun id g hg=>.inl (h id g hg),fun _ _ h=>h⟩
theorem Ck.zM6(h:Ck (fun _=>False) μ hs):M0 μ hs:=fun id g hg=>(h.1 id g hg).elim (fun h=>h) False.elim
def Lt (ρ:Nat->Value) (P:Program) (k:Nat) (rd:Bool) (sz:Nat) (c:Code) (T:PT V) (hs:HS) (Q:Ex->PT V->HS->Prop):Prop :=
 ∀ (s:Start) (N:NB) (r:Option Nat) (w:World) (F:Nat->Prop) (μ:Nat->Nat->Option MI) (a:Act) (K:Exit->Act->World->Prop),s.k=k->((rd=false->r=none)/\N.plain=false)->Loc s w F μ hs->R ρ w F μ P hs->M0 μ hs->fZ ρ w F μ T a.tmps->sz<=a.tmps.size->Marks N w a.defers ->
   (∀ ex T' hs' a' w' F' μ',Q ex T' hs'->Loc s w' F' μ' hs'->R ρ w' F' μ' P hs'->M0 μ' hs'->fZ ρ w' F' μ' T' a'.tmps->a'.tmps.size=a.tmps.size->Marks N w' a'.defers->K (zkG ex) a' w')->c.wpIn (Wr r) 0 P K a w
variable {k:Nat}{rd:Bool}{sz:Nat}{c:Code}{T:PT V}{Q Q':Ex->PT V->HS->Prop}
theorem Yy(h:Lt ρ P k rd sz c T hs Q)(hq:∀ e T hs,Q e T hs->Q' e T hs):Lt ρ P k rd sz c T hs Q' :=
 fun s N r w F μ a K hk hr hL hR hD hT hsz hM hK=>h s N r w F μ a K hk hr hL hR hD hT hsz hM fun ex T' hs' a' w' F' μ' q=>hK ex T' hs' a' w' F' μ' (hq _ _ _ q)
theorem zwK(hρ:Good ρ){E:Env}(hcon:aZ ρ E)(hP:E.P.follows .mixedOrders=true)(hN:nW E.P){n:Nat}{ex:Ex}{T':PT V}(h:(jY E n).code rd sz c T hs=some (ex,T',hs'))(hq:Q ex T' hs'):Lt ρ E.P k rd sz c T hs Q:=by
 intro s N r w F μ a K hk hr hL hR hD hT hsz hM hK;have hev:=ME hρ hcon hP hN n;refine hev.code h N (fun _=>False) r w F μ a K hr hR hD.dom (Off.no _) hT hsz hM ?_;intro a' w' F' μ' hR' hT' hsz' hM' hf';exact hK ex T' hs' a' w' F' μ' hq (hL.step hf') hR' (hf'.dom (hev.kept.code h).le hD.dom).zM6 hT' hsz' hM'
theorem zpD(h:Q .normal T hs):Lt ρ P k rd sz .skip T hs Q :=
 fun _ _ _ w F μ a _ _ _ hL hR hD hT _ hM hK=>wpIn_skip (hK _ _ _ a w F μ h hL hR hD hT rfl hM)
theorem zpG{i:Nat}(h:Q (.exit i) T hs):Lt ρ P k rd sz (.exit i) T hs Q :=
 fun _ _ _ w F μ a _ _ _ hL hR hD hT _ hM hK=>wpIn_exit (hK _ _ _ a w F μ h hL hR hD hT rfl hM)
theorem zwL(h:Q .ret T hs):Lt ρ P k rd sz .ret T hs Q :=
 fun _ _ _ w F μ a _ _ _ hL hR hD hT _ hM hK=>wpIn_ret (hK _ _ _ a w F μ h hL hR hD hT rfl hM)
theorem zwJ{x y:Code}(h:Lt ρ P k rd sz x T hs (Ex.then (fun T hs=>Lt ρ P k rd sz y T hs Q) Q)):Lt ρ P k rd sz (.seq x y) T hs Q:=by
 intro s N r w F μ a K hk hr hL hR hD hT hsz hM hK;refine wpIn_seq (h s N r w F μ a _ hk hr hL hR hD hT hsz hM ?_);intro ex T1 hs1 a1 w1 F1 μ1 q hL1 vz hD1 hT1 hsz1 hM1
 cases ex with
 | normal =>
   refine q s N r w1 F1 μ1 a1 K hk hr hL1 vz hD1 hT1 (by rw[hsz1];exact hsz) hM1 ?_
   grind
 |ret=>exact hK .ret T1 hs1 a1 w1 F1 μ1 q hL1 vz hD1 hT1 hsz1 hM1
 |exit i=>exact hK (.exit i) T1 hs1 a1 w1 F1 μ1 q hL1 vz hD1 hT1 hsz1 hM1
theorem zpH{q:Operand}{x y:Code}{t:Bool}(hq:aG T q=some (.bool t))(h:if t=true then Lt ρ P k rd sz x T hs Q else Lt ρ P k rd sz y T hs Q):Lt ρ P k rd sz (.cond q x y) T hs Q:=by
 intro s N r w F μ a K hk hr hL hR hD hT hsz hM hK;refine wpIn_cond (bC (a:=a) hT hq).kP ?_
 cases t with
 |true=>exact h s N r w F μ a K hk hr hL hR hD hT hsz hM hK
 |false=>exact h s N r w F μ a K hk hr hL hR hD hT hsz hM hK
theorem zlw{i:Nat}{x:Code}(h:Lt ρ P k rd sz x T hs (Ex.inBlock i Q)):Lt ρ P k rd sz (.block i x) T hs Q:=by
 intro s N r w F μ a K hk hr hL hR hD hT hsz hM hK;refine wpIn_block (h s N r w F μ a _ hk hr hL hR hD hT hsz hM ?_);intro ex T1 hs1 a1 w1 F1 μ1 q hL1 vz hD1 hT1 hsz1 hM1
 cases ex with
 |normal=>exact hK .normal T1 hs1 a1 w1 F1 μ1 q hL1 vz hD1 hT1 hsz1 hM1
 |ret=>exact hK .ret T1 hs1 a1 w1 F1 μ1 q hL1 vz hD1 hT1 hsz1 hM1
 | exit j =>
   show (if j=i then K .normal a1 w1 else K (.exit j) a1 w1);replace q:(if j=i then Q .normal T1 hs1 else Q (.exit j) T1 hs1):=q;split
   . rename_i e;rw[if_pos e]at q;exact hK .normal T1 hs1 a1 w1 F1 μ1 q hL1 vz hD1 hT1 hsz1 hM1
   . rename_i e;rw[if_neg e]at q;exact hK (.exit j) T1 hs1 a1 w1 F1 μ1 q hL1 vz hD1 hT1 hsz1 hM1
def zNw(ρ:Nat->Value)(P:Program)(k:Nat)(rd:Bool)(sz:Nat)(c:Code)(Q:Ex->PT V->HS->Prop):Nat->PT V->HS->Prop
 | 0,_,_=>False
 |n+1,T,hs=>Lt ρ P k rd sz c T hs (Ex.then (zNw ρ P k rd sz c Q n) Q)
theorem zpF{n:Nat}(h:zNw ρ P k rd sz c Q n T hs):Lt ρ P k rd sz (.loop c) T hs Q:=by
 intro s N r w F μ a K hk hr hL hR hD hT hsz hM hK;refine wpIn_loop_rounds n ?_
 induction n generalizing T hs w F μ a with
 |zero=>exact h.elim
 | succ n ih =>
   refine h s N r w F μ a _ hk hr hL hR hD hT hsz hM ?_;intro ex T1 hs1 a1 w1 F1 μ1 q hL1 vz hD1 hT1 hsz1 hM1
   cases ex with
   | normal =>
     refine ih q w1 F1 μ1 a1 hL1 vz hD1 hT1 (by rw[hsz1];exact hsz) hM1 ?_
     grind
   |ret=>exact hK .ret T1 hs1 a1 w1 F1 μ1 q hL1 vz hD1 hT1 hsz1 hM1
   |exit i=>exact hK (.exit i) T1 hs1 a1 w1 F1 μ1 q hL1 vz hD1 hT1 hsz1 hM1
structure Less(k:Nat)(T:PT V)(hs:HS)(T2:PT V)(hs2:HS):Prop where
 ex:∃ (π:Nat->Nat) (A:Nat->Bool),(∀ id,A id=true↔hs2.H.get id≠none)/\(∀ t v,T2.get t=some v->v.nk A=true/\∃ u,T.get t=some u/\(u=v.ren π\/dL u=v.ren π)) /\
  (∀ id o,hs2.H.get id=some o->o.in A=true/\∃ q,hs.H.get (π id)=some q/\(q=o.ren π\/Uh q=o.ren π))/\(∀ i j,A i=true->A j=true->π i=π j->i=j)/\(∀ id,id<k->π id=id/\A id=true)
theorem Less.state{s:Start}{T2:PT V}{hs2:HS}{tm:Array Value}(h:Less s.k T hs T2 hs2)(hL:Loc s w F μ hs)(hR:R ρ w F μ P hs)(hT:fZ ρ w F μ T tm) :
 ∃ μ2,Loc s w F μ2 hs2/\R ρ w F μ2 P hs2/\M0 μ2 hs2/\fZ ρ w F μ2 T2 tm:=by
 obtain⟨π,A,hA,h1,h2',h3,h4⟩:=h.ex
 have h2:∀ id o,hs2.H.get id=some o->o.in A=true/\∃ q,hs.H.get (π id)=some q/\q.gen=(o.ren π).gen/\q.fz=(o.ren π).fz/\oU ρ w F μ P (π id) (o.ren π):=by
  intro id o ho;obtain⟨g1,q,g2,g3⟩:=h2' id o ho;refine⟨g1,q,g2,?_⟩;rcases g3 with g3|g3
  . subst g3;exact⟨rfl,rfl,hR.obj _ _ g2⟩
  . rw[<- g3];exact⟨(ZB q).symm,(zcK q).symm,(hR.obj _ _ g2).norm⟩
 refine⟨fun id g=>if A id=true then μ (π id) g else none,?_,?_,?_,?_⟩
 . refine⟨hL.io,hL.size,hL.keep,hL.fm,hL.pQ,fun id g m hk hm=>?_,?_,fun id hk=>(hA id).1 (h4 id hk).2,fun id hk hg g=>?_,fun id g m hm=>?_⟩
   . show (if A id=true then μ (π id) g else none)=_;rw[if_pos (h4 id hk).2,(h4 id hk).1];exact hL.mm id g m hk hm
   . rintro b ⟨id,o,m,ho,hz,hm,rfl⟩;have zyL:=(hA id).2 (by rw[ho];simp);replace hm:(if A id=true then μ (π id) o.gen else none)=some m:=hm;rw[if_pos zyL]at hm;obtain⟨_,q,q1,q2,q3,_⟩:=h2 id o ho;exact hL.own _ ⟨π id,q,m,q1,by rw[q3,Obj.zcj];exact hz,by rw[q2,Obj.jP];exact hm,rfl⟩
   . show (if A id=true then μ (π id) g else none)=_;rw[if_pos (h4 id hk).2,(h4 id hk).1];exact hL.dm id hk hg g
   . replace hm:(if A id=true then μ (π id) g else none)=some m:=hm;split at hm
     . exact hL.mn _ g m hm
     . cases hm
 . refine⟨fun id g m hm=>?_,hR.sI,fun id o ho=>?_,fun id id' o o' m m' ho ho' hm hm' hb=>?_,fun id o ho g hg=>?_⟩
   . replace hm:(if A id=true then μ (π id) g else none)=some m:=hm;split at hm
     . exact hR.lt _ g m hm
     . cases hm
   . grind [id,oU.anew]
   . have zyL:=(hA id).2 (by rw[ho];simp);have zDk:=(hA id').2 (by rw[ho'];simp);replace hm:(if A id=true then μ (π id) o.gen else none)=some m:=hm;replace hm':(if A id'=true then μ (π id') o'.gen else none)=some m':=hm';rw[if_pos zyL]at hm;rw[if_pos zDk]at hm';obtain⟨_,q,q1,q2,_⟩:=h2 id o ho;obtain⟨_,q',q1',q2',_⟩:=h2 id' o' ho';exact h3 _ _ zyL zDk (hR.inj _ _ _ _ m m' q1 q1' (by rw[q2,Obj.jP];exact hm) (by rw[q2',Obj.jP];exact hm') hb)
   . have zyL:=(hA id).2 (by rw[ho];simp);show (if A id=true then _ else _)=_;rw[if_pos zyL];obtain⟨_,q,q1,q2,_⟩:=h2 id o ho;exact hR.nU _ _ q1 g (by rw[q2,Obj.jP];exact hg)
 . intro id g hg
   grind
 . intro t v hv;obtain⟨g1,u,g2,g3⟩:=h1 t v hv;obtain⟨x,hx,hr⟩:=hT t _ g2
   have hr':bR ρ w F μ (v.ren π) x:=by
    rcases g3 with g3|g3
    . grind
    . rw[<- g3];exact hr.norm
   refine⟨x,hx,hr'.anew g1 fun i hi g m hm=>?_⟩
   grind
theorem Yz{T2:PT V}{hs2:HS}(h:Less k T hs T2 hs2)(hl:Lt ρ P k rd sz c T2 hs2 Q):Lt ρ P k rd sz c T hs Q:=by
 intro s N r w F μ a K hk hr hL hR hD hT hsz hM hK;subst hk;obtain⟨μ2,hL2,hR2,hD2,Uz⟩:=h.state hL hR hT;exact hl s N r w F μ2 a K rfl hr hL2 hR2 hD2 Uz hsz hM hK
theorem zpE{Q':Ex->PT V->HS->Prop}(hl:Lt ρ P k rd sz c T hs Q')(h:∀ ex T1 hs1,Q' ex T1 hs1->∃ T2 hs2,Less k T1 hs1 T2 hs2/\Q ex T2 hs2):Lt ρ P k rd sz c T hs Q:=by
 intro s N r w F μ a K hk hr hL hR hD hT hsz hM hK;subst hk;refine hl s N r w F μ a K rfl hr hL hR hD hT hsz hM ?_;intro ex T1 hs1 a1 w1 F1 μ1 q hL1 vz hD1 hT1 hsz1 hM1;obtain⟨T2,hs2,h2,q2⟩:=h ex T1 hs1 q;obtain⟨μ2,hL2,hR2,hD2,Uz⟩:=h2.state hL1 vz hT1
 grind
end
end Go.J
/- The rules of local runs over code that is zA9;calls of functions with arguments without numbers. -/
universe u
namespace Go.J
inductive Tg {α:Sort u} (a:α):Type where
 |mk
def qI{α:Type}(x:Option α)(K:α->Prop)(_t:Tg K:=.mk):Prop:=ok x K
def zIR(c A B:Prop)(_t:Tg A:=.mk)(_u:Tg B:=.mk):Prop:=br c A B
@[simp ↓ high] theorem zQ9 {α:Type} (x:Option α) (K:α->Prop):ok x K=qI x K:=(rfl)
@[simp ↓ high] theorem zSD (c A B:Prop):br c A B=zIR c A B:=(rfl)
@[simp ↓] theorem zcC {α:Type} (a:α) (K:α->Prop):qI (some a) K=K a:=aW a K
@[simp ↓] theorem zt4 {α β:Type} (x:Option α) (f:α->Option β) (K:β->Prop):qI (ob x f) K=qI x fun a=>qI (f a) K:=dA x f K
@[simp ↓] theorem zt5 {α:Type} (c:Bool) (x:Option α) (K:α->Prop):qI (gd c x) K=(c=true/\qI x K):=jA c x K
attribute [simp] zcC zt4 zt5
@[simp ↓] theorem zk6 (A B:Prop):zIR True A B=A:=Yl A B
@[simp ↓] theorem zam (A B:Prop):zIR False A B=B:=Qc A B
attribute [simp] zk6 zam
theorem qD{c A B:Prop}(h1:c->A)(h2:¬ c->B):zIR c A B:=⟨h1,h2⟩
def di{α:Type}:List (Nat×α)->PT α
 | []=>.leaf
 |p::l=>(di l).set p.1 p.2
def dom{α:Type}(l:List (Nat×α))(id:Nat):Bool:=l.any fun p=>Nat.beq p.1 id
theorem yG{α:Type}:∀ {l:List (Nat×α)} {t:Nat} {v:α},(di l).get t=some v->(t,v)∈l:=by
 intro l
 induction l with
 |nil=>intro t v h;cases h
 | cons p l ih =>
   intro t v h;replace h:((di l).set p.1 p.2).get t=some v:=h;rw[PT.bD]at h
   grind
theorem zom{α:Type}:∀ {l:List (Nat×α)} {id:Nat},dom l id=true↔(di l).get id≠none:=by
 intro l
 induction l with
 |nil=>intro id;exact⟨fun h=>(by cases h),fun h=>absurd rfl h⟩
 | cons p l ih =>
   intro id;show (Nat.beq p.1 id||dom l id)=true↔((di l).set p.1 p.2).get id≠none;rw[PT.bD,Bool.or_eq_true,beq_true,ih]
   grind
def nodupB:List Nat->Bool
 | []=>true
 |x::l=>!(l.any (Nat.beq x))&&nodupB l
theorem J8:∀ {l:List Nat},nodupB l=true->l.Nodup:=by
 intro l
 induction l with
 |nil=>intro _;exact List.nodup_nil
 | cons x l ih =>
   intro h;simp only[nodupB,Bool.and_eq_true,Bool.not_eq_true']at h
   grind [List.nodup_cons,Nat.beq,List.any_eq_true,beq_true]
theorem V.znV(v:V):v.jI id=v:=by cases v<;>rfl
theorem V.zck:V.jI id=id:=funext V.znV
theorem V.T9(v:V):v.iy id=v:=by
 cases v<;>first|rfl|(simp[V.iy,V.zck])
theorem V.Og:V.iy id=id:=funext V.T9
theorem V.Q6(v:V):v.ren id=v:=by
 cases v<;>first|exact V.T9 _|(simp[V.ren,V.Og])
theorem Obj.Q6(o:Obj):o.ren id=o:=by
 cases o<;>first|rfl|(simp[Obj.ren,V.Og])
section
variable {k:Nat}{T:PT V}{hs:HS}
theorem Less.lit (π:Nat->Nat) {TL:List (Nat×V)} {HL:List (Nat×Obj)} (n:Nat) (hT:∀ p∈TL,p.2.nk (dom HL)=true/\T.get p.1=some (p.2.ren π))
 (hH:∀ p∈HL,p.2.in (dom HL)=true/\hs.H.get (π p.1)=some (p.2.ren π)) (hi:nodupB (HL.map fun p=>π p.1)=true) (hk:(List.range k).all (fun i=>Nat.beq (π i) i&&dom HL i)=true) :
 Less k T hs (di TL) { H:=di HL,n:=n,log:=[] } where
 ex := by
  refine⟨π,dom HL,fun id=>zom,fun t v hv=>⟨(hT (t,v) (yG hv)).1,_,(hT (t,v) (yG hv)).2,.inl rfl⟩,fun id o ho=>⟨(hH (id,o) (yG ho)).1,_,(hH (id,o) (yG ho)).2,.inl rfl⟩,?_,fun id hid=>?_⟩
  . intro i j hi1 hj1 e;have hnd:=J8 hi
    have key:∀ (l:List (Nat×Obj)),(l.map fun p=>π p.1).Nodup->dom l i=true->dom l j=true->i=j:=by
     intro l
     induction l with
     |nil=>intro _ h;cases h
     | cons p l ih =>
       intro hnd h1 h2;rw[List.map_cons,List.nodup_cons]at hnd;replace h1:(Nat.beq p.1 i||dom l i)=true:=h1;replace h2:(Nat.beq p.1 j||dom l j)=true:=h2;rw[Bool.or_eq_true,beq_true]at h1 h2
       have hm:∀ a,dom l a=true->π a∈l.map fun p=>π p.1:=by
        intro a ha;obtain⟨q,hq,zOE⟩:=List.any_eq_true.1 ha;exact List.mem_map.2 ⟨q,hq,by rw[beq_true.1 zOE]⟩
       rcases h1 with h1|h1<;>rcases h2 with h2|h2
       . rw[<- h1,<- h2]
       . exact absurd (by rw[h1,e];exact hm j h2) hnd.1
       . exact absurd (by rw[h2,<- e];exact hm i h1) hnd.1
       . exact ih hnd.2 h1 h2
    exact key HL hnd hi1 hj1
  . have:=List.all_eq_true.1 hk id (List.mem_range.2 hid);rw[Bool.and_eq_true,beq_true]at this;exact this
theorem Less.keep{TL:List (Nat×V)}{HL:List (Nat×Obj)}(n:Nat)(hT:∀ p∈TL,p.2.nk (dom HL)=true/\T.get p.1=some p.2)
 (hH:∀ p∈HL,p.2.in (dom HL)=true/\hs.H.get p.1=some p.2) (hi:nodupB (HL.map fun p=>p.1)=true) (hk:(List.range k).all (fun i=>dom HL i)=true) :
 Less k T hs (di TL) { H:=di HL,n:=n,log:=[] }:=by
 refine Less.lit id n (fun p hp=>?_) (fun p hp=>?_) hi ?_
 . grind [V.Q6]
 . grind [Obj.Q6]
 simp_all
end
section
variable {ρ:Nat->Value}{E:Env}{k sz:Nat}{s:SC}{T:PT V}{hs:HS}{Q Q':Ex->PT V->HS->Prop}
def Ls(ρ:Nat->Value)(E:Env)(k sz:Nat)(s:SC)(T:PT V)(hs:HS)(Q:Ex->PT V->HS->Prop)(_t:Tg Q:=.mk):Prop:=∀ c,aB c=some s->Lt ρ E.P k false sz c T hs Q
def Cj(ρ:Nat->Value)(E:Env)(k sz:Nat)(s:SC)(Q:Ex->PT V->HS->Prop)(n:Nat)(T:PT V)(hs:HS)(_t:Tg Q:=.mk):Prop:=∀ c,aB c=some s->zNw ρ E.P k false sz c Q n T hs
theorem eU{n:Nat}(h:Cj ρ E k sz s Q n T hs):Ls ρ E k sz (.loop s) T hs Q:=fun c hc=>by
 obtain⟨x,rfl,hx⟩:=eB hc;exact zpF (h x hx)
theorem nQ{T2:PT V}{hs2:HS}(h:Less k T hs T2 hs2)(hl:Ls ρ E k sz s T2 hs2 Q):Ls ρ E k sz s T hs Q:=fun c hc=>Yz h (hl c hc)
theorem zpI(hl:Ls ρ E k sz s T hs Q')(h:∀ ex T1 hs1,Q' ex T1 hs1->∃ T2 hs2,Less k T1 hs1 T2 hs2/\Q ex T2 hs2):Ls ρ E k sz s T hs Q:=fun c hc=>zpE (hl c hc) h
theorem zlx(hρ:Good ρ)(hcon:aZ ρ E)(hP:E.P.follows .mixedOrders=true)(hN:nW E.P)(h:Js E false sz s T hs Q):Ls ρ E k sz s T hs Q:=fun c hc=>by
 obtain⟨n,ex,T',hs',h1,h2⟩:=h c hc;exact zwK hρ hcon hP hN h1 h2
def zzV(ρ:Nat->Value)(E:Env)(k sz:Nat):SC->PT V->HS->(Ex->PT V->HS->Prop)->Prop
 |.skip,T,hs,Q=>Q .normal T hs
 |.ret,T,hs,Q=>Q .ret T hs
 |.exit i,T,hs,Q=>Q (.exit i) T hs
 |.reg l,T,hs,Q=>Rs E sz l hs.n T { H:=hs.H,n:=hs.n+l.length,log:=hs.log } fun T hs=>Q .normal T hs
 |.draw l bs,T,hs,Q=>Rd E sz l hs.n T { H:=hs.H,n:=hs.n+l.length,log:=hs.log } [] fun T hs acc=>lV acc acc 0 bs=true/\Q .normal T hs
 |.seq a b,T,hs,Q=>zzV ρ E k sz a T hs (Ex.then (fun T hs=>zzV ρ E k sz b T hs Q) Q)
 |.cond q a b,T,hs,Q=>ok (aG T q) fun v=>ok v.bool? fun t=>if t=true then zzV ρ E k sz a T hs Q else zzV ρ E k sz b T hs Q
 |.block i a,T,hs,Q=>zzV ρ E k sz a T hs (Ex.inBlock i Q)
 |.loop a,T,hs,Q=>Ls ρ E k sz (.loop a) T hs Q
 |.range g ps a b,T,hs,Q=>Ls ρ E k sz (.range g ps a b) T hs Q
def Wp(ρ:Nat->Value)(E:Env)(k sz:Nat)(s:SC)(T:PT V)(hs:HS)(Q:Ex->PT V->HS->Prop)(_t:Tg Q:=.mk):Prop:=zzV ρ E k sz s T hs Q
theorem zK(hρ:Good ρ)(hcon:aZ ρ E)(hP:E.P.follows .mixedOrders=true)(hN:nW E.P):∀ {s:SC} {T:PT V} {hs:HS} {Q:Ex->PT V->HS->Prop},Wp ρ E k sz s T hs Q->Ls ρ E k sz s T hs Q:=by
 intro s
 induction s with
 |skip=>intro T hs Q h c hc;have e:c=.skip:=eB hc;subst e;exact zpD h
 |ret=>intro T hs Q h c hc;have e:c=.ret:=eB hc;subst e;exact zwL h
 |exit i=>intro T hs Q h c hc;have e:c=.exit i:=eB hc;subst e;exact zpG h
 |reg l=>intro T hs Q h;exact zlx hρ hcon hP hN (Du h)
 |draw l bs=>intro T hs Q h;exact zlx hρ hcon hP hN (YC h)
 | seq a b iha ihb =>
   intro T hs Q h c hc;obtain⟨x,y,rfl,hx,hy⟩:=eB hc;refine zwJ (Yy (iha h x hx) fun e T hs q=>?_)
   cases e with
   |normal=>exact ihb q y hy
   |ret=>exact q
   |exit i=>exact q
 | cond q a b iha ihb =>
   intro T hs Q h c hc;obtain⟨x,y,rfl,hx,hy⟩:=eB hc;obtain⟨v,hv,t,ht,h⟩:=h;rw[V.bool?_eq]at ht;subst ht;refine zpH hv ?_;split
   . rename_i e;rw[if_pos e]at h;exact iha h x hx
   . rename_i e;rw[if_neg e]at h;exact ihb h y hy
 | block i a iha =>
   intro T hs Q h c hc;obtain⟨x,rfl,hx⟩:=eB hc;exact zlw (iha h x hx)
 |loop a _=>intro T hs Q h;exact h
 |range g ps a b _ _=>intro T hs Q h;exact h
theorem IU(hρ:Good ρ)(hcon:aZ ρ E)(hP:E.P.follows .mixedOrders=true)(hN:nW E.P){n:Nat}(h:∀ K:PT V->HS->Prop,(∀ T hs,Cj ρ E k sz s Q n T hs->K T hs)->Wp ρ E k sz s T hs (Ex.then K Q)):Cj ρ E k sz s Q (n+1) T hs:=fun c hc =>
 Yy (zK hρ hcon hP hN (h _ fun _ _ h=>h) c hc) fun e T hs q=>by
  cases e with
  |normal=>exact q c hc
  |ret=>exact q
  |exit i=>exact q
theorem aY{n:Nat}{T2:PT V}{hs2:HS}(h:Less k T hs T2 hs2)(hl:Cj ρ E k sz s Q n T2 hs2):Cj ρ E k sz s Q n T hs:=fun c hc=>by
 cases n with
 |zero=>exact(hl c hc).elim
 |succ n=>exact Yz h (hl c hc)
end
section
variable {ρ:Nat->Value}{E:Env}{k sz:Nat}{T:PT V}{hs:HS}{Q:Ex->PT V->HS->Prop}
@[simp ↓] theorem zI5:Wp ρ E k sz .skip T hs Q=Q .normal T hs:=(rfl)
@[simp ↓] theorem zNp:Wp ρ E k sz .ret T hs Q=Q .ret T hs:=(rfl)
@[simp ↓] theorem zI7 {i:Nat}:Wp ρ E k sz (.exit i) T hs Q=Q (.exit i) T hs:=(rfl)
@[simp ↓] theorem zNq {l:List rH}:Wp ρ E k sz (.reg l) T hs Q=Rs E sz l hs.n T { H:=hs.H,n:=hs.n+l.length,log:=hs.log } fun T hs=>Q .normal T hs:=(rfl)
@[simp ↓] theorem zI8 {l:List SD} {bs:List Nat}:Wp ρ E k sz (.draw l bs) T hs Q=Rd E sz l hs.n T { H:=hs.H,n:=hs.n+l.length,log:=hs.log } [] fun T hs acc=>lV acc acc 0 bs=true/\Q .normal T hs:=(rfl)
@[simp ↓] theorem zNo {a b:SC}:Wp ρ E k sz (.seq a b) T hs Q=Wp ρ E k sz a T hs (Ex.then (fun T hs=>Wp ρ E k sz b T hs Q) Q):=(rfl)
@[simp ↓] theorem zI9 {q:Operand} {a b:SC}:Wp ρ E k sz (.cond q a b) T hs Q=ok (aG T q) fun v=>ok v.bool? fun t=>br (t=true) (Wp ρ E k sz a T hs Q) (Wp ρ E k sz b T hs Q):=by
  simp only[zk5];rfl
@[simp ↓] theorem zFL {i:Nat} {a:SC}:Wp ρ E k sz (.block i a) T hs Q=Wp ρ E k sz a T hs (Ex.inBlock i Q):=(rfl)
@[simp ↓] theorem zFJ {g:Operand} {ps:Array Tmp} {a b:SC}:Wp ρ E k sz (.range g ps a b) T hs Q=Ls ρ E k sz (.range g ps a b) T hs Q:=(rfl)
@[simp ↓] theorem zI6 {a:SC}:Wp ρ E k sz (.loop a) T hs Q=Ls ρ E k sz (.loop a) T hs Q:=(rfl)
@[congr] theorem zFK {s:SC} {T':PT V} {hs':HS} (h1:T=T') (h2:hs=hs'):Wp ρ E k sz s T hs Q=Wp ρ E k sz s T' hs' Q:=by rw[h1,h2]
@[congr] theorem zFW {s:SC} {T':PT V} {hs':HS} (h1:T=T') (h2:hs=hs'):Ls ρ E k sz s T hs Q=Ls ρ E k sz s T' hs' Q:=by rw[h1,h2]
@[congr] theorem zzZ {s:SC} {T':PT V} {hs':HS} {n:Nat} (h1:T=T') (h2:hs=hs'):Cj ρ E k sz s Q n T hs=Cj ρ E k sz s Q n T' hs':=by rw[h1,h2]
@[simp] theorem zHl {α:Type}:di ([]:List (Nat×α))=.leaf:=(rfl)
@[simp] theorem zCe {α:Type} {p:Nat×α} {l:List (Nat×α)}:di (p::l)=(di l).set p.1 p.2:=(rfl)
end
section
variable {ρ:Nat->Value}{P:Program}{w w':World}{F F':Nat->Prop}{μ μ':Nat->Nat->Option MI}{hs hs':HS}{T:PT V}
theorem RB{s:Start}{fn:Func}{tm:Array Value}{Rp:Ending->World->Prop}{N:Nat}(hN:s.w.heap.size<=N)
 (hfin:∀ w,R ρ w F μ P hs->fZ ρ w F μ T tm->Loc s w F μ hs->∃ v,(results fn tm).run P w=.ok v w/\Rp (.returned v) w):∀ (rs:List Nat) (w:World),R ρ w F μ P hs->fZ ρ w F μ T tm->Loc s w F μ hs->rs.Nodup ->
 (∀ r∈rs,N<=r/\w.heap[r]?=some (.deferred (some [])))->LeavesInM (Wr none) 0 P fn tm Rp (rs.map (fun r=>{ target:=.collected r,args:=#[] })) .returning w:=by
 intro rs
 induction rs with
 |nil=>intro w hR hT hf _ _;exact hfin w hR hT hf
 | cons r rs ih =>
   intro w hR hT hf hnd hall;have hr:=hall r (List.mem_cons_self ..);refine⟨by simp,.inl ⟨r,jO w r,rfl,run_takeDeferred hr.2,?_⟩⟩;have hnd':=List.nodup_cons.1 hnd;refine ih _ (hR.zbu hr.2) (fun t v hv=>?_) ?_ hnd'.2 (fun s hs=>⟨(hall s (List.mem_cons_of_mem _ hs)).1,?_⟩)
   . obtain⟨x,hx,h⟩:=hT t v hv;exact⟨x,hx,h.cells (vC hr.2)⟩
   . refine⟨hf.io,by simpa [jO]using hf.size,fun b hb hn=>?_,hf.fm,hf.pQ,hf.mm,hf.own,hf.zn3,hf.dm,hf.mn⟩;rw[je (by have:=hr.1;omega)];exact hf.keep b hb hn
   grind [je,List.mem_cons_of_mem]
def EA(ρ:Nat->Value)(P:Program)(s:Start)(K:V->HS->Prop):Ending->World->Prop
 |.returned x,w'=>∃ v hs' F' μ',K v hs'/\Loc s w' F' μ' hs'/\R ρ w' F' μ' P hs'/\M0 μ' hs'/\bR ρ w' F' μ' v x
 |_,_=>False
theorem Qd{E:Env}{f:FuncId}{fn:Func}{sc:SC}{vs:List V}{k:Nat}{K:V->HS->Prop}(hf:E.P.funcs[f]?=some fn)(hb:fn.body.bind aB=some sc)(he:iI fn.ntmps vs 0 .leaf=some T)
 (h:Ls ρ E k fn.ntmps sc T hs (Leaves E.P fn K)) {s:Start} {xs:Array Value} (hk:s.k=k) (hL:Loc s w F μ hs) (hR:R ρ w F μ E.P hs) (hD:M0 μ hs) (hA:Fq ρ w F μ vs xs):CallsIn Fence.wide 0 E.P f xs w (EA ρ E.P s K):=by
 cases hc:fn.body with
 |none=>rw[hc]at hb;cases hb
 |some c =>
 rw[hc]at hb;refine callsIn_of_wp_marks hf hc trivial ?_;have hsz:fn.ntmps<=(xs++Array.replicate (fn.ntmps-xs.size) undef).size:=by simp;omega
 have hT0:fZ ρ w F μ T (xs++Array.replicate (fn.ntmps-xs.size) undef):=by
  refine Kk he (fun t u hu=>by cases hu) fun k u hk=>?_
  obtain⟨x,hx,hr⟩:=hA.2 k u hk;exact⟨x,by rw[Nat.zero_add,Array.getElem?_append_left (Array.getElem?_eq_some_iff.1 hx).1];exact hx,hr⟩
 refine h c hb s ⟨w.heap.size,[],false⟩ none w F μ _ _ hk ⟨fun _=>rfl,rfl⟩ hL hR hD hT0 hsz (Marks.nil (Nat.le_refl _)) ?_;intro ex T1 hs1 a' w' F' μ' q hL' hR' hD' hT' _ hM;obtain⟨hne,l,hl,hK⟩:=q
 have hleave:LeavesInM (Wr none) 0 E.P fn a'.tmps (EA ρ E.P s K) a'.defers .returning w':=by
  obtain⟨hN,rs,⟨r1,_⟩,r2,r3⟩:=hM;rw[r2,show ∀ l:List Deferred,l++(NB.mk w.heap.size [] false).base=l from List.append_nil];refine RB (N:=w.heap.size) hL.size (fun w2 hR2 Uz hf2=>?_) rs w' hR' hT' hL' r1 r3;obtain⟨ys,h1,h2,h3⟩:=TY hR2 Uz hl;refine⟨_,?_,nu l,hs1,F',μ',hK,hf2,hR2,hD',JQ (xs:=ys.toArray) (by simpa using h2) (fun i u hi=>by simpa using h3 i u hi)⟩;unfold results;rw[Sem.run_bind,Array.mapM_eq_mapM_toList];rw[Sem.run_map];exact Eq.trans (congrArg (fun z:Result (List Value)=>(z.andThen fun a w'=>Result.ok a.toArray w').andThen fun a w'=>Sem.run E.P (pure (if h:a.size=1 then a[0]else Value.tuple a)) w') h1) rfl
 cases ex with
 |normal=>exact hleave
 |ret=>exact hleave
 |exit i=>exact absurd rfl (hne i)
def sH(r:V)(v:V)(hs:HS):Prop:=ok (still hs v) fun v'=>dL v'=r
theorem zah{E:Env}{f:FuncId}{fn:Func}{sc:SC}{vs:List V}{r:V}(hf:E.P.funcs[f]?=some fn)(hb:fn.body.bind aB=some sc)(he:iI fn.ntmps vs 0 .leaf=some T)
 (h:Ls ρ E 0 fn.ntmps sc T { H:=.leaf,n:=0,log:=[] } (Leaves E.P fn (sH r))) (hp:aR vs=true) (hs:HS):aA ρ E.P f vs hs r hs:=by
 intro X w F μ xs hR hD hO hA
 have hA':Fq ρ w F (fun _ _=>none) vs xs:=⟨hA.1,fun i u hi=>by
  obtain⟨x,hx,hr⟩:=hA.2 i u hi
  exact⟨x,hx,.pure (hr.qQ ρ (gP hp u (List.mem_of_getElem? hi)))⟩⟩
 have hL:Loc ⟨fun _=>False,w,F,0,fun _ _=>none⟩ w F (fun _ _=>none) eQ :=
  ⟨⟨rfl,rfl,rfl⟩,Nat.le_refl _,fun _ _ _=>rfl,fun _ h=>h,fun _ h=>.inl h,fun _ _ _ h=>absurd h (Nat.not_lt_zero _),fun b hb=>absurd hb (kK b _),fun _ h=>absurd h (Nat.not_lt_zero _),fun _ h=>absurd h (Nat.not_lt_zero _),fun _ _ _ h=>by cases h⟩
 refine(Qd hf hb he h rfl hL (R.empty hR.sI) (fun _ _ h=>absurd rfl h) hA').mono fun e w' he=>?_
 cases e with
 | returned x =>
   obtain⟨v1,hs1,F1,μ1,hK,hL1,g1,_,g2⟩:=he;obtain⟨v',h2,rfl⟩:=hK;have hkeep:∀ b,b<w.heap.size->w'.heap[b]?=w.heap[b]?:=fun b hb=>hL1.keep b hb (fun h=>h)
   obtain⟨a1,a2⟩:=alone hR hL1.io hL1.size hkeep;refine⟨_,μ,a1,.pure (Cx g1 g2 h2 ?_ ?_).norm,a2⟩
   . intro b hb;have hlt:=g1.sI b hb;rcases hL1.pQ b hb with h|h|h
     . exact .inl h
     . exact .inr ⟨h,hlt⟩
     . exact h.elim
   . intro id g m hm;rcases hL1.mn id g m hm with h|⟨i,j,m0,h,_⟩
     . exact .inr ⟨h,g1.lt _ _ _ hm⟩
     . cases h
 |panicked c=>exact he
 |outgrown=>exact he
end
def bZ(s:List V->Option V):Spec:=fun vs hs=>ob (gq vs hs) fun q=>gd (aR q.1) (ob (s (dB q.1)) fun v=>some (v,q.2))
def E9(s:List V->Option V):Spec:=fun vs hs=>ob (fD hs vs) fun vs'=>gd (aR vs') (ob (s (dB vs')) fun v=>gd v.CG (some (v,hs)))
section
variable {ρ:Nat->Value}{P:Program}{f:Nat}{s:List V->Option V}
theorem aA.norm{vs:List V}{hs hs':HS}{v:V}(hp:aR vs=true)(h:aA ρ P f (dB vs) hs v hs'):aA ρ P f vs hs v hs':=by
 intro X w F μ xs hR hD hO hA;refine h X w F μ xs hR hD hO ⟨by rw[gY,List.length_map];exact hA.1,fun i u hi=>?_⟩;rw[gY,List.getElem?_map,Option.map_eq_some_iff]at hi;obtain⟨u0,h0,rfl⟩:=hi;obtain⟨x,hx,hr⟩:=hA.2 i u0 h0;exact⟨x,hx,.pure (hr.qQ ρ (gP hp u0 (List.mem_of_getElem? h0))).norm⟩
theorem Valid.bZ (hf:lW P f) (h:∀ vs v,s vs=some v->∀ hs,aA ρ P f vs hs v hs):Valid ρ P f (bZ s) where
 fn:=hf
 ok := by
  intro vs hs v hs' hq;simp only[J.bZ,aD,af]at hq;obtain⟨⟨vs',hs1⟩,hp,BH,v',hv,hq⟩:=hq;cases hq;intro X w F μ xs hR hD hO hA;obtain⟨F',k1,k2,k3,k4,k5⟩:=rV (xs:=xs.toList) hp hR (fun i u hi=>by simpa using hA.2 i u hi);have hc:aA ρ P f vs' hs1 v hs1:=(h _ _ hv hs1).norm BH;refine(hc X w F' μ xs k1 (k2.dom k3.le hD) hO ⟨by rw[k4];exact hA.1,fun i u hi=>?_⟩).mono fun e w' he=>?_
  . obtain⟨x,hx,hr⟩:=k5 i u hi;exact⟨x,by simpa using hx,.pure hr⟩
  . cases e with
    | returned x =>
      obtain⟨F2,μ2,g1,g2,g3⟩:=he;exact⟨F2,μ2,g1,g2,k2.trans g3⟩
    |panicked c=>exact he
    |outgrown=>exact he
 kept:=by
  intro vs hs q hq;simp only[J.bZ,aD,af]at hq;obtain⟨⟨vs',hs1⟩,hp,_,v',_,hq⟩:=hq;cases hq;exact nD hp
theorem Valid.E9(hf:lW P f)(h:∀ vs v,s vs=some v->∀ hs,aA ρ P f vs hs v hs):Valid ρ P f (E9 s) where
 fn:=hf
 ok:=by
  intro vs hs v hs' hq;simp only[J.E9,aD,af]at hq;obtain⟨vs',hst,hp,v',hv,hsc,hq⟩:=hq;cases hq;intro X w F μ xs hR hD hO hA;obtain⟨hlen,hall⟩:=yu hR (F':=fun b=>b<w.heap.size) hR.sI hst (fun _ _ _ _ id g off len cap _ m hm=>hR.lt id g m hm)
  have hA':Fq ρ w (fun b=>b<w.heap.size) (fun _ _=>none) vs' xs:=⟨hA.1.trans hlen.symm,fun i u hi=>by
   obtain⟨u0,hu0,hr⟩:=hall i u hi;obtain⟨x,hx,hr0⟩:=hA.2 i u0 hu0
   exact⟨x,hx,.pure (hr x hr0)⟩⟩
  have hc:aA ρ P f vs' eQ v eQ:=(h _ _ hv _).norm hp;refine(hc _ w _ (fun _ _=>none) xs (R.empty fun _ h=>h) Ck.empty (Off.no _) hA').mono fun e w' he=>?_
  cases e with
  | returned x =>
    obtain⟨F1,μ1,g1,g2,g3⟩:=he;have hkeep:∀ b,b<w.heap.size->w'.heap[b]?=w.heap[b]?:=fun b hb=>g3.keep b hb (kK b _)
    obtain⟨a1,a2⟩:=alone hR g3.io g3.size hkeep;exact⟨_,μ,a1,.pure (N7 g2 hsc),a2⟩
  |panicked c=>exact he
  |outgrown=>exact he
 kept:=by
  intro vs hs q hq;simp only[J.E9,aD,af]at hq;obtain⟨_,_,_,_,_,_,hq⟩:=hq;cases hq;exact .refl _
end
section
variable {ρ:Nat->Value}{P:Program}{E:Env}{k sz:Nat}{s:SC}{T:PT V}{hs:HS}{Q Q':Ex->PT V->HS->Prop}
def bq(k:Nat)(Q:Ex->PT V->HS->Prop)(e:Ex)(T:PT V)(hs:HS):Prop:=∃ T2 hs2,Less k T hs T2 hs2/\Q e T2 hs2
theorem dJ(h:Ls ρ E k sz s T hs (bq k Q)):Ls ρ E k sz s T hs Q:=zpI h fun _ _ _ q=>q
theorem bq.mk{e:Ex}{T2:PT V}{hs2:HS}(h:Less k T hs T2 hs2)(q:Q e T2 hs2):bq k Q e T hs:=⟨T2,hs2,h,q⟩
end
end Go.J
/- Values of types of Lean as values of the gI. -/
namespace Go.J
class fB (α:Type) where
 cells:α->List V
 dec:List V->Option α
 bV:∀ a,dec (cells a)=some a
 aU:∀ c a,dec c=some a->c=cells a
 aI:∀ a,(cells a).all V.aI=true
 norm:∀ a,dB (cells a)=cells a
class Enc (α:Type) where
 enc:α->V
 dec:V->Option α
 bV:∀ a,dec (enc a)=some a
 aU:∀ v a,dec v=some a->v=enc a
 norm:∀ a,dL (enc a)=enc a
open Enc (enc)
instance:Enc Int where
 enc n:=.int .i64 n
 dec v:=match v with
  |.int .i64 n=>some n
  |_=>none
 bV _:=rfl
 aU v a h:=by
  split at h
  . cases h;rfl
  . cases h
 norm _:=rfl
instance:Enc Bool where
 enc b:=.bool b
 dec v:=match v with
  |.bool b=>some b
  |_=>none
 bV _:=rfl
 aU v a h:=by
  split at h
  . cases h;rfl
  . cases h
 norm _:=rfl
instance zHt:Enc (List Nat) where
 enc b:=.str b
 dec v:=match v with
  |.str b=>some b
  |_=>none
 bV _:=rfl
 aU v a h:=by
  split at h
  . cases h;rfl
  . cases h
 norm _:=rfl
instance:fB Int where
 cells n:=[.int .i64 n]
 dec v:=match v with
  | [.int .i64 n]=>some n
  |_=>none
 bV _:=rfl
 aU v a h:=by
  split at h
  . cases h;rfl
  . cases h
 aI _:=rfl
 norm _:=rfl
instance:fB Bool where
 cells n:=[.bool n]
 dec v:=match v with
  | [.bool n]=>some n
  |_=>none
 bV _:=rfl
 aU v a h:=by
  split at h
  . cases h;rfl
  . cases h
 aI _:=rfl
 norm _:=rfl
instance zCq:fB (List Nat) where
 cells n:=[.str n]
 dec v:=match v with
  | [.str n]=>some n
  |_=>none
 bV _:=rfl
 aU v a h:=by
  split at h
  . cases h;rfl
  . cases h
 aI _:=rfl
 norm _:=rfl
section
variable {α:Type} [fB α]
def bQ:List (List V)->Option (List α)
 | []=>some []
 | e::r=>match fB.dec e,bQ r with
   |some a,some l=>some (a::l)
   |_,_=>none
theorem iA:∀ l:List α,bQ (l.map fB.cells)=some l:=by
 intro l
 induction l with
 |nil=>rfl
 |cons a l ih=>simp[bQ,fB.bV,ih]
theorem eZ:∀ {es:List (List V)} {l:List α},bQ es=some l->es=l.map fB.cells:=by
 intro es
 induction es with
 |nil=>intro l h;cases h;rfl
 | cons e r ih =>
   intro l h;unfold bQ at h;split at h
   . rename_i a m h1 h2;cases h;rw[List.map_cons,<- ih h2,fB.aU _ _ h1]
   . cases h
theorem fw(l:List α):eY (l.map fB.cells)=l.map fB.cells:=by
 rw[CW,List.map_map];exact List.map_congr_left fun a _=>fB.norm a
theorem fJ(l:List α):((l.map fB.cells).all fun e=>e.all V.aI)=true:=by
 rw[List.all_eq_true];intro e he;obtain⟨a,_,rfl⟩:=List.mem_map.1 he;exact fB.aI a
instance zKV:Enc (List α) where
 enc l:=.sl (l.map fB.cells) false
 dec v:=match v with
  |.sl es false=>bQ es
  |_=>none
 bV l:=iA l
 aU v a h:=by
  split at h
  . rw[eZ h]
  . cases h
 norm l:=by
  show V.sl (eY (l.map fB.cells)) false=_;rw[fw]
end
@[reducible] def qF {α:Type} [fB α]:Enc α where
  enc a:=.agg (fB.cells a)
  dec v:=match v with
   |.agg c=>fB.dec c
   |_=>none
  bV a:=fB.bV a
  aU v a h:=by
   split at h
   . rw[fB.aU _ _ h]
   . cases h
  norm a:=by
   show V.agg (dB (fB.cells a))=_;rw[fB.norm]
instance zCr{α β:Type} [Enc α] [Enc β]:Enc (α×β) where
 enc p:=.tuple [enc p.1,enc p.2]
 dec v:=match v with
  |.tuple [x,y]=>ob (Enc.dec x) fun a=>ob (Enc.dec y) fun b=>some (a,b)
  |_=>none
 bV p:=by simp[Enc.bV]
 aU v a h:=by
  split at h
  . simp only[af]at h;obtain⟨x,hx,y,hy,h⟩:=h;cases h;rw[Enc.aU _ _ hx,Enc.aU _ _ hy]
  . cases h
 norm p:=by simp[dL,dB,Enc.norm]
end Go.J
/- Types,and structures of them,as values of the gI. -/
namespace Go.J
open Enc (enc)
inductive Ty where
 |mk (kind:Int) (name:List Nat) (id home:Int) (args:List Ty)
 deriving Inhabited
namespace Ty
def kind:Ty->Int|.mk k _ _ _ _=>k
def name:Ty->List Nat|.mk _ n _ _ _=>n
def id:Ty->Int|.mk _ _ i _ _=>i
def home:Ty->Int|.mk _ _ _ h _=>h
def args:Ty->List Ty|.mk _ _ _ _ l=>l
section
variable {k i h:Int}{n:List Nat}{l:List Ty}
@[simp] theorem dx:(mk k n i h l).kind=k:=(rfl)
@[simp] theorem vN:(mk k n i h l).name=n:=(rfl)
@[simp] theorem gz:(mk k n i h l).id=i:=(rfl)
@[simp] theorem tH:(mk k n i h l).home=h:=(rfl)
@[simp] theorem cZ:(mk k n i h l).args=l:=(rfl)
@[simp] theorem eta (t:Ty):mk t.kind t.name t.id t.home t.args=t:=by cases t;rfl
end
theorem ext'{a b:Ty}(h1:a.kind=b.kind)(h2:a.name=b.name)(h3:a.id=b.id)(h4:a.home=b.home)(h5:a.args=b.args):a=b:=by
 cases a;cases b;simp_all
theorem eq_iff{a b:Ty}:a=b↔a.kind=b.kind/\a.name=b.name/\a.id=b.id/\a.home=b.home/\a.args=b.args :=
 ⟨fun h=>by subst h;simp,fun ⟨h1,h2,h3,h4,h5⟩=>ext' h1 h2 h3 h4 h5⟩
mutual
def beq:Ty->Ty->Bool
 |.mk k n i h l,.mk k' n' i' h' l'=>decide (k=k')&&decide (n=n')&&decide (i=i')&&decide (h=h')&&Sz l l'
def Sz:List Ty->List Ty->Bool
 | [],[]=>true
 |a::l,b::m=>beq a b&&Sz l m
 |_,_=>false
end
mutual
theorem zla:∀ a b:Ty,beq a b=true↔a=b
 | .mk k n i h l,.mk k' n' i' h' l'=>by
   simp[beq,Yo l l',and_assoc]
theorem Yo:∀ a b:List Ty,Sz a b=true↔a=b
 | [],[]=>by simp[Sz]
 | [],_::_=>by simp[Sz]
 |_::_,[]=>by simp[Sz]
 |a::l,b::m=>by simp[Sz,zla a b,Yo l m]
end
instance:DecidableEq Ty:=fun a b=>decidable_of_iff _ (zla a b)
mutual
def size:Ty->Nat
 |.mk _ _ _ _ l=>sizes l+1
def sizes:List Ty->Nat
 | []=>0
 |t::l=>size t+sizes l
end
theorem size_eq(t:Ty):t.size=sizes t.args+1:=by cases t;simp[size]
theorem size_pos(t:Ty):0<t.size:=by rw[size_eq];omega
theorem pF{t:Ty}{l:List Ty}(h:t∈l):t.size<=sizes l:=by
 induction l with
 |nil=>cases h
 | cons a l ih =>
   simp only[sizes]
   grind
theorem pG{t u:Ty}(h:u∈t.args):u.size<t.size:=by
 have:=pF h;rw[size_eq t];omega
theorem ind{p:Ty->Prop}(h:∀ t,(∀ u∈t.args,p u)->p t)(t:Ty):p t:=by
 generalize hn:t.size=n
 induction n using Nat.strongRecOn generalizing t with
 |_ n ih=>exact h t fun u hu=>ih u.size (by have:=pG hu;omega) u rfl
mutual
def ok:Ty->Bool
 |.mk _ _ _ _ l=>decide (l.length<=10000)&&oks l
def oks:List Ty->Bool
 | []=>true
 |t::l=>ok t&&oks l
end
theorem gT{l:List Ty}:oks l=true↔∀ t∈l,t.ok=true:=by
 induction l with
 |nil=>simp[oks]
 |cons a l ih=>simp[oks,ih]
theorem ky{t:Ty}:t.ok=true↔t.args.length<=10000/\∀ u∈t.args,u.ok=true:=by
 cases t;simp[ok,gT]
theorem lH{t:Ty}(h:t.ok=true):t.args.length<=10000:=(ky.1 h).1
theorem mH{t u:Ty}(h:t.ok=true)(hu:u∈t.args):u.ok=true:=(ky.1 h).2 u hu
end Ty
mutual
def ax:Ty->List V
 |.mk k n i h l=>[.int .i64 k,.str n,.int .i64 i,.int .i64 h,.sl (lK l) false]
def lK:List Ty->List (List V)
 | []=>[]
 |t::l=>ax t::lK l
end
theorem Z4(l:List Ty):lK l=l.map ax:=by
 induction l with
 |nil=>simp[lK]
 |cons t l ih=>simp[lK,ih]
theorem qW(t:Ty):ax t=[.int .i64 t.kind,.str t.name,.int .i64 t.id,.int .i64 t.home,.sl (t.args.map ax) false]:=by
 cases t;simp[ax,Z4]
mutual
def Iq:V->Option (List Ty)
 |.sl es false=>sw es
 |_=>none
def sw:List (List V)->Option (List Ty)
 | []=>some []
 | e::r=>match xM e,sw r with
   |some t,some l=>some (t::l)
   |_,_=>none
def xM:List V->Option Ty
 | [.int .i64 k,.str n,.int .i64 i,.int .i64 h,a]=>(Iq a).map (Ty.mk k n i h)
 |_=>none
end
mutual
theorem Ko:∀ t:Ty,xM (ax t)=some t
 |.mk k n i h l=>by simp[ax,xM,Iq,Ip l]
theorem Ip:∀ l:List Ty,sw (lK l)=some l
 | []=>by simp[lK,sw]
 |t::l=>by simp[lK,sw,Ko t,Ip l]
end
mutual
theorem Sb:∀ (v:V) (l:List Ty),Iq v=some l->v=.sl (lK l) false
 | v,l,h=>by
   unfold Iq at h;split at h
   . rename_i es;rw[Ii es l h]
   . cases h
theorem Ii:∀ (es:List (List V)) (l:List Ty),sw es=some l->es=lK l
 | [],l,h=>by simp[sw]at h;subst h;simp[lK]
 | e :: r,l,h=>by
   unfold sw at h;split at h
   . rename_i t m h1 h2;cases h;rw[Kl e t h1,Ii r m h2];simp[lK]
   . cases h
theorem Kl:∀ (c:List V) (t:Ty),xM c=some t->c=ax t
 | c,t,h=>by
   unfold xM at h;split at h
   . rename_i k n i hm a;rw[Option.map_eq_some_iff]at h;obtain⟨l,hl,rfl⟩:=h;rw[Sb a l hl];simp[ax]
   . cases h
end
mutual
theorem GK:∀ t:Ty,dB (ax t)=ax t
 |.mk k n i h l=>by simp[ax,dB,dL,DT l]
theorem DT:∀ l:List Ty,eY (lK l)=lK l
 | []=>by simp[lK,eY]
 |t::l=>by simp[lK,eY,GK t,DT l]
end
instance:fB Ty where
 cells:=ax
 dec:=xM
 bV:=Ko
 aU:=Kl
 aI t:=by cases t;simp[ax,V.aI,V.rW]
 norm:=GK
instance:Enc Ty:=qF
theorem Z8:∀ es:List (List V),sw es=bQ es:=by
 intro es
 induction es with
 |nil=>simp[sw,bQ]
 | cons e r ih =>
   simp only[sw,bQ,ih];rw[show (fB.dec e:Option Ty)=xM e from rfl]
   grind
theorem zpa{k i h:Int}{n:List Nat}{es:List (List V)}:xM [.int .i64 k,.str n,.int .i64 i,.int .i64 h,.sl es false]=ob (bQ es) fun l=>some (Ty.mk k n i h l):=by
 simp only[xM,Iq,Z8];cases(bQ es:Option (List Ty))<;>rfl
@[simp] theorem zFq:@fB.cells Ty _=ax:=(rfl)
@[simp] theorem zzs:@fB.dec Ty _=xM:=(rfl)
@[simp] theorem zM1 (a:Ty):enc a=.agg (ax a):=(rfl)
@[simp] theorem zM7 {c:List V}:Enc.dec (α:=Ty) (.agg c)=xM c:=(rfl)
@[simp] theorem tQ (l:List Ty):bQ (l.map ax)=some l:=iA l
@[simp] theorem tu (l:List Ty):eY (l.map ax)=l.map ax:=fw l
@[simp] theorem xc (l:List Ty):((l.map ax).all fun e=>e.all V.aI)=true:=fJ l
@[simp] theorem zID (l:List Ty):enc l=.sl (l.map ax) false:=(rfl)
@[simp] theorem zIK {es:List (List V)}:Enc.dec (α:=List Ty) (.sl es false)=bQ es:=(rfl)
theorem dV{α:Type}{f:α->List V}(h:∀ l:List α,((l.map f).all fun e=>e.all V.aI)=true){l:List α}:dw (l.map f)=true:=by
 have h:=h l;rw[List.all_eq_true]at h;refine(AA IK _).2 fun e he=>MU.2 fun v hv=>?_
 have:=List.all_eq_true.1 (h e he) v hv;cases v<;>first|rfl|cases this
@[simp] theorem zN5 (l:List Ty):sizes 5 (l.map ax)=true:=by rw[fE];intro e he;obtain⟨a,_,rfl⟩:=List.mem_map.1 he;rw[qW];rfl
@[simp] theorem zPb (l:List Ty):dw (l.map ax)=true:=dV xc
attribute [simp] zpa qW
structure T3(α β γ:Type) where
 a:α
 b:β
 c:γ
structure T4(α β γ δ:Type) where
 a:α
 b:β
 c:γ
 d:δ
instance zKU{α β γ:Type} [Enc α] [Enc β] [Enc γ]:Enc (T3 α β γ) where
 enc p:=.tuple [enc p.a,enc p.b,enc p.c]
 dec v:=match v with
  |.tuple [x,y,z]=>ob (Enc.dec x) fun a=>ob (Enc.dec y) fun b=>ob (Enc.dec z) fun c=>some ⟨a,b,c⟩
  |_=>none
 bV p:=by simp[Enc.bV,ob]
 aU v a h:=by
  split at h
  . simp only[af]at h;obtain⟨x,hx,y,hy,z,hz,h⟩:=h;cases h;rw[Enc.aU _ _ hx,Enc.aU _ _ hy,Enc.aU _ _ hz]
  . cases h
 norm p:=by simp[dL,dB,Enc.norm]
instance zKT{α β γ δ:Type} [Enc α] [Enc β] [Enc γ] [Enc δ]:Enc (T4 α β γ δ) where
 enc p:=.tuple [enc p.a,enc p.b,enc p.c,enc p.d]
 dec v:=match v with
  |.tuple [x,y,z,u]=>ob (Enc.dec x) fun a=>ob (Enc.dec y) fun b=>ob (Enc.dec z) fun c=>ob (Enc.dec u) fun d=>some ⟨a,b,c,d⟩
  |_=>none
 bV p:=by simp[Enc.bV,ob]
 aU v a h:=by
  split at h
  . simp only[af]at h;obtain⟨x,hx,y,hy,z,hz,u,hu,h⟩:=h;cases h;rw[Enc.aU _ _ hx,Enc.aU _ _ hy,Enc.aU _ _ hz,Enc.aU _ _ hu]
  . cases h
 norm p:=by simp[dL,dB,Enc.norm]
@[simp] theorem zM4 {α β γ:Type} [Enc α] [Enc β] [Enc γ] (p:T3 α β γ):enc p=.tuple [enc p.a,enc p.b,enc p.c]:=(rfl)
@[simp] theorem zM3 {α β γ δ:Type} [Enc α] [Enc β] [Enc γ] [Enc δ] (p:T4 α β γ δ):enc p=.tuple [enc p.a,enc p.b,enc p.c,enc p.d]:=(rfl)
abbrev encI(n:Int):List V:=[.int .i64 n]
abbrev qy(b:Bool):List V:=[.bool b]
abbrev encS(s:List Nat):List V:=[.str s]
@[simp] theorem zkL (l:List Int):bQ (l.map encI)=some l:=iA l
@[simp] theorem zzf (l:List Bool):bQ (l.map qy)=some l:=iA l
@[simp] theorem zkK (l:List (List Nat)):bQ (l.map encS)=some l:=iA l
@[simp] theorem zcJ (l:List Int):eY (l.map encI)=l.map encI:=fw l
@[simp] theorem zyn (l:List Bool):eY (l.map qy)=l.map qy:=fw l
@[simp] theorem zcI (l:List (List Nat)):eY (l.map encS)=l.map encS:=fw l
@[simp] theorem J3 (l:List Int):((l.map encI).all fun e=>e.all V.aI)=true:=fJ l
@[simp] theorem Gs (l:List Bool):((l.map qy).all fun e=>e.all V.aI)=true:=fJ l
@[simp] theorem Zm (l:List (List Nat)):((l.map encS).all fun e=>e.all V.aI)=true:=fJ l
@[simp] theorem zJN (l:List Int):sizes 1 (l.map encI)=true:=by rw[fE];intro e he;obtain⟨a,_,rfl⟩:=List.mem_map.1 he;rfl
@[simp] theorem zGq (l:List Bool):sizes 1 (l.map qy)=true:=by rw[fE];intro e he;obtain⟨a,_,rfl⟩:=List.mem_map.1 he;rfl
@[simp] theorem zJM (l:List (List Nat)):sizes 1 (l.map encS)=true:=by rw[fE];intro e he;obtain⟨a,_,rfl⟩:=List.mem_map.1 he;rfl
@[simp] theorem zNn (l:List Int):dw (l.map encI)=true:=dV J3
@[simp] theorem zI3 (l:List Bool):dw (l.map qy)=true:=dV Gs
@[simp] theorem zNm (l:List (List Nat)):dw (l.map encS)=true:=dV Zm
@[simp] theorem zE3 (l:List Int):enc l=.sl (l.map encI) false:=(rfl)
@[simp] theorem zy2 (l:List Bool):enc l=.sl (l.map qy) false:=(rfl)
@[simp] theorem zE2 (l:List (List Nat)):enc l=.sl (l.map encS) false:=(rfl)
@[simp] theorem zFc {es:List (List V)}:Enc.dec (α:=List Int) (.sl es false)=bQ es:=(rfl)
@[simp] theorem zzb {es:List (List V)}:Enc.dec (α:=List Bool) (.sl es false)=bQ es:=(rfl)
@[simp] theorem zFb {es:List (List V)}:Enc.dec (α:=List (List Nat)) (.sl es false)=bQ es:=(rfl)
@[simp] theorem zIF (n:Int):enc n=.int .i64 n:=(rfl)
@[simp] theorem zE6 (b:Bool):enc b=.bool b:=(rfl)
@[simp] theorem zIC (s:List Nat):enc s=.str s:=(rfl)
@[simp] theorem zIM {n:Int}:Enc.dec (α:=Int) (.int .i64 n)=some n:=(rfl)
@[simp] theorem zFf {b:Bool}:Enc.dec (α:=Bool) (.bool b)=some b:=(rfl)
@[simp] theorem zIJ {s:List Nat}:Enc.dec (α:=List Nat) (.str s)=some s:=(rfl)
@[simp] theorem zzr:@fB.cells Int _=encI:=(rfl)
@[simp] theorem zwn:@fB.cells Bool _=qy:=(rfl)
@[simp] theorem zzq:@fB.cells (List Nat) _=encS:=(rfl)
@[simp] theorem zwp {n:Int}:fB.dec (α:=Int) [.int .i64 n]=some n:=(rfl)
@[simp] theorem zsi {b:Bool}:fB.dec (α:=Bool) [.bool b]=some b:=(rfl)
@[simp] theorem zwo {s:List Nat}:fB.dec (α:=List Nat) [.str s]=some s:=(rfl)
@[simp] theorem zE0 {α β:Type} [Enc α] [Enc β] (a:α) (b:β):enc (a,b)=.tuple [enc a,enc b]:=(rfl)
@[simp] theorem zFg {α:Type} [fB α]:bQ ([]:List (List V))=some ([]:List α):=(rfl)
@[simp] theorem Kt {α:Type} [fB α] {e:List V} {r:List (List V)}:(bQ (e::r):Option (List α))=ob (fB.dec e) fun a=>ob (bQ r) fun l=>some (a::l):=by
  show (match (fB.dec e:Option α),(bQ r:Option (List α))with|some a,some l=>some (a::l)|_,_=>none)=_;cases(fB.dec e:Option α)<;>cases(bQ r:Option (List α))<;>rfl
@[simp] theorem zr4 {α:Type} [fB α] {e r:List (List V)}:(bQ (e++r):Option (List α))=ob (bQ e) fun a=>ob (bQ r) fun l=>some (a++l):=by
  induction e with
  | nil =>
    show bQ r=ob (some []) _;rw[bP];cases(bQ r:Option (List α))<;>rfl
  | cons x e ih =>
    show bQ (x::(e++r))=_;rw[Kt,Kt,ih];cases(fB.dec x:Option α)<;>cases(bQ e:Option (List α))<;>cases(bQ r:Option (List α))<;>rfl
structure Slot where
 bound:Bool
 type:Ty
 home:Int
 base:Bool
 deriving DecidableEq
def aX(a:Slot):List V:=[.bool a.bound,.int .i64 a.type.kind,.str a.type.name,.int .i64 a.type.id,.int .i64 a.type.home,.sl (a.type.args.map ax) false,.int .i64 a.home,.bool a.base]
def BP(c:List V):Option Slot :=
 match c with
 | [.bool x0,.int .i64 x1,.str x2,.int .i64 x3,.int .i64 x4,.sl x5 false,.int .i64 x6,.bool x7]=>ob (bQ x5) fun y5=>some ⟨x0,(Ty.mk x1 x2 x3 x4 y5),x6,x7⟩
 |_=>none
theorem Kq{x0:Bool}{x1:Int}{x2:List Nat}{x3:Int}{x4:Int}{x5:List (List V)}{x6:Int}{x7:Bool}:BP [.bool x0,.int .i64 x1,.str x2,.int .i64 x3,.int .i64 x4,.sl x5 false,.int .i64 x6,.bool x7]=ob (bQ x5) fun y5=>some ⟨x0,(Ty.mk x1 x2 x3 x4 y5),x6,x7⟩:=(rfl)
instance:fB Slot where
 cells:=aX
 dec:=BP
 bV a:=by simp only[aX,Kq,tQ,bP,Ty.eta]
 aU c a h:=by
  unfold BP at h;split at h
  . simp only[af]at h;obtain⟨y5,zq1,h⟩:=h;cases h;have zq1:=eZ zq1
    subst_vars
    rfl
  . cases h
 aI a:=rfl
 norm a:=by simp only[aX,dB,dL,tu]
instance:Enc Slot:=qF
@[simp] theorem zwj:@fB.cells Slot _=aX:=(rfl)
@[simp] theorem zse:@fB.dec Slot _=BP:=(rfl)
@[simp] theorem zEZ (a:Slot):enc a=.agg (aX a):=(rfl)
@[simp] theorem zE9 {c:List V}:Enc.dec (α:=Slot) (.agg c)=BP c:=(rfl)
@[simp] theorem Ku (l:List Slot):bQ (l.map aX)=some l:=iA l
@[simp] theorem J7 (l:List Slot):eY (l.map aX)=l.map aX:=fw l
@[simp] theorem Aa (l:List Slot):((l.map aX).all fun e=>e.all V.aI)=true:=fJ l
@[simp] theorem zyY (l:List Slot):enc l=.sl (l.map aX) false:=(rfl)
@[simp] theorem zy7 {es:List (List V)}:Enc.dec (α:=List Slot) (.sl es false)=bQ es:=(rfl)
@[simp] theorem zGm (l:List Slot):sizes 8 (l.map aX)=true:=by rw[fE];intro e he;obtain⟨a,_,rfl⟩:=List.mem_map.1 he;rfl
@[simp] theorem zIZ (l:List Slot):dw (l.map aX)=true:=dV Aa
@[simp] theorem zEQ (a:Slot):Slot.mk a.bound a.type a.home a.base=a:=(rfl)
attribute [simp] Kq aX
structure Change where
 id:Int
 old:Slot
 new:Bool
 deriving DecidableEq
def aV(a:Change):List V:=[.int .i64 a.id,.bool a.old.bound,.int .i64 a.old.type.kind,.str a.old.type.name,.int .i64 a.old.type.id,.int .i64 a.old.type.home,.sl (a.old.type.args.map ax) false,.int .i64 a.old.home,.bool a.old.base,.bool a.new]
def uV(c:List V):Option Change :=
 match c with
 | [.int .i64 x0,.bool x1,.int .i64 x2,.str x3,.int .i64 x4,.int .i64 x5,.sl x6 false,.int .i64 x7,.bool x8,.bool x9]=>ob (bQ x6) fun y6=>some ⟨x0,⟨x1,(Ty.mk x2 x3 x4 x5 y6),x7,x8⟩,x9⟩
 |_=>none
theorem Ef{x0:Int}{x1:Bool}{x2:Int}{x3:List Nat}{x4:Int}{x5:Int}{x6:List (List V)}{x7:Int}{x8:Bool}{x9:Bool}:uV [.int .i64 x0,.bool x1,.int .i64 x2,.str x3,.int .i64 x4,.int .i64 x5,.sl x6 false,.int .i64 x7,.bool x8,.bool x9]=ob (bQ x6) fun y6=>some ⟨x0,⟨x1,(Ty.mk x2 x3 x4 x5 y6),x7,x8⟩,x9⟩:=(rfl)
instance:fB Change where
 cells:=aV
 dec:=uV
 bV a:=by simp only[aV,Ef,tQ,bP,Ty.eta]
 aU c a h:=by
  unfold uV at h;split at h
  . simp only[af]at h;obtain⟨y6,zCI,h⟩:=h;cases h;have zCI:=eZ zCI
    subst_vars
    rfl
  . cases h
 aI a:=rfl
 norm a:=by simp only[aV,dB,dL,tu]
instance:Enc Change:=qF
@[simp] theorem zpj:@fB.cells Change _=aV:=(rfl)
@[simp] theorem zmC:@fB.dec Change _=uV:=(rfl)
@[simp] theorem zv0 (a:Change):enc a=.agg (aV a):=(rfl)
@[simp] theorem zv9 {c:List V}:Enc.dec (α:=Change) (.agg c)=uV c:=(rfl)
@[simp] theorem xO (l:List Change):bQ (l.map aV)=some l:=iA l
@[simp] theorem Oz (l:List Change):eY (l.map aV)=l.map aV:=fw l
@[simp] theorem vK (l:List Change):((l.map aV).all fun e=>e.all V.aI)=true:=fJ l
@[simp] theorem zrW (l:List Change):enc l=.sl (l.map aV) false:=(rfl)
@[simp] theorem zr2 {es:List (List V)}:Enc.dec (α:=List Change) (.sl es false)=bQ es:=(rfl)
@[simp] theorem zxl (l:List Change):sizes 10 (l.map aV)=true:=by rw[fE];intro e he;obtain⟨a,_,rfl⟩:=List.mem_map.1 he;rfl
@[simp] theorem zzT (l:List Change):dw (l.map aV)=true:=dV vK
@[simp] theorem zvT (a:Change):Change.mk a.id a.old a.new=a:=(rfl)
attribute [simp] Ef aV
structure Store where
 slots:List Slot
 trail:List Change
 deriving DecidableEq
def bB(a:Store):List V:=[.sl (a.slots.map aX) false,.sl (a.trail.map aV) false]
def xN(c:List V):Option Store :=
 match c with
 | [.sl x0 false,.sl x1 false]=>ob (bQ x0) fun y0=>ob (bQ x1) fun y1=>some ⟨y0,y1⟩
 |_=>none
theorem Ir{x0:List (List V)}{x1:List (List V)}:xN [.sl x0 false,.sl x1 false]=ob (bQ x0) fun y0=>ob (bQ x1) fun y1=>some ⟨y0,y1⟩:=(rfl)
instance:fB Store where
 cells:=bB
 dec:=xN
 bV a:=by simp only[bB,Ir,xO,Ku,bP,Ty.eta]
 aU c a h:=by
  unfold xN at h;split at h
  . simp only[af]at h;obtain⟨y0,hy0,y1,hy1,h⟩:=h;cases h;have hy0:=eZ hy0;have hy1:=eZ hy1
    subst_vars
    rfl
  . cases h
 aI a:=rfl
 norm a:=by simp only[bB,dB,dL,Oz,J7]
instance:Enc Store:=qF
@[simp] theorem zsc:@fB.cells Store _=bB:=(rfl)
@[simp] theorem zpl:@fB.dec Store _=xN:=(rfl)
@[simp] theorem zyX (a:Store):enc a=.agg (bB a):=(rfl)
@[simp] theorem zy6 {c:List V}:Enc.dec (α:=Store) (.agg c)=xN c:=(rfl)
@[simp] theorem zwb (l:List Store):bQ (l.map bB)=some l:=iA l
@[simp] theorem zug (l:List Store):eY (l.map bB)=l.map bB:=fw l
@[simp] theorem Ot (l:List Store):((l.map bB).all fun e=>e.all V.aI)=true:=fJ l
@[simp] theorem zvY (l:List Store):enc l=.sl (l.map bB) false:=(rfl)
@[simp] theorem zv7 {es:List (List V)}:Enc.dec (α:=List Store) (.sl es false)=bQ es:=(rfl)
@[simp] theorem zA7 (l:List Store):sizes 2 (l.map bB)=true:=by rw[fE];intro e he;obtain⟨a,_,rfl⟩:=List.mem_map.1 he;rfl
@[simp] theorem zFF (l:List Store):dw (l.map bB)=true:=dV Ot
@[simp] theorem zyU (a:Store):Store.mk a.slots a.trail=a:=(rfl)
attribute [simp] Ir bB
structure Assign where
 id:Int
 type:Ty
 deriving DecidableEq
def bF(a:Assign):List V:=[.int .i64 a.id,.int .i64 a.type.kind,.str a.type.name,.int .i64 a.type.id,.int .i64 a.type.home,.sl (a.type.args.map ax) false]
def uW(c:List V):Option Assign :=
 match c with
 | [.int .i64 x0,.int .i64 x1,.str x2,.int .i64 x3,.int .i64 x4,.sl x5 false]=>ob (bQ x5) fun y5=>some ⟨x0,(Ty.mk x1 x2 x3 x4 y5)⟩
 |_=>none
theorem Eg{x0:Int}{x1:Int}{x2:List Nat}{x3:Int}{x4:Int}{x5:List (List V)}:uW [.int .i64 x0,.int .i64 x1,.str x2,.int .i64 x3,.int .i64 x4,.sl x5 false]=ob (bQ x5) fun y5=>some ⟨x0,(Ty.mk x1 x2 x3 x4 y5)⟩:=(rfl)
instance:fB Assign where
 cells:=bF
 dec:=uW
 bV a:=by simp only[bF,Eg,tQ,bP,Ty.eta]
 aU c a h:=by
  unfold uW at h;split at h
  . simp only[af]at h;obtain⟨y5,zq1,h⟩:=h;cases h;have zq1:=eZ zq1
    subst_vars
    rfl
  . cases h
 aI a:=rfl
 norm a:=by simp only[bF,dB,dL,tu]
instance:Enc Assign:=qF
@[simp] theorem zpk:@fB.cells Assign _=bF:=(rfl)
@[simp] theorem zmD:@fB.dec Assign _=uW:=(rfl)
@[simp] theorem zv1 (a:Assign):enc a=.agg (bF a):=(rfl)
@[simp] theorem zwa {c:List V}:Enc.dec (α:=Assign) (.agg c)=uW c:=(rfl)
@[simp] theorem zr6 (l:List Assign):bQ (l.map bF)=some l:=iA l
@[simp] theorem zqx (l:List Assign):eY (l.map bF)=l.map bF:=fw l
@[simp] theorem Lr (l:List Assign):((l.map bF).all fun e=>e.all V.aI)=true:=fJ l
@[simp] theorem zrX (l:List Assign):enc l=.sl (l.map bF) false:=(rfl)
@[simp] theorem zr3 {es:List (List V)}:Enc.dec (α:=List Assign) (.sl es false)=bQ es:=(rfl)
@[simp] theorem zxm (l:List Assign):sizes 6 (l.map bF)=true:=by rw[fE];intro e he;obtain⟨a,_,rfl⟩:=List.mem_map.1 he;rfl
@[simp] theorem zzU (l:List Assign):dw (l.map bF)=true:=dV Lr
@[simp] theorem zvU (a:Assign):Assign.mk a.id a.type=a:=(rfl)
attribute [simp] Eg bF
structure aT where
 left:Ty
 right:Ty
 deriving DecidableEq
def aF(a:aT):List V:=[.int .i64 a.left.kind,.str a.left.name,.int .i64 a.left.id,.int .i64 a.left.home,.sl (a.left.args.map ax) false,.int .i64 a.right.kind,.str a.right.name,.int .i64 a.right.id,.int .i64 a.right.home,.sl (a.right.args.map ax) false]
def pV(c:List V):Option aT :=
 match c with
 | [.int .i64 x0,.str x1,.int .i64 x2,.int .i64 x3,.sl x4 false,.int .i64 x5,.str x6,.int .i64 x7,.int .i64 x8,.sl x9 false]=>ob (bQ x4) fun y4=>ob (bQ x9) fun y9=>some ⟨(Ty.mk x0 x1 x2 x3 y4),(Ty.mk x5 x6 x7 x8 y9)⟩
 |_=>none
theorem zH{x0:Int}{x1:List Nat}{x2:Int}{x3:Int}{x4:List (List V)}{x5:Int}{x6:List Nat}{x7:Int}{x8:Int}{x9:List (List V)}:pV [.int .i64 x0,.str x1,.int .i64 x2,.int .i64 x3,.sl x4 false,.int .i64 x5,.str x6,.int .i64 x7,.int .i64 x8,.sl x9 false]=ob (bQ x4) fun y4=>ob (bQ x9) fun y9=>some ⟨(Ty.mk x0 x1 x2 x3 y4),(Ty.mk x5 x6 x7 x8 y9)⟩:=(rfl)
instance:fB aT where
 cells:=aF
 dec:=pV
 bV a:=by simp only[aF,zH,tQ,bP,Ty.eta]
 aU c a h:=by
  unfold pV at h;split at h
  . simp only[af]at h;obtain⟨y4,hy4,y9,zCH,h⟩:=h;cases h;have hy4:=eZ hy4;have zCH:=eZ zCH
    subst_vars
    rfl
  . cases h
 aI a:=rfl
 norm a:=by simp only[aF,dB,dL,tu]
instance:Enc aT:=qF
@[simp] theorem zkV:@fB.cells aT _=aF:=(rfl)
@[simp] theorem zaR:@fB.dec aT _=pV:=(rfl)
@[simp] theorem zo6 (a:aT):enc a=.agg (aF a):=(rfl)
@[simp] theorem zo9 {c:List V}:Enc.dec (α:=aT) (.agg c)=pV c:=(rfl)
@[simp] theorem zmz (l:List aT):bQ (l.map aF)=some l:=iA l
@[simp] theorem zmi (l:List aT):eY (l.map aF)=l.map aF:=fw l
@[simp] theorem Gq (l:List aT):((l.map aF).all fun e=>e.all V.aI)=true:=fJ l
@[simp] theorem zmx (l:List aT):enc l=.sl (l.map aF) false:=(rfl)
@[simp] theorem zmy {es:List (List V)}:Enc.dec (α:=List aT) (.sl es false)=bQ es:=(rfl)
@[simp] theorem NA (l:List aT):sizes 10 (l.map aF)=true:=by rw[fE];intro e he;obtain⟨a,_,rfl⟩:=List.mem_map.1 he;rfl
@[simp] theorem zsn (l:List aT):dw (l.map aF)=true:=dV Gq
@[simp] theorem zo4 (a:aT):aT.mk a.left a.right=a:=(rfl)
attribute [simp] zH aF
structure xW where
 a:Ty
 b:Ty
 deriving DecidableEq
def lg(a:xW):List V:=[.int .i64 a.a.kind,.str a.a.name,.int .i64 a.a.id,.int .i64 a.a.home,.sl (a.a.args.map ax) false,.int .i64 a.b.kind,.str a.b.name,.int .i64 a.b.id,.int .i64 a.b.home,.sl (a.b.args.map ax) false]
def BQ(c:List V):Option xW :=
 match c with
 | [.int .i64 x0,.str x1,.int .i64 x2,.int .i64 x3,.sl x4 false,.int .i64 x5,.str x6,.int .i64 x7,.int .i64 x8,.sl x9 false]=>ob (bQ x4) fun y4=>ob (bQ x9) fun y9=>some ⟨(Ty.mk x0 x1 x2 x3 y4),(Ty.mk x5 x6 x7 x8 y9)⟩
 |_=>none
theorem Kr{x0:Int}{x1:List Nat}{x2:Int}{x3:Int}{x4:List (List V)}{x5:Int}{x6:List Nat}{x7:Int}{x8:Int}{x9:List (List V)}:BQ [.int .i64 x0,.str x1,.int .i64 x2,.int .i64 x3,.sl x4 false,.int .i64 x5,.str x6,.int .i64 x7,.int .i64 x8,.sl x9 false]=ob (bQ x4) fun y4=>ob (bQ x9) fun y9=>some ⟨(Ty.mk x0 x1 x2 x3 y4),(Ty.mk x5 x6 x7 x8 y9)⟩:=(rfl)
instance:fB xW where
 cells:=lg
 dec:=BQ
 bV a:=by simp only[lg,Kr,tQ,bP,Ty.eta]
 aU c a h:=by
  unfold BQ at h;split at h
  . simp only[af]at h;obtain⟨y4,hy4,y9,zCH,h⟩:=h;cases h;have hy4:=eZ hy4;have zCH:=eZ zCH
    subst_vars
    rfl
  . cases h
 aI a:=rfl
 norm a:=by simp only[lg,dB,dL,tu]
instance:Enc xW:=qF
@[simp] theorem zwk:@fB.cells xW _=lg:=(rfl)
@[simp] theorem zsf:@fB.dec xW _=BQ:=(rfl)
@[simp] theorem zE1 (a:xW):enc a=.agg (lg a):=(rfl)
@[simp] theorem zFa {c:List V}:Enc.dec (α:=xW) (.agg c)=BQ c:=(rfl)
@[simp] theorem zzd (l:List xW):bQ (l.map lg)=some l:=iA l
@[simp] theorem zyl (l:List xW):eY (l.map lg)=l.map lg:=fw l
@[simp] theorem Re (l:List xW):((l.map lg).all fun e=>e.all V.aI)=true:=fJ l
@[simp] theorem zyZ (l:List xW):enc l=.sl (l.map lg) false:=(rfl)
@[simp] theorem zy8 {es:List (List V)}:Enc.dec (α:=List xW) (.sl es false)=bQ es:=(rfl)
@[simp] theorem zGn (l:List xW):sizes 10 (l.map lg)=true:=by rw[fE];intro e he;obtain⟨a,_,rfl⟩:=List.mem_map.1 he;rfl
@[simp] theorem zI0 (l:List xW):dw (l.map lg)=true:=dV Re
@[simp] theorem zER (a:xW):xW.mk a.a a.b=a:=(rfl)
attribute [simp] Kr lg
structure Tp where
 l:List Int
 i:Int
 deriving DecidableEq
def uT(a:Tp):List V:=[.sl (a.l.map (fun n=>[V.int .i64 n])) false,.int .i64 a.i]
def PM(c:List V):Option Tp :=
 match c with
 | [.sl x0 false,.int .i64 x1]=>ob (bQ x0) fun y0=>some ⟨y0,x1⟩
 |_=>none
theorem Yi{x0:List (List V)}{x1:Int}:PM [.sl x0 false,.int .i64 x1]=ob (bQ x0) fun y0=>some ⟨y0,x1⟩:=(rfl)
instance:fB Tp where
 cells:=uT
 dec:=PM
 bV a:=by simp only[uT,Yi,zkL,bP,Ty.eta]
 aU c a h:=by
  unfold PM at h;split at h
  . simp only[af]at h;obtain⟨y0,hy0,h⟩:=h;cases h;have hy0:=eZ hy0
    subst_vars
    rfl
  . cases h
 aI a:=rfl
 norm a:=by simp only[uT,dB,dL,zcJ]
instance:Enc Tp:=qF
@[simp] theorem zFr:@fB.cells Tp _=uT:=(rfl)
@[simp] theorem zzt:@fB.dec Tp _=PM:=(rfl)
@[simp] theorem zM2 (a:Tp):enc a=.agg (uT a):=(rfl)
@[simp] theorem zM8 {c:List V}:Enc.dec (α:=Tp) (.agg c)=PM c:=(rfl)
@[simp] theorem zIN (l:List Tp):bQ (l.map uT)=some l:=iA l
@[simp] theorem zHg (l:List Tp):eY (l.map uT)=l.map uT:=fw l
@[simp] theorem zcq (l:List Tp):((l.map uT).all fun e=>e.all V.aI)=true:=fJ l
@[simp] theorem zIE (l:List Tp):enc l=.sl (l.map uT) false:=(rfl)
@[simp] theorem zIL {es:List (List V)}:Enc.dec (α:=List Tp) (.sl es false)=bQ es:=(rfl)
@[simp] theorem zN6 (l:List Tp):sizes 2 (l.map uT)=true:=by rw[fE];intro e he;obtain⟨a,_,rfl⟩:=List.mem_map.1 he;rfl
@[simp] theorem zPc (l:List Tp):dw (l.map uT)=true:=dV zcq
@[simp] theorem zM0 (a:Tp):Tp.mk a.l a.i=a:=(rfl)
attribute [simp] Yi uT
end Go.J
/- Functions of typed values. -/
namespace Go.J
open Enc (enc)
section
variable {α β γ δ ε ζ:Type} [Enc α] [Enc β] [Enc γ] [Enc δ] [Enc ε] [Enc ζ]
def sU(b:β)(vs:List V):Option V:=match vs with
 | []=>some (enc b)
 |_=>none
def fO(F:α->Option β)(vs:List V):Option V:=match vs with
 | [x]=>ob (Enc.dec x) fun a=>ob (F a) fun b=>some (enc b)
 |_=>none
def bz(F:α->β->Option γ)(vs:List V):Option V:=match vs with
 | [x,y]=>ob (Enc.dec x) fun a=>ob (Enc.dec y) fun b=>ob (F a b) fun c=>some (enc c)
 |_=>none
def dH(F:α->β->γ->Option δ)(vs:List V):Option V:=match vs with
 | [x,y,z]=>ob (Enc.dec x) fun a=>ob (Enc.dec y) fun b=>ob (Enc.dec z) fun c=>ob (F a b c) fun d=>some (enc d)
 |_=>none
def zBa(F:α->β->γ->δ->Option ε)(vs:List V):Option V:=match vs with
 | [x,y,z,u]=>ob (Enc.dec x) fun a=>ob (Enc.dec y) fun b=>ob (Enc.dec z) fun c=>ob (Enc.dec u) fun d=>ob (F a b c d) fun e=>some (enc e)
 |_=>none
@[simp] theorem zGy {b:β}:sU b []=some (enc b):=(rfl)
@[simp] theorem zGx {F:α->Option β} {x:V}:fO F [x]=ob (Enc.dec x) fun a=>ob (F a) fun b=>some (enc b):=(rfl)
@[simp] theorem zGw {F:α->β->Option γ} {x y:V}:bz F [x,y]=ob (Enc.dec x) fun a=>ob (Enc.dec y) fun b=>ob (F a b) fun c=>some (enc c):=(rfl)
@[simp] theorem zGv {F:α->β->γ->Option δ} {x y z:V}:dH F [x,y,z]=ob (Enc.dec x) fun a=>ob (Enc.dec y) fun b=>ob (Enc.dec z) fun c=>ob (F a b c) fun d=>some (enc d):=(rfl)
@[simp] theorem zGu {F:α->β->γ->δ->Option ε} {x y z u:V}:zBa F [x,y,z,u]=ob (Enc.dec x) fun a=>ob (Enc.dec y) fun b=>ob (Enc.dec z) fun c=>ob (Enc.dec u) fun d=>ob (F a b c d) fun e=>some (enc e):=(rfl)
theorem Y0{b:β}{vs:List V}{v:V}(h:sU b vs=some v):vs=[]/\v=enc b:=by
 grind [sU]
theorem Cz{F:α->Option β}{vs:List V}{v:V}(h:fO F vs=some v):∃ a r,vs=[enc a]/\F a=some r/\v=enc r:=by
 unfold fO at h;split at h
 . simp only[af]at h;obtain⟨a,ha,r,hr,h⟩:=h;cases h;exact⟨a,r,by rw[Enc.aU _ _ ha],hr,rfl⟩
 . cases h
theorem JV{F:α->β->Option γ}{vs:List V}{v:V}(h:bz F vs=some v):∃ a b r,vs=[enc a,enc b]/\F a b=some r/\v=enc r:=by
 unfold bz at h;split at h
 . simp only[af]at h;obtain⟨a,ha,b,hb,r,hr,h⟩:=h;cases h;exact⟨a,b,r,by rw[Enc.aU _ _ ha,Enc.aU _ _ hb],hr,rfl⟩
 . cases h
theorem JU{F:α->β->γ->Option δ}{vs:List V}{v:V}(h:dH F vs=some v):∃ a b c r,vs=[enc a,enc b,enc c]/\F a b c=some r/\v=enc r:=by
 unfold dH at h;split at h
 . simp only[af]at h;obtain⟨a,ha,b,hb,c,hc,r,hr,h⟩:=h;cases h;exact⟨a,b,c,r,by rw[Enc.aU _ _ ha,Enc.aU _ _ hb,Enc.aU _ _ hc],hr,rfl⟩
 . cases h
end
section
variable {ρ:Nat->Value}{E:Env}{f:FuncId}{fn:Func}{sc:SC}{vs:List V}{T:PT V}{r:V}
theorem R3(hρ:Good ρ)(hcon:aZ ρ E)(hP:E.P.follows .mixedOrders=true)(hN:nW E.P)(hf:E.P.funcs[f]?=some fn)(hb:fn.body.bind aB=some sc)(he:iI fn.ntmps vs 0 .leaf=some T)(hp:aR vs=true)
 (h:Wp ρ E 0 fn.ntmps sc T { H:=.leaf,n:=0,log:=[] } (Leaves E.P fn (sH r))) (hs:HS):aA ρ E.P f vs hs r hs :=
 zah hf hb he (zK hρ hcon hP hN h) hp hs
end
section
variable {A:Nat->Bool}{π:Nat->Nat}
@[simp] theorem zHU {k:IntKind} {n:Int}:V.wL A (.int k n)=true:=(rfl)
@[simp] theorem zCB {b:Bool}:V.wL A (.bool b)=true:=(rfl)
@[simp] theorem zHP {s:List Nat}:V.wL A (.str s)=true:=(rfl)
@[simp] theorem zKY {es:List (List V)} {t:Bool}:V.wL A (.sl es t)=true:=(rfl)
@[simp] theorem zCz :V.wL A .snil=true:=(rfl)
@[simp] theorem zuM :V.wL A .nilptr=true:=(rfl)
@[simp] theorem zuN :V.wL A .nilmap=true:=(rfl)
@[simp] theorem zqZ :V.wL A .nilFunc=true:=(rfl)
@[simp] theorem zoB :V.wL A .nilIface=true:=(rfl)
@[simp] theorem zHQ {cs:List V}:V.wL A (.ref cs)=true:=(rfl)
@[simp] theorem zHO {k:Nat}:V.wL A (.sym k)=true:=(rfl)
@[simp] theorem zHR {i g o:Nat}:V.wL A (.ptr i g o)=A i:=(rfl)
@[simp] theorem zHS {i g o n:Nat} {c:Option Nat}:V.wL A (.own i g o n c)=A i:=(rfl)
@[simp] theorem zHT {i:Nat}:V.wL A (.map i)=A i:=(rfl)
@[simp] theorem zHN {i:Nat}:V.wL A (.yld i)=A i:=(rfl)
@[simp] theorem zHL {k:IntKind} {n:Int}:V.o5 A (.int k n)=true:=(rfl)
@[simp] theorem zCy {b:Bool}:V.o5 A (.bool b)=true:=(rfl)
@[simp] theorem zHG {s:List Nat}:V.o5 A (.str s)=true:=(rfl)
@[simp] theorem zKX {es:List (List V)} {t:Bool}:V.o5 A (.sl es t)=true:=(rfl)
@[simp] theorem zCw :V.o5 A .snil=true:=(rfl)
@[simp] theorem zuK :V.o5 A .nilptr=true:=(rfl)
@[simp] theorem zuL :V.o5 A .nilmap=true:=(rfl)
@[simp] theorem zqY :V.o5 A .nilFunc=true:=(rfl)
@[simp] theorem zoA :V.o5 A .nilIface=true:=(rfl)
@[simp] theorem zHH {cs:List V}:V.o5 A (.ref cs)=true:=(rfl)
@[simp] theorem zHF {k:Nat}:V.o5 A (.sym k)=true:=(rfl)
@[simp] theorem zHI {i g o:Nat}:V.o5 A (.ptr i g o)=A i:=(rfl)
@[simp] theorem zHJ {i g o n:Nat} {c:Option Nat}:V.o5 A (.own i g o n c)=A i:=(rfl)
@[simp] theorem zHK {i:Nat}:V.o5 A (.map i)=A i:=(rfl)
@[simp] theorem zHE {i:Nat}:V.o5 A (.yld i)=A i:=(rfl)
@[simp] theorem zHM {l:List V}:V.o5 A (.agg l)=l.all (V.wL A):=(rfl)
@[simp] theorem zCx {i:Nat} {l:List V}:V.o5 A (.func i l)=l.all (V.wL A):=(rfl)
@[simp] theorem zHC {k:IntKind} {n:Int}:V.nk A (.int k n)=true:=(rfl)
@[simp] theorem zCv {b:Bool}:V.nk A (.bool b)=true:=(rfl)
@[simp] theorem zHx {s:List Nat}:V.nk A (.str s)=true:=(rfl)
@[simp] theorem zKW {es:List (List V)} {t:Bool}:V.nk A (.sl es t)=true:=(rfl)
@[simp] theorem zCt :V.nk A .snil=true:=(rfl)
@[simp] theorem zuI :V.nk A .nilptr=true:=(rfl)
@[simp] theorem zuJ :V.nk A .nilmap=true:=(rfl)
@[simp] theorem zqX :V.nk A .nilFunc=true:=(rfl)
@[simp] theorem zoz :V.nk A .nilIface=true:=(rfl)
@[simp] theorem zHy {cs:List V}:V.nk A (.ref cs)=true:=(rfl)
@[simp] theorem zHw {k:Nat}:V.nk A (.sym k)=true:=(rfl)
@[simp] theorem zHz {i g o:Nat}:V.nk A (.ptr i g o)=A i:=(rfl)
@[simp] theorem zHA {i g o n:Nat} {c:Option Nat}:V.nk A (.own i g o n c)=A i:=(rfl)
@[simp] theorem zHB {i:Nat}:V.nk A (.map i)=A i:=(rfl)
@[simp] theorem zHv {i:Nat}:V.nk A (.yld i)=A i:=(rfl)
@[simp] theorem zHD {l:List V}:V.nk A (.agg l)=l.all (V.wL A):=(rfl)
@[simp] theorem zCu {i:Nat} {l:List V}:V.nk A (.func i l)=l.all (V.wL A):=(rfl)
@[simp] theorem zCA {i:Nat}:V.wL A (.func i [])=true:=(rfl)
@[simp] theorem zBC {k:IntKind} {n:Int}:V.jI π (.int k n)=(.int k n):=(rfl)
@[simp] theorem zxM {b:Bool}:V.jI π (.bool b)=(.bool b):=(rfl)
@[simp] theorem zBx {s:List Nat}:V.jI π (.str s)=(.str s):=(rfl)
@[simp] theorem zGO {es:List (List V)} {t:Bool}:V.jI π (.sl es t)=(.sl es t):=(rfl)
@[simp] theorem zxK :V.jI π .snil=.snil:=(rfl)
@[simp] theorem zql :V.jI π .nilptr=.nilptr:=(rfl)
@[simp] theorem zqm :V.jI π .nilmap=.nilmap:=(rfl)
@[simp] theorem znU :V.jI π .nilFunc=.nilFunc:=(rfl)
@[simp] theorem zmc :V.jI π .nilIface=.nilIface:=(rfl)
@[simp] theorem zBy {cs:List V}:V.jI π (.ref cs)=(.ref cs):=(rfl)
@[simp] theorem zBw {k:Nat}:V.jI π (.sym k)=(.sym k):=(rfl)
@[simp] theorem zBz {i g o:Nat}:V.jI π (.ptr i g o)=.ptr (π i) g o:=(rfl)
@[simp] theorem zBA {i g o n:Nat} {c:Option Nat}:V.jI π (.own i g o n c)=.own (π i) g o n c:=(rfl)
@[simp] theorem zBB {i:Nat}:V.jI π (.map i)=.map (π i):=(rfl)
@[simp] theorem zBv {i:Nat}:V.jI π (.yld i)=.yld (π i):=(rfl)
@[simp] theorem zBt {k:IntKind} {n:Int}:V.iy π (.int k n)=(.int k n):=(rfl)
@[simp] theorem zxJ {b:Bool}:V.iy π (.bool b)=(.bool b):=(rfl)
@[simp] theorem zBo {s:List Nat}:V.iy π (.str s)=(.str s):=(rfl)
@[simp] theorem zGN {es:List (List V)} {t:Bool}:V.iy π (.sl es t)=(.sl es t):=(rfl)
@[simp] theorem zxH :V.iy π .snil=.snil:=(rfl)
@[simp] theorem zqj :V.iy π .nilptr=.nilptr:=(rfl)
@[simp] theorem zqk :V.iy π .nilmap=.nilmap:=(rfl)
@[simp] theorem znT :V.iy π .nilFunc=.nilFunc:=(rfl)
@[simp] theorem zmb :V.iy π .nilIface=.nilIface:=(rfl)
@[simp] theorem zBp {cs:List V}:V.iy π (.ref cs)=(.ref cs):=(rfl)
@[simp] theorem zBn {k:Nat}:V.iy π (.sym k)=(.sym k):=(rfl)
@[simp] theorem zBq {i g o:Nat}:V.iy π (.ptr i g o)=.ptr (π i) g o:=(rfl)
@[simp] theorem zBr {i g o n:Nat} {c:Option Nat}:V.iy π (.own i g o n c)=.own (π i) g o n c:=(rfl)
@[simp] theorem zBs {i:Nat}:V.iy π (.map i)=.map (π i):=(rfl)
@[simp] theorem zBm {i:Nat}:V.iy π (.yld i)=.yld (π i):=(rfl)
@[simp] theorem zBu {l:List V}:V.iy π (.agg l)=.agg (l.map (V.jI π)):=(rfl)
@[simp] theorem zxI {i:Nat} {l:List V}:V.iy π (.func i l)=.func i (l.map (V.jI π)):=(rfl)
@[simp] theorem zGL {k:IntKind} {n:Int}:V.ren π (.int k n)=(.int k n):=(rfl)
@[simp] theorem zBl {b:Bool}:V.ren π (.bool b)=(.bool b):=(rfl)
@[simp] theorem zGG {s:List Nat}:V.ren π (.str s)=(.str s):=(rfl)
@[simp] theorem zJ5 {es:List (List V)} {t:Bool}:V.ren π (.sl es t)=(.sl es t):=(rfl)
@[simp] theorem zBj :V.ren π .snil=.snil:=(rfl)
@[simp] theorem ztJ :V.ren π .nilptr=.nilptr:=(rfl)
@[simp] theorem ztK :V.ren π .nilmap=.nilmap:=(rfl)
@[simp] theorem zqi :V.ren π .nilFunc=.nilFunc:=(rfl)
@[simp] theorem znS :V.ren π .nilIface=.nilIface:=(rfl)
@[simp] theorem zGH {cs:List V}:V.ren π (.ref cs)=(.ref cs):=(rfl)
@[simp] theorem zGF {k:Nat}:V.ren π (.sym k)=(.sym k):=(rfl)
@[simp] theorem zGI {i g o:Nat}:V.ren π (.ptr i g o)=.ptr (π i) g o:=(rfl)
@[simp] theorem zGJ {i g o n:Nat} {c:Option Nat}:V.ren π (.own i g o n c)=.own (π i) g o n c:=(rfl)
@[simp] theorem zGK {i:Nat}:V.ren π (.map i)=.map (π i):=(rfl)
@[simp] theorem zGE {i:Nat}:V.ren π (.yld i)=.yld (π i):=(rfl)
@[simp] theorem zGM {l:List V}:V.ren π (.agg l)=.agg (l.map (V.jI π)):=(rfl)
@[simp] theorem zBk {i:Nat} {l:List V}:V.ren π (.func i l)=.func i (l.map (V.jI π)):=(rfl)
@[simp] theorem zxL {i:Nat} {l:List V}:V.jI π (.func i l)=.func i l:=(rfl)
@[simp] theorem zxG {l:List V}:V.ren π (.tuple l)=.tuple (l.map (V.iy π)):=(rfl)
@[simp] theorem zJg {a g:Nat} {es:List (List V)} {x z:Bool}:Obj.in A (.arr a g es x z true)=es.all fun e=>e.all V.aI:=(rfl)
@[simp] theorem zJh {a g:Nat} {es:List (List V)} {x z:Bool}:Obj.in A (.arr a g es x z false)=es.all fun e=>e.all (V.o5 A):=(rfl)
@[simp] theorem zNv {es:List (V×V)}:Obj.in A (.mp es)=true:=(rfl)
@[simp] theorem zFV {a g:Nat} {es:List (List V)} {x z r:Bool}:Obj.ren π (.arr a g es x z r)=.arr a g (es.map fun e=>e.map (V.iy π)) x z r:=(rfl)
@[simp] theorem zJf {es:List (V×V)}:Obj.ren π (.mp es)=.mp es:=(rfl)
@[simp] theorem zII {α:Type} {i:Nat}:dom ([]:List (Nat×α)) i=false:=(rfl)
@[simp] theorem zE8 {α:Type} {p:Nat×α} {l:List (Nat×α)} {i:Nat}:dom (p::l) i=(Nat.beq p.1 i||dom l i):=(rfl)
@[simp] theorem zKo {k:IntKind} {n:Int}:V.aI (.int k n)=true:=(rfl)
@[simp] theorem zHa {b:Bool}:V.aI (.bool b)=true:=(rfl)
@[simp] theorem zKm {s:List Nat}:V.aI (.str s)=true:=(rfl)
@[simp] theorem zOu {es:List (List V)} {t:Bool}:V.aI (.sl es t)=true:=(rfl)
@[simp] theorem zG9 :V.aI .snil=true:=(rfl)
@[simp] theorem zx2 :V.aI .nilptr=true:=(rfl)
@[simp] theorem zx3 :V.aI .nilmap=true:=(rfl)
@[simp] theorem ztX :V.aI .nilFunc=true:=(rfl)
@[simp] theorem zqq :V.aI .nilIface=true:=(rfl)
@[simp] theorem zKn {cs:List V}:V.aI (.ref cs)=true:=(rfl)
@[simp] theorem zKl {k:Nat}:V.aI (.sym k)=true:=(rfl)
end
section
variable {r:V}{hs:HS}
@[simp] theorem zss {b:Bool}:sH r (.bool b) hs=(.bool b=r):=by show ok (some (V.bool b)) _=_;rw[aW];rfl
@[simp] theorem zwV {k:IntKind} {n:Int}:sH r (.int k n) hs=(.int k n=r):=by show ok (some (V.int k n)) _=_;rw[aW];rfl
@[simp] theorem zwT {b:List Nat}:sH r (.str b) hs=(.str b=r):=by show ok (some (V.str b)) _=_;rw[aW];rfl
@[simp] theorem zsr:sH r .snil hs=(.sl [] false=r):=by show ok (some V.snil) _=_;rw[aW];rfl
@[simp] theorem zAh {es:List (List V)} {t:Bool}:sH r (.sl es t) hs=(.sl (eY es) false=r):=by show ok (some (V.sl es t)) _=_;rw[aW];rfl
@[simp] theorem zwU {i g o n:Nat} {c:Option Nat}:sH r (.own i g o n c) hs=ok (ja hs (.own i g o n c)) fun v'=>dL v'=r:=(rfl)
@[simp] theorem zwW {l:List V}:sH r (.agg l) hs=ok (mD hs l) fun l=>.agg (dB l)=r:=by
  show ok (ob (mD hs l) fun l=>some (V.agg l)) _=_;rw[dA];simp only[aW,dL]
@[simp] theorem zpS {l:List V}:sH r (.tuple l) hs=ok (fD hs l) fun l=>.tuple (dB l)=r:=by
  show ok (ob (fD hs l) fun l=>some (V.tuple l)) _=_;rw[dA];simp only[aW,dL]
theorem wrap_i64{n:Int}(h1:-9223372036854775808<=n)(h2:n<=9223372036854775807):IntKind.i64.wrap n=n:=IntWalk.i64_in n ⟨h1,h2⟩
theorem bu{i:Nat}(h:i<9223372036854775807):IntKind.i64.wrap ((i:Int)+1)=((i+1:Nat):Int):=by rw[wrap_i64 (by omega) (by omega)];omega
@[simp] theorem zEU (a b:List Nat):BM a b=decide (a=b):=by
  rw[Bool.eq_iff_iff,decide_eq_true_eq];exact rC
@[simp] theorem zxw {b:Bool}:(V.bool b).CG=true:=(rfl)
@[simp] theorem zBc {k:IntKind} {n:Int}:(V.int k n).CG=true:=(rfl)
@[simp] theorem zBb {b:List Nat}:(V.str b).CG=true:=(rfl)
@[simp] theorem znq {α β:Type} (f:α->β) (l:List α):List.take l.length (l.map f)=l.map f:=List.take_of_length_le (by simp)
@[simp] theorem zxj {α β:Type} (f:α->β) (l:List α) (x:β):List.take (l.length+1) (l.map f++[x])=l.map f++[x]:=List.take_of_length_le (by simp)
@[simp] theorem zxi {α β:Type} (f:α->β) (l:List α) (x y:β):List.take (l.length+1+1) (l.map f++[x,y])=l.map f++[x,y]:=List.take_of_length_le (by simp)
@[simp] theorem zn7 {α:Type} (l:List α) (n:Nat) (m:List α):(gy l n m).length=l.length:=mW l n m
@[simp] theorem zt0 {α β:Type} (f:α->β) (l:List α) (z:β):gy (List.replicate l.length z) 0 (l.map f)=l.map f:=by
  simp[Gy]
@[simp] theorem ztZ {α β:Type} (f:α->β) (l:List α) (z:β):gy (List.replicate (l.length+1) z) 0 (l.map f)=l.map f++[z]:=by
  simp[Gy]
@[simp] theorem zx5 {α β:Type} (f:α->β) (l:List α) (z x:β):gy (l.map f++[z]) l.length [x]=l.map f++[x]:=by
  simp[Gy,List.take_append]
attribute [simp] bytesOf
attribute [simp] dL dB IV zL
@[simp] theorem zui:eY []=[]:=by simp only[eY]
@[simp] theorem zqy {e:List V} {l:List (List V)}:eY (e::l)=dB e::eY l:=by simp only[eY]
@[simp] theorem zuj {e l:List (List V)}:eY (e++l)=eY e++eY l:=by simp only[CW,List.map_append]
@[simp] theorem zqW {A:Nat->Bool} {l:List V}:(V.tuple l).nk A=l.all (V.o5 A):=(rfl)
variable {s:List V->Option V}{vs:List V}{K:V×HS->Prop}
@[simp] theorem zMt:qI (bZ s vs hs) K=qI (gq vs hs) fun q=>aR q.1=true/\qI (s (dB q.1)) fun v=>K (v,q.2):=by
  show ok (bZ s vs hs) K=ok (gq vs hs) fun q=>aR q.1=true/\ok (s (dB q.1)) fun v=>K (v,q.2)
  simp only[bZ,jA,dA,aW]
@[simp] theorem zMv:qI (E9 s vs hs) K=qI (fD hs vs) fun vs'=>aR vs'=true/\qI (s (dB vs')) fun v=>v.CG=true/\K (v,hs):=by
  show ok (E9 s vs hs) K=ok (fD hs vs) fun vs'=>aR vs'=true/\ok (s (dB vs')) fun v=>v.CG=true/\K (v,hs)
  simp only[E9,jA,dA,aW]
@[simp] theorem zl0 {K:PT V->HS->Prop} {Q:Ex->PT V->HS->Prop} {T:PT V} {hs:HS}:Ex.then K Q .normal T hs=K T hs:=(rfl)
@[simp] theorem zst {K:PT V->HS->Prop} {Q:Ex->PT V->HS->Prop} {T:PT V} {hs:HS}:Ex.then K Q .ret T hs=Q .ret T hs:=(rfl)
@[simp] theorem zpT {K:PT V->HS->Prop} {Q:Ex->PT V->HS->Prop} {T:PT V} {hs:HS} {i:Nat}:Ex.then K Q (.exit i) T hs=Q (.exit i) T hs:=(rfl)
@[simp] theorem zaX {i:Nat} {Q:Ex->PT V->HS->Prop} {T:PT V} {hs:HS}:Ex.inBlock i Q .normal T hs=Q .normal T hs:=(rfl)
@[simp] theorem zpU {i:Nat} {Q:Ex->PT V->HS->Prop} {T:PT V} {hs:HS}:Ex.inBlock i Q .ret T hs=Q .ret T hs:=(rfl)
@[simp] theorem zmM {i j:Nat} {Q:Ex->PT V->HS->Prop} {T:PT V} {hs:HS}:Ex.inBlock i Q (.exit j) T hs=if j=i then Q .normal T hs else Q (.exit j) T hs:=(rfl)
end
end Go.J
