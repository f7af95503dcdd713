import Derived.Test.YtpcmebclpindjaaGreatJF
import Derived.LoopNIn
import Derived.Test.YtpcmebclpindjaaGreatJH
import Derived.IntWalk
set_option linter.all false
noncomputable section
/- Runs of an activation with a heap of its own: what does not matter any more may be left out,and objects may be numbered anew. -/
namespace Go.J
def V.ren1(π:Nat->Nat):V->V
 |.ptr id g off=>.ptr (π id) g off
 |.own id g off len cap=>.own (π id) g off len cap
 |.map id=>.map (π id)
 |.yld id=>.yld (π id)
 |v=>v
def V.ren2(π:Nat->Nat):V->V
 |.agg cs=>.agg (cs.map (V.ren1 π))
 |.func f cs=>.func f (cs.map (V.ren1 π))
 |.iface t v=>.iface t (v.ren1 π)
 |v=>v.ren1 π
def V.ren(π:Nat->Nat):V->V
 |.tuple cs=>.tuple (cs.map (V.ren2 π))
 |v=>v.ren2 π
def V.in1(A:Nat->Bool):V->Bool
 |.ptr id _ _=>A id
 |.own id _ _ _ _=>A id
 |.map id=>A id
 |.yld id=>A id
 |v=>v.pure2
def V.in2(A:Nat->Bool):V->Bool
 |.agg cs=>cs.all (V.in1 A)
 |.func _ cs=>cs.all (V.in1 A)
 |.iface _ v=>v.in1 A
 |v=>v.in1 A
def V.in3(A:Nat->Bool):V->Bool
 |.tuple cs=>cs.all (V.in2 A)
 |v=>v.in2 A
def Obj.ren(π:Nat->Nat):Obj->Obj
 |.arr size gen es ex fz row=>.arr size gen (es.map fun e=>e.map (V.ren2 π)) ex fz row
 |o=>o
def Obj.in(A:Nat->Bool):Obj->Bool
 |.arr _ _ es _ _ row=>es.all fun e=>e.all fun v=>if row then v.pure2 else v.in2 A
 |.mp _=>true
 |.lp _ _ _ _ _ _=>false
section
variable {ρ:Nat->Value}{P:Program}{w w':World}{F F':Nat->Prop}{μ μ':Nat->Nat->Option MI}{hs hs':HS}{π:Nat->Nat}{A:Nat->Bool}
theorem V.ren2_pure{v:V}(h:v.pure2=true):v.ren2 π=v:=by
 cases v with
 | func f cs=>cases cs with
   |nil=>rfl
   |cons _ _=>cases h
 | iface t v =>
   replace h:v.pure1=true:=h;cases v<;>first|rfl|cases h
 |agg _=>cases h
 |_=>first|rfl|cases h
theorem Rep.anew1{v:V}{x:Value}(h:Rep ρ w F μ (v.ren1 π) x)(hA:v.in1 A=true)(hμ:∀ id,A id=true->∀ g m,μ (π id) g=some m->μ' id g=some m):Rep ρ w F μ' v x:=by
 cases v with
 | ptr id g off =>
   obtain⟨m,h1,rfl⟩:=Rep.ptr_inv ρ h;exact .ptr id g off m (hμ id hA g m h1)
 | own id g off len cap =>
   obtain⟨m,c,h1,rfl,h2,h3,h4,h5⟩:=Rep.own_inv ρ h;exact .own id g off len cap c m (hμ id hA g m h1) h2 h3 h4 h5
 | map id =>
   obtain⟨m,h1,rfl⟩:=Rep.map_inv ρ h;exact .map id m (hμ id hA 0 m h1)
 | yld id =>
   obtain⟨m,h1,rfl⟩:=Rep.yld_inv ρ h;exact .yld id m (hμ id hA 0 m h1)
 |_=>exact .pure (Rep.pure2 ρ h hA)
theorem Rep.anew2{v:V}{x:Value}(h:Rep ρ w F μ (v.ren2 π) x)(hA:v.in2 A=true)(hμ:∀ id,A id=true->∀ g m,μ (π id) g=some m->μ' id g=some m):Rep ρ w F μ' v x:=by
 cases v with
 | agg cs =>
   obtain⟨ys,rfl,h1,h2⟩:=Rep.agg_inv ρ h;replace hA:cs.all (V.in1 A)=true:=hA;rw[List.all_eq_true]at hA;refine .agg cs ys (by simpa using h1) fun i v hi=>?_
   exact(h2 i (v.ren1 π) (by simp[hi])).anew1 (hA v (List.mem_of_getElem? hi)) hμ
 | func f cs =>
   obtain⟨ys,rfl,h1,h2⟩:=Rep.func_inv ρ h;replace hA:cs.all (V.in1 A)=true:=hA;rw[List.all_eq_true]at hA;refine .func f cs ys (by simpa using h1) fun i v hi=>?_
   exact(h2 i (v.ren1 π) (by simp[hi])).anew1 (hA v (List.mem_of_getElem? hi)) hμ
 | iface t v =>
   obtain⟨y,rfl,hy⟩:=Rep.iface_inv ρ h;exact .iface t v y (hy.anew1 hA hμ)
 |_=>exact Rep.anew1 (π:=π) h hA hμ
theorem Rep.anew{v:V}{x:Value}(h:Rep ρ w F μ (v.ren π) x)(hA:v.in3 A=true)(hμ:∀ id,A id=true->∀ g m,μ (π id) g=some m->μ' id g=some m):Rep ρ w F μ' v x:=by
 cases v with
 | tuple cs =>
   obtain⟨ys,rfl,h1,h2⟩:=Rep.tuple_inv ρ h;replace hA:cs.all (V.in2 A)=true:=hA;rw[List.all_eq_true]at hA;refine .tuple cs ys (by simpa using h1) fun i v hi=>?_
   exact(h2 i (v.ren2 π) (by simp[hi])).anew2 (hA v (List.mem_of_getElem? hi)) hμ
 |_=>exact Rep.anew2 (π:=π) h hA hμ
theorem Rep.back1{v:V}{x:Value}(h:Rep ρ w F μ v x)(hA:v.in1 A=true)(hμ:∀ id,A id=true->∀ g m,μ id g=some m->μ' (π id) g=some m):Rep ρ w F μ' (v.ren1 π) x:=by
 cases v with
 | ptr id g off =>
   obtain⟨m,h1,rfl⟩:=Rep.ptr_inv ρ h;exact .ptr _ g off m (hμ id hA g m h1)
 | own id g off len cap =>
   obtain⟨m,c,h1,rfl,h2,h3,h4,h5⟩:=Rep.own_inv ρ h;exact .own _ g off len cap c m (hμ id hA g m h1) h2 h3 h4 h5
 | map id =>
   obtain⟨m,h1,rfl⟩:=Rep.map_inv ρ h;exact .map _ m (hμ id hA 0 m h1)
 | yld id =>
   obtain⟨m,h1,rfl⟩:=Rep.yld_inv ρ h;exact .yld _ m (hμ id hA 0 m h1)
 |_=>exact .pure (Rep.pure2 ρ h hA)
theorem Rep.back2{v:V}{x:Value}(h:Rep ρ w F μ v x)(hA:v.in2 A=true)(hμ:∀ id,A id=true->∀ g m,μ id g=some m->μ' (π id) g=some m):Rep ρ w F μ' (v.ren2 π) x:=by
 cases v with
 | agg cs =>
   obtain⟨ys,rfl,h1,h2⟩:=Rep.agg_inv ρ h;replace hA:cs.all (V.in1 A)=true:=hA;rw[List.all_eq_true]at hA;refine .agg _ ys (by simpa using h1) fun i v hi=>?_
   rw[List.getElem?_map,Option.map_eq_some_iff]at hi;obtain⟨u,hu,rfl⟩:=hi;exact(h2 i u hu).back1 (hA u (List.mem_of_getElem? hu)) hμ
 | func f cs =>
   obtain⟨ys,rfl,h1,h2⟩:=Rep.func_inv ρ h;replace hA:cs.all (V.in1 A)=true:=hA;rw[List.all_eq_true]at hA;refine .func f _ ys (by simpa using h1) fun i v hi=>?_
   rw[List.getElem?_map,Option.map_eq_some_iff]at hi;obtain⟨u,hu,rfl⟩:=hi;exact(h2 i u hu).back1 (hA u (List.mem_of_getElem? hu)) hμ
 | iface t v =>
   obtain⟨y,rfl,hy⟩:=Rep.iface_inv ρ h;exact .iface t _ y (hy.back1 hA hμ)
 |_=>exact Rep.back1 (π:=π) h hA hμ
theorem Rep.back{v:V}{x:Value}(h:Rep ρ w F μ v x)(hA:v.in3 A=true)(hμ:∀ id,A id=true->∀ g m,μ id g=some m->μ' (π id) g=some m):Rep ρ w F μ' (v.ren π) x:=by
 cases v with
 | tuple cs =>
   obtain⟨ys,rfl,h1,h2⟩:=Rep.tuple_inv ρ h;replace hA:cs.all (V.in2 A)=true:=hA;rw[List.all_eq_true]at hA;refine .tuple _ ys (by simpa using h1) fun i v hi=>?_
   rw[List.getElem?_map,Option.map_eq_some_iff]at hi;obtain⟨u,hu,rfl⟩:=hi;exact(h2 i u hu).back2 (hA u (List.mem_of_getElem? hu)) hμ
 |_=>exact Rep.back2 (π:=π) h hA hμ
theorem Obj.ren_gen(o:Obj):(o.ren π).gen=o.gen:=by cases o<;>rfl
theorem Obj.ren_fz(o:Obj):(o.ren π).fz=o.fz:=by cases o<;>rfl
theorem ORel.anew {id:Nat} {o:Obj} (h:ORel ρ w F μ P (π id) (o.ren π)) (hin:o.in A=true) (hg:∀ g m,μ' id g=some m->μ (π id) g=some m)
 (hμ:∀ id,A id=true->∀ g m,μ (π id) g=some m->μ' id g=some m):ORel ρ w F μ' P id o:=by
 cases o with
 | arr size gen es exact fz row =>
   intro m hm;have a:=h m (hg _ _ hm);replace hin:(es.all fun e=>e.all fun v=>if row then v.pure2 else v.in2 A)=true:=hin;rw[List.all_eq_true]at hin;obtain⟨cells,el,c1,c2,c3,c4,c5⟩:=a.cells;refine⟨a.hsize,fun e he=>?_,⟨cells,el,c1,c2,by simpa using c3,by simpa using c4,fun k e j v he hv=>?_⟩,a.hf,a.hn⟩
   . have:=a.hlen (e.map (V.ren2 π)) (List.mem_map.2 ⟨e,he,rfl⟩);simpa using this
   . have hin':=hin e (List.mem_of_getElem? he);rw[List.all_eq_true]at hin';have hv':=hin' v (List.mem_of_getElem? hv);obtain⟨y,y1,y2,y3⟩:=c5 k (e.map (V.ren2 π)) j (v.ren2 π) (by simp[he]) (by simp[hv])
     cases row with
     | true =>
       replace hv':v.pure2=true:=hv';rw[V.ren2_pure hv']at y3;exact⟨y,y1,.pure (y3 rfl),y3⟩
     | false =>
       replace hv':v.in2 A=true:=hv';exact⟨y,y1,y2.anew2 hv' hμ,fun h=>by cases h⟩
 |mp es=>exact fun m hm=>h m (hg _ _ hm)
 |lp a b c d e f=>cases hin
theorem ORel.back {id:Nat} {o:Obj} (h:ORel ρ w F μ P id o) (hin:o.in A=true) (hg:∀ g m,μ' (π id) g=some m->μ id g=some m)
 (hμ:∀ id,A id=true->∀ g m,μ id g=some m->μ' (π id) g=some m):ORel ρ w F μ' P (π id) (o.ren π):=by
 cases o with
 | arr size gen es exact fz row =>
   intro m hm;have a:=h m (hg _ _ hm);replace hin:(es.all fun e=>e.all fun v=>if row then v.pure2 else v.in2 A)=true:=hin;rw[List.all_eq_true]at hin;obtain⟨cells,el,c1,c2,c3,c4,c5⟩:=a.cells;refine⟨a.hsize,fun e he=>?_,⟨cells,el,c1,c2,by simpa using c3,by simpa using c4,fun k e j v he hv=>?_⟩,a.hf,a.hn⟩
   . obtain⟨e0,h0,rfl⟩:=List.mem_map.1 he;simpa using a.hlen e0 h0
   . rw[List.getElem?_map,Option.map_eq_some_iff]at he;obtain⟨e0,he0,rfl⟩:=he;rw[List.getElem?_map,Option.map_eq_some_iff]at hv;obtain⟨v0,hv0,rfl⟩:=hv;have hin':=hin e0 (List.mem_of_getElem? he0);rw[List.all_eq_true]at hin';have hv':=hin' v0 (List.mem_of_getElem? hv0);obtain⟨y,y1,y2,y3⟩:=c5 k e0 j v0 he0 hv0
     cases row with
     | true =>
       replace hv':v0.pure2=true:=hv';rw[V.ren2_pure hv'];exact⟨y,y1,.pure (y3 rfl),y3⟩
     | false =>
       replace hv':v0.in2 A=true:=hv';exact⟨y,y1,y2.back2 hv' hμ,fun h=>by cases h⟩
 |mp es=>exact fun m hm=>h m (hg _ _ hm)
 |lp a b c d e f=>cases hin
end
mutual
def zU:V->V
 |.snil=>.sl [] false
 |.sl es _=>.sl (zL es) false
 |.ref cs=>.ref (zO cs)
 |.agg cs=>.agg (zO cs)
 |.tuple cs=>.tuple (zO cs)
 |.iface t v=>.iface t (zU v)
 |v=>v
def zO:List V->List V
 | []=>[]
 |v::l=>zU v::zO l
def zL:List (List V)->List (List V)
 | []=>[]
 |v::l=>zO v::zL l
end
theorem zam:∀ l,zO l=l.map zU:=by
 intro l
 induction l with
 |nil=>simp[zO]
 |cons v l ih=>simp[zO,ih]
theorem zfD:∀ l,zL l=l.map zO:=by
 intro l
 induction l with
 |nil=>simp[zL]
 |cons v l ih=>simp[zL,ih]
section
variable {ρ:Nat->Value}{P:Program}{w:World}{F:Nat->Prop}
theorem PRep.norm{v:V}{x:Value}(h:PRep ρ w F v x):PRep ρ w F (zU v) x:=by
 induction h with
 |bool b=>exact .bool b
 |int k n=>exact .int k n
 |str s=>exact .str s
 |nilptr=>exact .nilptr
 |snil=>exact .slE none 0 false (fun h=>by cases h)
 |nilmap=>exact .nilmap
 |nilFunc=>exact .nilFunc
 |nilIface=>exact .nilIface
 |sym k=>exact .sym k
 |func f=>exact .func f
 |iface t v y _ ih=>exact .iface t _ y ih
 | ref cs b off ys hb hc _ ih =>
   show PRep ρ w F (.ref (zO cs)) _;rw[zam];refine .ref _ b off ys hb (fun i v hi=>?_) (fun i v hi=>?_)
   . rw[List.getElem?_map,Option.map_eq_some_iff]at hi;obtain⟨u,hu,rfl⟩:=hi;exact hc i u hu
   . rw[List.getElem?_map,Option.map_eq_some_iff]at hi;obtain⟨u,hu,rfl⟩:=hi;exact ih i u hu
 |slE a c t h=>exact .slE a c false (fun h=>by cases h)
 | slC es b off size c t ys hb hl hc _ h1 h2 ih =>
   show PRep ρ w F (.sl (zL es) false) _;rw[zfD];have hlen:(es.map zO).length=es.length:=List.length_map ..;rw[<- hlen]
   have hmap:∀ (i:Nat) (e:List V),(es.map zO)[i]?=some e->∃ e0:List V,es[i]?=some e0/\e=e0.map zU:=by
    intro i e hi;rw[List.getElem?_map,Option.map_eq_some_iff]at hi;obtain⟨e0,h0,rfl⟩:=hi;exact⟨e0,h0,zam _⟩
   refine .slC _ b off size c false ys hb (fun e he=>?_) (fun i e j v hi hj=>?_) (fun i e j v hi hj=>?_) (by rw[hlen];exact h1) (fun h=>by cases h)
   . obtain⟨e0,h0,rfl⟩:=List.mem_map.1 he;rw[zam,List.length_map];exact hl e0 h0
   . obtain⟨e0,h0,rfl⟩:=hmap i e hi;rw[List.getElem?_map,Option.map_eq_some_iff]at hj;obtain⟨u,hu,rfl⟩:=hj;exact hc i e0 j u h0 hu
   . obtain⟨e0,h0,rfl⟩:=hmap i e hi;rw[List.getElem?_map,Option.map_eq_some_iff]at hj;obtain⟨u,hu,rfl⟩:=hj;exact ih i e0 j u h0 hu
 | agg cs ys hs _ ih =>
   show PRep ρ w F (.agg (zO cs)) _;rw[zam];refine .agg _ ys (by simpa using hs) fun i v hi=>?_
   rw[List.getElem?_map,Option.map_eq_some_iff]at hi;obtain⟨u,hu,rfl⟩:=hi;exact ih i u hu
 | tuple cs ys hs _ ih =>
   show PRep ρ w F (.tuple (zO cs)) _;rw[zam];refine .tuple _ ys (by simpa using hs) fun i v hi=>?_
   rw[List.getElem?_map,Option.map_eq_some_iff]at hi;obtain⟨u,hu,rfl⟩:=hi;exact ih i u hu
end
section
variable {ρ:Nat->Value}{P:Program}{w w':World}{F F':Nat->Prop}{μ μ':Nat->Nat->Option MI}
theorem Rep.norm{v:V}{x:Value}(h:Rep ρ w F μ v x):Rep ρ w F μ (zU v) x:=by
 induction h with
 |pure h=>exact .pure h.norm
 |ptr id g off m hm=>simpa [zU]using Rep.ptr id g off m hm
 |own id g off len cap c m hm h1 h2 h3 h4=>simpa [zU]using Rep.own id g off len cap c m hm h1 h2 h3 h4
 |map id m hm=>simpa [zU]using Rep.map id m hm
 |yld id m hm=>simpa [zU]using Rep.yld id m hm
 |func f cs ys h1 h2 _=>simpa [zU]using Rep.func f cs ys h1 h2
 |iface t v y _ ih=>simpa [zU]using Rep.iface t _ y ih
 | agg cs ys h1 _ ih =>
   simp only[zU,zam];refine .agg _ ys (by simpa using h1) fun i v hi=>?_
   rw[List.getElem?_map,Option.map_eq_some_iff]at hi;obtain⟨u,hu,rfl⟩:=hi;exact ih i u hu
 | tuple cs ys h1 _ ih =>
   simp only[zU,zam];refine .tuple _ ys (by simpa using h1) fun i v hi=>?_
   rw[List.getElem?_map,Option.map_eq_some_iff]at hi;obtain⟨u,hu,rfl⟩:=hi;exact ih i u hu
def zqf:Obj->Obj
 |.arr s g es x z r=>.arr s g (es.map zO) x z r
 |o=>o
theorem zmM(o:Obj):(zqf o).gen=o.gen:=by cases o<;>rfl
theorem zqe(o:Obj):(zqf o).fz=o.fz:=by cases o<;>rfl
theorem ORel.norm{id:Nat}{o:Obj}(h:ORel ρ w F μ P id o):ORel ρ w F μ P id (zqf o):=by
 cases o with
 | arr size gen es exact fz row =>
   intro m hm;have a:=h m hm;obtain⟨cells,el,c1,c2,c3,c4,c5⟩:=a.cells;refine⟨a.hsize,fun e he=>?_,⟨cells,el,c1,c2,by simpa using c3,by simpa using c4,fun k e j v he hv=>?_⟩,a.hf,a.hn⟩
   . obtain⟨e0,h0,rfl⟩:=List.mem_map.1 he;rw[zam,List.length_map];exact a.hlen e0 h0
   . rw[List.getElem?_map,Option.map_eq_some_iff]at he;obtain⟨e0,he0,rfl⟩:=he;rw[zam,List.getElem?_map,Option.map_eq_some_iff]at hv;obtain⟨v0,hv0,rfl⟩:=hv;obtain⟨y,y1,y2,y3⟩:=c5 k e0 j v0 he0 hv0;exact⟨y,y1,y2.norm,fun hr=>(y3 hr).norm⟩
 |mp es=>exact h
 |lp a b c d e f=>exact h
end
section
variable {ρ:Nat->Value}{P:Program}{w w':World}{F F':Nat->Prop}{μ μ':Nat->Nat->Option MI}{hs hs':HS}{π:Nat->Nat}{A:Nat->Bool}
structure Start where
 O:Nat->Prop
 w:World
 F:Nat->Prop
 k:Nat
 μ:Nat->Nat->Option MI
structure Loc(s:Start)(w:World)(F:Nat->Prop)(μ:Nat->Nat->Option MI)(hs:HS):Prop where
 io:Io s.w w
 size:s.w.heap.size<=w.heap.size
 keep:∀ b,b<s.w.heap.size->¬ s.O b->w.heap[b]?=s.w.heap[b]?
 fm:∀ b,s.F b->F b
 fnew:∀ b,F b->s.F b\/s.w.heap.size<=b\/s.O b
 mm:∀ id g m,id<s.k->s.μ id g=some m->μ id g=some m
 own:∀ b,zcY hs μ b->s.O b\/s.w.heap.size<=b
 pres:∀ id,id<s.k->hs.H.get id≠none
 dm:∀ id,id<s.k->(∀ g,s.μ id g=none)->∀ g,μ id g=none
 mn:∀ id g m,μ id g=some m->s.w.heap.size<=m.b\/∃ i j m0,s.μ i j=some m0/\m0.b=m.b
theorem Loc.step{s:Start}(h:Loc s w F μ hs)(f:Fr w F μ hs w' F' μ' hs'):Loc s w' F' μ' hs' where
 io:=h.io.trans f.io
 size:=Nat.le_trans h.size f.size
 keep b hb hn:=by
  rw[f.keep b (Nat.lt_of_lt_of_le hb h.size) (fun ho=>(h.own b ho).elim hn (fun hge=>by omega)),h.keep b hb hn]
 fm b hb:=f.fm b (h.fm b hb)
 fnew b hb:=by
  rcases f.fnew b hb with h1|h1|h1
  . exact h.fnew b h1
  . exact .inr (.inl (Nat.le_trans h.size h1))
  . rcases h.own b h1 with h2|h2
    . exact .inr (.inr h2)
    . exact .inr (.inl h2)
 mm id g m hk hm:=f.mm _ _ _ (h.mm _ _ _ hk hm)
 own b hb:=by
  rcases f.own b hb with h1|h1
  . exact h.own b h1
  . exact .inr (Nat.le_trans h.size h1)
 pres id hk:=f.hm id (h.pres id hk)
 dm id hk hg:=f.dm id (h.pres id hk) (h.dm id hk hg)
 mn id g m hm:=by
  rcases f.mn id g m hm with h1|⟨i,j,m0,h1,h2⟩
  . exact .inl (Nat.le_trans h.size h1)
  . rcases h.mn i j m0 h1 with h3|⟨i',j',m1,h3,h4⟩
    . exact .inl (h2 ▸ h3)
    . exact .inr ⟨i',j',m1,h3,h4.trans h2⟩
def Dom0(μ:Nat->Nat->Option MI)(hs:HS):Prop:=∀ id g,μ id g≠none->hs.H.get id≠none
theorem Dom0.dom(h:Dom0 μ hs):Dom (fun _=>False) μ hs:=⟨fun id g hg=>.inl (h id g hg),fun _ _ h=>h⟩
theorem Dom.dom0(h:Dom (fun _=>False) μ hs):Dom0 μ hs:=fun id g hg=>(h.1 id g hg).elim (fun h=>h) False.elim
def Lt (ρ:Nat->Value) (P:Program) (k:Nat) (rd:Bool) (sz:Nat) (c:Code) (T:PT V) (hs:HS) (Q:Ex->PT V->HS->Prop):Prop :=
 ∀ (s:Start) (N:NB) (r:Option Nat) (w:World) (F:Nat->Prop) (μ:Nat->Nat->Option MI) (a:Act) (K:Exit->Act->World->Prop),s.k=k->((rd=false->r=none)/\N.plain=false)->Loc s w F μ hs->R ρ w F μ P hs->Dom0 μ hs->zaY ρ w F μ T a.tmps->sz<=a.tmps.size->Marks N w a.defers ->
   (∀ ex T' hs' a' w' F' μ',Q ex T' hs'->Loc s w' F' μ' hs'->R ρ w' F' μ' P hs'->Dom0 μ' hs'->zaY ρ w' F' μ' T' a'.tmps->a'.tmps.size=a.tmps.size->Marks N w' a'.defers->K (zzo ex) a' w')->c.wpIn (Wr r) 0 P K a w
variable {k:Nat}{rd:Bool}{sz:Nat}{c:Code}{T:PT V}{Q Q':Ex->PT V->HS->Prop}
theorem zoP(h:Lt ρ P k rd sz c T hs Q)(hq:∀ e T hs,Q e T hs->Q' e T hs):Lt ρ P k rd sz c T hs Q' :=
 fun s N r w F μ a K hk hr hL hR hD hT hsz hM hK=>h s N r w F μ a K hk hr hL hR hD hT hsz hM fun ex T' hs' a' w' F' μ' q=>hK ex T' hs' a' w' F' μ' (hq _ _ _ q)
theorem z3F(hρ:Good ρ){E:Env}(hcon:ConsOk ρ E)(hP:E.P.follows .mixedOrders=true)(hN:zcZ E.P){n:Nat}{ex:Ex}{T':PT V}(h:(evJ E n).code rd sz c T hs=some (ex,T',hs'))(hq:Q ex T' hs'):Lt ρ E.P k rd sz c T hs Q:=by
 intro s N r w F μ a K hk hr hL hR hD hT hsz hM hK;have hev:=zhc hρ hcon hP hN n;refine hev.code h N (fun _=>False) r w F μ a K hr hR hD.dom (Off.no _) hT hsz hM ?_;intro a' w' F' μ' hR' hT' hsz' hM' hf';exact hK ex T' hs' a' w' F' μ' hq (hL.step hf') hR' (hf'.dom (hev.kept.code h).le hD.dom).dom0 hT' hsz' hM'
theorem zxP(h:Q .normal T hs):Lt ρ P k rd sz .skip T hs Q :=
 fun _ _ _ w F μ a _ _ _ hL hR hD hT _ hM hK=>wpIn_skip (hK _ _ _ a w F μ h hL hR hD hT rfl hM)
theorem zxT{i:Nat}(h:Q (.exit i) T hs):Lt ρ P k rd sz (.exit i) T hs Q :=
 fun _ _ _ w F μ a _ _ _ hL hR hD hT _ hM hK=>wpIn_exit (hK _ _ _ a w F μ h hL hR hD hT rfl hM)
theorem z3G(h:Q .ret T hs):Lt ρ P k rd sz .ret T hs Q :=
 fun _ _ _ w F μ a _ _ _ hL hR hD hT _ hM hK=>wpIn_ret (hK _ _ _ a w F μ h hL hR hD hT rfl hM)
theorem z3E{x y:Code}(h:Lt ρ P k rd sz x T hs (Ex.then (fun T hs=>Lt ρ P k rd sz y T hs Q) Q)):Lt ρ P k rd sz (.seq x y) T hs Q:=by
 intro s N r w F μ a K hk hr hL hR hD hT hsz hM hK;refine wpIn_seq (h s N r w F μ a _ hk hr hL hR hD hT hsz hM ?_);intro ex T1 hs1 a1 w1 F1 μ1 q hL1 hR1 hD1 hT1 hsz1 hM1
 cases ex with
 | normal =>
   refine q s N r w1 F1 μ1 a1 K hk hr hL1 hR1 hD1 hT1 (by rw[hsz1];exact hsz) hM1 ?_;intro ex T2 hs2 a2 w2 F2 μ2 q2 hL2 hR2 hD2 hT2 hsz2 hM2;exact hK ex T2 hs2 a2 w2 F2 μ2 q2 hL2 hR2 hD2 hT2 (by rw[hsz2,hsz1]) hM2
 |ret=>exact hK .ret T1 hs1 a1 w1 F1 μ1 q hL1 hR1 hD1 hT1 hsz1 hM1
 |exit i=>exact hK (.exit i) T1 hs1 a1 w1 F1 μ1 q hL1 hR1 hD1 hT1 hsz1 hM1
theorem zxU{q:Operand}{x y:Code}{t:Bool}(hq:zi T q=some (.bool t))(h:if t=true then Lt ρ P k rd sz x T hs Q else Lt ρ P k rd sz y T hs Q):Lt ρ P k rd sz (.cond q x y) T hs Q:=by
 intro s N r w F μ a K hk hr hL hR hD hT hsz hM hK;refine wpIn_cond (zm (a:=a) hT hq).bool_inv ?_
 cases t with
 |true=>exact h s N r w F μ a K hk hr hL hR hD hT hsz hM hK
 |false=>exact h s N r w F μ a K hk hr hL hR hD hT hsz hM hK
theorem zrc{i:Nat}{x:Code}(h:Lt ρ P k rd sz x T hs (Ex.inBlock i Q)):Lt ρ P k rd sz (.block i x) T hs Q:=by
 intro s N r w F μ a K hk hr hL hR hD hT hsz hM hK;refine wpIn_block (h s N r w F μ a _ hk hr hL hR hD hT hsz hM ?_);intro ex T1 hs1 a1 w1 F1 μ1 q hL1 hR1 hD1 hT1 hsz1 hM1
 cases ex with
 |normal=>exact hK .normal T1 hs1 a1 w1 F1 μ1 q hL1 hR1 hD1 hT1 hsz1 hM1
 |ret=>exact hK .ret T1 hs1 a1 w1 F1 μ1 q hL1 hR1 hD1 hT1 hsz1 hM1
 | exit j =>
   show (if j=i then K .normal a1 w1 else K (.exit j) a1 w1);replace q:(if j=i then Q .normal T1 hs1 else Q (.exit j) T1 hs1):=q;split
   . rename_i e;rw[if_pos e]at q;exact hK .normal T1 hs1 a1 w1 F1 μ1 q hL1 hR1 hD1 hT1 hsz1 hM1
   . rename_i e;rw[if_neg e]at q;exact hK (.exit j) T1 hs1 a1 w1 F1 μ1 q hL1 hR1 hD1 hT1 hsz1 hM1
def LtN(ρ:Nat->Value)(P:Program)(k:Nat)(rd:Bool)(sz:Nat)(c:Code)(Q:Ex->PT V->HS->Prop):Nat->PT V->HS->Prop
 | 0,_,_=>False
 |n+1,T,hs=>Lt ρ P k rd sz c T hs (Ex.then (LtN ρ P k rd sz c Q n) Q)
theorem zxR{n:Nat}(h:LtN ρ P k rd sz c Q n T hs):Lt ρ P k rd sz (.loop c) T hs Q:=by
 intro s N r w F μ a K hk hr hL hR hD hT hsz hM hK;refine wpIn_loop_rounds n ?_
 induction n generalizing T hs w F μ a with
 |zero=>exact h.elim
 | succ n ih =>
   refine h s N r w F μ a _ hk hr hL hR hD hT hsz hM ?_;intro ex T1 hs1 a1 w1 F1 μ1 q hL1 hR1 hD1 hT1 hsz1 hM1
   cases ex with
   | normal =>
     refine ih q w1 F1 μ1 a1 hL1 hR1 hD1 hT1 (by rw[hsz1];exact hsz) hM1 ?_;intro ex T2 hs2 a2 w2 F2 μ2 q2 hL2 hR2 hD2 hT2 hsz2 hM2;exact hK ex T2 hs2 a2 w2 F2 μ2 q2 hL2 hR2 hD2 hT2 (by rw[hsz2,hsz1]) hM2
   |ret=>exact hK .ret T1 hs1 a1 w1 F1 μ1 q hL1 hR1 hD1 hT1 hsz1 hM1
   |exit i=>exact hK (.exit i) T1 hs1 a1 w1 F1 μ1 q hL1 hR1 hD1 hT1 hsz1 hM1
structure Less(k:Nat)(T:PT V)(hs:HS)(T2:PT V)(hs2:HS):Prop where
 ex:∃ (π:Nat->Nat) (A:Nat->Bool),(∀ id,A id=true↔hs2.H.get id≠none)/\(∀ t v,T2.get t=some v->v.in3 A=true/\∃ u,T.get t=some u/\(u=v.ren π\/zU u=v.ren π)) /\
  (∀ id o,hs2.H.get id=some o->o.in A=true/\∃ q,hs.H.get (π id)=some q/\(q=o.ren π\/zqf q=o.ren π))/\(∀ i j,A i=true->A j=true->π i=π j->i=j)/\(∀ id,id<k->π id=id/\A id=true)
theorem Less.state {s:Start} {T2:PT V} {hs2:HS} {tm:Array Value} (h:Less s.k T hs T2 hs2) (hL:Loc s w F μ hs) (hR:R ρ w F μ P hs) (hT:zaY ρ w F μ T tm) :
 ∃ μ2,Loc s w F μ2 hs2/\R ρ w F μ2 P hs2/\Dom0 μ2 hs2/\zaY ρ w F μ2 T2 tm:=by
 obtain⟨π,A,hA,h1,h2',h3,h4⟩:=h.ex
 have h2:∀ id o,hs2.H.get id=some o->o.in A=true/\∃ q,hs.H.get (π id)=some q/\q.gen=(o.ren π).gen/\q.fz=(o.ren π).fz/\ORel ρ w F μ P (π id) (o.ren π):=by
  intro id o ho;obtain⟨g1,q,g2,g3⟩:=h2' id o ho;refine⟨g1,q,g2,?_⟩;rcases g3 with g3|g3
  . subst g3;exact⟨rfl,rfl,hR.obj _ _ g2⟩
  . rw[<- g3];exact⟨(zmM q).symm,(zqe q).symm,(hR.obj _ _ g2).norm⟩
 refine⟨fun id g=>if A id=true then μ (π id) g else none,?_,?_,?_,?_⟩
 . refine⟨hL.io,hL.size,hL.keep,hL.fm,hL.fnew,fun id g m hk hm=>?_,?_,fun id hk=>(hA id).1 (h4 id hk).2,fun id hk hg g=>?_,fun id g m hm=>?_⟩
   . show (if A id=true then μ (π id) g else none)=_;rw[if_pos (h4 id hk).2,(h4 id hk).1];exact hL.mm id g m hk hm
   . rintro b ⟨id,o,m,ho,hz,hm,rfl⟩;have hAi:=(hA id).2 (by rw[ho];simp);replace hm:(if A id=true then μ (π id) o.gen else none)=some m:=hm;rw[if_pos hAi]at hm;obtain⟨_,q,q1,q2,q3,_⟩:=h2 id o ho;exact hL.own _ ⟨π id,q,m,q1,by rw[q3,Obj.ren_fz];exact hz,by rw[q2,Obj.ren_gen];exact hm,rfl⟩
   . show (if A id=true then μ (π id) g else none)=_;rw[if_pos (h4 id hk).2,(h4 id hk).1];exact hL.dm id hk hg g
   . replace hm:(if A id=true then μ (π id) g else none)=some m:=hm;split at hm
     . exact hL.mn _ g m hm
     . cases hm
 . refine⟨fun id g m hm=>?_,hR.flt,fun id o ho=>?_,fun id id' o o' m m' ho ho' hm hm' hb=>?_,fun id o ho g hg=>?_⟩
   . replace hm:(if A id=true then μ (π id) g else none)=some m:=hm;split at hm
     . exact hR.lt _ g m hm
     . cases hm
   . have hAi:=(hA id).2 (by rw[ho];simp);obtain⟨q0,q,q1,q2,q3,q4⟩:=h2 id o ho;refine ORel.anew (π:=π) (A:=A) q4 q0 (fun g m hm=>?_) (fun i hi g m hm=>?_)
     . replace hm:(if A id=true then μ (π id) g else none)=some m:=hm;rw[if_pos hAi]at hm;exact hm
     . show (if A i=true then _ else _)=_;rw[if_pos hi];exact hm
   . have hAi:=(hA id).2 (by rw[ho];simp);have hAi':=(hA id').2 (by rw[ho'];simp);replace hm:(if A id=true then μ (π id) o.gen else none)=some m:=hm;replace hm':(if A id'=true then μ (π id') o'.gen else none)=some m':=hm';rw[if_pos hAi]at hm;rw[if_pos hAi']at hm';obtain⟨_,q,q1,q2,_⟩:=h2 id o ho;obtain⟨_,q',q1',q2',_⟩:=h2 id' o' ho';exact h3 _ _ hAi hAi' (hR.inj _ _ _ _ m m' q1 q1' (by rw[q2,Obj.ren_gen];exact hm) (by rw[q2',Obj.ren_gen];exact hm') hb)
   . have hAi:=(hA id).2 (by rw[ho];simp);show (if A id=true then _ else _)=_;rw[if_pos hAi];obtain⟨_,q,q1,q2,_⟩:=h2 id o ho;exact hR.gens _ _ q1 g (by rw[q2,Obj.ren_gen];exact hg)
 . intro id g hg;by_cases hAi:A id=true
   . exact(hA id).1 hAi
   . simp[hAi]at hg
 . intro t v hv;obtain⟨g1,u,g2,g3⟩:=h1 t v hv;obtain⟨x,hx,hr⟩:=hT t _ g2
   have hr':Rep ρ w F μ (v.ren π) x:=by
    rcases g3 with g3|g3
    . rw[<- g3];exact hr
    . rw[<- g3];exact hr.norm
   refine⟨x,hx,hr'.anew g1 fun i hi g m hm=>?_⟩;show (if A i=true then _ else _)=_;rw[if_pos hi];exact hm
theorem zxS{T2:PT V}{hs2:HS}(h:Less k T hs T2 hs2)(hl:Lt ρ P k rd sz c T2 hs2 Q):Lt ρ P k rd sz c T hs Q:=by
 intro s N r w F μ a K hk hr hL hR hD hT hsz hM hK;subst hk;obtain⟨μ2,hL2,hR2,hD2,hT2⟩:=h.state hL hR hT;exact hl s N r w F μ2 a K rfl hr hL2 hR2 hD2 hT2 hsz hM hK
theorem zxQ{Q':Ex->PT V->HS->Prop}(hl:Lt ρ P k rd sz c T hs Q')(h:∀ ex T1 hs1,Q' ex T1 hs1->∃ T2 hs2,Less k T1 hs1 T2 hs2/\Q ex T2 hs2):Lt ρ P k rd sz c T hs Q:=by
 intro s N r w F μ a K hk hr hL hR hD hT hsz hM hK;subst hk;refine hl s N r w F μ a K rfl hr hL hR hD hT hsz hM ?_;intro ex T1 hs1 a1 w1 F1 μ1 q hL1 hR1 hD1 hT1 hsz1 hM1;obtain⟨T2,hs2,h2,q2⟩:=h ex T1 hs1 q;obtain⟨μ2,hL2,hR2,hD2,hT2⟩:=h2.state hL1 hR1 hT1;exact hK ex T2 hs2 a1 w1 F1 μ2 q2 hL2 hR2 hD2 hT2 hsz1 hM1
end
end Go.J
/- The rules of local runs over code that is stripped;calls of functions with arguments without numbers. -/
universe u
namespace Go.J
inductive Tg {α:Sort u} (a:α):Type where
 |mk
def okT{α:Type}(x:Option α)(K:α->Prop)(_t:Tg K:=.mk):Prop:=ok x K
def brT(c A B:Prop)(_t:Tg A:=.mk)(_u:Tg B:=.mk):Prop:=br c A B
@[simp ↓ high] theorem ok_T {α:Type} (x:Option α) (K:α->Prop):ok x K=okT x K:=(rfl)
@[simp ↓ high] theorem br_T (c A B:Prop):br c A B=brT c A B:=(rfl)
@[simp ↓] theorem zpY {α:Type} (a:α) (K:α->Prop):okT (some a) K=K a:=zl a K
@[simp ↓] theorem z1h {α β:Type} (x:Option α) (f:α->Option β) (K:β->Prop):okT (ob x f) K=okT x fun a=>okT (f a) K:=zS x f K
@[simp ↓] theorem z1i {α:Type} (c:Bool) (x:Option α) (K:α->Prop):okT (gd c x) K=(c=true/\okT x K):=zbS c x K
attribute [simp] zpY z1h z1i
@[simp ↓] theorem zqO (A B:Prop):brT True A B=A:=zoE A B
@[simp ↓] theorem zoF (A B:Prop):brT False A B=B:=zld A B
attribute [simp] zqO zoF
theorem zex{c A B:Prop}(h1:c->A)(h2:¬ c->B):brT c A B:=⟨h1,h2⟩
def mkP{α:Type}:List (Nat×α)->PT α
 | []=>.leaf
 |p::l=>(mkP l).set p.1 p.2
def dom{α:Type}(l:List (Nat×α))(id:Nat):Bool:=l.any fun p=>Nat.beq p.1 id
theorem zeC{α:Type}:∀ {l:List (Nat×α)} {t:Nat} {v:α},(mkP l).get t=some v->(t,v)∈l:=by
 intro l
 induction l with
 |nil=>intro t v h;cases h
 | cons p l ih =>
   intro t v h;replace h:((mkP l).set p.1 p.2).get t=some v:=h;rw[PT.set_get]at h;split at h
   . rename_i e;cases h;subst e;exact List.mem_cons_self ..
   . exact List.mem_cons_of_mem _ (ih h)
theorem zw6{α:Type}:∀ {l:List (Nat×α)} {id:Nat},dom l id=true↔(mkP l).get id≠none:=by
 intro l
 induction l with
 |nil=>intro id;exact⟨fun h=>(by cases h),fun h=>absurd rfl h⟩
 | cons p l ih =>
   intro id;show (Nat.beq p.1 id||dom l id)=true↔((mkP l).set p.1 p.2).get id≠none;rw[PT.set_get,Bool.or_eq_true,beq_true,ih];by_cases e:id=p.1
   . rw[if_pos e];simp[e]
   . rw[if_neg e];exact⟨fun h=>h.elim (fun h=>absurd h.symm e) (fun h=>h),.inr⟩
def nodupB:List Nat->Bool
 | []=>true
 |x::l=>!(l.any (Nat.beq x))&&nodupB l
theorem zi8:∀ {l:List Nat},nodupB l=true->l.Nodup:=by
 intro l
 induction l with
 |nil=>intro _;exact List.nodup_nil
 | cons x l ih =>
   intro h;simp only[nodupB,Bool.and_eq_true,Bool.not_eq_true']at h;refine List.nodup_cons.2 ⟨fun hm=>?_,ih h.2⟩;have:l.any (Nat.beq x)=true:=List.any_eq_true.2 ⟨x,hm,beq_true.2 rfl⟩;rw[h.1]at this;cases this
theorem V.ren1_id(v:V):v.ren1 id=v:=by cases v<;>rfl
theorem V.ren1_id':V.ren1 id=id:=funext V.ren1_id
theorem V.ren2_id(v:V):v.ren2 id=v:=by
 cases v<;>first|rfl|(simp[V.ren2,V.ren1_id'])
theorem V.ren2_id':V.ren2 id=id:=funext V.ren2_id
theorem V.ren_id(v:V):v.ren id=v:=by
 cases v<;>first|exact V.ren2_id _|(simp[V.ren,V.ren2_id'])
theorem Obj.ren_id(o:Obj):o.ren id=o:=by
 cases o<;>first|rfl|(simp[Obj.ren,V.ren2_id'])
section
variable {k:Nat}{T:PT V}{hs:HS}
theorem Less.lit (π:Nat->Nat) {TL:List (Nat×V)} {HL:List (Nat×Obj)} (n:Nat) (hT:∀ p∈TL,p.2.in3 (dom HL)=true/\T.get p.1=some (p.2.ren π))
 (hH:∀ p∈HL,p.2.in (dom HL)=true/\hs.H.get (π p.1)=some (p.2.ren π)) (hi:nodupB (HL.map fun p=>π p.1)=true) (hk:(List.range k).all (fun i=>Nat.beq (π i) i&&dom HL i)=true) :
 Less k T hs (mkP TL) { H:=mkP HL,n:=n,log:=[] } where
 ex := by
  refine⟨π,dom HL,fun id=>zw6,fun t v hv=>⟨(hT (t,v) (zeC hv)).1,_,(hT (t,v) (zeC hv)).2,.inl rfl⟩,fun id o ho=>⟨(hH (id,o) (zeC ho)).1,_,(hH (id,o) (zeC ho)).2,.inl rfl⟩,?_,fun id hid=>?_⟩
  . intro i j hi1 hj1 e;have hnd:=zi8 hi
    have key:∀ (l:List (Nat×Obj)),(l.map fun p=>π p.1).Nodup->dom l i=true->dom l j=true->i=j:=by
     intro l
     induction l with
     |nil=>intro _ h;cases h
     | cons p l ih =>
       intro hnd h1 h2;rw[List.map_cons,List.nodup_cons]at hnd;replace h1:(Nat.beq p.1 i||dom l i)=true:=h1;replace h2:(Nat.beq p.1 j||dom l j)=true:=h2;rw[Bool.or_eq_true,beq_true]at h1 h2
       have hm:∀ a,dom l a=true->π a∈l.map fun p=>π p.1:=by
        intro a ha;obtain⟨q,hq,hqa⟩:=List.any_eq_true.1 ha;exact List.mem_map.2 ⟨q,hq,by rw[beq_true.1 hqa]⟩
       rcases h1 with h1|h1<;>rcases h2 with h2|h2
       . rw[<- h1,<- h2]
       . exact absurd (by rw[h1,e];exact hm j h2) hnd.1
       . exact absurd (by rw[h2,<- e];exact hm i h1) hnd.1
       . exact ih hnd.2 h1 h2
    exact key HL hnd hi1 hj1
  . have:=List.all_eq_true.1 hk id (List.mem_range.2 hid);rw[Bool.and_eq_true,beq_true]at this;exact this
theorem Less.keep{TL:List (Nat×V)}{HL:List (Nat×Obj)}(n:Nat)(hT:∀ p∈TL,p.2.in3 (dom HL)=true/\T.get p.1=some p.2)
 (hH:∀ p∈HL,p.2.in (dom HL)=true/\hs.H.get p.1=some p.2) (hi:nodupB (HL.map fun p=>p.1)=true) (hk:(List.range k).all (fun i=>dom HL i)=true) :
 Less k T hs (mkP TL) { H:=mkP HL,n:=n,log:=[] }:=by
 refine Less.lit id n (fun p hp=>?_) (fun p hp=>?_) hi ?_
 . rw[V.ren_id];exact hT p hp
 . rw[Obj.ren_id];exact hH p hp
 . rw[List.all_eq_true]at hk ⊢;intro x hx;rw[Bool.and_eq_true];exact⟨beq_true.2 rfl,hk x hx⟩
end
section
variable {ρ:Nat->Value}{E:Env}{k sz:Nat}{s:SC}{T:PT V}{hs:HS}{Q Q':Ex->PT V->HS->Prop}
def Ls(ρ:Nat->Value)(E:Env)(k sz:Nat)(s:SC)(T:PT V)(hs:HS)(Q:Ex->PT V->HS->Prop)(_t:Tg Q:=.mk):Prop:=∀ c,zo c=some s->Lt ρ E.P k false sz c T hs Q
def LsN(ρ:Nat->Value)(E:Env)(k sz:Nat)(s:SC)(Q:Ex->PT V->HS->Prop)(n:Nat)(T:PT V)(hs:HS)(_t:Tg Q:=.mk):Prop:=∀ c,zo c=some s->LtN ρ E.P k false sz c Q n T hs
theorem zcm{n:Nat}(h:LsN ρ E k sz s Q n T hs):Ls ρ E k sz (.loop s) T hs Q:=fun c hc=>by
 obtain⟨x,rfl,hx⟩:=zaQ hc;exact zxR (h x hx)
theorem zxV(hl:Ls ρ E k sz s T hs Q')(h:∀ ex T1 hs1,Q' ex T1 hs1->∃ T2 hs2,Less k T1 hs1 T2 hs2/\Q ex T2 hs2):Ls ρ E k sz s T hs Q:=fun c hc=>zxQ (hl c hc) h
theorem z3H(hρ:Good ρ)(hcon:ConsOk ρ E)(hP:E.P.follows .mixedOrders=true)(hN:zcZ E.P)(h:Js E false sz s T hs Q):Ls ρ E k sz s T hs Q:=fun c hc=>by
 obtain⟨n,ex,T',hs',h1,h2⟩:=h c hc;exact z3F hρ hcon hP hN h1 h2
def WpR(ρ:Nat->Value)(E:Env)(k sz:Nat):SC->PT V->HS->(Ex->PT V->HS->Prop)->Prop
 |.skip,T,hs,Q=>Q .normal T hs
 |.ret,T,hs,Q=>Q .ret T hs
 |.exit i,T,hs,Q=>Q (.exit i) T hs
 |.reg l,T,hs,Q=>Rs E sz l hs.n T { H:=hs.H,n:=hs.n+l.length,log:=hs.log } fun T hs=>Q .normal T hs
 |.draw l bs,T,hs,Q=>Rd E sz l hs.n T { H:=hs.H,n:=hs.n+l.length,log:=hs.log } [] fun T hs acc=>zbB acc acc 0 bs=true/\Q .normal T hs
 |.seq a b,T,hs,Q=>WpR ρ E k sz a T hs (Ex.then (fun T hs=>WpR ρ E k sz b T hs Q) Q)
 |.cond q a b,T,hs,Q=>ok (zi T q) fun v=>ok v.bool? fun t=>if t=true then WpR ρ E k sz a T hs Q else WpR ρ E k sz b T hs Q
 |.block i a,T,hs,Q=>WpR ρ E k sz a T hs (Ex.inBlock i Q)
 |.loop a,T,hs,Q=>Ls ρ E k sz (.loop a) T hs Q
 |.range g ps a b,T,hs,Q=>Ls ρ E k sz (.range g ps a b) T hs Q
def Wp(ρ:Nat->Value)(E:Env)(k sz:Nat)(s:SC)(T:PT V)(hs:HS)(Q:Ex->PT V->HS->Prop)(_t:Tg Q:=.mk):Prop:=WpR ρ E k sz s T hs Q
theorem zgy(hρ:Good ρ)(hcon:ConsOk ρ E)(hP:E.P.follows .mixedOrders=true)(hN:zcZ E.P):∀ {s:SC} {T:PT V} {hs:HS} {Q:Ex->PT V->HS->Prop},Wp ρ E k sz s T hs Q->Ls ρ E k sz s T hs Q:=by
 intro s
 induction s with
 |skip=>intro T hs Q h c hc;have e:c=.skip:=zaQ hc;subst e;exact zxP h
 |ret=>intro T hs Q h c hc;have e:c=.ret:=zaQ hc;subst e;exact z3G h
 |exit i=>intro T hs Q h c hc;have e:c=.exit i:=zaQ hc;subst e;exact zxT h
 |reg l=>intro T hs Q h;exact z3H hρ hcon hP hN (z3J h)
 |draw l bs=>intro T hs Q h;exact z3H hρ hcon hP hN (zxW h)
 | seq a b iha ihb =>
   intro T hs Q h c hc;obtain⟨x,y,rfl,hx,hy⟩:=zaQ hc;refine z3E (zoP (iha h x hx) fun e T hs q=>?_)
   cases e with
   |normal=>exact ihb q y hy
   |ret=>exact q
   |exit i=>exact q
 | cond q a b iha ihb =>
   intro T hs Q h c hc;obtain⟨x,y,rfl,hx,hy⟩:=zaQ hc;obtain⟨v,hv,t,ht,h⟩:=h;rw[V.bool?_eq]at ht;subst ht;refine zxU hv ?_;split
   . rename_i e;rw[if_pos e]at h;exact iha h x hx
   . rename_i e;rw[if_neg e]at h;exact ihb h y hy
 | block i a iha =>
   intro T hs Q h c hc;obtain⟨x,rfl,hx⟩:=zaQ hc;exact zrc (iha h x hx)
 |loop a _=>intro T hs Q h;exact h
 |range g ps a b _ _=>intro T hs Q h;exact h
theorem zhU(hρ:Good ρ)(hcon:ConsOk ρ E)(hP:E.P.follows .mixedOrders=true)(hN:zcZ E.P){n:Nat}(h:∀ K:PT V->HS->Prop,(∀ T hs,LsN ρ E k sz s Q n T hs->K T hs)->Wp ρ E k sz s T hs (Ex.then K Q)):LsN ρ E k sz s Q (n+1) T hs:=fun c hc =>
 zoP (zgy hρ hcon hP hN (h _ fun _ _ h=>h) c hc) fun e T hs q=>by
  cases e with
  |normal=>exact q c hc
  |ret=>exact q
  |exit i=>exact q
theorem zJ{n:Nat}{T2:PT V}{hs2:HS}(h:Less k T hs T2 hs2)(hl:LsN ρ E k sz s Q n T2 hs2):LsN ρ E k sz s Q n T hs:=fun c hc=>by
 cases n with
 |zero=>exact(hl c hc).elim
 |succ n=>exact zxS h (hl c hc)
end
section
variable {ρ:Nat->Value}{E:Env}{k sz:Nat}{T:PT V}{hs:HS}{Q:Ex->PT V->HS->Prop}
@[simp ↓] theorem zAl:Wp ρ E k sz .skip T hs Q=Q .normal T hs:=(rfl)
@[simp ↓] theorem zDt:Wp ρ E k sz .ret T hs Q=Q .ret T hs:=(rfl)
@[simp ↓] theorem zAn {i:Nat}:Wp ρ E k sz (.exit i) T hs Q=Q (.exit i) T hs:=(rfl)
@[simp ↓] theorem zDu {l:List SOp}:Wp ρ E k sz (.reg l) T hs Q=Rs E sz l hs.n T { H:=hs.H,n:=hs.n+l.length,log:=hs.log } fun T hs=>Q .normal T hs:=(rfl)
@[simp ↓] theorem zAo {l:List SD} {bs:List Nat}:Wp ρ E k sz (.draw l bs) T hs Q=Rd E sz l hs.n T { H:=hs.H,n:=hs.n+l.length,log:=hs.log } [] fun T hs acc=>zbB acc acc 0 bs=true/\Q .normal T hs:=(rfl)
@[simp ↓] theorem zDs {a b:SC}:Wp ρ E k sz (.seq a b) T hs Q=Wp ρ E k sz a T hs (Ex.then (fun T hs=>Wp ρ E k sz b T hs Q) Q):=(rfl)
@[simp ↓] theorem zAp {q:Operand} {a b:SC}:Wp ρ E k sz (.cond q a b) T hs Q=ok (zi T q) fun v=>ok v.bool? fun t=>br (t=true) (Wp ρ E k sz a T hs Q) (Wp ρ E k sz b T hs Q):=by
  simp only[zxG];rfl
@[simp ↓] theorem z7c {i:Nat} {a:SC}:Wp ρ E k sz (.block i a) T hs Q=Wp ρ E k sz a T hs (Ex.inBlock i Q):=(rfl)
@[simp ↓] theorem z7a {g:Operand} {ps:Array Tmp} {a b:SC}:Wp ρ E k sz (.range g ps a b) T hs Q=Ls ρ E k sz (.range g ps a b) T hs Q:=(rfl)
@[simp ↓] theorem zAm {a:SC}:Wp ρ E k sz (.loop a) T hs Q=Ls ρ E k sz (.loop a) T hs Q:=(rfl)
@[congr] theorem z7b {s:SC} {T':PT V} {hs':HS} (h1:T=T') (h2:hs=hs'):Wp ρ E k sz s T hs Q=Wp ρ E k sz s T' hs' Q:=by rw[h1,h2]
@[congr] theorem z7e {s:SC} {T':PT V} {hs':HS} (h1:T=T') (h2:hs=hs'):Ls ρ E k sz s T hs Q=Ls ρ E k sz s T' hs' Q:=by rw[h1,h2]
@[congr] theorem z3I {s:SC} {T':PT V} {hs':HS} {n:Nat} (h1:T=T') (h2:hs=hs'):LsN ρ E k sz s Q n T hs=LsN ρ E k sz s Q n T' hs':=by rw[h1,h2]
@[simp] theorem z8D {α:Type}:mkP ([]:List (Nat×α))=.leaf:=(rfl)
@[simp] theorem z5C {α:Type} {p:Nat×α} {l:List (Nat×α)}:mkP (p::l)=(mkP l).set p.1 p.2:=(rfl)
end
section
variable {ρ:Nat->Value}{P:Program}{w w':World}{F F':Nat->Prop}{μ μ':Nat->Nat->Option MI}{hs hs':HS}{T:PT V}
theorem zlA{s:Start}{fn:Func}{tm:Array Value}{Rp:Ending->World->Prop}{N:Nat}(hN:s.w.heap.size<=N)
 (hfin:∀ w,R ρ w F μ P hs->zaY ρ w F μ T tm->Loc s w F μ hs->∃ v,(results fn tm).run P w=.ok v w/\Rp (.returned v) w):∀ (rs:List Nat) (w:World),R ρ w F μ P hs->zaY ρ w F μ T tm->Loc s w F μ hs->rs.Nodup ->
 (∀ r∈rs,N<=r/\w.heap[r]?=some (.deferred (some [])))->LeavesInM (Wr none) 0 P fn tm Rp (rs.map (fun r=>{ target:=.collected r,args:=#[] })) .returning w:=by
 intro rs
 induction rs with
 |nil=>intro w hR hT hf _ _;exact hfin w hR hT hf
 | cons r rs ih =>
   intro w hR hT hf hnd hall;have hr:=hall r (List.mem_cons_self ..);refine⟨by simp,.inl ⟨r,zaL w r,rfl,run_takeDeferred hr.2,?_⟩⟩;have hnd':=List.nodup_cons.1 hnd;refine ih _ (hR.unmark hr.2) (fun t v hv=>?_) ?_ hnd'.2 (fun s hs=>⟨(hall s (List.mem_cons_of_mem _ hs)).1,?_⟩)
   . obtain⟨x,hx,h⟩:=hT t v hv;exact⟨x,hx,h.cells (zbD hr.2)⟩
   . refine⟨hf.io,by simpa [zaL]using hf.size,fun b hb hn=>?_,hf.fm,hf.fnew,hf.mm,hf.own,hf.pres,hf.dm,hf.mn⟩;rw[zaa (by have:=hr.1;omega)];exact hf.keep b hb hn
   . rw[zaa (fun e=>hnd'.1 (by rw[<- e];exact hs))];exact(hall s (List.mem_cons_of_mem _ hs)).2
def zmj(ρ:Nat->Value)(P:Program)(s:Start)(K:V->HS->Prop):Ending->World->Prop
 |.returned x,w'=>∃ v hs' F' μ',K v hs'/\Loc s w' F' μ' hs'/\R ρ w' F' μ' P hs'/\Dom0 μ' hs'/\Rep ρ w' F' μ' v x
 |_,_=>False
theorem zle{E:Env}{f:FuncId}{fn:Func}{sc:SC}{vs:List V}{k:Nat}{K:V->HS->Prop}(hf:E.P.funcs[f]?=some fn)(hb:fn.body.bind zo=some sc)(he:zba fn.ntmps vs 0 .leaf=some T)
 (h:Ls ρ E k fn.ntmps sc T hs (Leaves E.P fn K)) {s:Start} {xs:Array Value} (hk:s.k=k) (hL:Loc s w F μ hs) (hR:R ρ w F μ E.P hs) (hD:Dom0 μ hs) (hA:Args ρ w F μ vs xs):CallsIn Fence.wide 0 E.P f xs w (zmj ρ E.P s K):=by
 cases hc:fn.body with
 |none=>rw[hc]at hb;cases hb
 |some c =>
 rw[hc]at hb;refine callsIn_of_wp_marks hf hc trivial ?_;have hsz:fn.ntmps<=(xs++Array.replicate (fn.ntmps-xs.size) undef).size:=by simp;omega
 have hT0:zaY ρ w F μ T (xs++Array.replicate (fn.ntmps-xs.size) undef):=by
  refine zen he (fun t u hu=>by cases hu) fun k u hk=>?_
  obtain⟨x,hx,hr⟩:=hA.2 k u hk;exact⟨x,by rw[Nat.zero_add,Array.getElem?_append_left (Array.getElem?_eq_some_iff.1 hx).1];exact hx,hr⟩
 refine h c hb s ⟨w.heap.size,[],false⟩ none w F μ _ _ hk ⟨fun _=>rfl,rfl⟩ hL hR hD hT0 hsz (Marks.nil (Nat.le_refl _)) ?_;intro ex T1 hs1 a' w' F' μ' q hL' hR' hD' hT' _ hM;obtain⟨hne,l,hl,hK⟩:=q
 have hleave:LeavesInM (Wr none) 0 E.P fn a'.tmps (zmj ρ E.P s K) a'.defers .returning w':=by
  obtain⟨hN,rs,⟨r1,_⟩,r2,r3⟩:=hM;rw[r2,show ∀ l:List Deferred,l++(NB.mk w.heap.size [] false).base=l from List.append_nil];refine zlA (N:=w.heap.size) hL.size (fun w2 hR2 hT2 hf2=>?_) rs w' hR' hT' hL' r1 r3;obtain⟨ys,h1,h2,h3⟩:=zjD hR2 hT2 hl;refine⟨_,?_,zcN l,hs1,F',μ',hK,hf2,hR2,hD',zfq (xs:=ys.toArray) (by simpa using h2) (fun i u hi=>by simpa using h3 i u hi)⟩;unfold results;rw[Sem.run_bind,Array.mapM_eq_mapM_toList];rw[Sem.run_map];exact Eq.trans (congrArg (fun z:Result (List Value)=>(z.andThen fun a w'=>Result.ok a.toArray w').andThen fun a w'=>Sem.run E.P (pure (if h:a.size=1 then a[0]else Value.tuple a)) w') h1) rfl
 cases ex with
 |normal=>exact hleave
 |ret=>exact hleave
 |exit i=>exact absurd rfl (hne i)
def zd2(r:V)(v:V)(hs:HS):Prop:=ok (still hs v) fun v'=>zU v'=r
theorem zo9{E:Env}{f:FuncId}{fn:Func}{sc:SC}{vs:List V}{r:V}(hf:E.P.funcs[f]?=some fn)(hb:fn.body.bind zo=some sc)(he:zba fn.ntmps vs 0 .leaf=some T)
 (h:Ls ρ E 0 fn.ntmps sc T { H:=.leaf,n:=0,log:=[] } (Leaves E.P fn (zd2 r))) (hp:zt vs=true) (hs:HS):CallOk ρ E.P f vs hs r hs:=by
 intro X w F μ xs hR hD hO hA
 have hA':Args ρ w F (fun _ _=>none) vs xs:=⟨hA.1,fun i u hi=>by
  obtain⟨x,hx,hr⟩:=hA.2 i u hi
  exact⟨x,hx,.pure (hr.of_pure ρ (zb7 hp u (List.mem_of_getElem? hi)))⟩⟩
 have hL:Loc ⟨fun _=>False,w,F,0,fun _ _=>none⟩ w F (fun _ _=>none) zbi :=
  ⟨⟨rfl,rfl,rfl⟩,Nat.le_refl _,fun _ _ _=>rfl,fun _ h=>h,fun _ h=>.inl h,fun _ _ _ h=>absurd h (Nat.not_lt_zero _),fun b hb=>absurd hb (zbz b _),fun _ h=>absurd h (Nat.not_lt_zero _),fun _ h=>absurd h (Nat.not_lt_zero _),fun _ _ _ h=>by cases h⟩
 refine(zle hf hb he h rfl hL (R.empty hR.flt) (fun _ _ h=>absurd rfl h) hA').mono fun e w' he=>?_
 cases e with
 | returned x =>
   obtain⟨v1,hs1,F1,μ1,hK,hL1,g1,_,g2⟩:=he;obtain⟨v',h2,rfl⟩:=hK;have hkeep:∀ b,b<w.heap.size->w'.heap[b]?=w.heap[b]?:=fun b hb=>hL1.keep b hb (fun h=>h)
   obtain⟨a1,a2⟩:=alone hR hL1.io hL1.size hkeep;refine⟨_,μ,a1,.pure (zih g1 g2 h2 ?_ ?_).norm,a2⟩
   . intro b hb;have hlt:=g1.flt b hb;rcases hL1.fnew b hb with h|h|h
     . exact .inl h
     . exact .inr ⟨h,hlt⟩
     . exact h.elim
   . intro id g m hm;rcases hL1.mn id g m hm with h|⟨i,j,m0,h,_⟩
     . exact .inr ⟨h,g1.lt _ _ _ hm⟩
     . cases h
 |panicked c=>exact he
 |outgrown=>exact he
end
def fnS(s:List V->Option V):Spec:=fun vs hs=>ob (zad vs hs) fun q=>gd (zt q.1) (ob (s (zO q.1)) fun v=>some (v,q.2))
def fnC(s:List V->Option V):Spec:=fun vs hs=>ob (zak hs vs) fun vs'=>gd (zt vs') (ob (s (zO vs')) fun v=>gd v.scal (some (v,hs)))
section
variable {ρ:Nat->Value}{P:Program}{f:Nat}{s:List V->Option V}
theorem CallOk.norm{vs:List V}{hs hs':HS}{v:V}(hp:zt vs=true)(h:CallOk ρ P f (zO vs) hs v hs'):CallOk ρ P f vs hs v hs':=by
 intro X w F μ xs hR hD hO hA;refine h X w F μ xs hR hD hO ⟨by rw[zam,List.length_map];exact hA.1,fun i u hi=>?_⟩;rw[zam,List.getElem?_map,Option.map_eq_some_iff]at hi;obtain⟨u0,h0,rfl⟩:=hi;obtain⟨x,hx,hr⟩:=hA.2 i u0 h0;exact⟨x,hx,.pure (hr.of_pure ρ (zb7 hp u0 (List.mem_of_getElem? h0))).norm⟩
theorem Valid.fnS (hf:zdR P f) (h:∀ vs v,s vs=some v->∀ hs,CallOk ρ P f vs hs v hs):Valid ρ P f (fnS s) where
 fn:=hf
 ok := by
  intro vs hs v hs' hq;simp only[J.fnS,zk,za]at hq;obtain⟨⟨vs',hs1⟩,hp,hpure,v',hv,hq⟩:=hq;cases hq;intro X w F μ xs hR hD hO hA;obtain⟨F',k1,k2,k3,k4,k5⟩:=zc5 (xs:=xs.toList) hp hR (fun i u hi=>by simpa using hA.2 i u hi);have hc:CallOk ρ P f vs' hs1 v hs1:=(h _ _ hv hs1).norm hpure;refine(hc X w F' μ xs k1 (k2.dom k3.le hD) hO ⟨by rw[k4];exact hA.1,fun i u hi=>?_⟩).mono fun e w' he=>?_
  . obtain⟨x,hx,hr⟩:=k5 i u hi;exact⟨x,by simpa using hx,.pure hr⟩
  . cases e with
    | returned x =>
      obtain⟨F2,μ2,g1,g2,g3⟩:=he;exact⟨F2,μ2,g1,g2,k2.trans g3⟩
    |panicked c=>exact he
    |outgrown=>exact he
 kept:=by
  intro vs hs q hq;simp only[J.fnS,zk,za]at hq;obtain⟨⟨vs',hs1⟩,hp,_,v',_,hq⟩:=hq;cases hq;exact zbE hp
theorem Valid.fnC(hf:zdR P f)(h:∀ vs v,s vs=some v->∀ hs,CallOk ρ P f vs hs v hs):Valid ρ P f (fnC s) where
 fn:=hf
 ok:=by
  intro vs hs v hs' hq;simp only[J.fnC,zk,za]at hq;obtain⟨vs',hst,hp,v',hv,hsc,hq⟩:=hq;cases hq;intro X w F μ xs hR hD hO hA;obtain⟨hlen,hall⟩:=zfx hR (F':=fun b=>b<w.heap.size) hR.flt hst (fun _ _ _ _ id g off len cap _ m hm=>hR.lt id g m hm)
  have hA':Args ρ w (fun b=>b<w.heap.size) (fun _ _=>none) vs' xs:=⟨hA.1.trans hlen.symm,fun i u hi=>by
   obtain⟨u0,hu0,hr⟩:=hall i u hi;obtain⟨x,hx,hr0⟩:=hA.2 i u0 hu0
   exact⟨x,hx,.pure (hr x hr0)⟩⟩
  have hc:CallOk ρ P f vs' zbi v zbi:=(h _ _ hv _).norm hp;refine(hc _ w _ (fun _ _=>none) xs (R.empty fun _ h=>h) Dom.empty (Off.no _) hA').mono fun e w' he=>?_
  cases e with
  | returned x =>
    obtain⟨F1,μ1,g1,g2,g3⟩:=he;have hkeep:∀ b,b<w.heap.size->w'.heap[b]?=w.heap[b]?:=fun b hb=>g3.keep b hb (zbz b _)
    obtain⟨a1,a2⟩:=alone hR g3.io g3.size hkeep;exact⟨_,μ,a1,.pure (zkB g2 hsc),a2⟩
  |panicked c=>exact he
  |outgrown=>exact he
 kept:=by
  intro vs hs q hq;simp only[J.fnC,zk,za]at hq;obtain⟨_,_,_,_,_,_,hq⟩:=hq;cases hq;exact .refl _
end
section
variable {ρ:Nat->Value}{P:Program}{E:Env}{k sz:Nat}{s:SC}{T:PT V}{hs:HS}{Q Q':Ex->PT V->HS->Prop}
def LessQ(k:Nat)(Q:Ex->PT V->HS->Prop)(e:Ex)(T:PT V)(hs:HS):Prop:=∃ T2 hs2,Less k T hs T2 hs2/\Q e T2 hs2
theorem zbX(h:Ls ρ E k sz s T hs (LessQ k Q)):Ls ρ E k sz s T hs Q:=zxV h fun _ _ _ q=>q
theorem LessQ.mk{e:Ex}{T2:PT V}{hs2:HS}(h:Less k T hs T2 hs2)(q:Q e T2 hs2):LessQ k Q e T hs:=⟨T2,hs2,h,q⟩
end
end Go.J
/- Values of types of Lean as values of the evaluator. -/
namespace Go.J
class Cel (α:Type) where
 cells:α->List V
 dec:List V->Option α
 dec_enc:∀ a,dec (cells a)=some a
 enc_dec:∀ c a,dec c=some a->c=cells a
 pure2:∀ a,(cells a).all V.pure2=true
 norm:∀ a,zO (cells a)=cells a
class Enc (α:Type) where
 enc:α->V
 dec:V->Option α
 dec_enc:∀ a,dec (enc a)=some a
 enc_dec:∀ v a,dec v=some a->v=enc a
 norm:∀ a,zU (enc a)=enc a
open Enc (enc)
instance:Enc Int where
 enc n:=.int .i64 n
 dec v:=match v with
  |.int .i64 n=>some n
  |_=>none
 dec_enc _:=rfl
 enc_dec v a h:=by
  split at h
  . cases h;rfl
  . cases h
 norm _:=rfl
instance:Enc Bool where
 enc b:=.bool b
 dec v:=match v with
  |.bool b=>some b
  |_=>none
 dec_enc _:=rfl
 enc_dec v a h:=by
  split at h
  . cases h;rfl
  . cases h
 norm _:=rfl
instance instStr:Enc (List Nat) where
 enc b:=.str b
 dec v:=match v with
  |.str b=>some b
  |_=>none
 dec_enc _:=rfl
 enc_dec v a h:=by
  split at h
  . cases h;rfl
  . cases h
 norm _:=rfl
instance:Cel Int where
 cells n:=[.int .i64 n]
 dec v:=match v with
  | [.int .i64 n]=>some n
  |_=>none
 dec_enc _:=rfl
 enc_dec v a h:=by
  split at h
  . cases h;rfl
  . cases h
 pure2 _:=rfl
 norm _:=rfl
instance:Cel Bool where
 cells n:=[.bool n]
 dec v:=match v with
  | [.bool n]=>some n
  |_=>none
 dec_enc _:=rfl
 enc_dec v a h:=by
  split at h
  . cases h;rfl
  . cases h
 pure2 _:=rfl
 norm _:=rfl
instance instStrC:Cel (List Nat) where
 cells n:=[.str n]
 dec v:=match v with
  | [.str n]=>some n
  |_=>none
 dec_enc _:=rfl
 enc_dec v a h:=by
  split at h
  . cases h;rfl
  . cases h
 pure2 _:=rfl
 norm _:=rfl
section
variable {α:Type} [Cel α]
def zI:List (List V)->Option (List α)
 | []=>some []
 | e::r=>match Cel.dec e,zI r with
   |some a,some l=>some (a::l)
   |_,_=>none
theorem zah:∀ l:List α,zI (l.map Cel.cells)=some l:=by
 intro l
 induction l with
 |nil=>rfl
 |cons a l ih=>simp[zI,Cel.dec_enc,ih]
theorem zai:∀ {es:List (List V)} {l:List α},zI es=some l->es=l.map Cel.cells:=by
 intro es
 induction es with
 |nil=>intro l h;cases h;rfl
 | cons e r ih =>
   intro l h;unfold zI at h;split at h
   . rename_i a m h1 h2;cases h;rw[List.map_cons,<- ih h2,Cel.enc_dec _ _ h1]
   . cases h
theorem zK(l:List α):zL (l.map Cel.cells)=l.map Cel.cells:=by
 rw[zfD,List.map_map];exact List.map_congr_left fun a _=>Cel.norm a
theorem zN(l:List α):((l.map Cel.cells).all fun e=>e.all V.pure2)=true:=by
 rw[List.all_eq_true];intro e he;obtain⟨a,_,rfl⟩:=List.mem_map.1 he;exact Cel.pure2 a
instance instSl:Enc (List α) where
 enc l:=.sl (l.map Cel.cells) false
 dec v:=match v with
  |.sl es false=>zI es
  |_=>none
 dec_enc l:=zah l
 enc_dec v a h:=by
  split at h
  . rw[zai h]
  . cases h
 norm l:=by
  show V.sl (zL (l.map Cel.cells)) false=_;rw[zK]
end
@[reducible] def zcv {α:Type} [Cel α]:Enc α where
  enc a:=.agg (Cel.cells a)
  dec v:=match v with
   |.agg c=>Cel.dec c
   |_=>none
  dec_enc a:=Cel.dec_enc a
  enc_dec v a h:=by
   split at h
   . rw[Cel.enc_dec _ _ h]
   . cases h
  norm a:=by
   show V.agg (zO (Cel.cells a))=_;rw[Cel.norm]
instance instPair{α β:Type} [Enc α] [Enc β]:Enc (α×β) where
 enc p:=.tuple [enc p.1,enc p.2]
 dec v:=match v with
  |.tuple [x,y]=>ob (Enc.dec x) fun a=>ob (Enc.dec y) fun b=>some (a,b)
  |_=>none
 dec_enc p:=by simp[Enc.dec_enc]
 enc_dec v a h:=by
  split at h
  . simp only[za]at h;obtain⟨x,hx,y,hy,h⟩:=h;cases h;rw[Enc.enc_dec _ _ hx,Enc.enc_dec _ _ hy]
  . cases h
 norm p:=by simp[zU,zO,Enc.norm]
end Go.J
/- Types,and structures of them,as values of the evaluator. -/
namespace Go.J
open Enc (enc)
inductive Ty where
 |mk (kind:Int) (name:List Nat) (id home:Int) (args:List Ty)
 deriving Inhabited
namespace Ty
def kind:Ty->Int|.mk k _ _ _ _=>k
def name:Ty->List Nat|.mk _ n _ _ _=>n
def id:Ty->Int|.mk _ _ i _ _=>i
def home:Ty->Int|.mk _ _ _ h _=>h
def args:Ty->List Ty|.mk _ _ _ _ l=>l
section
variable {k i h:Int}{n:List Nat}{l:List Ty}
@[simp] theorem kind_mk:(mk k n i h l).kind=k:=(rfl)
@[simp] theorem name_mk:(mk k n i h l).name=n:=(rfl)
@[simp] theorem id_mk:(mk k n i h l).id=i:=(rfl)
@[simp] theorem home_mk:(mk k n i h l).home=h:=(rfl)
@[simp] theorem args_mk:(mk k n i h l).args=l:=(rfl)
@[simp] theorem eta (t:Ty):mk t.kind t.name t.id t.home t.args=t:=by cases t;rfl
end
theorem ext'{a b:Ty}(h1:a.kind=b.kind)(h2:a.name=b.name)(h3:a.id=b.id)(h4:a.home=b.home)(h5:a.args=b.args):a=b:=by
 cases a;cases b;simp_all
theorem eq_iff{a b:Ty}:a=b↔a.kind=b.kind/\a.name=b.name/\a.id=b.id/\a.home=b.home/\a.args=b.args :=
 ⟨fun h=>by subst h;simp,fun ⟨h1,h2,h3,h4,h5⟩=>ext' h1 h2 h3 h4 h5⟩
mutual
def beq:Ty->Ty->Bool
 |.mk k n i h l,.mk k' n' i' h' l'=>decide (k=k')&&decide (n=n')&&decide (i=i')&&decide (h=h')&&zxI l l'
def zxI:List Ty->List Ty->Bool
 | [],[]=>true
 |a::l,b::m=>beq a b&&zxI l m
 |_,_=>false
end
mutual
theorem zv5:∀ a b:Ty,beq a b=true↔a=b
 | .mk k n i h l,.mk k' n' i' h' l'=>by
   simp[beq,zoI l l',and_assoc]
theorem zoI:∀ a b:List Ty,zxI a b=true↔a=b
 | [],[]=>by simp[zxI]
 | [],_::_=>by simp[zxI]
 |_::_,[]=>by simp[zxI]
 |a::l,b::m=>by simp[zxI,zv5 a b,zoI l m]
end
instance:DecidableEq Ty:=fun a b=>decidable_of_iff _ (zv5 a b)
mutual
def size:Ty->Nat
 |.mk _ _ _ _ l=>sizes l+1
def sizes:List Ty->Nat
 | []=>0
 |t::l=>size t+sizes l
end
theorem size_eq(t:Ty):t.size=sizes t.args+1:=by cases t;simp[size]
theorem size_pos(t:Ty):0<t.size:=by rw[size_eq];omega
theorem size_mem{t:Ty}{l:List Ty}(h:t∈l):t.size<=sizes l:=by
 induction l with
 |nil=>cases h
 | cons a l ih =>
   simp only[sizes];rcases List.mem_cons.1 h with rfl|h
   . omega
   . have:=ih h;omega
theorem size_arg{t u:Ty}(h:u∈t.args):u.size<t.size:=by
 have:=size_mem h;rw[size_eq t];omega
theorem ind{p:Ty->Prop}(h:∀ t,(∀ u∈t.args,p u)->p t)(t:Ty):p t:=by
 generalize hn:t.size=n
 induction n using Nat.strongRecOn generalizing t with
 |_ n ih=>exact h t fun u hu=>ih u.size (by have:=size_arg hu;omega) u rfl
mutual
def ok:Ty->Bool
 |.mk _ _ _ _ l=>decide (l.length<=10000)&&oks l
def oks:List Ty->Bool
 | []=>true
 |t::l=>ok t&&oks l
end
theorem oks_iff{l:List Ty}:oks l=true↔∀ t∈l,t.ok=true:=by
 induction l with
 |nil=>simp[oks]
 |cons a l ih=>simp[oks,ih]
theorem ok_iff{t:Ty}:t.ok=true↔t.args.length<=10000/\∀ u∈t.args,u.ok=true:=by
 cases t;simp[ok,oks_iff]
theorem ok_len{t:Ty}(h:t.ok=true):t.args.length<=10000:=(ok_iff.1 h).1
theorem ok_arg{t u:Ty}(h:t.ok=true)(hu:u∈t.args):u.ok=true:=(ok_iff.1 h).2 u hu
end Ty
mutual
def zh:Ty->List V
 |.mk k n i h l=>[.int .i64 k,.str n,.int .i64 i,.int .i64 h,.sl (zbN l) false]
def zbN:List Ty->List (List V)
 | []=>[]
 |t::l=>zh t::zbN l
end
theorem zfY(l:List Ty):zbN l=l.map zh:=by
 induction l with
 |nil=>simp[zbN]
 |cons t l ih=>simp[zbN,ih]
theorem zdm(t:Ty):zh t=[.int .i64 t.kind,.str t.name,.int .i64 t.id,.int .i64 t.home,.sl (t.args.map zh) false]:=by
 cases t;simp[zh,zfY]
mutual
def zcP:V->Option (List Ty)
 |.sl es false=>zdp es
 |_=>none
def zdp:List (List V)->Option (List Ty)
 | []=>some []
 | e::r=>match zfe e,zdp r with
   |some t,some l=>some (t::l)
   |_,_=>none
def zfe:List V->Option Ty
 | [.int .i64 k,.str n,.int .i64 i,.int .i64 h,a]=>(zcP a).map (Ty.mk k n i h)
 |_=>none
end
mutual
theorem zjm:∀ t:Ty,zfe (zh t)=some t
 |.mk k n i h l=>by simp[zh,zfe,zcP,zeG l]
theorem zeG:∀ l:List Ty,zdp (zbN l)=some l
 | []=>by simp[zbN,zdp]
 |t::l=>by simp[zbN,zdp,zjm t,zeG l]
end
mutual
theorem zhh:∀ (v:V) (l:List Ty),zcP v=some l->v=.sl (zbN l) false
 | v,l,h=>by
   unfold zcP at h;split at h
   . rename_i es;rw[zhg es l h]
   . cases h
theorem zhg:∀ (es:List (List V)) (l:List Ty),zdp es=some l->es=zbN l
 | [],l,h=>by simp[zdp]at h;subst h;simp[zbN]
 | e :: r,l,h=>by
   unfold zdp at h;split at h
   . rename_i t m h1 h2;cases h;rw[zjb e t h1,zhg r m h2];simp[zbN]
   . cases h
theorem zjb:∀ (c:List V) (t:Ty),zfe c=some t->c=zh t
 | c,t,h=>by
   unfold zfe at h;split at h
   . rename_i k n i hm a;rw[Option.map_eq_some_iff]at h;obtain⟨l,hl,rfl⟩:=h;rw[zhh a l hl];simp[zh]
   . cases h
end
mutual
theorem zgT:∀ t:Ty,zO (zh t)=zh t
 |.mk k n i h l=>by simp[zh,zO,zU,zfC l]
theorem zfC:∀ l:List Ty,zL (zbN l)=zbN l
 | []=>by simp[zbN,zL]
 |t::l=>by simp[zbN,zL,zgT t,zfC l]
end
instance:Cel Ty where
 cells:=zh
 dec:=zfe
 dec_enc:=zjm
 enc_dec:=zjb
 pure2 t:=by cases t;simp[zh,V.pure2,V.pure1]
 norm:=zgT
instance:Enc Ty:=zcv
theorem zgb:∀ es:List (List V),zdp es=zI es:=by
 intro es
 induction es with
 |nil=>simp[zdp,zI]
 | cons e r ih =>
   simp only[zdp,zI,ih];rw[show (Cel.dec e:Option Ty)=zfe e from rfl];cases zfe e<;>cases(zI r:Option (List Ty))<;>rfl
theorem zx0{k i h:Int}{n:List Nat}{es:List (List V)}:zfe [.int .i64 k,.str n,.int .i64 i,.int .i64 h,.sl es false]=ob (zI es) fun l=>some (Ty.mk k n i h l):=by
 simp only[zfe,zcP,zgb];cases(zI es:Option (List Ty))<;>rfl
@[simp] theorem z6H:@Cel.cells Ty _=zh:=(rfl)
@[simp] theorem z2Y:@Cel.dec Ty _=zfe:=(rfl)
@[simp] theorem zCZ (a:Ty):enc a=.agg (zh a):=(rfl)
@[simp] theorem zDf {c:List V}:Enc.dec (α:=Ty) (.agg c)=zfe c:=(rfl)
@[simp] theorem zdr (l:List Ty):zI (l.map zh)=some l:=zah l
@[simp] theorem zdf (l:List Ty):zL (l.map zh)=l.map zh:=zK l
@[simp] theorem zpN (l:List Ty):((l.map zh).all fun e=>e.all V.pure2)=true:=zN l
@[simp] theorem z9E (l:List Ty):enc l=.sl (l.map zh) false:=(rfl)
@[simp] theorem z9N {es:List (List V)}:Enc.dec (α:=List Ty) (.sl es false)=zI es:=(rfl)
theorem z8{α:Type}{f:α->List V}(h:∀ l:List α,((l.map f).all fun e=>e.all V.pure2)=true){l:List α}:zD (l.map f)=true:=by
 have h:=h l;rw[List.all_eq_true]at h;refine(zgw zpm _).2 fun e he=>allC_eq.2 fun v hv=>?_
 have:=List.all_eq_true.1 (h e he) v hv;cases v<;>first|rfl|cases this
@[simp] theorem zDD (l:List Ty):sizes 5 (l.map zh)=true:=by rw[sizes_eq];intro e he;obtain⟨a,_,rfl⟩:=List.mem_map.1 he;rw[zdm];rfl
@[simp] theorem zEp (l:List Ty):zD (l.map zh)=true:=z8 zpN
attribute [simp] zx0 zdm
structure T3(α β γ:Type) where
 a:α
 b:β
 c:γ
structure T4(α β γ δ:Type) where
 a:α
 b:β
 c:γ
 d:δ
instance instT3{α β γ:Type} [Enc α] [Enc β] [Enc γ]:Enc (T3 α β γ) where
 enc p:=.tuple [enc p.a,enc p.b,enc p.c]
 dec v:=match v with
  |.tuple [x,y,z]=>ob (Enc.dec x) fun a=>ob (Enc.dec y) fun b=>ob (Enc.dec z) fun c=>some ⟨a,b,c⟩
  |_=>none
 dec_enc p:=by simp[Enc.dec_enc,ob]
 enc_dec v a h:=by
  split at h
  . simp only[za]at h;obtain⟨x,hx,y,hy,z,hz,h⟩:=h;cases h;rw[Enc.enc_dec _ _ hx,Enc.enc_dec _ _ hy,Enc.enc_dec _ _ hz]
  . cases h
 norm p:=by simp[zU,zO,Enc.norm]
instance instT4{α β γ δ:Type} [Enc α] [Enc β] [Enc γ] [Enc δ]:Enc (T4 α β γ δ) where
 enc p:=.tuple [enc p.a,enc p.b,enc p.c,enc p.d]
 dec v:=match v with
  |.tuple [x,y,z,u]=>ob (Enc.dec x) fun a=>ob (Enc.dec y) fun b=>ob (Enc.dec z) fun c=>ob (Enc.dec u) fun d=>some ⟨a,b,c,d⟩
  |_=>none
 dec_enc p:=by simp[Enc.dec_enc,ob]
 enc_dec v a h:=by
  split at h
  . simp only[za]at h;obtain⟨x,hx,y,hy,z,hz,u,hu,h⟩:=h;cases h;rw[Enc.enc_dec _ _ hx,Enc.enc_dec _ _ hy,Enc.enc_dec _ _ hz,Enc.enc_dec _ _ hu]
  . cases h
 norm p:=by simp[zU,zO,Enc.norm]
@[simp] theorem zDc {α β γ:Type} [Enc α] [Enc β] [Enc γ] (p:T3 α β γ):enc p=.tuple [enc p.a,enc p.b,enc p.c]:=(rfl)
@[simp] theorem zDb {α β γ δ:Type} [Enc α] [Enc β] [Enc γ] [Enc δ] (p:T4 α β γ δ):enc p=.tuple [enc p.a,enc p.b,enc p.c,enc p.d]:=(rfl)
abbrev encI(n:Int):List V:=[.int .i64 n]
abbrev zhN(b:Bool):List V:=[.bool b]
abbrev encS(s:List Nat):List V:=[.str s]
@[simp] theorem zq7 (l:List Int):zI (l.map encI)=some l:=zah l
@[simp] theorem z2J (l:List Bool):zI (l.map zhN)=some l:=zah l
@[simp] theorem zq6 (l:List (List Nat)):zI (l.map encS)=some l:=zah l
@[simp] theorem zqc (l:List Int):zL (l.map encI)=l.map encI:=zK l
@[simp] theorem z1u (l:List Bool):zL (l.map zhN)=l.map zhN:=zK l
@[simp] theorem zqb (l:List (List Nat)):zL (l.map encS)=l.map encS:=zK l
@[simp] theorem zi2 (l:List Int):((l.map encI).all fun e=>e.all V.pure2)=true:=zN l
@[simp] theorem zgO (l:List Bool):((l.map zhN).all fun e=>e.all V.pure2)=true:=zN l
@[simp] theorem zm8 (l:List (List Nat)):((l.map encS).all fun e=>e.all V.pure2)=true:=zN l
@[simp] theorem zAE (l:List Int):sizes 1 (l.map encI)=true:=by rw[sizes_eq];intro e he;obtain⟨a,_,rfl⟩:=List.mem_map.1 he;rfl
@[simp] theorem z7J (l:List Bool):sizes 1 (l.map zhN)=true:=by rw[sizes_eq];intro e he;obtain⟨a,_,rfl⟩:=List.mem_map.1 he;rfl
@[simp] theorem zAD (l:List (List Nat)):sizes 1 (l.map encS)=true:=by rw[sizes_eq];intro e he;obtain⟨a,_,rfl⟩:=List.mem_map.1 he;rfl
@[simp] theorem zDr (l:List Int):zD (l.map encI)=true:=z8 zi2
@[simp] theorem zAk (l:List Bool):zD (l.map zhN)=true:=z8 zgO
@[simp] theorem zDq (l:List (List Nat)):zD (l.map encS)=true:=z8 zm8
@[simp] theorem z6p (l:List Int):enc l=.sl (l.map encI) false:=(rfl)
@[simp] theorem z2v (l:List Bool):enc l=.sl (l.map zhN) false:=(rfl)
@[simp] theorem z6o (l:List (List Nat)):enc l=.sl (l.map encS) false:=(rfl)
@[simp] theorem z6x {es:List (List V)}:Enc.dec (α:=List Int) (.sl es false)=zI es:=(rfl)
@[simp] theorem z2F {es:List (List V)}:Enc.dec (α:=List Bool) (.sl es false)=zI es:=(rfl)
@[simp] theorem z6w {es:List (List V)}:Enc.dec (α:=List (List Nat)) (.sl es false)=zI es:=(rfl)
@[simp] theorem z9H (n:Int):enc n=.int .i64 n:=(rfl)
@[simp] theorem z6s (b:Bool):enc b=.bool b:=(rfl)
@[simp] theorem z9C (s:List Nat):enc s=.str s:=(rfl)
@[simp] theorem z9Q {n:Int}:Enc.dec (α:=Int) (.int .i64 n)=some n:=(rfl)
@[simp] theorem z6A {b:Bool}:Enc.dec (α:=Bool) (.bool b)=some b:=(rfl)
@[simp] theorem z9L {s:List Nat}:Enc.dec (α:=List Nat) (.str s)=some s:=(rfl)
@[simp] theorem z2W:@Cel.cells Int _=encI:=(rfl)
@[simp] theorem zzE:@Cel.cells Bool _=zhN:=(rfl)
@[simp] theorem z2V:@Cel.cells (List Nat) _=encS:=(rfl)
@[simp] theorem zzG {n:Int}:Cel.dec (α:=Int) [.int .i64 n]=some n:=(rfl)
@[simp] theorem zxF {b:Bool}:Cel.dec (α:=Bool) [.bool b]=some b:=(rfl)
@[simp] theorem zzF {s:List Nat}:Cel.dec (α:=List Nat) [.str s]=some s:=(rfl)
@[simp] theorem z6m {α β:Type} [Enc α] [Enc β] (a:α) (b:β):enc (a,b)=.tuple [enc a,enc b]:=(rfl)
@[simp] theorem z6B {α:Type} [Cel α]:zI ([]:List (List V))=some ([]:List α):=(rfl)
@[simp] theorem zjs {α:Type} [Cel α] {e:List V} {r:List (List V)}:(zI (e::r):Option (List α))=ob (Cel.dec e) fun a=>ob (zI r) fun l=>some (a::l):=by
  show (match (Cel.dec e:Option α),(zI r:Option (List α))with|some a,some l=>some (a::l)|_,_=>none)=_;cases(Cel.dec e:Option α)<;>cases(zI r:Option (List α))<;>rfl
@[simp] theorem zx1 {α:Type} [Cel α] {e r:List (List V)}:(zI (e++r):Option (List α))=ob (zI e) fun a=>ob (zI r) fun l=>some (a++l):=by
  induction e with
  | nil =>
    show zI r=ob (some []) _;rw[zy];cases(zI r:Option (List α))<;>rfl
  | cons x e ih =>
    show zI (x::(e++r))=_;rw[zjs,zjs,ih];cases(Cel.dec x:Option α)<;>cases(zI e:Option (List α))<;>cases(zI r:Option (List α))<;>rfl
structure Slot where
 bound:Bool
 type:Ty
 home:Int
 base:Bool
 deriving DecidableEq
def zbh(a:Slot):List V:=[.bool a.bound,.int .i64 a.type.kind,.str a.type.name,.int .i64 a.type.id,.int .i64 a.type.home,.sl (a.type.args.map zh) false,.int .i64 a.home,.bool a.base]
def zgc(c:List V):Option Slot :=
 match c with
 | [.bool x0,.int .i64 x1,.str x2,.int .i64 x3,.int .i64 x4,.sl x5 false,.int .i64 x6,.bool x7]=>ob (zI x5) fun y5=>some ⟨x0,(Ty.mk x1 x2 x3 x4 y5),x6,x7⟩
 |_=>none
theorem zjq{x0:Bool}{x1:Int}{x2:List Nat}{x3:Int}{x4:Int}{x5:List (List V)}{x6:Int}{x7:Bool}:zgc [.bool x0,.int .i64 x1,.str x2,.int .i64 x3,.int .i64 x4,.sl x5 false,.int .i64 x6,.bool x7]=ob (zI x5) fun y5=>some ⟨x0,(Ty.mk x1 x2 x3 x4 y5),x6,x7⟩:=(rfl)
instance:Cel Slot where
 cells:=zbh
 dec:=zgc
 dec_enc a:=by simp only[zbh,zjq,zdr,zy,Ty.eta]
 enc_dec c a h:=by
  unfold zgc at h;split at h
  . simp only[za]at h;obtain⟨y5,hy5,h⟩:=h;cases h;have hy5:=zai hy5
    subst_vars
    rfl
  . cases h
 pure2 a:=rfl
 norm a:=by simp only[zbh,zO,zU,zdf]
instance:Enc Slot:=zcv
@[simp] theorem zzA:@Cel.cells Slot _=zbh:=(rfl)
@[simp] theorem zxB:@Cel.dec Slot _=zgc:=(rfl)
@[simp] theorem z6l (a:Slot):enc a=.agg (zbh a):=(rfl)
@[simp] theorem z6u {c:List V}:Enc.dec (α:=Slot) (.agg c)=zgc c:=(rfl)
@[simp] theorem zo0 (l:List Slot):zI (l.map zbh)=some l:=zah l
@[simp] theorem zmK (l:List Slot):zL (l.map zbh)=l.map zbh:=zK l
@[simp] theorem zly (l:List Slot):((l.map zbh).all fun e=>e.all V.pure2)=true:=zN l
@[simp] theorem z2r (l:List Slot):enc l=.sl (l.map zbh) false:=(rfl)
@[simp] theorem z2B {es:List (List V)}:Enc.dec (α:=List Slot) (.sl es false)=zI es:=(rfl)
@[simp] theorem z7F (l:List Slot):sizes 8 (l.map zbh)=true:=by rw[sizes_eq];intro e he;obtain⟨a,_,rfl⟩:=List.mem_map.1 he;rfl
@[simp] theorem zAg (l:List Slot):zD (l.map zbh)=true:=z8 zly
@[simp] theorem z6e (a:Slot):Slot.mk a.bound a.type a.home a.base=a:=(rfl)
attribute [simp] zjq zbh
structure Change where
 id:Int
 old:Slot
 new:Bool
 deriving DecidableEq
def zae(a:Change):List V:=[.int .i64 a.id,.bool a.old.bound,.int .i64 a.old.type.kind,.str a.old.type.name,.int .i64 a.old.type.id,.int .i64 a.old.type.home,.sl (a.old.type.args.map zh) false,.int .i64 a.old.home,.bool a.old.base,.bool a.new]
def zds(c:List V):Option Change :=
 match c with
 | [.int .i64 x0,.bool x1,.int .i64 x2,.str x3,.int .i64 x4,.int .i64 x5,.sl x6 false,.int .i64 x7,.bool x8,.bool x9]=>ob (zI x6) fun y6=>some ⟨x0,⟨x1,(Ty.mk x2 x3 x4 x5 y6),x7,x8⟩,x9⟩
 |_=>none
theorem zgh{x0:Int}{x1:Bool}{x2:Int}{x3:List Nat}{x4:Int}{x5:Int}{x6:List (List V)}{x7:Int}{x8:Bool}{x9:Bool}:zds [.int .i64 x0,.bool x1,.int .i64 x2,.str x3,.int .i64 x4,.int .i64 x5,.sl x6 false,.int .i64 x7,.bool x8,.bool x9]=ob (zI x6) fun y6=>some ⟨x0,⟨x1,(Ty.mk x2 x3 x4 x5 y6),x7,x8⟩,x9⟩:=(rfl)
instance:Cel Change where
 cells:=zae
 dec:=zds
 dec_enc a:=by simp only[zae,zgh,zdr,zy,Ty.eta]
 enc_dec c a h:=by
  unfold zds at h;split at h
  . simp only[za]at h;obtain⟨y6,hy6,h⟩:=h;cases h;have hy6:=zai hy6
    subst_vars
    rfl
  . cases h
 pure2 a:=rfl
 norm a:=by simp only[zae,zO,zU,zdf]
instance:Enc Change:=zcv
@[simp] theorem zvz:@Cel.cells Change _=zae:=(rfl)
@[simp] theorem zqG:@Cel.dec Change _=zds:=(rfl)
@[simp] theorem zzw (a:Change):enc a=.agg (zae a):=(rfl)
@[simp] theorem zz3 {c:List V}:Enc.dec (α:=Change) (.agg c)=zds c:=(rfl)
@[simp] theorem zkd (l:List Change):zI (l.map zae)=some l:=zah l
@[simp] theorem zjR (l:List Change):zL (l.map zae)=l.map zae:=zK l
@[simp] theorem zi3 (l:List Change):((l.map zae).all fun e=>e.all V.pure2)=true:=zN l
@[simp] theorem zxq (l:List Change):enc l=.sl (l.map zae) false:=(rfl)
@[simp] theorem zxx {es:List (List V)}:Enc.dec (α:=List Change) (.sl es false)=zI es:=(rfl)
@[simp] theorem z01 (l:List Change):sizes 10 (l.map zae)=true:=by rw[sizes_eq];intro e he;obtain⟨a,_,rfl⟩:=List.mem_map.1 he;rfl
@[simp] theorem z3B (l:List Change):zD (l.map zae)=true:=z8 zi3
@[simp] theorem zzr (a:Change):Change.mk a.id a.old a.new=a:=(rfl)
attribute [simp] zgh zae
structure Store where
 slots:List Slot
 trail:List Change
 deriving DecidableEq
def zaW(a:Store):List V:=[.sl (a.slots.map zbh) false,.sl (a.trail.map zae) false]
def zep(c:List V):Option Store :=
 match c with
 | [.sl x0 false,.sl x1 false]=>ob (zI x0) fun y0=>ob (zI x1) fun y1=>some ⟨y0,y1⟩
 |_=>none
theorem zhn{x0:List (List V)}{x1:List (List V)}:zep [.sl x0 false,.sl x1 false]=ob (zI x0) fun y0=>ob (zI x1) fun y1=>some ⟨y0,y1⟩:=(rfl)
instance:Cel Store where
 cells:=zaW
 dec:=zep
 dec_enc a:=by simp only[zaW,zhn,zkd,zo0,zy,Ty.eta]
 enc_dec c a h:=by
  unfold zep at h;split at h
  . simp only[za]at h;obtain⟨y0,hy0,y1,hy1,h⟩:=h;cases h;have hy0:=zai hy0;have hy1:=zai hy1
    subst_vars
    rfl
  . cases h
 pure2 a:=rfl
 norm a:=by simp only[zaW,zO,zU,zjR,zmK]
instance:Enc Store:=zcv
@[simp] theorem zx9:@Cel.cells Store _=zaW:=(rfl)
@[simp] theorem zv1:@Cel.dec Store _=zep:=(rfl)
@[simp] theorem z2q (a:Store):enc a=.agg (zaW a):=(rfl)
@[simp] theorem z2A {c:List V}:Enc.dec (α:=Store) (.agg c)=zep c:=(rfl)
@[simp] theorem zz5 (l:List Store):zI (l.map zaW)=some l:=zah l
@[simp] theorem zyI (l:List Store):zL (l.map zaW)=l.map zaW:=zK l
@[simp] theorem zjM (l:List Store):((l.map zaW).all fun e=>e.all V.pure2)=true:=zN l
@[simp] theorem zzu (l:List Store):enc l=.sl (l.map zaW) false:=(rfl)
@[simp] theorem zz1 {es:List (List V)}:Enc.dec (α:=List Store) (.sl es false)=zI es:=(rfl)
@[simp] theorem z4n (l:List Store):sizes 2 (l.map zaW)=true:=by rw[sizes_eq];intro e he;obtain⟨a,_,rfl⟩:=List.mem_map.1 he;rfl
@[simp] theorem z6Y (l:List Store):zD (l.map zaW)=true:=z8 zjM
@[simp] theorem z2m (a:Store):Store.mk a.slots a.trail=a:=(rfl)
attribute [simp] zhn zaW
structure Assign where
 id:Int
 type:Ty
 deriving DecidableEq
def zQ(a:Assign):List V:=[.int .i64 a.id,.int .i64 a.type.kind,.str a.type.name,.int .i64 a.type.id,.int .i64 a.type.home,.sl (a.type.args.map zh) false]
def zdt(c:List V):Option Assign :=
 match c with
 | [.int .i64 x0,.int .i64 x1,.str x2,.int .i64 x3,.int .i64 x4,.sl x5 false]=>ob (zI x5) fun y5=>some ⟨x0,(Ty.mk x1 x2 x3 x4 y5)⟩
 |_=>none
theorem zgi{x0:Int}{x1:Int}{x2:List Nat}{x3:Int}{x4:Int}{x5:List (List V)}:zdt [.int .i64 x0,.int .i64 x1,.str x2,.int .i64 x3,.int .i64 x4,.sl x5 false]=ob (zI x5) fun y5=>some ⟨x0,(Ty.mk x1 x2 x3 x4 y5)⟩:=(rfl)
instance:Cel Assign where
 cells:=zQ
 dec:=zdt
 dec_enc a:=by simp only[zQ,zgi,zdr,zy,Ty.eta]
 enc_dec c a h:=by
  unfold zdt at h;split at h
  . simp only[za]at h;obtain⟨y5,hy5,h⟩:=h;cases h;have hy5:=zai hy5
    subst_vars
    rfl
  . cases h
 pure2 a:=rfl
 norm a:=by simp only[zQ,zO,zU,zdf]
instance:Enc Assign:=zcv
@[simp] theorem zv0:@Cel.cells Assign _=zQ:=(rfl)
@[simp] theorem zqH:@Cel.dec Assign _=zdt:=(rfl)
@[simp] theorem zzx (a:Assign):enc a=.agg (zQ a):=(rfl)
@[simp] theorem zz4 {c:List V}:Enc.dec (α:=Assign) (.agg c)=zdt c:=(rfl)
@[simp] theorem zx3 (l:List Assign):zI (l.map zQ)=some l:=zah l
@[simp] theorem zwz (l:List Assign):zL (l.map zQ)=l.map zQ:=zK l
@[simp] theorem zi4 (l:List Assign):((l.map zQ).all fun e=>e.all V.pure2)=true:=zN l
@[simp] theorem zxr (l:List Assign):enc l=.sl (l.map zQ) false:=(rfl)
@[simp] theorem zxy {es:List (List V)}:Enc.dec (α:=List Assign) (.sl es false)=zI es:=(rfl)
@[simp] theorem z02 (l:List Assign):sizes 6 (l.map zQ)=true:=by rw[sizes_eq];intro e he;obtain⟨a,_,rfl⟩:=List.mem_map.1 he;rfl
@[simp] theorem z3C (l:List Assign):zD (l.map zQ)=true:=z8 zi4
@[simp] theorem zzs (a:Assign):Assign.mk a.id a.type=a:=(rfl)
attribute [simp] zgi zQ
structure Equation where
 left:Ty
 right:Ty
 deriving DecidableEq
def zV(a:Equation):List V:=[.int .i64 a.left.kind,.str a.left.name,.int .i64 a.left.id,.int .i64 a.left.home,.sl (a.left.args.map zh) false,.int .i64 a.right.kind,.str a.right.name,.int .i64 a.right.id,.int .i64 a.right.home,.sl (a.right.args.map zh) false]
def zck(c:List V):Option Equation :=
 match c with
 | [.int .i64 x0,.str x1,.int .i64 x2,.int .i64 x3,.sl x4 false,.int .i64 x5,.str x6,.int .i64 x7,.int .i64 x8,.sl x9 false]=>ob (zI x4) fun y4=>ob (zI x9) fun y9=>some ⟨(Ty.mk x0 x1 x2 x3 y4),(Ty.mk x5 x6 x7 x8 y9)⟩
 |_=>none
theorem zeq{x0:Int}{x1:List Nat}{x2:Int}{x3:Int}{x4:List (List V)}{x5:Int}{x6:List Nat}{x7:Int}{x8:Int}{x9:List (List V)}:zck [.int .i64 x0,.str x1,.int .i64 x2,.int .i64 x3,.sl x4 false,.int .i64 x5,.str x6,.int .i64 x7,.int .i64 x8,.sl x9 false]=ob (zI x4) fun y4=>ob (zI x9) fun y9=>some ⟨(Ty.mk x0 x1 x2 x3 y4),(Ty.mk x5 x6 x7 x8 y9)⟩:=(rfl)
instance:Cel Equation where
 cells:=zV
 dec:=zck
 dec_enc a:=by simp only[zV,zeq,zdr,zy,Ty.eta]
 enc_dec c a h:=by
  unfold zck at h;split at h
  . simp only[za]at h;obtain⟨y4,hy4,y9,hy9,h⟩:=h;cases h;have hy4:=zai hy4;have hy9:=zai hy9
    subst_vars
    rfl
  . cases h
 pure2 a:=rfl
 norm a:=by simp only[zV,zO,zU,zdf]
instance:Enc Equation:=zcv
@[simp] theorem zph:@Cel.cells Equation _=zV:=(rfl)
@[simp] theorem zo5:@Cel.dec Equation _=zck:=(rfl)
@[simp] theorem zvt (a:Equation):enc a=.agg (zV a):=(rfl)
@[simp] theorem zvv {c:List V}:Enc.dec (α:=Equation) (.agg c)=zck c:=(rfl)
@[simp] theorem zq8 (l:List Equation):zI (l.map zV)=some l:=zah l
@[simp] theorem zqd (l:List Equation):zL (l.map zV)=l.map zV:=zK l
@[simp] theorem zg5 (l:List Equation):((l.map zV).all fun e=>e.all V.pure2)=true:=zN l
@[simp] theorem zq4 (l:List Equation):enc l=.sl (l.map zV) false:=(rfl)
@[simp] theorem zq5 {es:List (List V)}:Enc.dec (α:=List Equation) (.sl es false)=zI es:=(rfl)
@[simp] theorem zvT (l:List Equation):sizes 10 (l.map zV)=true:=by rw[sizes_eq];intro e he;obtain⟨a,_,rfl⟩:=List.mem_map.1 he;rfl
@[simp] theorem zxN (l:List Equation):zD (l.map zV)=true:=z8 zg5
@[simp] theorem zvq (a:Equation):Equation.mk a.left a.right=a:=(rfl)
attribute [simp] zeq zV
structure Pair where
 a:Ty
 b:Ty
 deriving DecidableEq
def zb5(a:Pair):List V:=[.int .i64 a.a.kind,.str a.a.name,.int .i64 a.a.id,.int .i64 a.a.home,.sl (a.a.args.map zh) false,.int .i64 a.b.kind,.str a.b.name,.int .i64 a.b.id,.int .i64 a.b.home,.sl (a.b.args.map zh) false]
def zge(c:List V):Option Pair :=
 match c with
 | [.int .i64 x0,.str x1,.int .i64 x2,.int .i64 x3,.sl x4 false,.int .i64 x5,.str x6,.int .i64 x7,.int .i64 x8,.sl x9 false]=>ob (zI x4) fun y4=>ob (zI x9) fun y9=>some ⟨(Ty.mk x0 x1 x2 x3 y4),(Ty.mk x5 x6 x7 x8 y9)⟩
 |_=>none
theorem zjr{x0:Int}{x1:List Nat}{x2:Int}{x3:Int}{x4:List (List V)}{x5:Int}{x6:List Nat}{x7:Int}{x8:Int}{x9:List (List V)}:zge [.int .i64 x0,.str x1,.int .i64 x2,.int .i64 x3,.sl x4 false,.int .i64 x5,.str x6,.int .i64 x7,.int .i64 x8,.sl x9 false]=ob (zI x4) fun y4=>ob (zI x9) fun y9=>some ⟨(Ty.mk x0 x1 x2 x3 y4),(Ty.mk x5 x6 x7 x8 y9)⟩:=(rfl)
instance:Cel Pair where
 cells:=zb5
 dec:=zge
 dec_enc a:=by simp only[zb5,zjr,zdr,zy,Ty.eta]
 enc_dec c a h:=by
  unfold zge at h;split at h
  . simp only[za]at h;obtain⟨y4,hy4,y9,hy9,h⟩:=h;cases h;have hy4:=zai hy4;have hy9:=zai hy9
    subst_vars
    rfl
  . cases h
 pure2 a:=rfl
 norm a:=by simp only[zb5,zO,zU,zdf]
instance:Enc Pair:=zcv
@[simp] theorem zzB:@Cel.cells Pair _=zb5:=(rfl)
@[simp] theorem zxC:@Cel.dec Pair _=zge:=(rfl)
@[simp] theorem z6n (a:Pair):enc a=.agg (zb5 a):=(rfl)
@[simp] theorem z6v {c:List V}:Enc.dec (α:=Pair) (.agg c)=zge c:=(rfl)
@[simp] theorem z2H (l:List Pair):zI (l.map zb5)=some l:=zah l
@[simp] theorem z1s (l:List Pair):zL (l.map zb5)=l.map zb5:=zK l
@[simp] theorem zlz (l:List Pair):((l.map zb5).all fun e=>e.all V.pure2)=true:=zN l
@[simp] theorem z2s (l:List Pair):enc l=.sl (l.map zb5) false:=(rfl)
@[simp] theorem z2C {es:List (List V)}:Enc.dec (α:=List Pair) (.sl es false)=zI es:=(rfl)
@[simp] theorem z7G (l:List Pair):sizes 10 (l.map zb5)=true:=by rw[sizes_eq];intro e he;obtain⟨a,_,rfl⟩:=List.mem_map.1 he;rfl
@[simp] theorem zAh (l:List Pair):zD (l.map zb5)=true:=z8 zlz
@[simp] theorem z6f (a:Pair):Pair.mk a.a a.b=a:=(rfl)
attribute [simp] zjr zb5
structure Tp where
 l:List Int
 i:Int
 deriving DecidableEq
def zeE(a:Tp):List V:=[.sl (a.l.map (fun n=>[V.int .i64 n])) false,.int .i64 a.i]
def zoz(c:List V):Option Tp :=
 match c with
 | [.sl x0 false,.int .i64 x1]=>ob (zI x0) fun y0=>some ⟨y0,x1⟩
 |_=>none
theorem zoy{x0:List (List V)}{x1:Int}:zoz [.sl x0 false,.int .i64 x1]=ob (zI x0) fun y0=>some ⟨y0,x1⟩:=(rfl)
instance:Cel Tp where
 cells:=zeE
 dec:=zoz
 dec_enc a:=by simp only[zeE,zoy,zq7,zy,Ty.eta]
 enc_dec c a h:=by
  unfold zoz at h;split at h
  . simp only[za]at h;obtain⟨y0,hy0,h⟩:=h;cases h;have hy0:=zai hy0
    subst_vars
    rfl
  . cases h
 pure2 a:=rfl
 norm a:=by simp only[zeE,zO,zU,zqc]
instance:Enc Tp:=zcv
@[simp] theorem z6I:@Cel.cells Tp _=zeE:=(rfl)
@[simp] theorem z2Z:@Cel.dec Tp _=zoz:=(rfl)
@[simp] theorem zDa (a:Tp):enc a=.agg (zeE a):=(rfl)
@[simp] theorem zDg {c:List V}:Enc.dec (α:=Tp) (.agg c)=zoz c:=(rfl)
@[simp] theorem z9S (l:List Tp):zI (l.map zeE)=some l:=zah l
@[simp] theorem z88 (l:List Tp):zL (l.map zeE)=l.map zeE:=zK l
@[simp] theorem zpO (l:List Tp):((l.map zeE).all fun e=>e.all V.pure2)=true:=zN l
@[simp] theorem z9F (l:List Tp):enc l=.sl (l.map zeE) false:=(rfl)
@[simp] theorem z9O {es:List (List V)}:Enc.dec (α:=List Tp) (.sl es false)=zI es:=(rfl)
@[simp] theorem zDE (l:List Tp):sizes 2 (l.map zeE)=true:=by rw[sizes_eq];intro e he;obtain⟨a,_,rfl⟩:=List.mem_map.1 he;rfl
@[simp] theorem zEq (l:List Tp):zD (l.map zeE)=true:=z8 zpO
@[simp] theorem zCX (a:Tp):Tp.mk a.l a.i=a:=(rfl)
attribute [simp] zoy zeE
end Go.J
/- Functions of typed values. -/
namespace Go.J
open Enc (enc)
section
variable {α β γ δ ε ζ:Type} [Enc α] [Enc β] [Enc γ] [Enc δ] [Enc ε] [Enc ζ]
def zf0(b:β)(vs:List V):Option V:=match vs with
 | []=>some (enc b)
 |_=>none
def zbI(F:α->Option β)(vs:List V):Option V:=match vs with
 | [x]=>ob (Enc.dec x) fun a=>ob (F a) fun b=>some (enc b)
 |_=>none
def zal(F:α->β->Option γ)(vs:List V):Option V:=match vs with
 | [x,y]=>ob (Enc.dec x) fun a=>ob (Enc.dec y) fun b=>ob (F a b) fun c=>some (enc c)
 |_=>none
def zmu(F:α->β->γ->Option δ)(vs:List V):Option V:=match vs with
 | [x,y,z]=>ob (Enc.dec x) fun a=>ob (Enc.dec y) fun b=>ob (Enc.dec z) fun c=>ob (F a b c) fun d=>some (enc d)
 |_=>none
def z7L(F:α->β->γ->δ->Option ε)(vs:List V):Option V:=match vs with
 | [x,y,z,u]=>ob (Enc.dec x) fun a=>ob (Enc.dec y) fun b=>ob (Enc.dec z) fun c=>ob (Enc.dec u) fun d=>ob (F a b c d) fun e=>some (enc e)
 |_=>none
@[simp] theorem z7P {b:β}:zf0 b []=some (enc b):=(rfl)
@[simp] theorem z7O {F:α->Option β} {x:V}:zbI F [x]=ob (Enc.dec x) fun a=>ob (F a) fun b=>some (enc b):=(rfl)
@[simp] theorem z7N {F:α->β->Option γ} {x y:V}:zal F [x,y]=ob (Enc.dec x) fun a=>ob (Enc.dec y) fun b=>ob (F a b) fun c=>some (enc c):=(rfl)
@[simp] theorem z7M {F:α->β->γ->Option δ} {x y z:V}:zmu F [x,y,z]=ob (Enc.dec x) fun a=>ob (Enc.dec y) fun b=>ob (Enc.dec z) fun c=>ob (F a b c) fun d=>some (enc d):=(rfl)
@[simp] theorem z7K {F:α->β->γ->δ->Option ε} {x y z u:V}:z7L F [x,y,z,u]=ob (Enc.dec x) fun a=>ob (Enc.dec y) fun b=>ob (Enc.dec z) fun c=>ob (Enc.dec u) fun d=>ob (F a b c d) fun e=>some (enc e):=(rfl)
theorem zmv{b:β}{vs:List V}{v:V}(h:zf0 b vs=some v):vs=[]/\v=enc b:=by
 unfold zf0 at h;split at h
 . cases h;exact⟨rfl,rfl⟩
 . cases h
theorem zfz{F:α->Option β}{vs:List V}{v:V}(h:zbI F vs=some v):∃ a r,vs=[enc a]/\F a=some r/\v=enc r:=by
 unfold zbI at h;split at h
 . simp only[za]at h;obtain⟨a,ha,r,hr,h⟩:=h;cases h;exact⟨a,r,by rw[Enc.enc_dec _ _ ha],hr,rfl⟩
 . cases h
theorem zik{F:α->β->Option γ}{vs:List V}{v:V}(h:zal F vs=some v):∃ a b r,vs=[enc a,enc b]/\F a b=some r/\v=enc r:=by
 unfold zal at h;split at h
 . simp only[za]at h;obtain⟨a,ha,b,hb,r,hr,h⟩:=h;cases h;exact⟨a,b,r,by rw[Enc.enc_dec _ _ ha,Enc.enc_dec _ _ hb],hr,rfl⟩
 . cases h
theorem zij{F:α->β->γ->Option δ}{vs:List V}{v:V}(h:zmu F vs=some v):∃ a b c r,vs=[enc a,enc b,enc c]/\F a b c=some r/\v=enc r:=by
 unfold zmu at h;split at h
 . simp only[za]at h;obtain⟨a,ha,b,hb,c,hc,r,hr,h⟩:=h;cases h;exact⟨a,b,c,r,by rw[Enc.enc_dec _ _ ha,Enc.enc_dec _ _ hb,Enc.enc_dec _ _ hc],hr,rfl⟩
 . cases h
end
section
variable {ρ:Nat->Value}{E:Env}{f:FuncId}{fn:Func}{sc:SC}{vs:List V}{T:PT V}{r:V}
theorem znd(hρ:Good ρ)(hcon:ConsOk ρ E)(hP:E.P.follows .mixedOrders=true)(hN:zcZ E.P)(hf:E.P.funcs[f]?=some fn)(hb:fn.body.bind zo=some sc)(he:zba fn.ntmps vs 0 .leaf=some T)(hp:zt vs=true)
 (h:Wp ρ E 0 fn.ntmps sc T { H:=.leaf,n:=0,log:=[] } (Leaves E.P fn (zd2 r))) (hs:HS):CallOk ρ E.P f vs hs r hs :=
 zo9 hf hb he (zgy hρ hcon hP hN h) hp hs
end
section
variable {A:Nat->Bool}{π:Nat->Nat}
@[simp] theorem z9h {k:IntKind} {n:Int}:V.in1 A (.int k n)=true:=(rfl)
@[simp] theorem z5V {b:Bool}:V.in1 A (.bool b)=true:=(rfl)
@[simp] theorem z9c {s:List Nat}:V.in1 A (.str s)=true:=(rfl)
@[simp] theorem zBs {es:List (List V)} {t:Bool}:V.in1 A (.sl es t)=true:=(rfl)
@[simp] theorem z5T :V.in1 A .snil=true:=(rfl)
@[simp] theorem zzf :V.in1 A .nilptr=true:=(rfl)
@[simp] theorem zzg :V.in1 A .nilmap=true:=(rfl)
@[simp] theorem zwZ :V.in1 A .nilFunc=true:=(rfl)
@[simp] theorem zrN :V.in1 A .nilIface=true:=(rfl)
@[simp] theorem z9d {cs:List V}:V.in1 A (.ref cs)=true:=(rfl)
@[simp] theorem z9b {k:Nat}:V.in1 A (.sym k)=true:=(rfl)
@[simp] theorem z9e {i g o:Nat}:V.in1 A (.ptr i g o)=A i:=(rfl)
@[simp] theorem z9f {i g o n:Nat} {c:Option Nat}:V.in1 A (.own i g o n c)=A i:=(rfl)
@[simp] theorem z9g {i:Nat}:V.in1 A (.map i)=A i:=(rfl)
@[simp] theorem z9a {i:Nat}:V.in1 A (.yld i)=A i:=(rfl)
@[simp] theorem z8Y {k:IntKind} {n:Int}:V.in2 A (.int k n)=true:=(rfl)
@[simp] theorem z5S {b:Bool}:V.in2 A (.bool b)=true:=(rfl)
@[simp] theorem z8T {s:List Nat}:V.in2 A (.str s)=true:=(rfl)
@[simp] theorem zBr {es:List (List V)} {t:Bool}:V.in2 A (.sl es t)=true:=(rfl)
@[simp] theorem z5Q :V.in2 A .snil=true:=(rfl)
@[simp] theorem zzd :V.in2 A .nilptr=true:=(rfl)
@[simp] theorem zze :V.in2 A .nilmap=true:=(rfl)
@[simp] theorem zwY :V.in2 A .nilFunc=true:=(rfl)
@[simp] theorem zrM :V.in2 A .nilIface=true:=(rfl)
@[simp] theorem z8U {cs:List V}:V.in2 A (.ref cs)=true:=(rfl)
@[simp] theorem z8S {k:Nat}:V.in2 A (.sym k)=true:=(rfl)
@[simp] theorem z8V {i g o:Nat}:V.in2 A (.ptr i g o)=A i:=(rfl)
@[simp] theorem z8W {i g o n:Nat} {c:Option Nat}:V.in2 A (.own i g o n c)=A i:=(rfl)
@[simp] theorem z8X {i:Nat}:V.in2 A (.map i)=A i:=(rfl)
@[simp] theorem z8R {i:Nat}:V.in2 A (.yld i)=A i:=(rfl)
@[simp] theorem z8Z {l:List V}:V.in2 A (.agg l)=l.all (V.in1 A):=(rfl)
@[simp] theorem z5R {i:Nat} {l:List V}:V.in2 A (.func i l)=l.all (V.in1 A):=(rfl)
@[simp] theorem z8P {k:IntKind} {n:Int}:V.in3 A (.int k n)=true:=(rfl)
@[simp] theorem z5P {b:Bool}:V.in3 A (.bool b)=true:=(rfl)
@[simp] theorem z8K {s:List Nat}:V.in3 A (.str s)=true:=(rfl)
@[simp] theorem zBq {es:List (List V)} {t:Bool}:V.in3 A (.sl es t)=true:=(rfl)
@[simp] theorem z5N :V.in3 A .snil=true:=(rfl)
@[simp] theorem zzb :V.in3 A .nilptr=true:=(rfl)
@[simp] theorem zzc :V.in3 A .nilmap=true:=(rfl)
@[simp] theorem zwX :V.in3 A .nilFunc=true:=(rfl)
@[simp] theorem zrL :V.in3 A .nilIface=true:=(rfl)
@[simp] theorem z8L {cs:List V}:V.in3 A (.ref cs)=true:=(rfl)
@[simp] theorem z8J {k:Nat}:V.in3 A (.sym k)=true:=(rfl)
@[simp] theorem z8M {i g o:Nat}:V.in3 A (.ptr i g o)=A i:=(rfl)
@[simp] theorem z8N {i g o n:Nat} {c:Option Nat}:V.in3 A (.own i g o n c)=A i:=(rfl)
@[simp] theorem z8O {i:Nat}:V.in3 A (.map i)=A i:=(rfl)
@[simp] theorem z8I {i:Nat}:V.in3 A (.yld i)=A i:=(rfl)
@[simp] theorem z8Q {l:List V}:V.in3 A (.agg l)=l.all (V.in1 A):=(rfl)
@[simp] theorem z5O {i:Nat} {l:List V}:V.in3 A (.func i l)=l.all (V.in1 A):=(rfl)
@[simp] theorem z5U {i:Nat}:V.in1 A (.func i [])=true:=(rfl)
@[simp] theorem z4T {k:IntKind} {n:Int}:V.ren1 π (.int k n)=(.int k n):=(rfl)
@[simp] theorem z0Q {b:Bool}:V.ren1 π (.bool b)=(.bool b):=(rfl)
@[simp] theorem z4O {s:List Nat}:V.ren1 π (.str s)=(.str s):=(rfl)
@[simp] theorem z8f {es:List (List V)} {t:Bool}:V.ren1 π (.sl es t)=(.sl es t):=(rfl)
@[simp] theorem z0O :V.ren1 π .snil=.snil:=(rfl)
@[simp] theorem zwi :V.ren1 π .nilptr=.nilptr:=(rfl)
@[simp] theorem zwj :V.ren1 π .nilmap=.nilmap:=(rfl)
@[simp] theorem zrz :V.ren1 π .nilFunc=.nilFunc:=(rfl)
@[simp] theorem zpK :V.ren1 π .nilIface=.nilIface:=(rfl)
@[simp] theorem z4P {cs:List V}:V.ren1 π (.ref cs)=(.ref cs):=(rfl)
@[simp] theorem z4N {k:Nat}:V.ren1 π (.sym k)=(.sym k):=(rfl)
@[simp] theorem z4Q {i g o:Nat}:V.ren1 π (.ptr i g o)=.ptr (π i) g o:=(rfl)
@[simp] theorem z4R {i g o n:Nat} {c:Option Nat}:V.ren1 π (.own i g o n c)=.own (π i) g o n c:=(rfl)
@[simp] theorem z4S {i:Nat}:V.ren1 π (.map i)=.map (π i):=(rfl)
@[simp] theorem z4M {i:Nat}:V.ren1 π (.yld i)=.yld (π i):=(rfl)
@[simp] theorem z4K {k:IntKind} {n:Int}:V.ren2 π (.int k n)=(.int k n):=(rfl)
@[simp] theorem z0N {b:Bool}:V.ren2 π (.bool b)=(.bool b):=(rfl)
@[simp] theorem z4F {s:List Nat}:V.ren2 π (.str s)=(.str s):=(rfl)
@[simp] theorem z8e {es:List (List V)} {t:Bool}:V.ren2 π (.sl es t)=(.sl es t):=(rfl)
@[simp] theorem z0L :V.ren2 π .snil=.snil:=(rfl)
@[simp] theorem zwg :V.ren2 π .nilptr=.nilptr:=(rfl)
@[simp] theorem zwh :V.ren2 π .nilmap=.nilmap:=(rfl)
@[simp] theorem zry :V.ren2 π .nilFunc=.nilFunc:=(rfl)
@[simp] theorem zpJ :V.ren2 π .nilIface=.nilIface:=(rfl)
@[simp] theorem z4G {cs:List V}:V.ren2 π (.ref cs)=(.ref cs):=(rfl)
@[simp] theorem z4E {k:Nat}:V.ren2 π (.sym k)=(.sym k):=(rfl)
@[simp] theorem z4H {i g o:Nat}:V.ren2 π (.ptr i g o)=.ptr (π i) g o:=(rfl)
@[simp] theorem z4I {i g o n:Nat} {c:Option Nat}:V.ren2 π (.own i g o n c)=.own (π i) g o n c:=(rfl)
@[simp] theorem z4J {i:Nat}:V.ren2 π (.map i)=.map (π i):=(rfl)
@[simp] theorem z4D {i:Nat}:V.ren2 π (.yld i)=.yld (π i):=(rfl)
@[simp] theorem z4L {l:List V}:V.ren2 π (.agg l)=.agg (l.map (V.ren1 π)):=(rfl)
@[simp] theorem z0M {i:Nat} {l:List V}:V.ren2 π (.func i l)=.func i (l.map (V.ren1 π)):=(rfl)
@[simp] theorem z8c {k:IntKind} {n:Int}:V.ren π (.int k n)=(.int k n):=(rfl)
@[simp] theorem z4C {b:Bool}:V.ren π (.bool b)=(.bool b):=(rfl)
@[simp] theorem z7X {s:List Nat}:V.ren π (.str s)=(.str s):=(rfl)
@[simp] theorem zAM {es:List (List V)} {t:Bool}:V.ren π (.sl es t)=(.sl es t):=(rfl)
@[simp] theorem z4A :V.ren π .snil=.snil:=(rfl)
@[simp] theorem zy0 :V.ren π .nilptr=.nilptr:=(rfl)
@[simp] theorem zy1 :V.ren π .nilmap=.nilmap:=(rfl)
@[simp] theorem zwf :V.ren π .nilFunc=.nilFunc:=(rfl)
@[simp] theorem zrx :V.ren π .nilIface=.nilIface:=(rfl)
@[simp] theorem z7Y {cs:List V}:V.ren π (.ref cs)=(.ref cs):=(rfl)
@[simp] theorem z7W {k:Nat}:V.ren π (.sym k)=(.sym k):=(rfl)
@[simp] theorem z7Z {i g o:Nat}:V.ren π (.ptr i g o)=.ptr (π i) g o:=(rfl)
@[simp] theorem z8a {i g o n:Nat} {c:Option Nat}:V.ren π (.own i g o n c)=.own (π i) g o n c:=(rfl)
@[simp] theorem z8b {i:Nat}:V.ren π (.map i)=.map (π i):=(rfl)
@[simp] theorem z7V {i:Nat}:V.ren π (.yld i)=.yld (π i):=(rfl)
@[simp] theorem z8d {l:List V}:V.ren π (.agg l)=.agg (l.map (V.ren1 π)):=(rfl)
@[simp] theorem z4B {i:Nat} {l:List V}:V.ren π (.func i l)=.func i (l.map (V.ren1 π)):=(rfl)
@[simp] theorem z0P {i:Nat} {l:List V}:V.ren1 π (.func i l)=.func i l:=(rfl)
@[simp] theorem z0K {l:List V}:V.ren π (.tuple l)=.tuple (l.map (V.ren2 π)):=(rfl)
@[simp] theorem zAv {a g:Nat} {es:List (List V)} {x z:Bool}:Obj.in A (.arr a g es x z true)=es.all fun e=>e.all V.pure2:=(rfl)
@[simp] theorem zAw {a g:Nat} {es:List (List V)} {x z:Bool}:Obj.in A (.arr a g es x z false)=es.all fun e=>e.all (V.in2 A):=(rfl)
@[simp] theorem zDx {es:List (V×V)}:Obj.in A (.mp es)=true:=(rfl)
@[simp] theorem z7d {a g:Nat} {es:List (List V)} {x z r:Bool}:Obj.ren π (.arr a g es x z r)=.arr a g (es.map fun e=>e.map (V.ren2 π)) x z r:=(rfl)
@[simp] theorem zAu {es:List (V×V)}:Obj.ren π (.mp es)=.mp es:=(rfl)
@[simp] theorem z9K {α:Type} {i:Nat}:dom ([]:List (Nat×α)) i=false:=(rfl)
@[simp] theorem z6t {α:Type} {p:Nat×α} {l:List (Nat×α)} {i:Nat}:dom (p::l) i=(Nat.beq p.1 i||dom l i):=(rfl)
@[simp] theorem zAY {k:IntKind} {n:Int}:V.pure2 (.int k n)=true:=(rfl)
@[simp] theorem z8v {b:Bool}:V.pure2 (.bool b)=true:=(rfl)
@[simp] theorem zAW {s:List Nat}:V.pure2 (.str s)=true:=(rfl)
@[simp] theorem zDS {es:List (List V)} {t:Bool}:V.pure2 (.sl es t)=true:=(rfl)
@[simp] theorem z8u :V.pure2 .snil=true:=(rfl)
@[simp] theorem z1a :V.pure2 .nilptr=true:=(rfl)
@[simp] theorem z1b :V.pure2 .nilmap=true:=(rfl)
@[simp] theorem zy7 :V.pure2 .nilFunc=true:=(rfl)
@[simp] theorem zwp :V.pure2 .nilIface=true:=(rfl)
@[simp] theorem zAX {cs:List V}:V.pure2 (.ref cs)=true:=(rfl)
@[simp] theorem zAV {k:Nat}:V.pure2 (.sym k)=true:=(rfl)
end
section
variable {r:V}{hs:HS}
@[simp] theorem zxZ {b:Bool}:zd2 r (.bool b) hs=(.bool b=r):=by show ok (some (V.bool b)) _=_;rw[zl];rfl
@[simp] theorem zzY {k:IntKind} {n:Int}:zd2 r (.int k n) hs=(.int k n=r):=by show ok (some (V.int k n)) _=_;rw[zl];rfl
@[simp] theorem zzW {b:List Nat}:zd2 r (.str b) hs=(.str b=r):=by show ok (some (V.str b)) _=_;rw[zl];rfl
@[simp] theorem zxY:zd2 r .snil hs=(.sl [] false=r):=by show ok (some V.snil) _=_;rw[zl];rfl
@[simp] theorem z3P {es:List (List V)} {t:Bool}:zd2 r (.sl es t) hs=(.sl (zL es) false=r):=by show ok (some (V.sl es t)) _=_;rw[zl];rfl
@[simp] theorem zzX {i g o n:Nat} {c:Option Nat}:zd2 r (.own i g o n c) hs=ok (zaZ hs (.own i g o n c)) fun v'=>zU v'=r:=(rfl)
@[simp] theorem zzZ {l:List V}:zd2 r (.agg l) hs=ok (zcc hs l) fun l=>.agg (zO l)=r:=by
  show ok (ob (zcc hs l) fun l=>some (V.agg l)) _=_;rw[zS];simp only[zl,zU]
@[simp] theorem zvB {l:List V}:zd2 r (.tuple l) hs=ok (zak hs l) fun l=>.tuple (zO l)=r:=by
  show ok (ob (zak hs l) fun l=>some (V.tuple l)) _=_;rw[zS];simp only[zl,zU]
theorem wrap_i64{n:Int}(h1:-9223372036854775808<=n)(h2:n<=9223372036854775807):IntKind.i64.wrap n=n:=IntWalk.i64_in n ⟨h1,h2⟩
theorem zA{i:Nat}(h:i<9223372036854775807):IntKind.i64.wrap ((i:Int)+1)=((i+1:Nat):Int):=by rw[wrap_i64 (by omega) (by omega)];omega
@[simp] theorem z6i (a b:List Nat):zkZ a b=decide (a=b):=by
  rw[Bool.eq_iff_iff,decide_eq_true_eq];exact eqNs_true
@[simp] theorem z0C {b:Bool}:(V.bool b).scal=true:=(rfl)
@[simp] theorem z4t {k:IntKind} {n:Int}:(V.int k n).scal=true:=(rfl)
@[simp] theorem z4s {b:List Nat}:(V.str b).scal=true:=(rfl)
@[simp] theorem zrr {α β:Type} (f:α->β) (l:List α):List.take l.length (l.map f)=l.map f:=List.take_of_length_le (by simp)
@[simp] theorem z0z {α β:Type} (f:α->β) (l:List α) (x:β):List.take (l.length+1) (l.map f++[x])=l.map f++[x]:=List.take_of_length_le (by simp)
@[simp] theorem z0y {α β:Type} (f:α->β) (l:List α) (x y:β):List.take (l.length+1+1) (l.map f++[x,y])=l.map f++[x,y]:=List.take_of_length_le (by simp)
@[simp] theorem zr4 {α:Type} (l:List α) (n:Nat) (m:List α):(zaC l n m).length=l.length:=zbG l n m
@[simp] theorem zy9 {α β:Type} (f:α->β) (l:List α) (z:β):zaC (List.replicate l.length z) 0 (l.map f)=l.map f:=by
  rw[zh9 _ _ _ (by simp) (by simp)];simp
@[simp] theorem zy8 {α β:Type} (f:α->β) (l:List α) (z:β):zaC (List.replicate (l.length+1) z) 0 (l.map f)=l.map f++[z]:=by
  rw[zh9 _ _ _ (by simp) (by simp)];simp
@[simp] theorem z1d {α β:Type} (f:α->β) (l:List α) (z x:β):zaC (l.map f++[z]) l.length [x]=l.map f++[x]:=by
  rw[zh9 _ _ _ (by simp) (by simp)];simp[List.take_append]
attribute [simp] bytesOf
attribute [simp] zU zO zhu ze2
@[simp] theorem zyK:zL []=[]:=by simp only[zL]
@[simp] theorem zw0 {e:List V} {l:List (List V)}:zL (e::l)=zO e::zL l:=by simp only[zL]
@[simp] theorem zyL {e l:List (List V)}:zL (e++l)=zL e++zL l:=by simp only[zfD,List.map_append]
@[simp] theorem zwW {A:Nat->Bool} {l:List V}:(V.tuple l).in3 A=l.all (V.in2 A):=(rfl)
variable {s:List V->Option V}{vs:List V}{K:V×HS->Prop}
@[simp] theorem zBP:okT (fnS s vs hs) K=okT (zad vs hs) fun q=>zt q.1=true/\okT (s (zO q.1)) fun v=>K (v,q.2):=by
  show ok (fnS s vs hs) K=ok (zad vs hs) fun q=>zt q.1=true/\ok (s (zO q.1)) fun v=>K (v,q.2)
  simp only[fnS,zbS,zS,zl]
@[simp] theorem zBQ:okT (fnC s vs hs) K=okT (zak hs vs) fun vs'=>zt vs'=true/\okT (s (zO vs')) fun v=>v.scal=true/\K (v,hs):=by
  show ok (fnC s vs hs) K=ok (zak hs vs) fun vs'=>zt vs'=true/\ok (s (zO vs')) fun v=>v.scal=true/\K (v,hs)
  simp only[fnC,zbS,zS,zl]
@[simp] theorem zpn {K:PT V->HS->Prop} {Q:Ex->PT V->HS->Prop} {T:PT V} {hs:HS}:Ex.then K Q .normal T hs=K T hs:=(rfl)
@[simp] theorem zya {K:PT V->HS->Prop} {Q:Ex->PT V->HS->Prop} {T:PT V} {hs:HS}:Ex.then K Q .ret T hs=Q .ret T hs:=(rfl)
@[simp] theorem zvC {K:PT V->HS->Prop} {Q:Ex->PT V->HS->Prop} {T:PT V} {hs:HS} {i:Nat}:Ex.then K Q (.exit i) T hs=Q (.exit i) T hs:=(rfl)
@[simp] theorem zoR {i:Nat} {Q:Ex->PT V->HS->Prop} {T:PT V} {hs:HS}:Ex.inBlock i Q .normal T hs=Q .normal T hs:=(rfl)
@[simp] theorem zvD {i:Nat} {Q:Ex->PT V->HS->Prop} {T:PT V} {hs:HS}:Ex.inBlock i Q .ret T hs=Q .ret T hs:=(rfl)
@[simp] theorem zrf {i j:Nat} {Q:Ex->PT V->HS->Prop} {T:PT V} {hs:HS}:Ex.inBlock i Q (.exit j) T hs=if j=i then Q .normal T hs else Q (.exit j) T hs:=(rfl)
end
end Go.J
