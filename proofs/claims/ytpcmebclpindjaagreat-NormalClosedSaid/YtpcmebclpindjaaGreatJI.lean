import Derived.Test.YtpcmebclpindjaaGreatJF
import Derived.LoopNIn
import Derived.Test.YtpcmebclpindjaaGreatJH
import Derived.IntWalk
set_option linter.all false
noncomputable section
/- Runs of an activation with a heap of its own: what does not matter any more may be left out,and objects may be numbered anew. -/
namespace Go.J
def V.ren1(π:Nat->Nat):V->V
 |.ptr id g off=>.ptr (π id) g off
 |.own id g off len cap=>.own (π id) g off len cap
 |.map id=>.map (π id)
 |.yld id=>.yld (π id)
 |v=>v
def V.ren2(π:Nat->Nat):V->V
 |.agg cs=>.agg (cs.map (V.ren1 π))
 |.func f cs=>.func f (cs.map (V.ren1 π))
 |.iface t v=>.iface t (v.ren1 π)
 |v=>v.ren1 π
def V.ren(π:Nat->Nat):V->V
 |.tuple cs=>.tuple (cs.map (V.ren2 π))
 |v=>v.ren2 π
def V.in1(A:Nat->Bool):V->Bool
 |.ptr id _ _=>A id
 |.own id _ _ _ _=>A id
 |.map id=>A id
 |.yld id=>A id
 |v=>v.pure2
def V.in2(A:Nat->Bool):V->Bool
 |.agg cs=>cs.all (V.in1 A)
 |.func _ cs=>cs.all (V.in1 A)
 |.iface _ v=>v.in1 A
 |v=>v.in1 A
def V.in3(A:Nat->Bool):V->Bool
 |.tuple cs=>cs.all (V.in2 A)
 |v=>v.in2 A
def Obj.ren(π:Nat->Nat):Obj->Obj
 |.arr size gen es ex fz row=>.arr size gen (es.map fun e=>e.map (V.ren2 π)) ex fz row
 |o=>o
def Obj.in(A:Nat->Bool):Obj->Bool
 |.arr _ _ es _ _ row=>es.all fun e=>e.all fun v=>if row then v.pure2 else v.in2 A
 |.mp _=>true
 |.lp _ _ _ _ _ _=>false
section
variable {ρ:Nat->Value}{P:Program}{w w':World}{F F':Nat->Prop}{μ μ':Nat->Nat->Option MI}{hs hs':HS}{π:Nat->Nat}{A:Nat->Bool}
theorem V.ren2_pure{v:V}(h:v.pure2=true):v.ren2 π=v:=by
 cases v with
 | func f cs=>cases cs with
   |nil=>rfl
   |cons _ _=>cases h
 | iface t v =>
   replace h:v.pure1=true:=h;cases v<;>first|rfl|cases h
 |agg _=>cases h
 |_=>first|rfl|cases h
theorem Rep.anew1{v:V}{x:Value}(h:Rep ρ w F μ (v.ren1 π) x)(hA:v.in1 A=true)(hμ:∀ id,A id=true->∀ g m,μ (π id) g=some m->μ' id g=some m):Rep ρ w F μ' v x:=by
 cases v with
 | ptr id g off =>
   obtain⟨m,h1,rfl⟩:=Rep.ptr_inv ρ h;exact .ptr id g off m (hμ id hA g m h1)
 | own id g off len cap =>
   obtain⟨m,c,h1,rfl,h2,h3,h4,h5⟩:=Rep.own_inv ρ h;exact .own id g off len cap c m (hμ id hA g m h1) h2 h3 h4 h5
 | map id =>
   obtain⟨m,h1,rfl⟩:=Rep.map_inv ρ h;exact .map id m (hμ id hA 0 m h1)
 | yld id =>
   obtain⟨m,h1,rfl⟩:=Rep.yld_inv ρ h;exact .yld id m (hμ id hA 0 m h1)
 |_=>exact .pure (Rep.pure2 ρ h hA)
theorem Rep.anew2{v:V}{x:Value}(h:Rep ρ w F μ (v.ren2 π) x)(hA:v.in2 A=true)(hμ:∀ id,A id=true->∀ g m,μ (π id) g=some m->μ' id g=some m):Rep ρ w F μ' v x:=by
 cases v with
 | agg cs =>
   obtain⟨ys,rfl,h1,h2⟩:=Rep.agg_inv ρ h;replace hA:cs.all (V.in1 A)=true:=hA;rw[List.all_eq_true]at hA;refine .agg cs ys (by simpa using h1) fun i v hi=>?_
   exact(h2 i (v.ren1 π) (by simp[hi])).anew1 (hA v (List.mem_of_getElem? hi)) hμ
 | func f cs =>
   obtain⟨ys,rfl,h1,h2⟩:=Rep.func_inv ρ h;replace hA:cs.all (V.in1 A)=true:=hA;rw[List.all_eq_true]at hA;refine .func f cs ys (by simpa using h1) fun i v hi=>?_
   exact(h2 i (v.ren1 π) (by simp[hi])).anew1 (hA v (List.mem_of_getElem? hi)) hμ
 | iface t v =>
   obtain⟨y,rfl,hy⟩:=Rep.iface_inv ρ h;exact .iface t v y (hy.anew1 hA hμ)
 |_=>exact Rep.anew1 (π:=π) h hA hμ
theorem Rep.anew{v:V}{x:Value}(h:Rep ρ w F μ (v.ren π) x)(hA:v.in3 A=true)(hμ:∀ id,A id=true->∀ g m,μ (π id) g=some m->μ' id g=some m):Rep ρ w F μ' v x:=by
 cases v with
 | tuple cs =>
   obtain⟨ys,rfl,h1,h2⟩:=Rep.tuple_inv ρ h;replace hA:cs.all (V.in2 A)=true:=hA;rw[List.all_eq_true]at hA;refine .tuple cs ys (by simpa using h1) fun i v hi=>?_
   exact(h2 i (v.ren2 π) (by simp[hi])).anew2 (hA v (List.mem_of_getElem? hi)) hμ
 |_=>exact Rep.anew2 (π:=π) h hA hμ
theorem Rep.back1{v:V}{x:Value}(h:Rep ρ w F μ v x)(hA:v.in1 A=true)(hμ:∀ id,A id=true->∀ g m,μ id g=some m->μ' (π id) g=some m):Rep ρ w F μ' (v.ren1 π) x:=by
 cases v with
 | ptr id g off =>
   obtain⟨m,h1,rfl⟩:=Rep.ptr_inv ρ h;exact .ptr _ g off m (hμ id hA g m h1)
 | own id g off len cap =>
   obtain⟨m,c,h1,rfl,h2,h3,h4,h5⟩:=Rep.own_inv ρ h;exact .own _ g off len cap c m (hμ id hA g m h1) h2 h3 h4 h5
 | map id =>
   obtain⟨m,h1,rfl⟩:=Rep.map_inv ρ h;exact .map _ m (hμ id hA 0 m h1)
 | yld id =>
   obtain⟨m,h1,rfl⟩:=Rep.yld_inv ρ h;exact .yld _ m (hμ id hA 0 m h1)
 |_=>exact .pure (Rep.pure2 ρ h hA)
theorem Rep.back2{v:V}{x:Value}(h:Rep ρ w F μ v x)(hA:v.in2 A=true)(hμ:∀ id,A id=true->∀ g m,μ id g=some m->μ' (π id) g=some m):Rep ρ w F μ' (v.ren2 π) x:=by
 cases v with
 | agg cs =>
   obtain⟨ys,rfl,h1,h2⟩:=Rep.agg_inv ρ h;replace hA:cs.all (V.in1 A)=true:=hA;rw[List.all_eq_true]at hA;refine .agg _ ys (by simpa using h1) fun i v hi=>?_
   rw[List.getElem?_map,Option.map_eq_some_iff]at hi;obtain⟨u,hu,rfl⟩:=hi;exact(h2 i u hu).back1 (hA u (List.mem_of_getElem? hu)) hμ
 | func f cs =>
   obtain⟨ys,rfl,h1,h2⟩:=Rep.func_inv ρ h;replace hA:cs.all (V.in1 A)=true:=hA;rw[List.all_eq_true]at hA;refine .func f _ ys (by simpa using h1) fun i v hi=>?_
   rw[List.getElem?_map,Option.map_eq_some_iff]at hi;obtain⟨u,hu,rfl⟩:=hi;exact(h2 i u hu).back1 (hA u (List.mem_of_getElem? hu)) hμ
 | iface t v =>
   obtain⟨y,rfl,hy⟩:=Rep.iface_inv ρ h;exact .iface t _ y (hy.back1 hA hμ)
 |_=>exact Rep.back1 (π:=π) h hA hμ
theorem Rep.back{v:V}{x:Value}(h:Rep ρ w F μ v x)(hA:v.in3 A=true)(hμ:∀ id,A id=true->∀ g m,μ id g=some m->μ' (π id) g=some m):Rep ρ w F μ' (v.ren π) x:=by
 cases v with
 | tuple cs =>
   obtain⟨ys,rfl,h1,h2⟩:=Rep.tuple_inv ρ h;replace hA:cs.all (V.in2 A)=true:=hA;rw[List.all_eq_true]at hA;refine .tuple _ ys (by simpa using h1) fun i v hi=>?_
   rw[List.getElem?_map,Option.map_eq_some_iff]at hi;obtain⟨u,hu,rfl⟩:=hi;exact(h2 i u hu).back2 (hA u (List.mem_of_getElem? hu)) hμ
 |_=>exact Rep.back2 (π:=π) h hA hμ
theorem Obj.ren_gen(o:Obj):(o.ren π).gen=o.gen:=by cases o<;>rfl
theorem Obj.ren_fz(o:Obj):(o.ren π).fz=o.fz:=by cases o<;>rfl
theorem ORel.anew {id:Nat} {o:Obj} (h:ORel ρ w F μ P (π id) (o.ren π)) (hin:o.in A=true) (hg:∀ g m,μ' id g=some m->μ (π id) g=some m)
 (hμ:∀ id,A id=true->∀ g m,μ (π id) g=some m->μ' id g=some m):ORel ρ w F μ' P id o:=by
 cases o with
 | arr size gen es exact fz row =>
   intro m hm;have a:=h m (hg _ _ hm);replace hin:(es.all fun e=>e.all fun v=>if row then v.pure2 else v.in2 A)=true:=hin;rw[List.all_eq_true]at hin;obtain⟨cells,el,c1,c2,c3,c4,c5⟩:=a.cells;refine⟨a.hsize,fun e he=>?_,⟨cells,el,c1,c2,by simpa using c3,by simpa using c4,fun k e j v he hv=>?_⟩,a.hf,a.hn⟩
   . have:=a.hlen (e.map (V.ren2 π)) (List.mem_map.2 ⟨e,he,rfl⟩);simpa using this
   . have hin':=hin e (List.mem_of_getElem? he);rw[List.all_eq_true]at hin';have hv':=hin' v (List.mem_of_getElem? hv);obtain⟨y,y1,y2,y3⟩:=c5 k (e.map (V.ren2 π)) j (v.ren2 π) (by simp[he]) (by simp[hv])
     cases row with
     | true =>
       replace hv':v.pure2=true:=hv';rw[V.ren2_pure hv']at y3;exact⟨y,y1,.pure (y3 rfl),y3⟩
     | false =>
       replace hv':v.in2 A=true:=hv';exact⟨y,y1,y2.anew2 hv' hμ,fun h=>by cases h⟩
 |mp es=>exact fun m hm=>h m (hg _ _ hm)
 |lp a b c d e f=>cases hin
theorem ORel.back {id:Nat} {o:Obj} (h:ORel ρ w F μ P id o) (hin:o.in A=true) (hg:∀ g m,μ' (π id) g=some m->μ id g=some m)
 (hμ:∀ id,A id=true->∀ g m,μ id g=some m->μ' (π id) g=some m):ORel ρ w F μ' P (π id) (o.ren π):=by
 cases o with
 | arr size gen es exact fz row =>
   intro m hm;have a:=h m (hg _ _ hm);replace hin:(es.all fun e=>e.all fun v=>if row then v.pure2 else v.in2 A)=true:=hin;rw[List.all_eq_true]at hin;obtain⟨cells,el,c1,c2,c3,c4,c5⟩:=a.cells;refine⟨a.hsize,fun e he=>?_,⟨cells,el,c1,c2,by simpa using c3,by simpa using c4,fun k e j v he hv=>?_⟩,a.hf,a.hn⟩
   . obtain⟨e0,h0,rfl⟩:=List.mem_map.1 he;simpa using a.hlen e0 h0
   . rw[List.getElem?_map,Option.map_eq_some_iff]at he;obtain⟨e0,he0,rfl⟩:=he;rw[List.getElem?_map,Option.map_eq_some_iff]at hv;obtain⟨v0,hv0,rfl⟩:=hv;have hin':=hin e0 (List.mem_of_getElem? he0);rw[List.all_eq_true]at hin';have hv':=hin' v0 (List.mem_of_getElem? hv0);obtain⟨y,y1,y2,y3⟩:=c5 k e0 j v0 he0 hv0
     cases row with
     | true =>
       replace hv':v0.pure2=true:=hv';rw[V.ren2_pure hv'];exact⟨y,y1,.pure (y3 rfl),y3⟩
     | false =>
       replace hv':v0.in2 A=true:=hv';exact⟨y,y1,y2.back2 hv' hμ,fun h=>by cases h⟩
 |mp es=>exact fun m hm=>h m (hg _ _ hm)
 |lp a b c d e f=>cases hin
end
mutual
def zac:V->V
 |.snil=>.sl [] false
 |.sl es _=>.sl (zG es) false
 |.ref cs=>.ref (zT cs)
 |.agg cs=>.agg (zT cs)
 |.tuple cs=>.tuple (zT cs)
 |.iface t v=>.iface t (zac v)
 |v=>v
def zT:List V->List V
 | []=>[]
 |v::l=>zac v::zT l
def zG:List (List V)->List (List V)
 | []=>[]
 |v::l=>zT v::zG l
end
theorem za2:∀ l,zT l=l.map zac:=by
 intro l
 induction l with
 |nil=>simp[zT]
 |cons v l ih=>simp[zT,ih]
theorem zdd:∀ l,zG l=l.map zT:=by
 intro l
 induction l with
 |nil=>simp[zG]
 |cons v l ih=>simp[zG,ih]
section
variable {ρ:Nat->Value}{P:Program}{w:World}{F:Nat->Prop}
theorem PRep.norm{v:V}{x:Value}(h:PRep ρ w F v x):PRep ρ w F (zac v) x:=by
 induction h with
 |bool b=>exact .bool b
 |int k n=>exact .int k n
 |str s=>exact .str s
 |nilptr=>exact .nilptr
 |snil=>exact .slE none 0 false (fun h=>by cases h)
 |nilmap=>exact .nilmap
 |nilFunc=>exact .nilFunc
 |nilIface=>exact .nilIface
 |sym k=>exact .sym k
 |func f=>exact .func f
 |iface t v y _ ih=>exact .iface t _ y ih
 | ref cs b off ys hb hc _ ih =>
   show PRep ρ w F (.ref (zT cs)) _;rw[za2];refine .ref _ b off ys hb (fun i v hi=>?_) (fun i v hi=>?_)
   . rw[List.getElem?_map,Option.map_eq_some_iff]at hi;obtain⟨u,hu,rfl⟩:=hi;exact hc i u hu
   . rw[List.getElem?_map,Option.map_eq_some_iff]at hi;obtain⟨u,hu,rfl⟩:=hi;exact ih i u hu
 |slE a c t h=>exact .slE a c false (fun h=>by cases h)
 | slC es b off size c t ys hb hl hc _ h1 h2 ih =>
   show PRep ρ w F (.sl (zG es) false) _;rw[zdd];have hlen:(es.map zT).length=es.length:=List.length_map ..;rw[<- hlen]
   have hmap:∀ (i:Nat) (e:List V),(es.map zT)[i]?=some e->∃ e0:List V,es[i]?=some e0/\e=e0.map zac:=by
    intro i e hi;rw[List.getElem?_map,Option.map_eq_some_iff]at hi;obtain⟨e0,h0,rfl⟩:=hi;exact⟨e0,h0,za2 _⟩
   refine .slC _ b off size c false ys hb (fun e he=>?_) (fun i e j v hi hj=>?_) (fun i e j v hi hj=>?_) (by rw[hlen];exact h1) (fun h=>by cases h)
   . obtain⟨e0,h0,rfl⟩:=List.mem_map.1 he;rw[za2,List.length_map];exact hl e0 h0
   . obtain⟨e0,h0,rfl⟩:=hmap i e hi;rw[List.getElem?_map,Option.map_eq_some_iff]at hj;obtain⟨u,hu,rfl⟩:=hj;exact hc i e0 j u h0 hu
   . obtain⟨e0,h0,rfl⟩:=hmap i e hi;rw[List.getElem?_map,Option.map_eq_some_iff]at hj;obtain⟨u,hu,rfl⟩:=hj;exact ih i e0 j u h0 hu
 | agg cs ys hs _ ih =>
   show PRep ρ w F (.agg (zT cs)) _;rw[za2];refine .agg _ ys (by simpa using hs) fun i v hi=>?_
   rw[List.getElem?_map,Option.map_eq_some_iff]at hi;obtain⟨u,hu,rfl⟩:=hi;exact ih i u hu
 | tuple cs ys hs _ ih =>
   show PRep ρ w F (.tuple (zT cs)) _;rw[za2];refine .tuple _ ys (by simpa using hs) fun i v hi=>?_
   rw[List.getElem?_map,Option.map_eq_some_iff]at hi;obtain⟨u,hu,rfl⟩:=hi;exact ih i u hu
end
section
variable {ρ:Nat->Value}{P:Program}{w w':World}{F F':Nat->Prop}{μ μ':Nat->Nat->Option MI}
theorem Rep.norm{v:V}{x:Value}(h:Rep ρ w F μ v x):Rep ρ w F μ (zac v) x:=by
 induction h with
 |pure h=>exact .pure h.norm
 |ptr id g off m hm=>simpa [zac]using Rep.ptr id g off m hm
 |own id g off len cap c m hm h1 h2 h3 h4=>simpa [zac]using Rep.own id g off len cap c m hm h1 h2 h3 h4
 |map id m hm=>simpa [zac]using Rep.map id m hm
 |yld id m hm=>simpa [zac]using Rep.yld id m hm
 |func f cs ys h1 h2 _=>simpa [zac]using Rep.func f cs ys h1 h2
 |iface t v y _ ih=>simpa [zac]using Rep.iface t _ y ih
 | agg cs ys h1 _ ih =>
   simp only[zac,za2];refine .agg _ ys (by simpa using h1) fun i v hi=>?_
   grind
 | tuple cs ys h1 _ ih =>
   simp only[zac,za2];refine .tuple _ ys (by simpa using h1) fun i v hi=>?_
   grind
def zwW:Obj->Obj
 |.arr s g es x z r=>.arr s g (es.map zT) x z r
 |o=>o
theorem zqP(o:Obj):(zwW o).gen=o.gen:=by cases o<;>rfl
theorem zwV(o:Obj):(zwW o).fz=o.fz:=by cases o<;>rfl
theorem ORel.norm{id:Nat}{o:Obj}(h:ORel ρ w F μ P id o):ORel ρ w F μ P id (zwW o):=by
 cases o with
 | arr size gen es exact fz row =>
   intro m hm;have a:=h m hm;obtain⟨cells,el,c1,c2,c3,c4,c5⟩:=a.cells;refine⟨a.hsize,fun e he=>?_,⟨cells,el,c1,c2,by simpa using c3,by simpa using c4,fun k e j v he hv=>?_⟩,a.hf,a.hn⟩
   . obtain⟨e0,h0,rfl⟩:=List.mem_map.1 he;rw[za2,List.length_map];exact a.hlen e0 h0
   . rw[List.getElem?_map,Option.map_eq_some_iff]at he;obtain⟨e0,he0,rfl⟩:=he;rw[za2,List.getElem?_map,Option.map_eq_some_iff]at hv;obtain⟨v0,hv0,rfl⟩:=hv;obtain⟨y,y1,y2,y3⟩:=c5 k e0 j v0 he0 hv0;exact⟨y,y1,y2.norm,fun hr=>(y3 hr).norm⟩
 |mp es=>exact h
 |lp a b c d e f=>exact h
end
section
variable {ρ:Nat->Value}{P:Program}{w w':World}{F F':Nat->Prop}{μ μ':Nat->Nat->Option MI}{hs hs':HS}{π:Nat->Nat}{A:Nat->Bool}
structure Start where
 O:Nat->Prop
 w:World
 F:Nat->Prop
 k:Nat
 μ:Nat->Nat->Option MI
structure Loc(s:Start)(w:World)(F:Nat->Prop)(μ:Nat->Nat->Option MI)(hs:HS):Prop where
 io:Io s.w w
 size:s.w.heap.size<=w.heap.size
 keep:∀ b,b<s.w.heap.size->¬ s.O b->w.heap[b]?=s.w.heap[b]?
 fm:∀ b,s.F b->F b
 fnew:∀ b,F b->s.F b\/s.w.heap.size<=b\/s.O b
 mm:∀ id g m,id<s.k->s.μ id g=some m->μ id g=some m
 own:∀ b,zdE hs μ b->s.O b\/s.w.heap.size<=b
 pres:∀ id,id<s.k->hs.H.get id≠none
 dm:∀ id,id<s.k->(∀ g,s.μ id g=none)->∀ g,μ id g=none
 mn:∀ id g m,μ id g=some m->s.w.heap.size<=m.b\/∃ i j m0,s.μ i j=some m0/\m0.b=m.b
theorem Loc.step{s:Start}(h:Loc s w F μ hs)(f:Fr w F μ hs w' F' μ' hs'):Loc s w' F' μ' hs' where
 io:=h.io.trans f.io
 size:=Nat.le_trans h.size f.size
 keep b hb hn:=by
  rw[f.keep b (Nat.lt_of_lt_of_le hb h.size) (fun ho=>(h.own b ho).elim hn (fun hge=>by omega)),h.keep b hb hn]
 fm b hb:=f.fm b (h.fm b hb)
 fnew b hb:=by
  rcases f.fnew b hb with h1|h1|h1
  . exact h.fnew b h1
  . exact .inr (.inl (Nat.le_trans h.size h1))
  . rcases h.own b h1 with h2|h2
    . exact .inr (.inr h2)
    . exact .inr (.inl h2)
 mm id g m hk hm:=f.mm _ _ _ (h.mm _ _ _ hk hm)
 own b hb:=by
  rcases f.own b hb with h1|h1
  . exact h.own b h1
  . exact .inr (Nat.le_trans h.size h1)
 pres id hk:=f.hm id (h.pres id hk)
 dm id hk hg:=f.dm id (h.pres id hk) (h.dm id hk hg)
 mn id g m hm:=by
  rcases f.mn id g m hm with h1|⟨i,j,m0,h1,h2⟩
  . exact .inl (Nat.le_trans h.size h1)
  . rcases h.mn i j m0 h1 with h3|⟨i',j',m1,h3,h4⟩
    . exact .inl (h2 ▸ h3)
    . exact .inr ⟨i',j',m1,h3,h4.trans h2⟩
def Dom0(μ:Nat->Nat->Option MI)(hs:HS):Prop:=∀ id g,μ id g≠none->hs.H.get id≠none
theorem Dom0.dom(h:Dom0 μ hs):Dom (fun _=>False) μ hs:=⟨fun id g hg=>.inl (h id g hg),fun _ _ h=>h⟩
theorem Dom.dom0(h:Dom (fun _=>False) μ hs):Dom0 μ hs:=fun id g hg=>(h.1 id g hg).elim (fun h=>h) False.elim
def Lt (ρ:Nat->Value) (P:Program) (k:Nat) (rd:Bool) (sz:Nat) (c:Code) (T:PT V) (hs:HS) (Q:Ex->PT V->HS->Prop):Prop :=
 ∀ (s:Start) (N:NB) (r:Option Nat) (w:World) (F:Nat->Prop) (μ:Nat->Nat->Option MI) (a:Act) (K:Exit->Act->World->Prop),s.k=k->((rd=false->r=none)/\N.plain=false)->Loc s w F μ hs->R ρ w F μ P hs->Dom0 μ hs->zb6 ρ w F μ T a.tmps->sz<=a.tmps.size->Marks N w a.defers ->
   (∀ ex T' hs' a' w' F' μ',Q ex T' hs'->Loc s w' F' μ' hs'->R ρ w' F' μ' P hs'->Dom0 μ' hs'->zb6 ρ w' F' μ' T' a'.tmps->a'.tmps.size=a.tmps.size->Marks N w' a'.defers->K (zCu ex) a' w')->c.wpIn (Wr r) 0 P K a w
variable {k:Nat}{rd:Bool}{sz:Nat}{c:Code}{T:PT V}{Q Q':Ex->PT V->HS->Prop}
theorem zv1(h:Lt ρ P k rd sz c T hs Q)(hq:∀ e T hs,Q e T hs->Q' e T hs):Lt ρ P k rd sz c T hs Q' :=
 fun s N r w F μ a K hk hr hL hR hD hT hsz hM hK=>h s N r w F μ a K hk hr hL hR hD hT hsz hM fun ex T' hs' a' w' F' μ' q=>hK ex T' hs' a' w' F' μ' (hq _ _ _ q)
theorem zD9(hρ:Good ρ){E:Env}(hcon:ConsOk ρ E)(hP:E.P.follows .mixedOrders=true)(hN:zeo E.P){n:Nat}{ex:Ex}{T':PT V}(h:(evJ E n).code rd sz c T hs=some (ex,T',hs'))(hq:Q ex T' hs'):Lt ρ E.P k rd sz c T hs Q:=by
 intro s N r w F μ a K hk hr hL hR hD hT hsz hM hK;have hev:=zom hρ hcon hP hN n;refine hev.code h N (fun _=>False) r w F μ a K hr hR hD.dom (Off.no _) hT hsz hM ?_;intro a' w' F' μ' hR' hT' hsz' hM' hf';exact hK ex T' hs' a' w' F' μ' hq (hL.step hf') hR' (hf'.dom (hev.kept.code h).le hD.dom).dom0 hT' hsz' hM'
theorem z6U(h:Q .normal T hs):Lt ρ P k rd sz .skip T hs Q :=
 fun _ _ _ w F μ a _ _ _ hL hR hD hT _ hM hK=>wpIn_skip (hK _ _ _ a w F μ h hL hR hD hT rfl hM)
theorem z6Y{i:Nat}(h:Q (.exit i) T hs):Lt ρ P k rd sz (.exit i) T hs Q :=
 fun _ _ _ w F μ a _ _ _ hL hR hD hT _ hM hK=>wpIn_exit (hK _ _ _ a w F μ h hL hR hD hT rfl hM)
theorem zDA(h:Q .ret T hs):Lt ρ P k rd sz .ret T hs Q :=
 fun _ _ _ w F μ a _ _ _ hL hR hD hT _ hM hK=>wpIn_ret (hK _ _ _ a w F μ h hL hR hD hT rfl hM)
theorem zD8{x y:Code}(h:Lt ρ P k rd sz x T hs (Ex.then (fun T hs=>Lt ρ P k rd sz y T hs Q) Q)):Lt ρ P k rd sz (.seq x y) T hs Q:=by
 intro s N r w F μ a K hk hr hL hR hD hT hsz hM hK;refine wpIn_seq (h s N r w F μ a _ hk hr hL hR hD hT hsz hM ?_);intro ex T1 hs1 a1 w1 F1 μ1 q hL1 hR1 hD1 hT1 hsz1 hM1
 cases ex with
 | normal =>
   refine q s N r w1 F1 μ1 a1 K hk hr hL1 hR1 hD1 hT1 (by rw[hsz1];exact hsz) hM1 ?_
   grind
 |ret=>exact hK .ret T1 hs1 a1 w1 F1 μ1 q hL1 hR1 hD1 hT1 hsz1 hM1
 |exit i=>exact hK (.exit i) T1 hs1 a1 w1 F1 μ1 q hL1 hR1 hD1 hT1 hsz1 hM1
theorem z6Z{q:Operand}{x y:Code}{t:Bool}(hq:zk T q=some (.bool t))(h:if t=true then Lt ρ P k rd sz x T hs Q else Lt ρ P k rd sz y T hs Q):Lt ρ P k rd sz (.cond q x y) T hs Q:=by
 intro s N r w F μ a K hk hr hL hR hD hT hsz hM hK;refine wpIn_cond (zn (a:=a) hT hq).bool_inv ?_
 cases t with
 |true=>exact h s N r w F μ a K hk hr hL hR hD hT hsz hM hK
 |false=>exact h s N r w F μ a K hk hr hL hR hD hT hsz hM hK
theorem zyb{i:Nat}{x:Code}(h:Lt ρ P k rd sz x T hs (Ex.inBlock i Q)):Lt ρ P k rd sz (.block i x) T hs Q:=by
 intro s N r w F μ a K hk hr hL hR hD hT hsz hM hK;refine wpIn_block (h s N r w F μ a _ hk hr hL hR hD hT hsz hM ?_);intro ex T1 hs1 a1 w1 F1 μ1 q hL1 hR1 hD1 hT1 hsz1 hM1
 cases ex with
 |normal=>exact hK .normal T1 hs1 a1 w1 F1 μ1 q hL1 hR1 hD1 hT1 hsz1 hM1
 |ret=>exact hK .ret T1 hs1 a1 w1 F1 μ1 q hL1 hR1 hD1 hT1 hsz1 hM1
 | exit j =>
   show (if j=i then K .normal a1 w1 else K (.exit j) a1 w1);replace q:(if j=i then Q .normal T1 hs1 else Q (.exit j) T1 hs1):=q;split
   . rename_i e;rw[if_pos e]at q;exact hK .normal T1 hs1 a1 w1 F1 μ1 q hL1 hR1 hD1 hT1 hsz1 hM1
   . rename_i e;rw[if_neg e]at q;exact hK (.exit j) T1 hs1 a1 w1 F1 μ1 q hL1 hR1 hD1 hT1 hsz1 hM1
def LtN(ρ:Nat->Value)(P:Program)(k:Nat)(rd:Bool)(sz:Nat)(c:Code)(Q:Ex->PT V->HS->Prop):Nat->PT V->HS->Prop
 | 0,_,_=>False
 |n+1,T,hs=>Lt ρ P k rd sz c T hs (Ex.then (LtN ρ P k rd sz c Q n) Q)
theorem z6W{n:Nat}(h:LtN ρ P k rd sz c Q n T hs):Lt ρ P k rd sz (.loop c) T hs Q:=by
 intro s N r w F μ a K hk hr hL hR hD hT hsz hM hK;refine wpIn_loop_rounds n ?_
 induction n generalizing T hs w F μ a with
 |zero=>exact h.elim
 | succ n ih =>
   refine h s N r w F μ a _ hk hr hL hR hD hT hsz hM ?_;intro ex T1 hs1 a1 w1 F1 μ1 q hL1 hR1 hD1 hT1 hsz1 hM1
   cases ex with
   | normal =>
     refine ih q w1 F1 μ1 a1 hL1 hR1 hD1 hT1 (by rw[hsz1];exact hsz) hM1 ?_
     grind
   |ret=>exact hK .ret T1 hs1 a1 w1 F1 μ1 q hL1 hR1 hD1 hT1 hsz1 hM1
   |exit i=>exact hK (.exit i) T1 hs1 a1 w1 F1 μ1 q hL1 hR1 hD1 hT1 hsz1 hM1
structure Less(k:Nat)(T:PT V)(hs:HS)(T2:PT V)(hs2:HS):Prop where
 ex:∃ (π:Nat->Nat) (A:Nat->Bool),(∀ id,A id=true↔hs2.H.get id≠none)/\(∀ t v,T2.get t=some v->v.in3 A=true/\∃ u,T.get t=some u/\(u=v.ren π\/zac u=v.ren π)) /\
  (∀ id o,hs2.H.get id=some o->o.in A=true/\∃ q,hs.H.get (π id)=some q/\(q=o.ren π\/zwW q=o.ren π))/\(∀ i j,A i=true->A j=true->π i=π j->i=j)/\(∀ id,id<k->π id=id/\A id=true)
theorem Less.state{s:Start}{T2:PT V}{hs2:HS}{tm:Array Value}(h:Less s.k T hs T2 hs2)(hL:Loc s w F μ hs)(hR:R ρ w F μ P hs)(hT:zb6 ρ w F μ T tm) :
 ∃ μ2,Loc s w F μ2 hs2/\R ρ w F μ2 P hs2/\Dom0 μ2 hs2/\zb6 ρ w F μ2 T2 tm:=by
 obtain⟨π,A,hA,h1,h2',h3,h4⟩:=h.ex
 have h2:∀ id o,hs2.H.get id=some o->o.in A=true/\∃ q,hs.H.get (π id)=some q/\q.gen=(o.ren π).gen/\q.fz=(o.ren π).fz/\ORel ρ w F μ P (π id) (o.ren π):=by
  intro id o ho;obtain⟨g1,q,g2,g3⟩:=h2' id o ho;refine⟨g1,q,g2,?_⟩;rcases g3 with g3|g3
  . subst g3;exact⟨rfl,rfl,hR.obj _ _ g2⟩
  . rw[<- g3];exact⟨(zqP q).symm,(zwV q).symm,(hR.obj _ _ g2).norm⟩
 refine⟨fun id g=>if A id=true then μ (π id) g else none,?_,?_,?_,?_⟩
 . refine⟨hL.io,hL.size,hL.keep,hL.fm,hL.fnew,fun id g m hk hm=>?_,?_,fun id hk=>(hA id).1 (h4 id hk).2,fun id hk hg g=>?_,fun id g m hm=>?_⟩
   . show (if A id=true then μ (π id) g else none)=_;rw[if_pos (h4 id hk).2,(h4 id hk).1];exact hL.mm id g m hk hm
   . rintro b ⟨id,o,m,ho,hz,hm,rfl⟩;have hAi:=(hA id).2 (by rw[ho];simp);replace hm:(if A id=true then μ (π id) o.gen else none)=some m:=hm;rw[if_pos hAi]at hm;obtain⟨_,q,q1,q2,q3,_⟩:=h2 id o ho;exact hL.own _ ⟨π id,q,m,q1,by rw[q3,Obj.ren_fz];exact hz,by rw[q2,Obj.ren_gen];exact hm,rfl⟩
   . show (if A id=true then μ (π id) g else none)=_;rw[if_pos (h4 id hk).2,(h4 id hk).1];exact hL.dm id hk hg g
   . replace hm:(if A id=true then μ (π id) g else none)=some m:=hm;split at hm
     . exact hL.mn _ g m hm
     . cases hm
 . refine⟨fun id g m hm=>?_,hR.flt,fun id o ho=>?_,fun id id' o o' m m' ho ho' hm hm' hb=>?_,fun id o ho g hg=>?_⟩
   . replace hm:(if A id=true then μ (π id) g else none)=some m:=hm;split at hm
     . exact hR.lt _ g m hm
     . cases hm
   . grind [id,ORel.anew]
   . have hAi:=(hA id).2 (by rw[ho];simp);have hAi':=(hA id').2 (by rw[ho'];simp);replace hm:(if A id=true then μ (π id) o.gen else none)=some m:=hm;replace hm':(if A id'=true then μ (π id') o'.gen else none)=some m':=hm';rw[if_pos hAi]at hm;rw[if_pos hAi']at hm';obtain⟨_,q,q1,q2,_⟩:=h2 id o ho;obtain⟨_,q',q1',q2',_⟩:=h2 id' o' ho';exact h3 _ _ hAi hAi' (hR.inj _ _ _ _ m m' q1 q1' (by rw[q2,Obj.ren_gen];exact hm) (by rw[q2',Obj.ren_gen];exact hm') hb)
   . have hAi:=(hA id).2 (by rw[ho];simp);show (if A id=true then _ else _)=_;rw[if_pos hAi];obtain⟨_,q,q1,q2,_⟩:=h2 id o ho;exact hR.gens _ _ q1 g (by rw[q2,Obj.ren_gen];exact hg)
 . intro id g hg
   grind
 . intro t v hv;obtain⟨g1,u,g2,g3⟩:=h1 t v hv;obtain⟨x,hx,hr⟩:=hT t _ g2
   have hr':Rep ρ w F μ (v.ren π) x:=by
    rcases g3 with g3|g3
    . grind
    . rw[<- g3];exact hr.norm
   refine⟨x,hx,hr'.anew g1 fun i hi g m hm=>?_⟩
   grind
theorem z6X{T2:PT V}{hs2:HS}(h:Less k T hs T2 hs2)(hl:Lt ρ P k rd sz c T2 hs2 Q):Lt ρ P k rd sz c T hs Q:=by
 intro s N r w F μ a K hk hr hL hR hD hT hsz hM hK;subst hk;obtain⟨μ2,hL2,hR2,hD2,hT2⟩:=h.state hL hR hT;exact hl s N r w F μ2 a K rfl hr hL2 hR2 hD2 hT2 hsz hM hK
theorem z6V{Q':Ex->PT V->HS->Prop}(hl:Lt ρ P k rd sz c T hs Q')(h:∀ ex T1 hs1,Q' ex T1 hs1->∃ T2 hs2,Less k T1 hs1 T2 hs2/\Q ex T2 hs2):Lt ρ P k rd sz c T hs Q:=by
 intro s N r w F μ a K hk hr hL hR hD hT hsz hM hK;subst hk;refine hl s N r w F μ a K rfl hr hL hR hD hT hsz hM ?_;intro ex T1 hs1 a1 w1 F1 μ1 q hL1 hR1 hD1 hT1 hsz1 hM1;obtain⟨T2,hs2,h2,q2⟩:=h ex T1 hs1 q;obtain⟨μ2,hL2,hR2,hD2,hT2⟩:=h2.state hL1 hR1 hT1
 grind
end
end Go.J
/- The rules of local runs over code that is stripped;calls of functions with arguments without numbers. -/
universe u
namespace Go.J
inductive Tg {α:Sort u} (a:α):Type where
 |mk
def okT{α:Type}(x:Option α)(K:α->Prop)(_t:Tg K:=.mk):Prop:=ok x K
def brT(c A B:Prop)(_t:Tg A:=.mk)(_u:Tg B:=.mk):Prop:=br c A B
@[simp ↓ high] theorem ok_T {α:Type} (x:Option α) (K:α->Prop):ok x K=okT x K:=(rfl)
@[simp ↓ high] theorem br_T (c A B:Prop):br c A B=brT c A B:=(rfl)
@[simp ↓] theorem zwP {α:Type} (a:α) (K:α->Prop):okT (some a) K=K a:=zm a K
@[simp ↓] theorem zAN {α β:Type} (x:Option α) (f:α->Option β) (K:β->Prop):okT (ob x f) K=okT x fun a=>okT (f a) K:=zab x f K
@[simp ↓] theorem zAO {α:Type} (c:Bool) (x:Option α) (K:α->Prop):okT (gd c x) K=(c=true/\okT x K):=zct c x K
attribute [simp] zwP zAN zAO
@[simp ↓] theorem zxO (A B:Prop):brT True A B=A:=zvp A B
@[simp ↓] theorem zvq (A B:Prop):brT False A B=B:=zou A B
attribute [simp] zxO zvq
theorem zdB{c A B:Prop}(h1:c->A)(h2:¬ c->B):brT c A B:=⟨h1,h2⟩
def mkP{α:Type}:List (Nat×α)->PT α
 | []=>.leaf
 |p::l=>(mkP l).set p.1 p.2
def dom{α:Type}(l:List (Nat×α))(id:Nat):Bool:=l.any fun p=>Nat.beq p.1 id
theorem zfM{α:Type}:∀ {l:List (Nat×α)} {t:Nat} {v:α},(mkP l).get t=some v->(t,v)∈l:=by
 intro l
 induction l with
 |nil=>intro t v h;cases h
 | cons p l ih =>
   intro t v h;replace h:((mkP l).set p.1 p.2).get t=some v:=h;rw[PT.set_get]at h
   grind
theorem z4T{α:Type}:∀ {l:List (Nat×α)} {id:Nat},dom l id=true↔(mkP l).get id≠none:=by
 intro l
 induction l with
 |nil=>intro id;exact⟨fun h=>(by cases h),fun h=>absurd rfl h⟩
 | cons p l ih =>
   intro id;show (Nat.beq p.1 id||dom l id)=true↔((mkP l).set p.1 p.2).get id≠none;rw[PT.set_get,Bool.or_eq_true,beq_true,ih]
   grind
def nodupB:List Nat->Bool
 | []=>true
 |x::l=>!(l.any (Nat.beq x))&&nodupB l
theorem zkB:∀ {l:List Nat},nodupB l=true->l.Nodup:=by
 intro l
 induction l with
 |nil=>intro _;exact List.nodup_nil
 | cons x l ih =>
   intro h;simp only[nodupB,Bool.and_eq_true,Bool.not_eq_true']at h
   grind [List.nodup_cons,Nat.beq,List.any_eq_true,beq_true]
theorem V.ren1_id(v:V):v.ren1 id=v:=by cases v<;>rfl
theorem V.ren1_id':V.ren1 id=id:=funext V.ren1_id
theorem V.ren2_id(v:V):v.ren2 id=v:=by
 cases v<;>first|rfl|(simp[V.ren2,V.ren1_id'])
theorem V.ren2_id':V.ren2 id=id:=funext V.ren2_id
theorem V.ren_id(v:V):v.ren id=v:=by
 cases v<;>first|exact V.ren2_id _|(simp[V.ren,V.ren2_id'])
theorem Obj.ren_id(o:Obj):o.ren id=o:=by
 cases o<;>first|rfl|(simp[Obj.ren,V.ren2_id'])
section
variable {k:Nat}{T:PT V}{hs:HS}
theorem Less.lit (π:Nat->Nat) {TL:List (Nat×V)} {HL:List (Nat×Obj)} (n:Nat) (hT:∀ p∈TL,p.2.in3 (dom HL)=true/\T.get p.1=some (p.2.ren π))
 (hH:∀ p∈HL,p.2.in (dom HL)=true/\hs.H.get (π p.1)=some (p.2.ren π)) (hi:nodupB (HL.map fun p=>π p.1)=true) (hk:(List.range k).all (fun i=>Nat.beq (π i) i&&dom HL i)=true) :
 Less k T hs (mkP TL) { H:=mkP HL,n:=n,log:=[] } where
 ex := by
  refine⟨π,dom HL,fun id=>z4T,fun t v hv=>⟨(hT (t,v) (zfM hv)).1,_,(hT (t,v) (zfM hv)).2,.inl rfl⟩,fun id o ho=>⟨(hH (id,o) (zfM ho)).1,_,(hH (id,o) (zfM ho)).2,.inl rfl⟩,?_,fun id hid=>?_⟩
  . intro i j hi1 hj1 e;have hnd:=zkB hi
    have key:∀ (l:List (Nat×Obj)),(l.map fun p=>π p.1).Nodup->dom l i=true->dom l j=true->i=j:=by
     intro l
     induction l with
     |nil=>intro _ h;cases h
     | cons p l ih =>
       intro hnd h1 h2;rw[List.map_cons,List.nodup_cons]at hnd;replace h1:(Nat.beq p.1 i||dom l i)=true:=h1;replace h2:(Nat.beq p.1 j||dom l j)=true:=h2;rw[Bool.or_eq_true,beq_true]at h1 h2
       have hm:∀ a,dom l a=true->π a∈l.map fun p=>π p.1:=by
        intro a ha;obtain⟨q,hq,hqa⟩:=List.any_eq_true.1 ha;exact List.mem_map.2 ⟨q,hq,by rw[beq_true.1 hqa]⟩
       rcases h1 with h1|h1<;>rcases h2 with h2|h2
       . rw[<- h1,<- h2]
       . exact absurd (by rw[h1,e];exact hm j h2) hnd.1
       . exact absurd (by rw[h2,<- e];exact hm i h1) hnd.1
       . exact ih hnd.2 h1 h2
    exact key HL hnd hi1 hj1
  . have:=List.all_eq_true.1 hk id (List.mem_range.2 hid);rw[Bool.and_eq_true,beq_true]at this;exact this
theorem Less.keep{TL:List (Nat×V)}{HL:List (Nat×Obj)}(n:Nat)(hT:∀ p∈TL,p.2.in3 (dom HL)=true/\T.get p.1=some p.2)
 (hH:∀ p∈HL,p.2.in (dom HL)=true/\hs.H.get p.1=some p.2) (hi:nodupB (HL.map fun p=>p.1)=true) (hk:(List.range k).all (fun i=>dom HL i)=true) :
 Less k T hs (mkP TL) { H:=mkP HL,n:=n,log:=[] }:=by
 refine Less.lit id n (fun p hp=>?_) (fun p hp=>?_) hi ?_
 . grind [V.ren_id]
 . grind [Obj.ren_id]
 simp_all
end
section
variable {ρ:Nat->Value}{E:Env}{k sz:Nat}{s:SC}{T:PT V}{hs:HS}{Q Q':Ex->PT V->HS->Prop}
def Ls(ρ:Nat->Value)(E:Env)(k sz:Nat)(s:SC)(T:PT V)(hs:HS)(Q:Ex->PT V->HS->Prop)(_t:Tg Q:=.mk):Prop:=∀ c,zh c=some s->Lt ρ E.P k false sz c T hs Q
def LsN(ρ:Nat->Value)(E:Env)(k sz:Nat)(s:SC)(Q:Ex->PT V->HS->Prop)(n:Nat)(T:PT V)(hs:HS)(_t:Tg Q:=.mk):Prop:=∀ c,zh c=some s->LtN ρ E.P k false sz c Q n T hs
theorem zbH{n:Nat}(h:LsN ρ E k sz s Q n T hs):Ls ρ E k sz (.loop s) T hs Q:=fun c hc=>by
 obtain⟨x,rfl,hx⟩:=zbf hc;exact z6W (h x hx)
theorem z7a(hl:Ls ρ E k sz s T hs Q')(h:∀ ex T1 hs1,Q' ex T1 hs1->∃ T2 hs2,Less k T1 hs1 T2 hs2/\Q ex T2 hs2):Ls ρ E k sz s T hs Q:=fun c hc=>z6V (hl c hc) h
theorem zDB(hρ:Good ρ)(hcon:ConsOk ρ E)(hP:E.P.follows .mixedOrders=true)(hN:zeo E.P)(h:Js E false sz s T hs Q):Ls ρ E k sz s T hs Q:=fun c hc=>by
 obtain⟨n,ex,T',hs',h1,h2⟩:=h c hc;exact zD9 hρ hcon hP hN h1 h2
def WpR(ρ:Nat->Value)(E:Env)(k sz:Nat):SC->PT V->HS->(Ex->PT V->HS->Prop)->Prop
 |.skip,T,hs,Q=>Q .normal T hs
 |.ret,T,hs,Q=>Q .ret T hs
 |.exit i,T,hs,Q=>Q (.exit i) T hs
 |.reg l,T,hs,Q=>Rs E sz l hs.n T { H:=hs.H,n:=hs.n+l.length,log:=hs.log } fun T hs=>Q .normal T hs
 |.draw l bs,T,hs,Q=>Rd E sz l hs.n T { H:=hs.H,n:=hs.n+l.length,log:=hs.log } [] fun T hs acc=>zbZ acc acc 0 bs=true/\Q .normal T hs
 |.seq a b,T,hs,Q=>WpR ρ E k sz a T hs (Ex.then (fun T hs=>WpR ρ E k sz b T hs Q) Q)
 |.cond q a b,T,hs,Q=>ok (zk T q) fun v=>ok v.bool? fun t=>if t=true then WpR ρ E k sz a T hs Q else WpR ρ E k sz b T hs Q
 |.block i a,T,hs,Q=>WpR ρ E k sz a T hs (Ex.inBlock i Q)
 |.loop a,T,hs,Q=>Ls ρ E k sz (.loop a) T hs Q
 |.range g ps a b,T,hs,Q=>Ls ρ E k sz (.range g ps a b) T hs Q
def Wp(ρ:Nat->Value)(E:Env)(k sz:Nat)(s:SC)(T:PT V)(hs:HS)(Q:Ex->PT V->HS->Prop)(_t:Tg Q:=.mk):Prop:=WpR ρ E k sz s T hs Q
theorem zhX(hρ:Good ρ)(hcon:ConsOk ρ E)(hP:E.P.follows .mixedOrders=true)(hN:zeo E.P):∀ {s:SC} {T:PT V} {hs:HS} {Q:Ex->PT V->HS->Prop},Wp ρ E k sz s T hs Q->Ls ρ E k sz s T hs Q:=by
 intro s
 induction s with
 |skip=>intro T hs Q h c hc;have e:c=.skip:=zbf hc;subst e;exact z6U h
 |ret=>intro T hs Q h c hc;have e:c=.ret:=zbf hc;subst e;exact zDA h
 |exit i=>intro T hs Q h c hc;have e:c=.exit i:=zbf hc;subst e;exact z6Y h
 |reg l=>intro T hs Q h;exact zDB hρ hcon hP hN (zDD h)
 |draw l bs=>intro T hs Q h;exact zDB hρ hcon hP hN (z7b h)
 | seq a b iha ihb =>
   intro T hs Q h c hc;obtain⟨x,y,rfl,hx,hy⟩:=zbf hc;refine zD8 (zv1 (iha h x hx) fun e T hs q=>?_)
   cases e with
   |normal=>exact ihb q y hy
   |ret=>exact q
   |exit i=>exact q
 | cond q a b iha ihb =>
   intro T hs Q h c hc;obtain⟨x,y,rfl,hx,hy⟩:=zbf hc;obtain⟨v,hv,t,ht,h⟩:=h;rw[V.bool?_eq]at ht;subst ht;refine z6Z hv ?_;split
   . rename_i e;rw[if_pos e]at h;exact iha h x hx
   . rename_i e;rw[if_neg e]at h;exact ihb h y hy
 | block i a iha =>
   intro T hs Q h c hc;obtain⟨x,rfl,hx⟩:=zbf hc;exact zyb (iha h x hx)
 |loop a _=>intro T hs Q h;exact h
 |range g ps a b _ _=>intro T hs Q h;exact h
theorem zjS(hρ:Good ρ)(hcon:ConsOk ρ E)(hP:E.P.follows .mixedOrders=true)(hN:zeo E.P){n:Nat}(h:∀ K:PT V->HS->Prop,(∀ T hs,LsN ρ E k sz s Q n T hs->K T hs)->Wp ρ E k sz s T hs (Ex.then K Q)):LsN ρ E k sz s Q (n+1) T hs:=fun c hc =>
 zv1 (zhX hρ hcon hP hN (h _ fun _ _ h=>h) c hc) fun e T hs q=>by
  cases e with
  |normal=>exact q c hc
  |ret=>exact q
  |exit i=>exact q
theorem z8{n:Nat}{T2:PT V}{hs2:HS}(h:Less k T hs T2 hs2)(hl:LsN ρ E k sz s Q n T2 hs2):LsN ρ E k sz s Q n T hs:=fun c hc=>by
 cases n with
 |zero=>exact(hl c hc).elim
 |succ n=>exact z6X h (hl c hc)
end
section
variable {ρ:Nat->Value}{E:Env}{k sz:Nat}{T:PT V}{hs:HS}{Q:Ex->PT V->HS->Prop}
@[simp ↓] theorem zJK:Wp ρ E k sz .skip T hs Q=Q .normal T hs:=(rfl)
@[simp ↓] theorem zN1:Wp ρ E k sz .ret T hs Q=Q .ret T hs:=(rfl)
@[simp ↓] theorem zJM {i:Nat}:Wp ρ E k sz (.exit i) T hs Q=Q (.exit i) T hs:=(rfl)
@[simp ↓] theorem zN2 {l:List SOp}:Wp ρ E k sz (.reg l) T hs Q=Rs E sz l hs.n T { H:=hs.H,n:=hs.n+l.length,log:=hs.log } fun T hs=>Q .normal T hs:=(rfl)
@[simp ↓] theorem zJN {l:List SD} {bs:List Nat}:Wp ρ E k sz (.draw l bs) T hs Q=Rd E sz l hs.n T { H:=hs.H,n:=hs.n+l.length,log:=hs.log } [] fun T hs acc=>zbZ acc acc 0 bs=true/\Q .normal T hs:=(rfl)
@[simp ↓] theorem zN0 {a b:SC}:Wp ρ E k sz (.seq a b) T hs Q=Wp ρ E k sz a T hs (Ex.then (fun T hs=>Wp ρ E k sz b T hs Q) Q):=(rfl)
@[simp ↓] theorem zJO {q:Operand} {a b:SC}:Wp ρ E k sz (.cond q a b) T hs Q=ok (zk T q) fun v=>ok v.bool? fun t=>br (t=true) (Wp ρ E k sz a T hs Q) (Wp ρ E k sz b T hs Q):=by
  simp only[z6C];rfl
@[simp ↓] theorem zG8 {i:Nat} {a:SC}:Wp ρ E k sz (.block i a) T hs Q=Wp ρ E k sz a T hs (Ex.inBlock i Q):=(rfl)
@[simp ↓] theorem zG6 {g:Operand} {ps:Array Tmp} {a b:SC}:Wp ρ E k sz (.range g ps a b) T hs Q=Ls ρ E k sz (.range g ps a b) T hs Q:=(rfl)
@[simp ↓] theorem zJL {a:SC}:Wp ρ E k sz (.loop a) T hs Q=Ls ρ E k sz (.loop a) T hs Q:=(rfl)
@[congr] theorem zG7 {s:SC} {T':PT V} {hs':HS} (h1:T=T') (h2:hs=hs'):Wp ρ E k sz s T hs Q=Wp ρ E k sz s T' hs' Q:=by rw[h1,h2]
@[congr] theorem zGB {s:SC} {T':PT V} {hs':HS} (h1:T=T') (h2:hs=hs'):Ls ρ E k sz s T hs Q=Ls ρ E k sz s T' hs' Q:=by rw[h1,h2]
@[congr] theorem zDC {s:SC} {T':PT V} {hs':HS} {n:Nat} (h1:T=T') (h2:hs=hs'):LsN ρ E k sz s Q n T hs=LsN ρ E k sz s Q n T' hs':=by rw[h1,h2]
@[simp] theorem zHZ {α:Type}:mkP ([]:List (Nat×α))=.leaf:=(rfl)
@[simp] theorem zFq {α:Type} {p:Nat×α} {l:List (Nat×α)}:mkP (p::l)=(mkP l).set p.1 p.2:=(rfl)
end
section
variable {ρ:Nat->Value}{P:Program}{w w':World}{F F':Nat->Prop}{μ μ':Nat->Nat->Option MI}{hs hs':HS}{T:PT V}
theorem zpa{s:Start}{fn:Func}{tm:Array Value}{Rp:Ending->World->Prop}{N:Nat}(hN:s.w.heap.size<=N)
 (hfin:∀ w,R ρ w F μ P hs->zb6 ρ w F μ T tm->Loc s w F μ hs->∃ v,(results fn tm).run P w=.ok v w/\Rp (.returned v) w):∀ (rs:List Nat) (w:World),R ρ w F μ P hs->zb6 ρ w F μ T tm->Loc s w F μ hs->rs.Nodup ->
 (∀ r∈rs,N<=r/\w.heap[r]?=some (.deferred (some [])))->LeavesInM (Wr none) 0 P fn tm Rp (rs.map (fun r=>{ target:=.collected r,args:=#[] })) .returning w:=by
 intro rs
 induction rs with
 |nil=>intro w hR hT hf _ _;exact hfin w hR hT hf
 | cons r rs ih =>
   intro w hR hT hf hnd hall;have hr:=hall r (List.mem_cons_self ..);refine⟨by simp,.inl ⟨r,zby w r,rfl,run_takeDeferred hr.2,?_⟩⟩;have hnd':=List.nodup_cons.1 hnd;refine ih _ (hR.unmark hr.2) (fun t v hv=>?_) ?_ hnd'.2 (fun s hs=>⟨(hall s (List.mem_cons_of_mem _ hs)).1,?_⟩)
   . obtain⟨x,hx,h⟩:=hT t v hv;exact⟨x,hx,h.cells (zdG hr.2)⟩
   . refine⟨hf.io,by simpa [zby]using hf.size,fun b hb hn=>?_,hf.fm,hf.fnew,hf.mm,hf.own,hf.pres,hf.dm,hf.mn⟩;rw[zaJ (by have:=hr.1;omega)];exact hf.keep b hb hn
   grind [zaJ,List.mem_cons_of_mem]
def zpB(ρ:Nat->Value)(P:Program)(s:Start)(K:V->HS->Prop):Ending->World->Prop
 |.returned x,w'=>∃ v hs' F' μ',K v hs'/\Loc s w' F' μ' hs'/\R ρ w' F' μ' P hs'/\Dom0 μ' hs'/\Rep ρ w' F' μ' v x
 |_,_=>False
theorem zox{E:Env}{f:FuncId}{fn:Func}{sc:SC}{vs:List V}{k:Nat}{K:V->HS->Prop}(hf:E.P.funcs[f]?=some fn)(hb:fn.body.bind zh=some sc)(he:zb3 fn.ntmps vs 0 .leaf=some T)
 (h:Ls ρ E k fn.ntmps sc T hs (Leaves E.P fn K)) {s:Start} {xs:Array Value} (hk:s.k=k) (hL:Loc s w F μ hs) (hR:R ρ w F μ E.P hs) (hD:Dom0 μ hs) (hA:zv5 ρ w F μ vs xs):CallsIn Fence.wide 0 E.P f xs w (zpB ρ E.P s K):=by
 cases hc:fn.body with
 |none=>rw[hc]at hb;cases hb
 |some c =>
 rw[hc]at hb;refine callsIn_of_wp_marks hf hc trivial ?_;have hsz:fn.ntmps<=(xs++Array.replicate (fn.ntmps-xs.size) undef).size:=by simp;omega
 have hT0:zb6 ρ w F μ T (xs++Array.replicate (fn.ntmps-xs.size) undef):=by
  refine zlf he (fun t u hu=>by cases hu) fun k u hk=>?_
  obtain⟨x,hx,hr⟩:=hA.2 k u hk;exact⟨x,by rw[Nat.zero_add,Array.getElem?_append_left (Array.getElem?_eq_some_iff.1 hx).1];exact hx,hr⟩
 refine h c hb s ⟨w.heap.size,[],false⟩ none w F μ _ _ hk ⟨fun _=>rfl,rfl⟩ hL hR hD hT0 hsz (Marks.nil (Nat.le_refl _)) ?_;intro ex T1 hs1 a' w' F' μ' q hL' hR' hD' hT' _ hM;obtain⟨hne,l,hl,hK⟩:=q
 have hleave:LeavesInM (Wr none) 0 E.P fn a'.tmps (zpB ρ E.P s K) a'.defers .returning w':=by
  obtain⟨hN,rs,⟨r1,_⟩,r2,r3⟩:=hM;rw[r2,show ∀ l:List Deferred,l++(NB.mk w.heap.size [] false).base=l from List.append_nil];refine zpa (N:=w.heap.size) hL.size (fun w2 hR2 hT2 hf2=>?_) rs w' hR' hT' hL' r1 r3;obtain⟨ys,h1,h2,h3⟩:=zqu hR2 hT2 hl;refine⟨_,?_,ze2 l,hs1,F',μ',hK,hf2,hR2,hD',zkf (xs:=ys.toArray) (by simpa using h2) (fun i u hi=>by simpa using h3 i u hi)⟩;unfold results;rw[Sem.run_bind,Array.mapM_eq_mapM_toList];rw[Sem.run_map];exact Eq.trans (congrArg (fun z:Result (List Value)=>(z.andThen fun a w'=>Result.ok a.toArray w').andThen fun a w'=>Sem.run E.P (pure (if h:a.size=1 then a[0]else Value.tuple a)) w') h1) rfl
 cases ex with
 |normal=>exact hleave
 |ret=>exact hleave
 |exit i=>exact absurd rfl (hne i)
def zeq(r:V)(v:V)(hs:HS):Prop:=ok (still hs v) fun v'=>zac v'=r
theorem zvl{E:Env}{f:FuncId}{fn:Func}{sc:SC}{vs:List V}{r:V}(hf:E.P.funcs[f]?=some fn)(hb:fn.body.bind zh=some sc)(he:zb3 fn.ntmps vs 0 .leaf=some T)
 (h:Ls ρ E 0 fn.ntmps sc T { H:=.leaf,n:=0,log:=[] } (Leaves E.P fn (zeq r))) (hp:zu vs=true) (hs:HS):CallOk ρ E.P f vs hs r hs:=by
 intro X w F μ xs hR hD hO hA
 have hA':zv5 ρ w F (fun _ _=>none) vs xs:=⟨hA.1,fun i u hi=>by
  obtain⟨x,hx,hr⟩:=hA.2 i u hi
  exact⟨x,hx,.pure (hr.of_pure ρ (zb5 hp u (List.mem_of_getElem? hi)))⟩⟩
 have hL:Loc ⟨fun _=>False,w,F,0,fun _ _=>none⟩ w F (fun _ _=>none) zb2 :=
  ⟨⟨rfl,rfl,rfl⟩,Nat.le_refl _,fun _ _ _=>rfl,fun _ h=>h,fun _ h=>.inl h,fun _ _ _ h=>absurd h (Nat.not_lt_zero _),fun b hb=>absurd hb (zbL b _),fun _ h=>absurd h (Nat.not_lt_zero _),fun _ h=>absurd h (Nat.not_lt_zero _),fun _ _ _ h=>by cases h⟩
 refine(zox hf hb he h rfl hL (R.empty hR.flt) (fun _ _ h=>absurd rfl h) hA').mono fun e w' he=>?_
 cases e with
 | returned x =>
   obtain⟨v1,hs1,F1,μ1,hK,hL1,g1,_,g2⟩:=he;obtain⟨v',h2,rfl⟩:=hK;have hkeep:∀ b,b<w.heap.size->w'.heap[b]?=w.heap[b]?:=fun b hb=>hL1.keep b hb (fun h=>h)
   obtain⟨a1,a2⟩:=alone hR hL1.io hL1.size hkeep;refine⟨_,μ,a1,.pure (zki g1 g2 h2 ?_ ?_).norm,a2⟩
   . intro b hb;have hlt:=g1.flt b hb;rcases hL1.fnew b hb with h|h|h
     . exact .inl h
     . exact .inr ⟨h,hlt⟩
     . exact h.elim
   . intro id g m hm;rcases hL1.mn id g m hm with h|⟨i,j,m0,h,_⟩
     . exact .inr ⟨h,g1.lt _ _ _ hm⟩
     . cases h
 |panicked c=>exact he
 |outgrown=>exact he
end
def fnS(s:List V->Option V):Spec:=fun vs hs=>ob (zas vs hs) fun q=>gd (zu q.1) (ob (s (zT q.1)) fun v=>some (v,q.2))
def fnC(s:List V->Option V):Spec:=fun vs hs=>ob (za1 hs vs) fun vs'=>gd (zu vs') (ob (s (zT vs')) fun v=>gd v.scal (some (v,hs)))
section
variable {ρ:Nat->Value}{P:Program}{f:Nat}{s:List V->Option V}
theorem CallOk.norm{vs:List V}{hs hs':HS}{v:V}(hp:zu vs=true)(h:CallOk ρ P f (zT vs) hs v hs'):CallOk ρ P f vs hs v hs':=by
 intro X w F μ xs hR hD hO hA;refine h X w F μ xs hR hD hO ⟨by rw[za2,List.length_map];exact hA.1,fun i u hi=>?_⟩;rw[za2,List.getElem?_map,Option.map_eq_some_iff]at hi;obtain⟨u0,h0,rfl⟩:=hi;obtain⟨x,hx,hr⟩:=hA.2 i u0 h0;exact⟨x,hx,.pure (hr.of_pure ρ (zb5 hp u0 (List.mem_of_getElem? h0))).norm⟩
theorem Valid.fnS (hf:zeT P f) (h:∀ vs v,s vs=some v->∀ hs,CallOk ρ P f vs hs v hs):Valid ρ P f (fnS s) where
 fn:=hf
 ok := by
  intro vs hs v hs' hq;simp only[J.fnS,zl,zb]at hq;obtain⟨⟨vs',hs1⟩,hp,hpure,v',hv,hq⟩:=hq;cases hq;intro X w F μ xs hR hD hO hA;obtain⟨F',k1,k2,k3,k4,k5⟩:=zdb (xs:=xs.toList) hp hR (fun i u hi=>by simpa using hA.2 i u hi);have hc:CallOk ρ P f vs' hs1 v hs1:=(h _ _ hv hs1).norm hpure;refine(hc X w F' μ xs k1 (k2.dom k3.le hD) hO ⟨by rw[k4];exact hA.1,fun i u hi=>?_⟩).mono fun e w' he=>?_
  . obtain⟨x,hx,hr⟩:=k5 i u hi;exact⟨x,by simpa using hx,.pure hr⟩
  . cases e with
    | returned x =>
      obtain⟨F2,μ2,g1,g2,g3⟩:=he;exact⟨F2,μ2,g1,g2,k2.trans g3⟩
    |panicked c=>exact he
    |outgrown=>exact he
 kept:=by
  intro vs hs q hq;simp only[J.fnS,zl,zb]at hq;obtain⟨⟨vs',hs1⟩,hp,_,v',_,hq⟩:=hq;cases hq;exact zce hp
theorem Valid.fnC(hf:zeT P f)(h:∀ vs v,s vs=some v->∀ hs,CallOk ρ P f vs hs v hs):Valid ρ P f (fnC s) where
 fn:=hf
 ok:=by
  intro vs hs v hs' hq;simp only[J.fnC,zl,zb]at hq;obtain⟨vs',hst,hp,v',hv,hsc,hq⟩:=hq;cases hq;intro X w F μ xs hR hD hO hA;obtain⟨hlen,hall⟩:=zgE hR (F':=fun b=>b<w.heap.size) hR.flt hst (fun _ _ _ _ id g off len cap _ m hm=>hR.lt id g m hm)
  have hA':zv5 ρ w (fun b=>b<w.heap.size) (fun _ _=>none) vs' xs:=⟨hA.1.trans hlen.symm,fun i u hi=>by
   obtain⟨u0,hu0,hr⟩:=hall i u hi;obtain⟨x,hx,hr0⟩:=hA.2 i u0 hu0
   exact⟨x,hx,.pure (hr x hr0)⟩⟩
  have hc:CallOk ρ P f vs' zb2 v zb2:=(h _ _ hv _).norm hp;refine(hc _ w _ (fun _ _=>none) xs (R.empty fun _ h=>h) Dom.empty (Off.no _) hA').mono fun e w' he=>?_
  cases e with
  | returned x =>
    obtain⟨F1,μ1,g1,g2,g3⟩:=he;have hkeep:∀ b,b<w.heap.size->w'.heap[b]?=w.heap[b]?:=fun b hb=>g3.keep b hb (zbL b _)
    obtain⟨a1,a2⟩:=alone hR g3.io g3.size hkeep;exact⟨_,μ,a1,.pure (znk g2 hsc),a2⟩
  |panicked c=>exact he
  |outgrown=>exact he
 kept:=by
  intro vs hs q hq;simp only[J.fnC,zl,zb]at hq;obtain⟨_,_,_,_,_,_,hq⟩:=hq;cases hq;exact .refl _
end
section
variable {ρ:Nat->Value}{P:Program}{E:Env}{k sz:Nat}{s:SC}{T:PT V}{hs:HS}{Q Q':Ex->PT V->HS->Prop}
def LessQ(k:Nat)(Q:Ex->PT V->HS->Prop)(e:Ex)(T:PT V)(hs:HS):Prop:=∃ T2 hs2,Less k T hs T2 hs2/\Q e T2 hs2
theorem zbx(h:Ls ρ E k sz s T hs (LessQ k Q)):Ls ρ E k sz s T hs Q:=z7a h fun _ _ _ q=>q
theorem LessQ.mk{e:Ex}{T2:PT V}{hs2:HS}(h:Less k T hs T2 hs2)(q:Q e T2 hs2):LessQ k Q e T hs:=⟨T2,hs2,h,q⟩
end
end Go.J
/- Values of types of Lean as values of the evaluator. -/
namespace Go.J
class Cel (α:Type) where
 cells:α->List V
 dec:List V->Option α
 dec_enc:∀ a,dec (cells a)=some a
 enc_dec:∀ c a,dec c=some a->c=cells a
 pure2:∀ a,(cells a).all V.pure2=true
 norm:∀ a,zT (cells a)=cells a
class Enc (α:Type) where
 enc:α->V
 dec:V->Option α
 dec_enc:∀ a,dec (enc a)=some a
 enc_dec:∀ v a,dec v=some a->v=enc a
 norm:∀ a,zac (enc a)=enc a
open Enc (enc)
instance:Enc Int where
 enc n:=.int .i64 n
 dec v:=match v with
  |.int .i64 n=>some n
  |_=>none
 dec_enc _:=rfl
 enc_dec v a h:=by
  split at h
  . cases h;rfl
  . cases h
 norm _:=rfl
instance:Enc Bool where
 enc b:=.bool b
 dec v:=match v with
  |.bool b=>some b
  |_=>none
 dec_enc _:=rfl
 enc_dec v a h:=by
  split at h
  . cases h;rfl
  . cases h
 norm _:=rfl
instance instStr:Enc (List Nat) where
 enc b:=.str b
 dec v:=match v with
  |.str b=>some b
  |_=>none
 dec_enc _:=rfl
 enc_dec v a h:=by
  split at h
  . cases h;rfl
  . cases h
 norm _:=rfl
instance:Cel Int where
 cells n:=[.int .i64 n]
 dec v:=match v with
  | [.int .i64 n]=>some n
  |_=>none
 dec_enc _:=rfl
 enc_dec v a h:=by
  split at h
  . cases h;rfl
  . cases h
 pure2 _:=rfl
 norm _:=rfl
instance:Cel Bool where
 cells n:=[.bool n]
 dec v:=match v with
  | [.bool n]=>some n
  |_=>none
 dec_enc _:=rfl
 enc_dec v a h:=by
  split at h
  . cases h;rfl
  . cases h
 pure2 _:=rfl
 norm _:=rfl
instance instStrC:Cel (List Nat) where
 cells n:=[.str n]
 dec v:=match v with
  | [.str n]=>some n
  |_=>none
 dec_enc _:=rfl
 enc_dec v a h:=by
  split at h
  . cases h;rfl
  . cases h
 pure2 _:=rfl
 norm _:=rfl
section
variable {α:Type} [Cel α]
def zN:List (List V)->Option (List α)
 | []=>some []
 | e::r=>match Cel.dec e,zN r with
   |some a,some l=>some (a::l)
   |_,_=>none
theorem zaw:∀ l:List α,zN (l.map Cel.cells)=some l:=by
 intro l
 induction l with
 |nil=>rfl
 |cons a l ih=>simp[zN,Cel.dec_enc,ih]
theorem zao:∀ {es:List (List V)} {l:List α},zN es=some l->es=l.map Cel.cells:=by
 intro es
 induction es with
 |nil=>intro l h;cases h;rfl
 | cons e r ih =>
   intro l h;unfold zN at h;split at h
   . rename_i a m h1 h2;cases h;rw[List.map_cons,<- ih h2,Cel.enc_dec _ _ h1]
   . cases h
theorem zR(l:List α):zG (l.map Cel.cells)=l.map Cel.cells:=by
 rw[zdd,List.map_map];exact List.map_congr_left fun a _=>Cel.norm a
theorem zS(l:List α):((l.map Cel.cells).all fun e=>e.all V.pure2)=true:=by
 rw[List.all_eq_true];intro e he;obtain⟨a,_,rfl⟩:=List.mem_map.1 he;exact Cel.pure2 a
instance instSl:Enc (List α) where
 enc l:=.sl (l.map Cel.cells) false
 dec v:=match v with
  |.sl es false=>zN es
  |_=>none
 dec_enc l:=zaw l
 enc_dec v a h:=by
  split at h
  . rw[zao h]
  . cases h
 norm l:=by
  show V.sl (zG (l.map Cel.cells)) false=_;rw[zR]
end
@[reducible] def zcP {α:Type} [Cel α]:Enc α where
  enc a:=.agg (Cel.cells a)
  dec v:=match v with
   |.agg c=>Cel.dec c
   |_=>none
  dec_enc a:=Cel.dec_enc a
  enc_dec v a h:=by
   split at h
   . rw[Cel.enc_dec _ _ h]
   . cases h
  norm a:=by
   show V.agg (zT (Cel.cells a))=_;rw[Cel.norm]
instance instPair{α β:Type} [Enc α] [Enc β]:Enc (α×β) where
 enc p:=.tuple [enc p.1,enc p.2]
 dec v:=match v with
  |.tuple [x,y]=>ob (Enc.dec x) fun a=>ob (Enc.dec y) fun b=>some (a,b)
  |_=>none
 dec_enc p:=by simp[Enc.dec_enc]
 enc_dec v a h:=by
  split at h
  . simp only[zb]at h;obtain⟨x,hx,y,hy,h⟩:=h;cases h;rw[Enc.enc_dec _ _ hx,Enc.enc_dec _ _ hy]
  . cases h
 norm p:=by simp[zac,zT,Enc.norm]
end Go.J
/- Types,and structures of them,as values of the evaluator. -/
namespace Go.J
open Enc (enc)
inductive Ty where
 |mk (kind:Int) (name:List Nat) (id home:Int) (args:List Ty)
 deriving Inhabited
namespace Ty
def kind:Ty->Int|.mk k _ _ _ _=>k
def name:Ty->List Nat|.mk _ n _ _ _=>n
def id:Ty->Int|.mk _ _ i _ _=>i
def home:Ty->Int|.mk _ _ _ h _=>h
def args:Ty->List Ty|.mk _ _ _ _ l=>l
section
variable {k i h:Int}{n:List Nat}{l:List Ty}
@[simp] theorem kind_mk:(mk k n i h l).kind=k:=(rfl)
@[simp] theorem name_mk:(mk k n i h l).name=n:=(rfl)
@[simp] theorem id_mk:(mk k n i h l).id=i:=(rfl)
@[simp] theorem home_mk:(mk k n i h l).home=h:=(rfl)
@[simp] theorem args_mk:(mk k n i h l).args=l:=(rfl)
@[simp] theorem eta (t:Ty):mk t.kind t.name t.id t.home t.args=t:=by cases t;rfl
end
theorem ext'{a b:Ty}(h1:a.kind=b.kind)(h2:a.name=b.name)(h3:a.id=b.id)(h4:a.home=b.home)(h5:a.args=b.args):a=b:=by
 cases a;cases b;simp_all
theorem eq_iff{a b:Ty}:a=b↔a.kind=b.kind/\a.name=b.name/\a.id=b.id/\a.home=b.home/\a.args=b.args :=
 ⟨fun h=>by subst h;simp,fun ⟨h1,h2,h3,h4,h5⟩=>ext' h1 h2 h3 h4 h5⟩
mutual
def beq:Ty->Ty->Bool
 |.mk k n i h l,.mk k' n' i' h' l'=>decide (k=k')&&decide (n=n')&&decide (i=i')&&decide (h=h')&&z6F l l'
def z6F:List Ty->List Ty->Bool
 | [],[]=>true
 |a::l,b::m=>beq a b&&z6F l m
 |_,_=>false
end
mutual
theorem z3u:∀ a b:Ty,beq a b=true↔a=b
 | .mk k n i h l,.mk k' n' i' h' l'=>by
   simp[beq,zvu l l',and_assoc]
theorem zvu:∀ a b:List Ty,z6F a b=true↔a=b
 | [],[]=>by simp[z6F]
 | [],_::_=>by simp[z6F]
 |_::_,[]=>by simp[z6F]
 |a::l,b::m=>by simp[z6F,z3u a b,zvu l m]
end
instance:DecidableEq Ty:=fun a b=>decidable_of_iff _ (z3u a b)
mutual
def size:Ty->Nat
 |.mk _ _ _ _ l=>sizes l+1
def sizes:List Ty->Nat
 | []=>0
 |t::l=>size t+sizes l
end
theorem size_eq(t:Ty):t.size=sizes t.args+1:=by cases t;simp[size]
theorem size_pos(t:Ty):0<t.size:=by rw[size_eq];omega
theorem size_mem{t:Ty}{l:List Ty}(h:t∈l):t.size<=sizes l:=by
 induction l with
 |nil=>cases h
 | cons a l ih =>
   simp only[sizes]
   grind
theorem size_arg{t u:Ty}(h:u∈t.args):u.size<t.size:=by
 have:=size_mem h;rw[size_eq t];omega
theorem ind{p:Ty->Prop}(h:∀ t,(∀ u∈t.args,p u)->p t)(t:Ty):p t:=by
 generalize hn:t.size=n
 induction n using Nat.strongRecOn generalizing t with
 |_ n ih=>exact h t fun u hu=>ih u.size (by have:=size_arg hu;omega) u rfl
mutual
def ok:Ty->Bool
 |.mk _ _ _ _ l=>decide (l.length<=10000)&&oks l
def oks:List Ty->Bool
 | []=>true
 |t::l=>ok t&&oks l
end
theorem oks_iff{l:List Ty}:oks l=true↔∀ t∈l,t.ok=true:=by
 induction l with
 |nil=>simp[oks]
 |cons a l ih=>simp[oks,ih]
theorem ok_iff{t:Ty}:t.ok=true↔t.args.length<=10000/\∀ u∈t.args,u.ok=true:=by
 cases t;simp[ok,oks_iff]
theorem ok_len{t:Ty}(h:t.ok=true):t.args.length<=10000:=(ok_iff.1 h).1
theorem ok_arg{t u:Ty}(h:t.ok=true)(hu:u∈t.args):u.ok=true:=(ok_iff.1 h).2 u hu
end Ty
mutual
def zg:Ty->List V
 |.mk k n i h l=>[.int .i64 k,.str n,.int .i64 i,.int .i64 h,.sl (zcn l) false]
def zcn:List Ty->List (List V)
 | []=>[]
 |t::l=>zg t::zcn l
end
theorem zh1(l:List Ty):zcn l=l.map zg:=by
 induction l with
 |nil=>simp[zcn]
 |cons t l ih=>simp[zcn,ih]
theorem zdW(t:Ty):zg t=[.int .i64 t.kind,.str t.name,.int .i64 t.id,.int .i64 t.home,.sl (t.args.map zg) false]:=by
 cases t;simp[zg,zh1]
mutual
def zd7:V->Option (List Ty)
 |.sl es false=>zdZ es
 |_=>none
def zdZ:List (List V)->Option (List Ty)
 | []=>some []
 | e::r=>match zh6 e,zdZ r with
   |some t,some l=>some (t::l)
   |_,_=>none
def zh6:List V->Option Ty
 | [.int .i64 k,.str n,.int .i64 i,.int .i64 h,a]=>(zd7 a).map (Ty.mk k n i h)
 |_=>none
end
mutual
theorem zlr:∀ t:Ty,zh6 (zg t)=some t
 |.mk k n i h l=>by simp[zg,zh6,zd7,zfR l]
theorem zfR:∀ l:List Ty,zdZ (zcn l)=some l
 | []=>by simp[zcn,zdZ]
 |t::l=>by simp[zcn,zdZ,zlr t,zfR l]
end
mutual
theorem ziR:∀ (v:V) (l:List Ty),zd7 v=some l->v=.sl (zcn l) false
 | v,l,h=>by
   unfold zd7 at h;split at h
   . rename_i es;rw[ziQ es l h]
   . cases h
theorem ziQ:∀ (es:List (List V)) (l:List Ty),zdZ es=some l->es=zcn l
 | [],l,h=>by simp[zdZ]at h;subst h;simp[zcn]
 | e :: r,l,h=>by
   unfold zdZ at h;split at h
   . rename_i t m h1 h2;cases h;rw[zli e t h1,ziQ r m h2];simp[zcn]
   . cases h
theorem zli:∀ (c:List V) (t:Ty),zh6 c=some t->c=zg t
 | c,t,h=>by
   unfold zh6 at h;split at h
   . rename_i k n i hm a;rw[Option.map_eq_some_iff]at h;obtain⟨l,hl,rfl⟩:=h;rw[ziR a l hl];simp[zg]
   . cases h
end
mutual
theorem ziG:∀ t:Ty,zT (zg t)=zg t
 |.mk k n i h l=>by simp[zg,zT,zac,zgW l]
theorem zgW:∀ l:List Ty,zG (zcn l)=zcn l
 | []=>by simp[zcn,zG]
 |t::l=>by simp[zcn,zG,ziG t,zgW l]
end
instance:Cel Ty where
 cells:=zg
 dec:=zh6
 dec_enc:=zlr
 enc_dec:=zli
 pure2 t:=by cases t;simp[zg,V.pure2,V.pure1]
 norm:=ziG
instance:Enc Ty:=zcP
theorem zh5:∀ es:List (List V),zdZ es=zN es:=by
 intro es
 induction es with
 |nil=>simp[zdZ,zN]
 | cons e r ih =>
   simp only[zdZ,zN,ih];rw[show (Cel.dec e:Option Ty)=zh6 e from rfl]
   grind
theorem z6i{k i h:Int}{n:List Nat}{es:List (List V)}:zh6 [.int .i64 k,.str n,.int .i64 i,.int .i64 h,.sl es false]=ob (zN es) fun l=>some (Ty.mk k n i h l):=by
 simp only[zh6,zd7,zh5];cases(zN es:Option (List Ty))<;>rfl
@[simp] theorem zGo:@Cel.cells Ty _=zg:=(rfl)
@[simp] theorem zCZ:@Cel.dec Ty _=zh6:=(rfl)
@[simp] theorem zNe (a:Ty):enc a=.agg (zg a):=(rfl)
@[simp] theorem zNk {c:List V}:Enc.dec (α:=Ty) (.agg c)=zh6 c:=(rfl)
@[simp] theorem zeb (l:List Ty):zN (l.map zg)=some l:=zaw l
@[simp] theorem zdP (l:List Ty):zG (l.map zg)=l.map zg:=zR l
@[simp] theorem zwD (l:List Ty):((l.map zg).all fun e=>e.all V.pure2)=true:=zS l
@[simp] theorem zJn (l:List Ty):enc l=.sl (l.map zg) false:=(rfl)
@[simp] theorem zJw {es:List (List V)}:Enc.dec (α:=List Ty) (.sl es false)=zN es:=(rfl)
theorem zA{α:Type}{f:α->List V}(h:∀ l:List α,((l.map f).all fun e=>e.all V.pure2)=true){l:List α}:zI (l.map f)=true:=by
 have h:=h l;rw[List.all_eq_true]at h;refine(zhV zvQ _).2 fun e he=>allC_eq.2 fun v hv=>?_
 have:=List.all_eq_true.1 (h e he) v hv;cases v<;>first|rfl|cases this
@[simp] theorem zNR (l:List Ty):sizes 5 (l.map zg)=true:=by rw[sizes_eq];intro e he;obtain⟨a,_,rfl⟩:=List.mem_map.1 he;rw[zdW];rfl
@[simp] theorem zOA (l:List Ty):zI (l.map zg)=true:=zA zwD
attribute [simp] z6i zdW
structure T3(α β γ:Type) where
 a:α
 b:β
 c:γ
structure T4(α β γ δ:Type) where
 a:α
 b:β
 c:γ
 d:δ
instance instT3{α β γ:Type} [Enc α] [Enc β] [Enc γ]:Enc (T3 α β γ) where
 enc p:=.tuple [enc p.a,enc p.b,enc p.c]
 dec v:=match v with
  |.tuple [x,y,z]=>ob (Enc.dec x) fun a=>ob (Enc.dec y) fun b=>ob (Enc.dec z) fun c=>some ⟨a,b,c⟩
  |_=>none
 dec_enc p:=by simp[Enc.dec_enc,ob]
 enc_dec v a h:=by
  split at h
  . simp only[zb]at h;obtain⟨x,hx,y,hy,z,hz,h⟩:=h;cases h;rw[Enc.enc_dec _ _ hx,Enc.enc_dec _ _ hy,Enc.enc_dec _ _ hz]
  . cases h
 norm p:=by simp[zac,zT,Enc.norm]
instance instT4{α β γ δ:Type} [Enc α] [Enc β] [Enc γ] [Enc δ]:Enc (T4 α β γ δ) where
 enc p:=.tuple [enc p.a,enc p.b,enc p.c,enc p.d]
 dec v:=match v with
  |.tuple [x,y,z,u]=>ob (Enc.dec x) fun a=>ob (Enc.dec y) fun b=>ob (Enc.dec z) fun c=>ob (Enc.dec u) fun d=>some ⟨a,b,c,d⟩
  |_=>none
 dec_enc p:=by simp[Enc.dec_enc,ob]
 enc_dec v a h:=by
  split at h
  . simp only[zb]at h;obtain⟨x,hx,y,hy,z,hz,u,hu,h⟩:=h;cases h;rw[Enc.enc_dec _ _ hx,Enc.enc_dec _ _ hy,Enc.enc_dec _ _ hz,Enc.enc_dec _ _ hu]
  . cases h
 norm p:=by simp[zac,zT,Enc.norm]
@[simp] theorem zNh {α β γ:Type} [Enc α] [Enc β] [Enc γ] (p:T3 α β γ):enc p=.tuple [enc p.a,enc p.b,enc p.c]:=(rfl)
@[simp] theorem zNg {α β γ δ:Type} [Enc α] [Enc β] [Enc γ] [Enc δ] (p:T4 α β γ δ):enc p=.tuple [enc p.a,enc p.b,enc p.c,enc p.d]:=(rfl)
abbrev encI(n:Int):List V:=[.int .i64 n]
abbrev zjF(b:Bool):List V:=[.bool b]
abbrev encS(s:List Nat):List V:=[.str s]
@[simp] theorem zx3 (l:List Int):zN (l.map encI)=some l:=zaw l
@[simp] theorem zCJ (l:List Bool):zN (l.map zjF)=some l:=zaw l
@[simp] theorem zor (l:List (List Nat)):zN (l.map encS)=some l:=zaw l
@[simp] theorem zwT (l:List Int):zG (l.map encI)=l.map encI:=zR l
@[simp] theorem zBb (l:List Bool):zG (l.map zjF)=l.map zjF:=zR l
@[simp] theorem zns (l:List (List Nat)):zG (l.map encS)=l.map encS:=zR l
@[simp] theorem zk5 (l:List Int):((l.map encI).all fun e=>e.all V.pure2)=true:=zS l
@[simp] theorem ziC (l:List Bool):((l.map zjF).all fun e=>e.all V.pure2)=true:=zS l
@[simp] theorem zqA (l:List (List Nat)):((l.map encS).all fun e=>e.all V.pure2)=true:=zS l
@[simp] theorem zKn (l:List Int):sizes 1 (l.map encI)=true:=by rw[sizes_eq];intro e he;obtain⟨a,_,rfl⟩:=List.mem_map.1 he;rfl
@[simp] theorem zHo (l:List Bool):sizes 1 (l.map zjF)=true:=by rw[sizes_eq];intro e he;obtain⟨a,_,rfl⟩:=List.mem_map.1 he;rfl
@[simp] theorem zKm (l:List (List Nat)):sizes 1 (l.map encS)=true:=by rw[sizes_eq];intro e he;obtain⟨a,_,rfl⟩:=List.mem_map.1 he;rfl
@[simp] theorem zNz (l:List Int):zI (l.map encI)=true:=zA zk5
@[simp] theorem zJJ (l:List Bool):zI (l.map zjF)=true:=zA ziC
@[simp] theorem zNy (l:List (List Nat)):zI (l.map encS)=true:=zA zqA
@[simp] theorem zFU (l:List Int):enc l=.sl (l.map encI) false:=(rfl)
@[simp] theorem zC5 (l:List Bool):enc l=.sl (l.map zjF) false:=(rfl)
@[simp] theorem zFT (l:List (List Nat)):enc l=.sl (l.map encS) false:=(rfl)
@[simp] theorem zGc {es:List (List V)}:Enc.dec (α:=List Int) (.sl es false)=zN es:=(rfl)
@[simp] theorem zCF {es:List (List V)}:Enc.dec (α:=List Bool) (.sl es false)=zN es:=(rfl)
@[simp] theorem zGb {es:List (List V)}:Enc.dec (α:=List (List Nat)) (.sl es false)=zN es:=(rfl)
@[simp] theorem zJq (n:Int):enc n=.int .i64 n:=(rfl)
@[simp] theorem zFX (b:Bool):enc b=.bool b:=(rfl)
@[simp] theorem zJl (s:List Nat):enc s=.str s:=(rfl)
@[simp] theorem zJz {n:Int}:Enc.dec (α:=Int) (.int .i64 n)=some n:=(rfl)
@[simp] theorem zGf {b:Bool}:Enc.dec (α:=Bool) (.bool b)=some b:=(rfl)
@[simp] theorem zJu {s:List Nat}:Enc.dec (α:=List Nat) (.str s)=some s:=(rfl)
@[simp] theorem zCX:@Cel.cells Int _=encI:=(rfl)
@[simp] theorem z9e:@Cel.cells Bool _=zjF:=(rfl)
@[simp] theorem zCW:@Cel.cells (List Nat) _=encS:=(rfl)
@[simp] theorem z9g {n:Int}:Cel.dec (α:=Int) [.int .i64 n]=some n:=(rfl)
@[simp] theorem z6A {b:Bool}:Cel.dec (α:=Bool) [.bool b]=some b:=(rfl)
@[simp] theorem z9f {s:List Nat}:Cel.dec (α:=List Nat) [.str s]=some s:=(rfl)
@[simp] theorem zFR {α β:Type} [Enc α] [Enc β] (a:α) (b:β):enc (a,b)=.tuple [enc a,enc b]:=(rfl)
@[simp] theorem zGg {α:Type} [Cel α]:zN ([]:List (List V))=some ([]:List α):=(rfl)
@[simp] theorem zlw {α:Type} [Cel α] {e:List V} {r:List (List V)}:(zN (e::r):Option (List α))=ob (Cel.dec e) fun a=>ob (zN r) fun l=>some (a::l):=by
  show (match (Cel.dec e:Option α),(zN r:Option (List α))with|some a,some l=>some (a::l)|_,_=>none)=_;cases(Cel.dec e:Option α)<;>cases(zN r:Option (List α))<;>rfl
@[simp] theorem z6j {α:Type} [Cel α] {e r:List (List V)}:(zN (e++r):Option (List α))=ob (zN e) fun a=>ob (zN r) fun l=>some (a++l):=by
  induction e with
  | nil =>
    show zN r=ob (some []) _;rw[zB];cases(zN r:Option (List α))<;>rfl
  | cons x e ih =>
    show zN (x::(e++r))=_;rw[zlw,zlw,ih];cases(Cel.dec x:Option α)<;>cases(zN e:Option (List α))<;>cases(zN r:Option (List α))<;>rfl
structure Slot where
 bound:Bool
 type:Ty
 home:Int
 base:Bool
 deriving DecidableEq
def zb1(a:Slot):List V:=[.bool a.bound,.int .i64 a.type.kind,.str a.type.name,.int .i64 a.type.id,.int .i64 a.type.home,.sl (a.type.args.map zg) false,.int .i64 a.home,.bool a.base]
def zh7(c:List V):Option Slot :=
 match c with
 | [.bool x0,.int .i64 x1,.str x2,.int .i64 x3,.int .i64 x4,.sl x5 false,.int .i64 x6,.bool x7]=>ob (zN x5) fun y5=>some ⟨x0,(Ty.mk x1 x2 x3 x4 y5),x6,x7⟩
 |_=>none
theorem zlu{x0:Bool}{x1:Int}{x2:List Nat}{x3:Int}{x4:Int}{x5:List (List V)}{x6:Int}{x7:Bool}:zh7 [.bool x0,.int .i64 x1,.str x2,.int .i64 x3,.int .i64 x4,.sl x5 false,.int .i64 x6,.bool x7]=ob (zN x5) fun y5=>some ⟨x0,(Ty.mk x1 x2 x3 x4 y5),x6,x7⟩:=(rfl)
instance:Cel Slot where
 cells:=zb1
 dec:=zh7
 dec_enc a:=by simp only[zb1,zlu,zeb,zB,Ty.eta]
 enc_dec c a h:=by
  unfold zh7 at h;split at h
  . simp only[zb]at h;obtain⟨y5,hy5,h⟩:=h;cases h;have hy5:=zao hy5
    subst_vars
    rfl
  . cases h
 pure2 a:=rfl
 norm a:=by simp only[zb1,zT,zac,zdP]
instance:Enc Slot:=zcP
@[simp] theorem z9a:@Cel.cells Slot _=zb1:=(rfl)
@[simp] theorem z6w:@Cel.dec Slot _=zh7:=(rfl)
@[simp] theorem zFQ (a:Slot):enc a=.agg (zb1 a):=(rfl)
@[simp] theorem zFZ {c:List V}:Enc.dec (α:=Slot) (.agg c)=zh7 c:=(rfl)
@[simp] theorem zva (l:List Slot):zN (l.map zb1)=some l:=zaw l
@[simp] theorem zqN (l:List Slot):zG (l.map zb1)=l.map zb1:=zR l
@[simp] theorem zoL (l:List Slot):((l.map zb1).all fun e=>e.all V.pure2)=true:=zS l
@[simp] theorem zC1 (l:List Slot):enc l=.sl (l.map zb1) false:=(rfl)
@[simp] theorem zCB {es:List (List V)}:Enc.dec (α:=List Slot) (.sl es false)=zN es:=(rfl)
@[simp] theorem zHk (l:List Slot):sizes 8 (l.map zb1)=true:=by rw[sizes_eq];intro e he;obtain⟨a,_,rfl⟩:=List.mem_map.1 he;rfl
@[simp] theorem zJF (l:List Slot):zI (l.map zb1)=true:=zA zoL
@[simp] theorem zFJ (a:Slot):Slot.mk a.bound a.type a.home a.base=a:=(rfl)
attribute [simp] zlu zb1
structure Change where
 id:Int
 old:Slot
 new:Bool
 deriving DecidableEq
def zau(a:Change):List V:=[.int .i64 a.id,.bool a.old.bound,.int .i64 a.old.type.kind,.str a.old.type.name,.int .i64 a.old.type.id,.int .i64 a.old.type.home,.sl (a.old.type.args.map zg) false,.int .i64 a.old.home,.bool a.old.base,.bool a.new]
def zec(c:List V):Option Change :=
 match c with
 | [.int .i64 x0,.bool x1,.int .i64 x2,.str x3,.int .i64 x4,.int .i64 x5,.sl x6 false,.int .i64 x7,.bool x8,.bool x9]=>ob (zN x6) fun y6=>some ⟨x0,⟨x1,(Ty.mk x2 x3 x4 x5 y6),x7,x8⟩,x9⟩
 |_=>none
theorem zhC{x0:Int}{x1:Bool}{x2:Int}{x3:List Nat}{x4:Int}{x5:Int}{x6:List (List V)}{x7:Int}{x8:Bool}{x9:Bool}:zec [.int .i64 x0,.bool x1,.int .i64 x2,.str x3,.int .i64 x4,.int .i64 x5,.sl x6 false,.int .i64 x7,.bool x8,.bool x9]=ob (zN x6) fun y6=>some ⟨x0,⟨x1,(Ty.mk x2 x3 x4 x5 y6),x7,x8⟩,x9⟩:=(rfl)
instance:Cel Change where
 cells:=zau
 dec:=zec
 dec_enc a:=by simp only[zau,zhC,zeb,zB,Ty.eta]
 enc_dec c a h:=by
  unfold zec at h;split at h
  . simp only[zb]at h;obtain⟨y6,hy6,h⟩:=h;cases h;have hy6:=zao hy6
    subst_vars
    rfl
  . cases h
 pure2 a:=rfl
 norm a:=by simp only[zau,zT,zac,zdP]
instance:Enc Change:=zcP
@[simp] theorem z3o:@Cel.cells Change _=zau:=(rfl)
@[simp] theorem zxG:@Cel.dec Change _=zec:=(rfl)
@[simp] theorem z8K (a:Change):enc a=.agg (zau a):=(rfl)
@[simp] theorem z8R {c:List V}:Enc.dec (α:=Change) (.agg c)=zec c:=(rfl)
@[simp] theorem zm4 (l:List Change):zN (l.map zau)=some l:=zaw l
@[simp] theorem zmn (l:List Change):zG (l.map zau)=l.map zau:=zR l
@[simp] theorem zk6 (l:List Change):((l.map zau).all fun e=>e.all V.pure2)=true:=zS l
@[simp] theorem z5Y (l:List Change):enc l=.sl (l.map zau) false:=(rfl)
@[simp] theorem z6f {es:List (List V)}:Enc.dec (α:=List Change) (.sl es false)=zN es:=(rfl)
@[simp] theorem z9W (l:List Change):sizes 10 (l.map zau)=true:=by rw[sizes_eq];intro e he;obtain⟨a,_,rfl⟩:=List.mem_map.1 he;rfl
@[simp] theorem zD4 (l:List Change):zI (l.map zau)=true:=zA zk6
@[simp] theorem z8F (a:Change):Change.mk a.id a.old a.new=a:=(rfl)
attribute [simp] zhC zau
structure Store where
 slots:List Slot
 trail:List Change
 deriving DecidableEq
def zbk(a:Store):List V:=[.sl (a.slots.map zb1) false,.sl (a.trail.map zau) false]
def zfu(c:List V):Option Store :=
 match c with
 | [.sl x0 false,.sl x1 false]=>ob (zN x0) fun y0=>ob (zN x1) fun y1=>some ⟨y0,y1⟩
 |_=>none
theorem ziX{x0:List (List V)}{x1:List (List V)}:zfu [.sl x0 false,.sl x1 false]=ob (zN x0) fun y0=>ob (zN x1) fun y1=>some ⟨y0,y1⟩:=(rfl)
instance:Cel Store where
 cells:=zbk
 dec:=zfu
 dec_enc a:=by simp only[zbk,ziX,zm4,zva,zB,Ty.eta]
 enc_dec c a h:=by
  unfold zfu at h;split at h
  . simp only[zb]at h;obtain⟨y0,hy0,y1,hy1,h⟩:=h;cases h;have hy0:=zao hy0;have hy1:=zao hy1
    subst_vars
    rfl
  . cases h
 pure2 a:=rfl
 norm a:=by simp only[zbk,zT,zac,zmn,zqN]
instance:Enc Store:=zcP
@[simp] theorem z6u:@Cel.cells Store _=zbk:=(rfl)
@[simp] theorem z3q:@Cel.dec Store _=zfu:=(rfl)
@[simp] theorem zC0 (a:Store):enc a=.agg (zbk a):=(rfl)
@[simp] theorem zCA {c:List V}:Enc.dec (α:=Store) (.agg c)=zfu c:=(rfl)
@[simp] theorem z8T (l:List Store):zN (l.map zbk)=some l:=zaw l
@[simp] theorem z7Y (l:List Store):zG (l.map zbk)=l.map zbk:=zR l
@[simp] theorem zmg (l:List Store):((l.map zbk).all fun e=>e.all V.pure2)=true:=zS l
@[simp] theorem z8I (l:List Store):enc l=.sl (l.map zbk) false:=(rfl)
@[simp] theorem z8P {es:List (List V)}:Enc.dec (α:=List Store) (.sl es false)=zN es:=(rfl)
@[simp] theorem zEh (l:List Store):sizes 2 (l.map zbk)=true:=by rw[sizes_eq];intro e he;obtain⟨a,_,rfl⟩:=List.mem_map.1 he;rfl
@[simp] theorem zG4 (l:List Store):zI (l.map zbk)=true:=zA zmg
@[simp] theorem zCw (a:Store):Store.mk a.slots a.trail=a:=(rfl)
attribute [simp] ziX zbk
structure Assign where
 id:Int
 type:Ty
 deriving DecidableEq
def zX(a:Assign):List V:=[.int .i64 a.id,.int .i64 a.type.kind,.str a.type.name,.int .i64 a.type.id,.int .i64 a.type.home,.sl (a.type.args.map zg) false]
def zed(c:List V):Option Assign :=
 match c with
 | [.int .i64 x0,.int .i64 x1,.str x2,.int .i64 x3,.int .i64 x4,.sl x5 false]=>ob (zN x5) fun y5=>some ⟨x0,(Ty.mk x1 x2 x3 x4 y5)⟩
 |_=>none
theorem zhD{x0:Int}{x1:Int}{x2:List Nat}{x3:Int}{x4:Int}{x5:List (List V)}:zed [.int .i64 x0,.int .i64 x1,.str x2,.int .i64 x3,.int .i64 x4,.sl x5 false]=ob (zN x5) fun y5=>some ⟨x0,(Ty.mk x1 x2 x3 x4 y5)⟩:=(rfl)
instance:Cel Assign where
 cells:=zX
 dec:=zed
 dec_enc a:=by simp only[zX,zhD,zeb,zB,Ty.eta]
 enc_dec c a h:=by
  unfold zed at h;split at h
  . simp only[zb]at h;obtain⟨y5,hy5,h⟩:=h;cases h;have hy5:=zao hy5
    subst_vars
    rfl
  . cases h
 pure2 a:=rfl
 norm a:=by simp only[zX,zT,zac,zdP]
instance:Enc Assign:=zcP
@[simp] theorem z3p:@Cel.cells Assign _=zX:=(rfl)
@[simp] theorem zxH:@Cel.dec Assign _=zed:=(rfl)
@[simp] theorem z8L (a:Assign):enc a=.agg (zX a):=(rfl)
@[simp] theorem z8S {c:List V}:Enc.dec (α:=Assign) (.agg c)=zed c:=(rfl)
@[simp] theorem z6l (l:List Assign):zN (l.map zX)=some l:=zaw l
@[simp] theorem z4J (l:List Assign):zG (l.map zX)=l.map zX:=zR l
@[simp] theorem zk7 (l:List Assign):((l.map zX).all fun e=>e.all V.pure2)=true:=zS l
@[simp] theorem z5Z (l:List Assign):enc l=.sl (l.map zX) false:=(rfl)
@[simp] theorem z6g {es:List (List V)}:Enc.dec (α:=List Assign) (.sl es false)=zN es:=(rfl)
@[simp] theorem z9X (l:List Assign):sizes 6 (l.map zX)=true:=by rw[sizes_eq];intro e he;obtain⟨a,_,rfl⟩:=List.mem_map.1 he;rfl
@[simp] theorem zD5 (l:List Assign):zI (l.map zX)=true:=zA zk7
@[simp] theorem z8G (a:Assign):Assign.mk a.id a.type=a:=(rfl)
attribute [simp] zhD zX
structure Equation where
 left:Ty
 right:Ty
 deriving DecidableEq
def zae(a:Equation):List V:=[.int .i64 a.left.kind,.str a.left.name,.int .i64 a.left.id,.int .i64 a.left.home,.sl (a.left.args.map zg) false,.int .i64 a.right.kind,.str a.right.name,.int .i64 a.right.id,.int .i64 a.right.home,.sl (a.right.args.map zg) false]
def zcC(c:List V):Option Equation :=
 match c with
 | [.int .i64 x0,.str x1,.int .i64 x2,.int .i64 x3,.sl x4 false,.int .i64 x5,.str x6,.int .i64 x7,.int .i64 x8,.sl x9 false]=>ob (zN x4) fun y4=>ob (zN x9) fun y9=>some ⟨(Ty.mk x0 x1 x2 x3 y4),(Ty.mk x5 x6 x7 x8 y9)⟩
 |_=>none
theorem zfv{x0:Int}{x1:List Nat}{x2:Int}{x3:Int}{x4:List (List V)}{x5:Int}{x6:List Nat}{x7:Int}{x8:Int}{x9:List (List V)}:zcC [.int .i64 x0,.str x1,.int .i64 x2,.int .i64 x3,.sl x4 false,.int .i64 x5,.str x6,.int .i64 x7,.int .i64 x8,.sl x9 false]=ob (zN x4) fun y4=>ob (zN x9) fun y9=>some ⟨(Ty.mk x0 x1 x2 x3 y4),(Ty.mk x5 x6 x7 x8 y9)⟩:=(rfl)
instance:Cel Equation where
 cells:=zae
 dec:=zcC
 dec_enc a:=by simp only[zae,zfv,zeb,zB,Ty.eta]
 enc_dec c a h:=by
  unfold zcC at h;split at h
  . simp only[zb]at h;obtain⟨y4,hy4,y9,hy9,h⟩:=h;cases h;have hy4:=zao hy4;have hy9:=zao hy9
    subst_vars
    rfl
  . cases h
 pure2 a:=rfl
 norm a:=by simp only[zae,zT,zac,zdP]
instance:Enc Equation:=zcP
@[simp] theorem zvL:@Cel.cells Equation _=zae:=(rfl)
@[simp] theorem zvi:@Cel.dec Equation _=zcC:=(rfl)
@[simp] theorem z3j (a:Equation):enc a=.agg (zae a):=(rfl)
@[simp] theorem z3k {c:List V}:Enc.dec (α:=Equation) (.agg c)=zcC c:=(rfl)
@[simp] theorem zx4 (l:List Equation):zN (l.map zae)=some l:=zaw l
@[simp] theorem zwU (l:List Equation):zG (l.map zae)=l.map zae:=zR l
@[simp] theorem ziq (l:List Equation):((l.map zae).all fun e=>e.all V.pure2)=true:=zS l
@[simp] theorem zx0 (l:List Equation):enc l=.sl (l.map zae) false:=(rfl)
@[simp] theorem zx2 {es:List (List V)}:Enc.dec (α:=List Equation) (.sl es false)=zN es:=(rfl)
@[simp] theorem z3Y (l:List Equation):sizes 10 (l.map zae)=true:=by rw[sizes_eq];intro e he;obtain⟨a,_,rfl⟩:=List.mem_map.1 he;rfl
@[simp] theorem z6Q (l:List Equation):zI (l.map zae)=true:=zA ziq
@[simp] theorem z3g (a:Equation):Equation.mk a.left a.right=a:=(rfl)
attribute [simp] zfv zae
structure Pair where
 a:Ty
 b:Ty
 deriving DecidableEq
def zbS(a:Pair):List V:=[.int .i64 a.a.kind,.str a.a.name,.int .i64 a.a.id,.int .i64 a.a.home,.sl (a.a.args.map zg) false,.int .i64 a.b.kind,.str a.b.name,.int .i64 a.b.id,.int .i64 a.b.home,.sl (a.b.args.map zg) false]
def zh9(c:List V):Option Pair :=
 match c with
 | [.int .i64 x0,.str x1,.int .i64 x2,.int .i64 x3,.sl x4 false,.int .i64 x5,.str x6,.int .i64 x7,.int .i64 x8,.sl x9 false]=>ob (zN x4) fun y4=>ob (zN x9) fun y9=>some ⟨(Ty.mk x0 x1 x2 x3 y4),(Ty.mk x5 x6 x7 x8 y9)⟩
 |_=>none
theorem zlv{x0:Int}{x1:List Nat}{x2:Int}{x3:Int}{x4:List (List V)}{x5:Int}{x6:List Nat}{x7:Int}{x8:Int}{x9:List (List V)}:zh9 [.int .i64 x0,.str x1,.int .i64 x2,.int .i64 x3,.sl x4 false,.int .i64 x5,.str x6,.int .i64 x7,.int .i64 x8,.sl x9 false]=ob (zN x4) fun y4=>ob (zN x9) fun y9=>some ⟨(Ty.mk x0 x1 x2 x3 y4),(Ty.mk x5 x6 x7 x8 y9)⟩:=(rfl)
instance:Cel Pair where
 cells:=zbS
 dec:=zh9
 dec_enc a:=by simp only[zbS,zlv,zeb,zB,Ty.eta]
 enc_dec c a h:=by
  unfold zh9 at h;split at h
  . simp only[zb]at h;obtain⟨y4,hy4,y9,hy9,h⟩:=h;cases h;have hy4:=zao hy4;have hy9:=zao hy9
    subst_vars
    rfl
  . cases h
 pure2 a:=rfl
 norm a:=by simp only[zbS,zT,zac,zdP]
instance:Enc Pair:=zcP
@[simp] theorem z9b:@Cel.cells Pair _=zbS:=(rfl)
@[simp] theorem z6x:@Cel.dec Pair _=zh9:=(rfl)
@[simp] theorem zFS (a:Pair):enc a=.agg (zbS a):=(rfl)
@[simp] theorem zGa {c:List V}:Enc.dec (α:=Pair) (.agg c)=zh9 c:=(rfl)
@[simp] theorem zCH (l:List Pair):zN (l.map zbS)=some l:=zaw l
@[simp] theorem zAZ (l:List Pair):zG (l.map zbS)=l.map zbS:=zR l
@[simp] theorem zoM (l:List Pair):((l.map zbS).all fun e=>e.all V.pure2)=true:=zS l
@[simp] theorem zC2 (l:List Pair):enc l=.sl (l.map zbS) false:=(rfl)
@[simp] theorem zCC {es:List (List V)}:Enc.dec (α:=List Pair) (.sl es false)=zN es:=(rfl)
@[simp] theorem zHl (l:List Pair):sizes 10 (l.map zbS)=true:=by rw[sizes_eq];intro e he;obtain⟨a,_,rfl⟩:=List.mem_map.1 he;rfl
@[simp] theorem zJG (l:List Pair):zI (l.map zbS)=true:=zA zoM
@[simp] theorem zFK (a:Pair):Pair.mk a.a a.b=a:=(rfl)
attribute [simp] zlv zbS
structure Tp where
 l:List Int
 i:Int
 deriving DecidableEq
def zfP(a:Tp):List V:=[.sl (a.l.map (fun n=>[V.int .i64 n])) false,.int .i64 a.i]
def zuZ(c:List V):Option Tp :=
 match c with
 | [.sl x0 false,.int .i64 x1]=>ob (zN x0) fun y0=>some ⟨y0,x1⟩
 |_=>none
theorem zuY{x0:List (List V)}{x1:Int}:zuZ [.sl x0 false,.int .i64 x1]=ob (zN x0) fun y0=>some ⟨y0,x1⟩:=(rfl)
instance:Cel Tp where
 cells:=zfP
 dec:=zuZ
 dec_enc a:=by simp only[zfP,zuY,zx3,zB,Ty.eta]
 enc_dec c a h:=by
  unfold zuZ at h;split at h
  . simp only[zb]at h;obtain⟨y0,hy0,h⟩:=h;cases h;have hy0:=zao hy0
    subst_vars
    rfl
  . cases h
 pure2 a:=rfl
 norm a:=by simp only[zfP,zT,zac,zwT]
instance:Enc Tp:=zcP
@[simp] theorem zGp:@Cel.cells Tp _=zfP:=(rfl)
@[simp] theorem zDa:@Cel.dec Tp _=zuZ:=(rfl)
@[simp] theorem zNf (a:Tp):enc a=.agg (zfP a):=(rfl)
@[simp] theorem zNl {c:List V}:Enc.dec (α:=Tp) (.agg c)=zuZ c:=(rfl)
@[simp] theorem zJ1 (l:List Tp):zN (l.map zfP)=some l:=zaw l
@[simp] theorem zHV (l:List Tp):zG (l.map zfP)=l.map zfP:=zR l
@[simp] theorem zwE (l:List Tp):((l.map zfP).all fun e=>e.all V.pure2)=true:=zS l
@[simp] theorem zJo (l:List Tp):enc l=.sl (l.map zfP) false:=(rfl)
@[simp] theorem zJx {es:List (List V)}:Enc.dec (α:=List Tp) (.sl es false)=zN es:=(rfl)
@[simp] theorem zNS (l:List Tp):sizes 2 (l.map zfP)=true:=by rw[sizes_eq];intro e he;obtain⟨a,_,rfl⟩:=List.mem_map.1 he;rfl
@[simp] theorem zOB (l:List Tp):zI (l.map zfP)=true:=zA zwE
@[simp] theorem zNc (a:Tp):Tp.mk a.l a.i=a:=(rfl)
attribute [simp] zuY zfP
end Go.J
/- Functions of typed values. -/
namespace Go.J
open Enc (enc)
section
variable {α β γ δ ε ζ:Type} [Enc α] [Enc β] [Enc γ] [Enc δ] [Enc ε] [Enc ζ]
def zex(b:β)(vs:List V):Option V:=match vs with
 | []=>some (enc b)
 |_=>none
def zy(F:α->Option β)(vs:List V):Option V:=match vs with
 | [x]=>ob (Enc.dec x) fun a=>ob (F a) fun b=>some (enc b)
 |_=>none
def zH(F:α->β->Option γ)(vs:List V):Option V:=match vs with
 | [x,y]=>ob (Enc.dec x) fun a=>ob (Enc.dec y) fun b=>ob (F a b) fun c=>some (enc c)
 |_=>none
def zjk(F:α->β->γ->Option δ)(vs:List V):Option V:=match vs with
 | [x,y,z]=>ob (Enc.dec x) fun a=>ob (Enc.dec y) fun b=>ob (Enc.dec z) fun c=>ob (F a b c) fun d=>some (enc d)
 |_=>none
def zwv(F:α->β->γ->δ->Option ε)(vs:List V):Option V:=match vs with
 | [x,y,z,u]=>ob (Enc.dec x) fun a=>ob (Enc.dec y) fun b=>ob (Enc.dec z) fun c=>ob (Enc.dec u) fun d=>ob (F a b c d) fun e=>some (enc e)
 |_=>none
@[simp] theorem zHt {b:β}:zex b []=some (enc b):=(rfl)
@[simp] theorem zHs {F:α->Option β} {x:V}:zy F [x]=ob (Enc.dec x) fun a=>ob (F a) fun b=>some (enc b):=(rfl)
@[simp] theorem zHr {F:α->β->Option γ} {x y:V}:zH F [x,y]=ob (Enc.dec x) fun a=>ob (Enc.dec y) fun b=>ob (F a b) fun c=>some (enc c):=(rfl)
@[simp] theorem zHq {F:α->β->γ->Option δ} {x y z:V}:zjk F [x,y,z]=ob (Enc.dec x) fun a=>ob (Enc.dec y) fun b=>ob (Enc.dec z) fun c=>ob (F a b c) fun d=>some (enc d):=(rfl)
@[simp] theorem zHp {F:α->β->γ->δ->Option ε} {x y z u:V}:zwv F [x,y,z,u]=ob (Enc.dec x) fun a=>ob (Enc.dec y) fun b=>ob (Enc.dec z) fun c=>ob (Enc.dec u) fun d=>ob (F a b c d) fun e=>some (enc e):=(rfl)
theorem zqm{b:β}{vs:List V}{v:V}(h:zex b vs=some v):vs=[]/\v=enc b:=by
 grind [zex]
theorem zgG{F:α->Option β}{vs:List V}{v:V}(h:zy F vs=some v):∃ a r,vs=[enc a]/\F a=some r/\v=enc r:=by
 unfold zy at h;split at h
 . simp only[zb]at h;obtain⟨a,ha,r,hr,h⟩:=h;cases h;exact⟨a,r,by rw[Enc.enc_dec _ _ ha],hr,rfl⟩
 . cases h
theorem zkn{F:α->β->Option γ}{vs:List V}{v:V}(h:zH F vs=some v):∃ a b r,vs=[enc a,enc b]/\F a b=some r/\v=enc r:=by
 unfold zH at h;split at h
 . simp only[zb]at h;obtain⟨a,ha,b,hb,r,hr,h⟩:=h;cases h;exact⟨a,b,r,by rw[Enc.enc_dec _ _ ha,Enc.enc_dec _ _ hb],hr,rfl⟩
 . cases h
theorem zkm{F:α->β->γ->Option δ}{vs:List V}{v:V}(h:zjk F vs=some v):∃ a b c r,vs=[enc a,enc b,enc c]/\F a b c=some r/\v=enc r:=by
 unfold zjk at h;split at h
 . simp only[zb]at h;obtain⟨a,ha,b,hb,c,hc,r,hr,h⟩:=h;cases h;exact⟨a,b,c,r,by rw[Enc.enc_dec _ _ ha,Enc.enc_dec _ _ hb,Enc.enc_dec _ _ hc],hr,rfl⟩
 . cases h
theorem zql{F:α->β->γ->δ->Option ε}{vs:List V}{v:V}(h:zwv F vs=some v):∃ a b c d r,vs=[enc a,enc b,enc c,enc d]/\F a b c d=some r/\v=enc r:=by
 unfold zwv at h;split at h
 . simp only[zb]at h;obtain⟨a,ha,b,hb,c,hc,d,hd,r,hr,h⟩:=h;cases h;exact⟨a,b,c,d,r,by rw[Enc.enc_dec _ _ ha,Enc.enc_dec _ _ hb,Enc.enc_dec _ _ hc,Enc.enc_dec _ _ hd],hr,rfl⟩
 . cases h
end
section
variable {ρ:Nat->Value}{E:Env}{f:FuncId}{fn:Func}{sc:SC}{vs:List V}{T:PT V}{r:V}
theorem zrj(hρ:Good ρ)(hcon:ConsOk ρ E)(hP:E.P.follows .mixedOrders=true)(hN:zeo E.P)(hf:E.P.funcs[f]?=some fn)(hb:fn.body.bind zh=some sc)(he:zb3 fn.ntmps vs 0 .leaf=some T)(hp:zu vs=true)
 (h:Wp ρ E 0 fn.ntmps sc T { H:=.leaf,n:=0,log:=[] } (Leaves E.P fn (zeq r))) (hs:HS):CallOk ρ E.P f vs hs r hs :=
 zvl hf hb he (zhX hρ hcon hP hN h) hp hs
end
section
variable {A:Nat->Bool}{π:Nat->Nat}
@[simp] theorem zI4 {k:IntKind} {n:Int}:V.in1 A (.int k n)=true:=(rfl)
@[simp] theorem zFB {b:Bool}:V.in1 A (.bool b)=true:=(rfl)
@[simp] theorem zIz {s:List Nat}:V.in1 A (.str s)=true:=(rfl)
@[simp] theorem zKR {es:List (List V)} {t:Bool}:V.in1 A (.sl es t)=true:=(rfl)
@[simp] theorem zF9 :V.in1 A .snil=true:=(rfl)
@[simp] theorem z8v :V.in1 A .nilptr=true:=(rfl)
@[simp] theorem z8w :V.in1 A .nilmap=true:=(rfl)
@[simp] theorem z5y :V.in1 A .nilFunc=true:=(rfl)
@[simp] theorem zyW :V.in1 A .nilIface=true:=(rfl)
@[simp] theorem zI0 {cs:List V}:V.in1 A (.ref cs)=true:=(rfl)
@[simp] theorem zIy {k:Nat}:V.in1 A (.sym k)=true:=(rfl)
@[simp] theorem zI1 {i g o:Nat}:V.in1 A (.ptr i g o)=A i:=(rfl)
@[simp] theorem zI2 {i g o n:Nat} {c:Option Nat}:V.in1 A (.own i g o n c)=A i:=(rfl)
@[simp] theorem zI3 {i:Nat}:V.in1 A (.map i)=A i:=(rfl)
@[simp] theorem zIx {i:Nat}:V.in1 A (.yld i)=A i:=(rfl)
@[simp] theorem zIv {k:IntKind} {n:Int}:V.in2 A (.int k n)=true:=(rfl)
@[simp] theorem zF8 {b:Bool}:V.in2 A (.bool b)=true:=(rfl)
@[simp] theorem zIq {s:List Nat}:V.in2 A (.str s)=true:=(rfl)
@[simp] theorem zKQ {es:List (List V)} {t:Bool}:V.in2 A (.sl es t)=true:=(rfl)
@[simp] theorem zF6 :V.in2 A .snil=true:=(rfl)
@[simp] theorem z8t :V.in2 A .nilptr=true:=(rfl)
@[simp] theorem z8u :V.in2 A .nilmap=true:=(rfl)
@[simp] theorem z5x :V.in2 A .nilFunc=true:=(rfl)
@[simp] theorem zyV :V.in2 A .nilIface=true:=(rfl)
@[simp] theorem zIr {cs:List V}:V.in2 A (.ref cs)=true:=(rfl)
@[simp] theorem zIp {k:Nat}:V.in2 A (.sym k)=true:=(rfl)
@[simp] theorem zIs {i g o:Nat}:V.in2 A (.ptr i g o)=A i:=(rfl)
@[simp] theorem zIt {i g o n:Nat} {c:Option Nat}:V.in2 A (.own i g o n c)=A i:=(rfl)
@[simp] theorem zIu {i:Nat}:V.in2 A (.map i)=A i:=(rfl)
@[simp] theorem zIo {i:Nat}:V.in2 A (.yld i)=A i:=(rfl)
@[simp] theorem zIw {l:List V}:V.in2 A (.agg l)=l.all (V.in1 A):=(rfl)
@[simp] theorem zF7 {i:Nat} {l:List V}:V.in2 A (.func i l)=l.all (V.in1 A):=(rfl)
@[simp] theorem zIm {k:IntKind} {n:Int}:V.in3 A (.int k n)=true:=(rfl)
@[simp] theorem zF5 {b:Bool}:V.in3 A (.bool b)=true:=(rfl)
@[simp] theorem zIh {s:List Nat}:V.in3 A (.str s)=true:=(rfl)
@[simp] theorem zKP {es:List (List V)} {t:Bool}:V.in3 A (.sl es t)=true:=(rfl)
@[simp] theorem zF3 :V.in3 A .snil=true:=(rfl)
@[simp] theorem z8r :V.in3 A .nilptr=true:=(rfl)
@[simp] theorem z8s :V.in3 A .nilmap=true:=(rfl)
@[simp] theorem z5w :V.in3 A .nilFunc=true:=(rfl)
@[simp] theorem zyU :V.in3 A .nilIface=true:=(rfl)
@[simp] theorem zIi {cs:List V}:V.in3 A (.ref cs)=true:=(rfl)
@[simp] theorem zIg {k:Nat}:V.in3 A (.sym k)=true:=(rfl)
@[simp] theorem zIj {i g o:Nat}:V.in3 A (.ptr i g o)=A i:=(rfl)
@[simp] theorem zIk {i g o n:Nat} {c:Option Nat}:V.in3 A (.own i g o n c)=A i:=(rfl)
@[simp] theorem zIl {i:Nat}:V.in3 A (.map i)=A i:=(rfl)
@[simp] theorem zIf {i:Nat}:V.in3 A (.yld i)=A i:=(rfl)
@[simp] theorem zIn {l:List V}:V.in3 A (.agg l)=l.all (V.in1 A):=(rfl)
@[simp] theorem zF4 {i:Nat} {l:List V}:V.in3 A (.func i l)=l.all (V.in1 A):=(rfl)
@[simp] theorem zFA {i:Nat}:V.in1 A (.func i [])=true:=(rfl)
@[simp] theorem zEF {k:IntKind} {n:Int}:V.ren1 π (.int k n)=(.int k n):=(rfl)
@[simp] theorem zA0 {b:Bool}:V.ren1 π (.bool b)=(.bool b):=(rfl)
@[simp] theorem zEA {s:List Nat}:V.ren1 π (.str s)=(.str s):=(rfl)
@[simp] theorem zH8 {es:List (List V)} {t:Bool}:V.ren1 π (.sl es t)=(.sl es t):=(rfl)
@[simp] theorem zAy :V.ren1 π .snil=.snil:=(rfl)
@[simp] theorem z4q :V.ren1 π .nilptr=.nilptr:=(rfl)
@[simp] theorem z4r :V.ren1 π .nilmap=.nilmap:=(rfl)
@[simp] theorem zy4 :V.ren1 π .nilFunc=.nilFunc:=(rfl)
@[simp] theorem zwA :V.ren1 π .nilIface=.nilIface:=(rfl)
@[simp] theorem zEB {cs:List V}:V.ren1 π (.ref cs)=(.ref cs):=(rfl)
@[simp] theorem zE9 {k:Nat}:V.ren1 π (.sym k)=(.sym k):=(rfl)
@[simp] theorem zEC {i g o:Nat}:V.ren1 π (.ptr i g o)=.ptr (π i) g o:=(rfl)
@[simp] theorem zED {i g o n:Nat} {c:Option Nat}:V.ren1 π (.own i g o n c)=.own (π i) g o n c:=(rfl)
@[simp] theorem zEE {i:Nat}:V.ren1 π (.map i)=.map (π i):=(rfl)
@[simp] theorem zE8 {i:Nat}:V.ren1 π (.yld i)=.yld (π i):=(rfl)
@[simp] theorem zE6 {k:IntKind} {n:Int}:V.ren2 π (.int k n)=(.int k n):=(rfl)
@[simp] theorem zAx {b:Bool}:V.ren2 π (.bool b)=(.bool b):=(rfl)
@[simp] theorem zE1 {s:List Nat}:V.ren2 π (.str s)=(.str s):=(rfl)
@[simp] theorem zH7 {es:List (List V)} {t:Bool}:V.ren2 π (.sl es t)=(.sl es t):=(rfl)
@[simp] theorem zAv :V.ren2 π .snil=.snil:=(rfl)
@[simp] theorem z4o :V.ren2 π .nilptr=.nilptr:=(rfl)
@[simp] theorem z4p :V.ren2 π .nilmap=.nilmap:=(rfl)
@[simp] theorem zy3 :V.ren2 π .nilFunc=.nilFunc:=(rfl)
@[simp] theorem zw9 :V.ren2 π .nilIface=.nilIface:=(rfl)
@[simp] theorem zE2 {cs:List V}:V.ren2 π (.ref cs)=(.ref cs):=(rfl)
@[simp] theorem zE0 {k:Nat}:V.ren2 π (.sym k)=(.sym k):=(rfl)
@[simp] theorem zE3 {i g o:Nat}:V.ren2 π (.ptr i g o)=.ptr (π i) g o:=(rfl)
@[simp] theorem zE4 {i g o n:Nat} {c:Option Nat}:V.ren2 π (.own i g o n c)=.own (π i) g o n c:=(rfl)
@[simp] theorem zE5 {i:Nat}:V.ren2 π (.map i)=.map (π i):=(rfl)
@[simp] theorem zEz {i:Nat}:V.ren2 π (.yld i)=.yld (π i):=(rfl)
@[simp] theorem zE7 {l:List V}:V.ren2 π (.agg l)=.agg (l.map (V.ren1 π)):=(rfl)
@[simp] theorem zAw {i:Nat} {l:List V}:V.ren2 π (.func i l)=.func i (l.map (V.ren1 π)):=(rfl)
@[simp] theorem zH5 {k:IntKind} {n:Int}:V.ren π (.int k n)=(.int k n):=(rfl)
@[simp] theorem zEy {b:Bool}:V.ren π (.bool b)=(.bool b):=(rfl)
@[simp] theorem zH0 {s:List Nat}:V.ren π (.str s)=(.str s):=(rfl)
@[simp] theorem zKw {es:List (List V)} {t:Bool}:V.ren π (.sl es t)=(.sl es t):=(rfl)
@[simp] theorem zEw :V.ren π .snil=.snil:=(rfl)
@[simp] theorem z7G :V.ren π .nilptr=.nilptr:=(rfl)
@[simp] theorem z7H :V.ren π .nilmap=.nilmap:=(rfl)
@[simp] theorem z4n :V.ren π .nilFunc=.nilFunc:=(rfl)
@[simp] theorem zy2 :V.ren π .nilIface=.nilIface:=(rfl)
@[simp] theorem zH1 {cs:List V}:V.ren π (.ref cs)=(.ref cs):=(rfl)
@[simp] theorem zHz {k:Nat}:V.ren π (.sym k)=(.sym k):=(rfl)
@[simp] theorem zH2 {i g o:Nat}:V.ren π (.ptr i g o)=.ptr (π i) g o:=(rfl)
@[simp] theorem zH3 {i g o n:Nat} {c:Option Nat}:V.ren π (.own i g o n c)=.own (π i) g o n c:=(rfl)
@[simp] theorem zH4 {i:Nat}:V.ren π (.map i)=.map (π i):=(rfl)
@[simp] theorem zHy {i:Nat}:V.ren π (.yld i)=.yld (π i):=(rfl)
@[simp] theorem zH6 {l:List V}:V.ren π (.agg l)=.agg (l.map (V.ren1 π)):=(rfl)
@[simp] theorem zEx {i:Nat} {l:List V}:V.ren π (.func i l)=.func i (l.map (V.ren1 π)):=(rfl)
@[simp] theorem zAz {i:Nat} {l:List V}:V.ren1 π (.func i l)=.func i l:=(rfl)
@[simp] theorem zAu {l:List V}:V.ren π (.tuple l)=.tuple (l.map (V.ren2 π)):=(rfl)
@[simp] theorem zJU {a g:Nat} {es:List (List V)} {x z:Bool}:Obj.in A (.arr a g es x z true)=es.all fun e=>e.all V.pure2:=(rfl)
@[simp] theorem zJV {a g:Nat} {es:List (List V)} {x z:Bool}:Obj.in A (.arr a g es x z false)=es.all fun e=>e.all (V.in2 A):=(rfl)
@[simp] theorem zN5 {es:List (V×V)}:Obj.in A (.mp es)=true:=(rfl)
@[simp] theorem zGA {a g:Nat} {es:List (List V)} {x z r:Bool}:Obj.ren π (.arr a g es x z r)=.arr a g (es.map fun e=>e.map (V.ren2 π)) x z r:=(rfl)
@[simp] theorem zJT {es:List (V×V)}:Obj.ren π (.mp es)=.mp es:=(rfl)
@[simp] theorem zJt {α:Type} {i:Nat}:dom ([]:List (Nat×α)) i=false:=(rfl)
@[simp] theorem zFY {α:Type} {p:Nat×α} {l:List (Nat×α)} {i:Nat}:dom (p::l) i=(Nat.beq p.1 i||dom l i):=(rfl)
@[simp] theorem zK9 {k:IntKind} {n:Int}:V.pure2 (.int k n)=true:=(rfl)
@[simp] theorem zHP {b:Bool}:V.pure2 (.bool b)=true:=(rfl)
@[simp] theorem zK7 {s:List Nat}:V.pure2 (.str s)=true:=(rfl)
@[simp] theorem zOj {es:List (List V)} {t:Bool}:V.pure2 (.sl es t)=true:=(rfl)
@[simp] theorem zHO :V.pure2 .snil=true:=(rfl)
@[simp] theorem zAF :V.pure2 .nilptr=true:=(rfl)
@[simp] theorem zAG :V.pure2 .nilmap=true:=(rfl)
@[simp] theorem z7N :V.pure2 .nilFunc=true:=(rfl)
@[simp] theorem z4y :V.pure2 .nilIface=true:=(rfl)
@[simp] theorem zK8 {cs:List V}:V.pure2 (.ref cs)=true:=(rfl)
@[simp] theorem zK6 {k:Nat}:V.pure2 (.sym k)=true:=(rfl)
end
section
variable {r:V}{hs:HS}
@[simp] theorem z7e {b:Bool}:zeq r (.bool b) hs=(.bool b=r):=by show ok (some (V.bool b)) _=_;rw[zm];rfl
@[simp] theorem z9z {k:IntKind} {n:Int}:zeq r (.int k n) hs=(.int k n=r):=by show ok (some (V.int k n)) _=_;rw[zm];rfl
@[simp] theorem z9x {b:List Nat}:zeq r (.str b) hs=(.str b=r):=by show ok (some (V.str b)) _=_;rw[zm];rfl
@[simp] theorem z7d:zeq r .snil hs=(.sl [] false=r):=by show ok (some V.snil) _=_;rw[zm];rfl
@[simp] theorem zDJ {es:List (List V)} {t:Bool}:zeq r (.sl es t) hs=(.sl (zG es) false=r):=by show ok (some (V.sl es t)) _=_;rw[zm];rfl
@[simp] theorem z9y {i g o n:Nat} {c:Option Nat}:zeq r (.own i g o n c) hs=ok (zbn hs (.own i g o n c)) fun v'=>zac v'=r:=(rfl)
@[simp] theorem z90 {l:List V}:zeq r (.agg l) hs=ok (zc5 hs l) fun l=>.agg (zT l)=r:=by
  show ok (ob (zc5 hs l) fun l=>some (V.agg l)) _=_;rw[zab];simp only[zm,zac]
@[simp] theorem z3A {l:List V}:zeq r (.tuple l) hs=ok (za1 hs l) fun l=>.tuple (zT l)=r:=by
  show ok (ob (za1 hs l) fun l=>some (V.tuple l)) _=_;rw[zab];simp only[zm,zac]
theorem wrap_i64{n:Int}(h1:-9223372036854775808<=n)(h2:n<=9223372036854775807):IntKind.i64.wrap n=n:=IntWalk.i64_in n ⟨h1,h2⟩
theorem zw{i:Nat}(h:i<9223372036854775807):IntKind.i64.wrap ((i:Int)+1)=((i+1:Nat):Int):=by rw[wrap_i64 (by omega) (by omega)];omega
@[simp] theorem zFN (a b:List Nat):zop a b=decide (a=b):=by
  rw[Bool.eq_iff_iff,decide_eq_true_eq];exact eqNs_true
@[simp] theorem zAj {b:Bool}:(V.bool b).scal=true:=(rfl)
@[simp] theorem zEm {k:IntKind} {n:Int}:(V.int k n).scal=true:=(rfl)
@[simp] theorem zEl {b:List Nat}:(V.str b).scal=true:=(rfl)
@[simp] theorem zyw {α β:Type} (f:α->β) (l:List α):List.take l.length (l.map f)=l.map f:=List.take_of_length_le (by simp)
@[simp] theorem z9U {α β:Type} (f:α->β) (l:List α) (x:β):List.take (l.length+1) (l.map f++[x])=l.map f++[x]:=List.take_of_length_le (by simp)
@[simp] theorem z9T {α β:Type} (f:α->β) (l:List α) (x y:β):List.take (l.length+1+1) (l.map f++[x,y])=l.map f++[x,y]:=List.take_of_length_le (by simp)
@[simp] theorem zy9 {α:Type} (l:List α) (n:Nat) (m:List α):(zaI l n m).length=l.length:=zbD l n m
@[simp] theorem z7P {α β:Type} (f:α->β) (l:List α) (z:β):zaI (List.replicate l.length z) 0 (l.map f)=l.map f:=by
  simp[zjv]
@[simp] theorem z7O {α β:Type} (f:α->β) (l:List α) (z:β):zaI (List.replicate (l.length+1) z) 0 (l.map f)=l.map f++[z]:=by
  simp[zjv]
@[simp] theorem zAI {α β:Type} (f:α->β) (l:List α) (z x:β):zaI (l.map f++[z]) l.length [x]=l.map f++[x]:=by
  simp[zjv,List.take_append]
attribute [simp] bytesOf
attribute [simp] zac zT zjd zf4
@[simp] theorem z8a:zG []=[]:=by simp only[zG]
@[simp] theorem z4K {e:List V} {l:List (List V)}:zG (e::l)=zT e::zG l:=by simp only[zG]
@[simp] theorem z8b {e l:List (List V)}:zG (e++l)=zG e++zG l:=by simp only[zdd,List.map_append]
@[simp] theorem z5v {A:Nat->Bool} {l:List V}:(V.tuple l).in3 A=l.all (V.in2 A):=(rfl)
variable {s:List V->Option V}{vs:List V}{K:V×HS->Prop}
@[simp] theorem zLC:okT (fnS s vs hs) K=okT (zas vs hs) fun q=>zu q.1=true/\okT (s (zT q.1)) fun v=>K (v,q.2):=by
  show ok (fnS s vs hs) K=ok (zas vs hs) fun q=>zu q.1=true/\ok (s (zT q.1)) fun v=>K (v,q.2)
  simp only[fnS,zct,zab,zm]
@[simp] theorem zLD:okT (fnC s vs hs) K=okT (za1 hs vs) fun vs'=>zu vs'=true/\okT (s (zT vs')) fun v=>v.scal=true/\K (v,hs):=by
  show ok (fnC s vs hs) K=ok (za1 hs vs) fun vs'=>zu vs'=true/\ok (s (zT vs')) fun v=>v.scal=true/\K (v,hs)
  simp only[fnC,zct,zab,zm]
@[simp] theorem zvR {K:PT V->HS->Prop} {Q:Ex->PT V->HS->Prop} {T:PT V} {hs:HS}:Ex.then K Q .normal T hs=K T hs:=(rfl)
@[simp] theorem z7f {K:PT V->HS->Prop} {Q:Ex->PT V->HS->Prop} {T:PT V} {hs:HS}:Ex.then K Q .ret T hs=Q .ret T hs:=(rfl)
@[simp] theorem z3B {K:PT V->HS->Prop} {Q:Ex->PT V->HS->Prop} {T:PT V} {hs:HS} {i:Nat}:Ex.then K Q (.exit i) T hs=Q (.exit i) T hs:=(rfl)
@[simp] theorem zv3 {i:Nat} {Q:Ex->PT V->HS->Prop} {T:PT V} {hs:HS}:Ex.inBlock i Q .normal T hs=Q .normal T hs:=(rfl)
@[simp] theorem z3C {i:Nat} {Q:Ex->PT V->HS->Prop} {T:PT V} {hs:HS}:Ex.inBlock i Q .ret T hs=Q .ret T hs:=(rfl)
@[simp] theorem zye {i j:Nat} {Q:Ex->PT V->HS->Prop} {T:PT V} {hs:HS}:Ex.inBlock i Q (.exit j) T hs=if j=i then Q .normal T hs else Q (.exit j) T hs:=(rfl)
end
end Go.J
