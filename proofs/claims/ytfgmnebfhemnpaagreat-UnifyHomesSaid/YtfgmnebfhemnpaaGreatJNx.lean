import Derived.Test.YtfgmnebfhemnpaaGreatJP
set_option linter.all false
noncomputable section
/- What equations keep: a relation between stores that holds for each step holds for all;homes never grow,bases stay true,what is bound stays bound. -/
namespace Go.J
open Enc (enc)
namespace Store
section
variable {n S:Nat}{R:Store→Store→Prop}
theorem zB3 (hr:∀ s,Tame n S s→R s s) (ht:∀ a b c,R a b→R b c→R a c) {d:Nat} {rec:Store→Ty→Ty→Store×Int} (hstep:∀ s a b,Tame n S s→TyOk n S a→TyOk n S b→need s a<d→Step n S s (rec s a b).1)
 (hrec:∀ s a b,Tame n S s→TyOk n S a→TyOk n S b→need s a<d→R s (rec s a b).1) {s0:Store} {k:Nat} (hk:s0.unb*202+k≤d) :
 ∀ (l m:List Ty) (s:Store),(∀ x∈l,TyOk n S x∧sz s0.w16 x 200<k)→(∀ x∈m,TyOk n S x)→Tame n S s→(s=s0∨s.unb<s0.unb)→R s (uL rec l m s).1:=by
 intro l
 induction l with
 |nil=>intro m s _ _ h _;exact hr s h
 | cons x l ih =>
   intro m s hl hm h hs
   cases m with
   |nil=>exact hr s h
   | cons y m =>
     have hx:=hl x (List.mem_cons_self ..)
     have hn:need s x<d:=by
      unfold need
      have:=zk3 (w:=s.w16) x 200
      rcases hs with rfl|hs
      · omega
      · have:s.unb*202+202≤s0.unb*202:=by omega
        omega
     have h1:=hstep s x y h hx.1 (hm y (List.mem_cons_self ..)) hn
     have h2:=hrec s x y h hx.1 (hm y (List.mem_cons_self ..)) hn
     rw[uL]
     split
     · refine ht _ _ _ h2 (ih m _ (fun z hz=>hl z (List.mem_cons_of_mem _ hz)) (fun z hz=>hm z (List.mem_cons_of_mem _ hz)) h1.tame ?_)
       rcases h1.less with e|h2
       · rw[e];exact hs
       · rcases hs with rfl|hs
         · exact .inr h2
         · exact .inr (Nat.lt_trans h2 hs)
     · exact h2
theorem zgO (hS:1≤S) (hn:n*S+S≤90000) (hr:∀ s,Tame n S s→R s s) (ht:∀ a b c,R a b→R b c→R a c)
 (hj:∀ s (i j:Nat),Tame n S s→i<n→j<n→s.bound (zX (i:Int))=false→s.bound (zX (j:Int))=false→R s (s.join (i:Int) (j:Int)))
 (hb:∀ s (i:Nat) t,Tame n S s→i<n→s.bound (zX (i:Int))=false→TyOk n S t→s.bound t=false→s.isSlot t=false→(∃ r,Rz s.w16 t r∧r.size≤200)→R s (s.bindM (i:Int) t).1) :
 ∀ (d:Nat) (s:Store) (a b:Ty),Tame n S s→TyOk n S a→TyOk n S b→need s a<d→R s (zbh d s a b).1:=by
 intro d
 induction d with
 |zero=>intro s a b _ _ _ h;omega
 | succ d ih =>
   intro s a b h ha hb' hd
   have hwa:TyOk n S (s.w16 a):=h.walkN (Nat.le_refl S) (s.slots.length+1) ha
   have hwb:TyOk n S (s.w16 b):=h.walkN (Nat.le_refl S) (s.slots.length+1) hb'
   have fa:=(h.finT _ ha).walk.1
   have fb:=(h.finT _ hb').walk.1
   rw[zbh]
   unfold uStep
   split
   · exact hr s h
   rename_i hsz
   have hz:∀ c:Ty,sz s.w16 c 200≤200→s.bound (s.w16 c)=false→∃ r,Rz s.w16 (s.w16 c) r∧r.size≤200:=fun c hc hb=>by
    obtain⟨r,hr,hl⟩:=sz_fits.1 hc
    obtain⟨l,h1,h2⟩:=Rz_iff.1 hr
    have e:s.w16 (s.w16 c)=s.w16 c:=zbo hb _
    exact⟨r,Rz_iff.2 ⟨l,by rw[e];exact h1,by rw[e];exact h2⟩,hl⟩
   split
   · rename_i s1
     obtain⟨i,hi,e1,e1',b1,_⟩:=h.slot hwa s1 fa
     split
     · rename_i s2
       obtain⟨j,hj',e2,e2',b2,_⟩:=h.slot hwb s2 fb
       rw[e1',e2']
       exact hj s i j h hi hj' b1 b2
     · rename_i s2
       rw[e1']
       exact hb s i _ h hi b1 hwb fb (by simpa using s2) (hz b (by omega) fb)
   · rename_i s1
     split
     · rename_i s2
       obtain⟨j,hj',e2,e2',b2,_⟩:=h.slot hwb s2 fb
       rw[e2']
       exact hb s j _ h hj' b2 hwa fa (by simpa using s1) (hz a (by omega) fa)
     · split
       · exact hr s h
       · unfold need at hd
         exact zB3 hr ht (s0:=s) (k:=sz s.w16 a 200) (zes hS hn d) ih (by omega) _ _ s (fun x hx=>⟨hwa.arg hx,zj1 (by omega) x hx⟩) (fun x hx=>hwb.arg hx) h (.inl rfl)
end
structure GrS(x x':Slot):Prop where
 home:x'.home≤x.home
 base:x.base=true→x'.base=true
 bound:x.bound=true→x'.bound=true∧x'.type=x.type
def Gr(s s':Store):Prop:=s'.slots.length=s.slots.length∧∀ (i:Nat) (x:Slot),s.slots[i]?=some x→∃ x',s'.slots[i]?=some x'∧GrS x x'
theorem GrS.refl(x:Slot):GrS x x:=⟨Int.le_refl _,id,fun h=>⟨h,rfl⟩⟩
theorem Gr.refl(s:Store):Gr s s:=⟨rfl,fun i x h=>⟨x,h,.refl x⟩⟩
theorem Gr.trans{a b c:Store}(h:Gr a b)(k:Gr b c):Gr a c:=by
 refine⟨k.1.trans h.1,fun i x hx=>?_⟩
 obtain⟨y,hy,g1⟩:=h.2 i x hx
 obtain⟨z,hz,g2⟩:=k.2 i y hy
 refine⟨z,hz,Int.le_trans g2.home g1.home,fun hb=>g2.base (g1.base hb),fun hb=>?_⟩
 obtain⟨h1,h2⟩:=g1.bound hb
 obtain⟨h3,h4⟩:=g2.bound h1
 exact⟨h3,h4.trans h2⟩
theorem zob{s:Store}{i:Nat}(hi:i<s.slots.length){x:Slot}(h:GrS s.slots[i] x):Gr s (s.set (i:Int) x).1:=by
 rw[set_some hi]
 refine⟨by simp,fun j y hy=>?_⟩
 show ∃ x',(s.slots.set i x)[j]?=some x'∧GrS y x'
 rw[List.getElem?_set]
 by_cases hij:i=j
 · subst hij
   rw[List.getElem?_eq_getElem hi]at hy
   cases hy
   rw[if_pos rfl,if_pos hi]
   exact⟨x,rfl,h⟩
 · rw[if_neg hij]
   exact⟨y,hy,.refl y⟩
theorem zwM{s:Store}(home:Int){v:Int}(h0:0≤v):Gr s (lowerOne home s v):=by
 unfold lowerOne
 split
 · rename_i h
   obtain⟨i,rfl⟩:=Int.eq_ofNat_of_zero_le h0
   have hi:i<s.slots.length:=by omega
   have hh:=h.2
   rw[slotD_at hi]at hh ⊢
   exact zob hi ⟨Int.le_of_lt hh,id,fun h=>⟨h,rfl⟩⟩
 · exact .refl s
theorem zlp(home:Int):∀ (l:List Int) (s:Store),(∀ v∈l,0≤v)→Gr s (l.foldl (lowerOne home) s):=by
 intro l
 induction l with
 |nil=>intro s _;exact .refl s
 | cons v l ih =>
   intro s h
   rw[List.foldl_cons]
   exact(zwM home (h v (List.mem_cons_self ..))).trans (ih _ fun w hw=>h w (List.mem_cons_of_mem _ hw))
theorem zgS{s:Store}{i:Nat}(hi:i<s.slots.length)(h:s.bound (zX (i:Int))=false):s.slots[i].bound=false:=by
 have e:=bound_eq (s:=s) (t:=zX (i:Int)) rfl (by show s.slot? (i:Int)=some s.slots[i];rw[slot?_nat];exact List.getElem?_eq_getElem hi)
 rw[← e];exact h
theorem zmV {n S:Nat} {s:Store} (h:Tame n S s) (hS:1≤S) (hn:n*S+S≤100000) {i:Nat} (hi:i<n) (h0:s.bound (zX (i:Int))=false) {t:Ty} (ht:TyOk n S t):Gr s (s.bindM (i:Int) t).1:=by
 obtain⟨v1,v2,v3⟩:=h.vars hS ht hn
 have hil0:i<s.slots.length:=by rw[h.len];exact hi
 unfold bindM
 split
 · exact .refl s
 split
 · exact .refl s
 split
 · exact .refl s
 split
 · exact .refl s
 have hl:=zcJ (s.slotD (i:Int)).home (varsS s [t]) s fun v hv=>(v1 v hv).1
 have hg:=zlp (s.slotD (i:Int)).home (varsS s [t]) s fun v hv=>(v1 v hv).1
 have hm:∀ v∈varsS s [t],v≠(i:Int):=fun v hv e=>by subst e;contradiction
 have hsame:((varsS s [t]).foldl (lowerOne (s.slotD (i:Int)).home) s).slots[i]?=some s.slots[i]:=by
  have key:∀ (l:List Int) (s1:Store),(∀ v∈l,0≤v∧v≠(i:Int))→(l.foldl (lowerOne (s.slotD (i:Int)).home) s1).slots[i]?=s1.slots[i]?:=by
   intro l
   induction l with
   |nil=>intro s1 _;rfl
   | cons v l ih =>
     intro s1 hv
     rw[List.foldl_cons,ih _ fun w hw=>hv w (List.mem_cons_of_mem _ hw)]
     obtain⟨a0,a1⟩:=hv v (List.mem_cons_self ..)
     unfold lowerOne
     split
     · rename_i hh
       obtain⟨j,rfl⟩:=Int.eq_ofNat_of_zero_le a0
       rw[set_some (by omega)]
       exact List.getElem?_set_ne (by omega)
     · rfl
  rw[key _ _ fun v hv=>⟨(v1 v hv).1,hm v hv⟩]
  exact List.getElem?_eq_getElem hil0
 rw[slotD_at hil0]at hl hg hsame ⊢
 generalize (varsS s [t]).foldl (lowerOne s.slots[i].home) s=s1 at hl hg hsame ⊢
 obtain⟨hi1,he⟩:=List.getElem?_eq_some_iff.1 hsame
 refine hg.trans (zob hi1 ?_)
 rw[he]
 refine⟨Int.le_refl _,id,fun hb=>?_⟩
 rw[zgS hil0 h0]at hb
 cases hb
theorem zmU {n S:Nat} {s:Store} (h:Tame n S s) {i j:Nat} (hi:i<n) (hj:j<n) (h1:s.bound (zX (i:Int))=false) (h2:s.bound (zX (j:Int))=false):Gr s (s.join (i:Int) (j:Int)):=by
 have hil:i<s.slots.length:=by rw[h.len];exact hi
 have hjl:j<s.slots.length:=by rw[h.len];exact hj
 unfold join
 split
 · exact .refl s
 rename_i hne
 have key:∀ a b:Nat,a<s.slots.length→b<s.slots.length→a≠b→∀ x y:Slot,GrS (s.slotD (a:Int)) x→y.home≤(s.slotD (b:Int)).home→((s.slotD (b:Int)).base=true→y.base=true)→(s.slotD (b:Int)).bound=false→Gr s ((s.set (a:Int) x).1.set (b:Int) y).1:=by
  intro a b ha hb hab x y g1 g2 g3 g4
  rw[slotD_at ha]at g1
  rw[slotD_at hb]at g2 g3 g4
  have hb':b<(s.set (a:Int) x).1.slots.length:=by rw[set_some ha];simpa using hb
  refine(zob ha g1).trans (zob hb' ?_)
  have e:(s.set (a:Int) x).1.slots[b]=s.slots[b]:=by
   have:(s.set (a:Int) x).1.slots[b]?=s.slots[b]?:=by
    rw[set_some ha];exact List.getElem?_set_ne hab
   rw[List.getElem?_eq_getElem hb',List.getElem?_eq_getElem hb]at this
   exact Option.some.inj this
  rw[e]
  exact⟨g2,g3,fun hbb=>by rw[g4]at hbb;cases hbb⟩
 have u1:=zgS hil h1
 have u2:=zgS hjl h2
 unfold joinL joinH
 by_cases hij:i<j
 · rw[Int.min_eq_left (by omega:(i:Int)≤j),Int.max_eq_right (by omega:(i:Int)≤j)]
   refine key i j hil hjl (by omega) _ _ ⟨Int.min_le_left ..,fun hb=>by show (_||_)=true;rw[hb];rfl,fun hb=>⟨hb,rfl⟩⟩ (Int.le_refl _) id (by rw[slotD_at hjl];exact u2)
 · rw[Int.min_eq_right (by omega:(j:Int)≤i),Int.max_eq_left (by omega:(j:Int)≤i)]
   refine key j i hjl hil (by omega) _ _ ⟨Int.min_le_left ..,fun hb=>by show (_||_)=true;rw[hb];rfl,fun hb=>⟨hb,rfl⟩⟩ (Int.le_refl _) id (by rw[slotD_at hil];exact u1)
theorem zwL{n S:Nat}(hS:1≤S)(hn:n*S+S≤90000):∀ (d:Nat) (s:Store) (a b:Ty),Tame n S s→TyOk n S a→TyOk n S b→need s a<d→Gr s (zbh d s a b).1 :=
 zgO hS hn (fun s _=>.refl s) (fun _ _ _ h k=>h.trans k) (fun s i j h hi hj h1 h2=>zmU h hi hj h1 h2) (fun s i t h hi h0 ht _ _ _=>zmV h hS (by omega) hi h0 ht)
end Store
end Go.J
/- What equations keep: a variable that may stand for no function never does. -/
namespace Go.J
open Enc (enc)
namespace Store
inductive NB (s:Store):Nat→Prop
 |unb {i:Nat} {x:Slot}:s.slots[i]?=some x→x.bound=false→x.base=true→NB s i
 |var {i j:Nat} {x:Slot}:s.slots[i]?=some x→x.bound=true→x.type=zX (j:Int)→NB s j→NB s i
 |ty {i:Nat} {x:Slot}:s.slots[i]?=some x→x.bound=true→s.isSlot x.type=false→(zac x.type).c=false→NB s i
theorem ziW{s s':Store}(h:s'.slots.length=s.slots.length)(t:Ty):s'.isSlot t=s.isSlot t:=by
 unfold isSlot slot?
 split
 · rw[Bool.eq_iff_iff]
   simp only[Bool.and_eq_true,decide_eq_true_eq,Option.isSome_iff_ne_none,ne_eq,List.getElem?_eq_none_iff,h]
 · rfl
theorem NB.gr{s s':Store}(h:Gr s s')(hu:∀ (i:Nat) (x:Slot),s.slots[i]?=some x→x.bound=false→x.base=true→NB s' i){i:Nat}(hi:NB s i):NB s' i:=by
 induction hi with
 |unb h1 h2 h3=>exact hu _ _ h1 h2 h3
 | var h1 h2 h3 _ ih =>
   obtain⟨x',g1,g2⟩:=h.2 _ _ h1
   obtain⟨g3,g4⟩:=g2.bound h2
   exact .var g1 g3 (g4.trans h3) ih
 | ty h1 h2 h3 h4 =>
   obtain⟨x',g1,g2⟩:=h.2 _ _ h1
   obtain⟨g3,g4⟩:=g2.bound h2
   exact .ty g1 g3 (by rw[ziW h.1,g4];exact h3) (by rw[g4];exact h4)
theorem zdS{s:Store}{i j:Nat}(hi:i<s.slots.length)(hij:i≠j)(x:Slot):(s.set (i:Int) x).1.slots[j]?=s.slots[j]?:=by
 rw[set_some hi];exact List.getElem?_set_ne hij
theorem zdT{s:Store}{i:Nat}(hi:i<s.slots.length)(x:Slot):(s.set (i:Int) x).1.slots[i]?=some x:=by
 rw[set_some hi];exact List.getElem?_set_self hi
theorem z6B {n S:Nat} {s:Store} (h:Tame n S s) {i j:Nat} (hi:i<n) (hj:j<n) (h1:s.bound (zX (i:Int))=false) (h2:s.bound (zX (j:Int))=false):∀ k,NB s k→NB (s.join (i:Int) (j:Int)) k:=by
 intro k hk
 refine hk.gr (zmU h hi hj h1 h2) fun k x g1 g2 g3=>?_
 have hil:i<s.slots.length:=by rw[h.len];exact hi
 have hjl:j<s.slots.length:=by rw[h.len];exact hj
 unfold join
 split
 · exact .unb g1 g2 g3
 rename_i hne
 have key:∀ a b:Nat,a<s.slots.length→b<s.slots.length→a≠b→∀ x y:Slot,x.bound=false→((s.slotD (a:Int)).base=true→x.base=true)→((s.slotD (b:Int)).base=true→x.base=true)→y.bound=true→y.type=zX (a:Int)→∀ z,s.slots[k]?=some z→z.bound=false→z.base=true→NB ((s.set (a:Int) x).1.set (b:Int) y).1 k:=by
  intro a b ha hb hab x y e1 e2 e3 e4 e5 z z1 z2 z3
  have hb':b<(s.set (a:Int) x).1.slots.length:=by rw[set_some ha];simpa using hb
  have hsa:((s.set (a:Int) x).1.set (b:Int) y).1.slots[a]?=some x:=by rw[zdS hb' (Ne.symm hab)];exact zdT ha x
  have hsb:((s.set (a:Int) x).1.set (b:Int) y).1.slots[b]?=some y:=zdT hb' y
  rw[slotD_at ha]at e2
  rw[slotD_at hb]at e3
  by_cases ka:k=a
  · subst ka
    rw[List.getElem?_eq_getElem ha]at z1
    cases z1
    exact .unb hsa e1 (e2 z3)
  · by_cases kb:k=b
    · subst kb
      rw[List.getElem?_eq_getElem hb]at z1
      cases z1
      exact .var hsb e4 e5 (.unb hsa e1 (e3 z3))
    · refine .unb (x:=z) ?_ z2 z3
      rw[zdS hb' (fun e=>kb e.symm),zdS ha (fun e=>ka e.symm)]
      exact z1
 have u1:=zgS hil h1
 have u2:=zgS hjl h2
 unfold joinL joinH
 by_cases hij:i<j
 · rw[Int.min_eq_left (by omega:(i:Int)≤j),Int.max_eq_right (by omega:(i:Int)≤j)]
   exact key i j hil hjl (by omega) _ _ (by rw[slotD_at hil];exact u1) (fun hb=>by show (_||_)=true;rw[hb];rfl) (fun hb=>by show (_||_)=true;rw[hb,Bool.or_true]) rfl rfl x g1 g2 g3
 · rw[Int.min_eq_right (by omega:(j:Int)≤i),Int.max_eq_left (by omega:(j:Int)≤i)]
   exact key j i hjl hil (by omega) _ _ (by rw[slotD_at hjl];exact u2) (fun hb=>by show (_||_)=true;rw[hb];rfl) (fun hb=>by show (_||_)=true;rw[hb,Bool.or_true]) rfl rfl x g1 g2 g3
theorem znQ(home:Int){s:Store}{v:Int}(h0:0≤v){k:Nat}{x:Slot}(h:s.slots[k]?=some x):∃ x',(lowerOne home s v).slots[k]?=some x'∧x'.bound=x.bound∧x'.base=x.base:=by
 unfold lowerOne
 split
 · rename_i hh
   obtain⟨i,rfl⟩:=Int.eq_ofNat_of_zero_le h0
   have hi:i<s.slots.length:=by omega
   rw[slotD_at hi]
   by_cases hik:i=k
   · subst hik
     rw[List.getElem?_eq_getElem hi]at h
     cases h
     exact⟨_,zdT hi _,rfl,rfl⟩
   · exact⟨x,by rw[zdS hi hik];exact h,rfl,rfl⟩
 · exact⟨x,h,rfl,rfl⟩
theorem zh4(home:Int):∀ (l:List Int) (s:Store),(∀ v∈l,0≤v)→∀ {k:Nat} {x:Slot},s.slots[k]?=some x→∃ x',(l.foldl (lowerOne home) s).slots[k]?=some x'∧x'.bound=x.bound∧x'.base=x.base:=by
 intro l
 induction l with
 |nil=>intro s _ k x h;exact⟨x,h,rfl,rfl⟩
 | cons v l ih =>
   intro s hv k x h
   obtain⟨y,h1,h2,h3⟩:=znQ home (hv v (List.mem_cons_self ..)) h
   obtain⟨z,g1,g2,g3⟩:=ih _ (fun w hw=>hv w (List.mem_cons_of_mem _ hw)) h1
   exact⟨z,g1,g2.trans h2,g3.trans h3⟩
theorem z6C{n S:Nat}{s:Store}(h:Tame n S s)(hS:1≤S)(hn:n*S+S≤100000){i:Nat}(hi:i<n)(h0:s.bound (zX (i:Int))=false){t:Ty}(ht:TyOk n S t)(hns:s.isSlot t=false):∀ k,NB s k→NB (s.bindM (i:Int) t).1 k:=by
 intro k hk
 refine hk.gr (zmV h hS hn hi h0 ht) fun k x g1 g2 g3=>?_
 obtain⟨v1,v2,v3⟩:=h.vars hS ht hn
 have hil0:i<s.slots.length:=by rw[h.len];exact hi
 unfold bindM
 split
 · exact .unb g1 g2 g3
 split
 · exact .unb g1 g2 g3
 rename_i hbase
 split
 · exact .unb g1 g2 g3
 split
 · exact .unb g1 g2 g3
 obtain⟨y,y1,y2,y3⟩:=zh4 (s.slotD (i:Int)).home (varsS s [t]) s (fun v hv=>(v1 v hv).1) g1
 have hl:=(zcJ (s.slotD (i:Int)).home (varsS s [t]) s fun v hv=>(v1 v hv).1).1.len
 generalize (varsS s [t]).foldl (lowerOne (s.slotD (i:Int)).home) s=s1 at y1 hl ⊢
 have hi1:i<s1.slots.length:=by rw[hl];exact hil0
 by_cases hki:i=k
 · subst hki
   rw[List.getElem?_eq_getElem hil0]at g1
   cases g1
   rw[slotD_at hil0]at hbase ⊢
   have hna:(zac t).c=false:=by
    cases hc:(zac t).c with
    |false=>rfl
    |true=>exact absurd ⟨hc,g3⟩ hbase
   refine .ty (zdT hi1 _) rfl ?_ hna
   rw[ziW (s:=s) (by rw[set_some hi1];simpa using hl)]
   exact hns
 · refine .unb (x:=y) ?_ (y2.trans g2) (y3.trans g3)
   rw[zdS hi1 hki]
   exact y1
theorem zwv{n S:Nat}(hS:1≤S)(hn:n*S+S≤90000):∀ (d:Nat) (s:Store) (a b:Ty),Tame n S s→TyOk n S a→TyOk n S b→need s a<d→∀ k,NB s k→NB (zbh d s a b).1 k :=
 zgO (R:=fun s s'=>∀ k,NB s k→NB s' k) hS hn (fun s _ k h=>h) (fun _ _ _ h k j hj=>k j (h j hj)) (fun s i j h hi hj h1 h2=>z6B h hi hj h1 h2) (fun s i t h hi h0 ht _ hns _=>z6C h hS (by omega) hi h0 ht hns)
theorem zkn{s:Store}{t:Ty}(h:s.Fin t)(hb:s.bound t=true):s.w16 t=s.w16 (s.to t):=by
 obtain⟨d,hd⟩:=(h.to hb).ends
 have hle:=(Ends.step hb hd).le
 have e1:=(hd.walk s.slots.length (by omega)).1
 have e2:=(hd.walk (s.slots.length+1) (by omega)).1
 show s.walkN (s.slots.length+1) t=s.walkN (s.slots.length+1) (s.to t)
 rw[e2,← e1,walkN,if_pos hb]
theorem z6A {n S:Nat} {s:Store} (h:Tame n S s) {i:Nat} (hi:NB s i):(zac (s.w16 (zX (i:Int)))).c=false:=by
 induction hi with
 | @unb i x h1 h2 h3 =>
   have hb:s.bound (zX (i:Int))=false:=by
    rw[bound_eq (s:=s) (t:=zX (i:Int)) rfl (by show s.slot? (i:Int)=some x;rw[slot?_nat];exact h1)]
    exact h2
   have e:s.w16 (zX (i:Int))=zX (i:Int):=zbo hb _
   rw[e]
   rfl
 | @var i j x h1 h2 h3 _ ih =>
   have hs:s.slot? (i:Int)=some x:=by rw[slot?_nat];exact h1
   have hb:s.bound (zX (i:Int))=true:=by rw[bound_eq (s:=s) (t:=zX (i:Int)) rfl hs];exact h2
   have hto:s.to (zX (i:Int))=zX (j:Int):=by
    unfold to
    rw[show (zX (i:Int)).id=(i:Int) from rfl,hs]
    exact h3
   rw[zkn (h.fin i (by rw[← h.len];exact(List.getElem?_eq_some_iff.1 h1).1)) hb,hto]
   exact ih
 | @ty i x h1 h2 h3 h4 =>
   have hs:s.slot? (i:Int)=some x:=by rw[slot?_nat];exact h1
   have hb:s.bound (zX (i:Int))=true:=by rw[bound_eq (s:=s) (t:=zX (i:Int)) rfl hs];exact h2
   have hto:s.to (zX (i:Int))=x.type:=by
    unfold to
    rw[show (zX (i:Int)).id=(i:Int) from rfl,hs]
   rw[zkn (h.fin i (by rw[← h.len];exact(List.getElem?_eq_some_iff.1 h1).1)) hb,hto]
   have hbt:s.bound x.type=false:=by
    cases hc:s.bound x.type with
    |false=>rfl
    | true =>
      obtain⟨k1,y,k2,_⟩:=bound_true hc
      unfold isSlot at h3
      rw[k2,decide_eq_true k1]at h3
      cases h3
   have e:s.w16 x.type=x.type:=zbo hbt _
   rw[e]
   exact h4
theorem zll{t r:Ty}(h1:r.kind=t.kind)(h2:r.name=t.name)(h3:r.args.length=t.args.length):(zac r).c=(zac t).c:=by
 unfold zac
 rw[h1,h2]
 split
 · obtain⟨rk,rn,ri,rh,rl⟩:=r
   obtain⟨tk,tn,ti,th,tl⟩:=t
   simp only[Ty.args_mk]at h3 ⊢
   rcases rl with _|⟨a,_|⟨b,_|⟨c,rl⟩⟩⟩<;>rcases tl with _|⟨d,_|⟨e,_|⟨f,tl⟩⟩⟩<;>first|rfl|simp at h3
 · rfl
theorem zpd{n S:Nat}{s:Store}(h:Tame n S s){i:Nat}(hi:NB s i)(hr:(zT s.w16 (zX (i:Int))).2=true):(zac (zT s.w16 (zX (i:Int))).1).c=false:=by
 unfold zT at hr ⊢
 split at hr
 · rename_i hs
   obtain⟨r,hz,_⟩:=sz_fits.1 hs
   rw[if_pos hs]
   show (zac (full s.w16 (zX (i:Int)))).c=false
   rw[full_of hz]
   obtain⟨l,hl,e⟩:=Rz_iff.1 hz
   rw[e,← z6A h hi]
   refine zll rfl rfl ?_
   rw[hl.map]
   simp
 · cases hr
end Store
end Go.J
/- What equations keep: no rigid constant of a later home comes below a variable. -/
namespace Go.J
open Enc (enc)
inductive Lf (k:Int) (x:Ty):Ty→Prop
 |here:x.kind=k→x.args=[]→Lf k x x
 |arg {t u:Ty}:u∈t.args→Lf k x u→Lf k x t
theorem zgj{k:Int}{l:List Ty}(h:∀ t∈l,∀ (out:List Ty) (x:Ty),x∈zav k t out↔x∈out∨Lf k x t):∀ (out:List Ty) (x:Ty),x∈zP k l out↔x∈out∨∃ t∈l,Lf k x t:=by
 induction l with
 |nil=>intro out x;simp[zP]
 | cons t l ih =>
   intro out x
   rw[zP,ih (fun u hu=>h u (List.mem_cons_of_mem _ hu)),h t (List.mem_cons_self ..)]
   simp[or_assoc]
theorem zmK {k:Int} (t:Ty):∀ (out:List Ty) (x:Ty),x∈zav k t out↔x∈out∨Lf k x t:=by
 induction t using Ty.ind with
 | h t ih =>
   intro out x
   rw[zce]
   split
   · rename_i h
     have e:Lf k x t↔x=t:=by
      constructor
      · intro hx
        cases hx with
        |here _ _=>rfl
        |arg hu _=>rw[h.2]at hu;cases hu
      · rintro rfl;exact .here h.1 h.2
     rw[e]
     split
     · rename_i hm
       constructor
       · exact .inl
       · rintro (hx|rfl)
         · exact hx
         · exact hm
     · simp
   · rename_i h
     rw[zgj fun u hu=>ih u hu]
     constructor
     · rintro (hx|⟨u,hu,hx⟩)
       · exact .inl hx
       · exact .inr (.arg hu hx)
     · rintro (hx|hx)
       · exact .inl hx
       · cases hx with
         |here h1 h2=>exact absurd ⟨h1,h2⟩ h
         |arg hu hx=>exact .inr ⟨_,hu,hx⟩
theorem mem_rigids{t x:Ty}:x∈zaE [t]↔Lf 3 x t:=by
 unfold zaE
 rw[zgj fun u _=>zmK u]
 simp
namespace Store
inductive HT (s:Store) (h:Int):Ty→Prop
 |unb {t:Ty} {x:Slot}:t.kind=1→t.args=[]→s.slot? t.id=some x→x.bound=false→x.home≤h→HT s h t
 |out {t:Ty}:t.kind=1→t.args=[]→s.slot? t.id=none→HT s h t
 |bnd {t:Ty} {x:Slot}:t.kind=1→s.slot? t.id=some x→x.bound=true→HT s h x.type→HT s h t
 |node {t:Ty}:t.kind≠1→(t.kind=3→t.args=[]→t.home≤h)→(∀ u∈t.args,HT s h u)→HT s h t
theorem HT.mono{s:Store}{h h':Int}(hh:h≤h'){t:Ty}(ht:HT s h t):HT s h' t:=by
 induction ht with
 |unb a1 a2 a3 a4 a5=>exact .unb a1 a2 a3 a4 (Int.le_trans a5 hh)
 |out a1 a2 a3=>exact .out a1 a2 a3
 |bnd a1 a2 a3 _ ih=>exact .bnd a1 a2 a3 ih
 |node a1 a2 _ ih=>exact .node a1 (fun e f=>Int.le_trans (a2 e f) hh) ih
theorem zkA {s s':Store}(h:s'.slots.length=s.slots.length){i:Int}(hn:s.slot? i=none):s'.slot? i=none:=by
 unfold slot? at hn ⊢
 split at hn
 · rw[if_pos (by assumption)]
   rw[List.getElem?_eq_none_iff]at hn ⊢
   omega
 · rw[if_neg (by assumption)]
theorem HT.gr{s s':Store}(hg:Gr s s')(hnew:∀ (i:Nat) (x x':Slot),s.slots[i]?=some x→x.bound=false→s'.slots[i]?=some x'→x'.bound=true→HT s' x.home x'.type){h:Int}{t:Ty}(ht:HT s h t):HT s' h t:=by
 induction ht with
 | unb a1 a2 a3 a4 a5 =>
   obtain⟨i,e,_,h3⟩:=slot?_some a3
   obtain⟨x',g1,g2⟩:=hg.2 _ _ h3
   have hs':s'.slot? (i:Int)=some x':=by rw[slot?_nat];exact g1
   cases hb:x'.bound with
   |false=>exact .unb a1 a2 (by rw[e];exact hs') hb (Int.le_trans g2.home a5)
   |true=>exact .bnd a1 (by rw[e];exact hs') hb ((hnew i _ x' h3 a4 g1 hb).mono a5)
 |out a1 a2 a3=>exact .out a1 a2 (zkA hg.1 a3)
 | bnd a1 a2 a3 _ ih =>
   obtain⟨i,e,_,h3⟩:=slot?_some a2
   obtain⟨x',g1,g2⟩:=hg.2 _ _ h3
   obtain⟨g3,g4⟩:=g2.bound a3
   exact .bnd a1 (by rw[e,slot?_nat];exact g1) g3 (by rw[g4];exact ih)
 |node a1 a2 _ ih=>exact .node a1 a2 ih
theorem z7n {n S:Nat} {s:Store} (h:Tame n S s) {i j:Nat} (hi:i<n) (hj:j<n) (h1:s.bound (zX (i:Int))=false) (h2:s.bound (zX (j:Int))=false):∀ hm t,HT s hm t→HT (s.join (i:Int) (j:Int)) hm t:=by
 intro hm t ht
 refine ht.gr (zmU h hi hj h1 h2) ?_
 have hil:i<s.slots.length:=by rw[h.len];exact hi
 have hjl:j<s.slots.length:=by rw[h.len];exact hj
 unfold join
 split
 · intro k x x' g1 g2 g3 g4
   rw[g1]at g3;cases g3;rw[g2]at g4;cases g4
 rename_i hne
 have key:∀ a b:Nat,a<s.slots.length→b<s.slots.length→a≠b→∀ x y:Slot,x.bound=false→x.home≤(s.slotD (b:Int)).home→y.type=zX (a:Int) →
  ∀ (k:Nat) (z z':Slot),s.slots[k]?=some z→z.bound=false→((s.set (a:Int) x).1.set (b:Int) y).1.slots[k]?=some z'→z'.bound=true→HT ((s.set (a:Int) x).1.set (b:Int) y).1 z.home z'.type:=by
  intro a b ha hb hab x y e1 e2 e5 k z z' z1 z2 z3 z4
  have hb':b<(s.set (a:Int) x).1.slots.length:=by rw[set_some ha];simpa using hb
  have hsa:((s.set (a:Int) x).1.set (b:Int) y).1.slots[a]?=some x:=by rw[zdS hb' (Ne.symm hab)];exact zdT ha x
  have hsb:((s.set (a:Int) x).1.set (b:Int) y).1.slots[b]?=some y:=zdT hb' y
  by_cases ka:k=a
  · subst ka
    rw[hsa]at z3
    cases z3
    rw[e1]at z4;cases z4
  · by_cases kb:k=b
    · subst kb
      rw[List.getElem?_eq_getElem hb]at z1
      cases z1
      rw[hsb]at z3
      cases z3
      rw[e5]
      rw[slotD_at hb]at e2
      exact .unb rfl rfl (by show slot? _ (a:Int)=some x;rw[slot?_nat];exact hsa) e1 e2
    · rw[zdS hb' (fun e=>kb e.symm),zdS ha (fun e=>ka e.symm),z1]at z3
      cases z3
      rw[z2]at z4;cases z4
 have u1:=zgS hil h1
 have u2:=zgS hjl h2
 unfold joinL joinH
 by_cases hij:i<j
 · rw[Int.min_eq_left (by omega:(i:Int)≤j),Int.max_eq_right (by omega:(i:Int)≤j)]
   exact key i j hil hjl (by omega) _ _ (by rw[slotD_at hil];exact u1) (Int.min_le_right ..) rfl
 · rw[Int.min_eq_right (by omega:(j:Int)≤i),Int.max_eq_left (by omega:(j:Int)≤i)]
   exact key j i hjl hil (by omega) _ _ (by rw[slotD_at hjl];exact u2) (Int.min_le_right ..) rfl
theorem zmN (home:Int):∀ (l:List Int) (s:Store),(∀ v∈l,0≤v)→∀ {k:Nat},(k:Int)∈l→∀ {x:Slot},s.slots[k]?=some x→∃ x',(l.foldl (lowerOne home) s).slots[k]?=some x'∧x'.home≤home∧x'.bound=x.bound:=by
 intro l
 induction l with
 |nil=>intro s _ k hk;cases hk
 | cons v l ih =>
   intro s hv k hk x h
   rw[List.foldl_cons]
   obtain⟨y,h1,h2,_⟩:=znQ home (hv v (List.mem_cons_self ..)) h
   by_cases hkv:v=(k:Int)
   · subst hkv
     have hy:y.home≤home:=by
      unfold lowerOne at h1
      obtain⟨hkl,hx⟩:=List.getElem?_eq_some_iff.1 h
      rw[slotD_at hkl]at h1
      split at h1
      · rw[zdT hkl]at h1
        cases h1
        exact Int.le_refl _
      · rename_i hn
        rw[h]at h1
        cases h1
        rw[hx]at hn
        omega
     obtain⟨z,g1,g2⟩:=(zlp home l _ fun w hw=>hv w (List.mem_cons_of_mem _ hw)).2 _ _ h1
     obtain⟨z',g3,g4,_⟩:=zh4 home l _ (fun w hw=>hv w (List.mem_cons_of_mem _ hw)) h1
     rw[g1]at g3
     cases g3
     exact⟨z,g1,Int.le_trans g2.home hy,g4.trans h2⟩
   · have hk':(k:Int)∈l:=by
      rcases List.mem_cons.1 hk with e|e
      · exact absurd e.symm hkv
      · exact e
     obtain⟨z,g1,g2,g3⟩:=ih _ (fun w hw=>hv w (List.mem_cons_of_mem _ hw)) hk' h1
     exact⟨z,g1,g2,g3.trans h2⟩
end Store
end Go.J
/- What equations keep: homes,joined. -/
namespace Go.J
open Enc (enc)
namespace Store
theorem Rzs.part{w:Ty→Ty}{l m:List Ty}(h:Rzs w l m){v:Ty}(hv:v∈l):∃ y∈m,Rz w v y:=by
 obtain⟨y,hy,_⟩:=h.size_mem v hv
 refine⟨y,?_,hy⟩
 rw[h.map,← full_of hy]
 exact List.mem_map.2 ⟨v,hv,rfl⟩
theorem Rzs.back{w:Ty→Ty}{l m:List Ty}(h:Rzs w l m){y:Ty}(hy:y∈m):∃ v∈l,Rz w v y:=by
 rw[h.map]at hy
 obtain⟨v,hv,rfl⟩:=List.mem_map.1 hy
 obtain⟨y,_,h2⟩:=Rzs.part h hv
 exact⟨v,hv,by rw[full_of h2];exact h2⟩
theorem z7o {n S:Nat} {s:Store} (h:Tame n S s) (hS:1≤S) (hn:n*S+S≤100000) {i:Nat} (hi:i<n) (h0:s.bound (zX (i:Int))=false) {t:Ty} (ht:TyOk n S t) (hz:∃ r,Rz s.w16 t r∧r.size≤200):∀ hm u,HT s hm u→HT (s.bindM (i:Int) t).1 hm u:=by
 intro hm u hu
 have hgr:=zmV h hS hn hi h0 ht
 refine hu.gr hgr ?_
 obtain⟨v1,v2,v3⟩:=h.vars hS ht hn
 have hil0:i<s.slots.length:=by rw[h.len];exact hi
 have hstay:∀ (k:Nat) (x x':Slot),s.slots[k]?=some x→x.bound=false→s.slots[k]?=some x'→x'.bound=true→HT s x.home x'.type:=by
  intro k x x' g1 g2 g3 g4
  rw[g1]at g3;cases g3;rw[g2]at g4;cases g4
 unfold bindM at hgr ⊢
 split
 · exact hstay
 rename_i hoc
 rw[if_neg hoc]at hgr
 split
 · exact hstay
 rename_i hba
 rw[if_neg hba]at hgr
 split
 · exact hstay
 rename_i hes
 rw[if_neg hes]at hgr
 split
 · exact hstay
 rename_i hes2
 rw[if_neg hes2]at hgr
 have hpos:∀ v∈varsS s [t],0≤v:=fun v hv=>(v1 v hv).1
 have hlow:=fun (k:Nat) (hk:(k:Int)∈varsS s [t]) (x:Slot) (hx:s.slots[k]?=some x)=>zmN (s.slotD (i:Int)).home (varsS s [t]) s hpos hk hx
 have hlnb:=fun (k:Nat) (x:Slot) (hx:s.slots[k]?=some x)=>zh4 (s.slotD (i:Int)).home (varsS s [t]) s hpos hx
 have hl:=(zcJ (s.slotD (i:Int)).home (varsS s [t]) s hpos).1.len
 generalize (varsS s [t]).foldl (lowerOne (s.slotD (i:Int)).home) s=s1 at hgr hlow hlnb hl ⊢
 have hi1:i<s1.slots.length:=by rw[hl];exact hil0
 intro k x x' g1 g2 g3 g4
 by_cases hki:i=k
 · subst hki
   rw[List.getElem?_eq_getElem hil0]at g1
   cases g1
   rw[zdT hi1]at g3
   cases g3
   rw[slotD_at hil0]at hgr hlow hes ⊢
   show HT _ s.slots[i].home t
   generalize hs':(s1.set (i:Int) { s.slots[i]with bound:=true,type:=t }).1=s' at hgr ⊢
   have core : ∀ u:Ty,s.Fin u→(∀ S',TyOk n S' u→(∀ j:Int,s.bound (zX j)=false→s.Reach j u→j∈varsS s [t])→(∃ r,Rz s.w16 u r∧∀ z,Lf 3 z r→z.home≤s.slots[i].home)→HT s' s.slots[i].home u):=by
    intro u hf
    refine Fin.ind (p:=fun u=>∀ S',TyOk n S' u→(∀ j:Int,s.bound (zX j)=false→s.Reach j u→j∈varsS s [t])→(∃ r,Rz s.w16 u r∧∀ z,Lf 3 z r→z.home≤s.slots[i].home)→HT s' s.slots[i].home u) ?_ ?_ hf
    · intro u hbu ih S' hok hV hr
      obtain⟨k1,y,hy,hyb⟩:=bound_true hbu
      have hto:s.to u=y.type:=by unfold to;rw[hy]
      obtain⟨j,e,_,hj⟩:=slot?_some hy
      obtain⟨y',q1,q2⟩:=hgr.2 _ _ hj
      obtain⟨q3,q4⟩:=q2.bound hyb
      refine .bnd k1 (by rw[e,slot?_nat];exact q1) q3 ?_
      rw[q4,← hto]
      refine ih S (h.to hbu) (fun j hj hr=>hV j hj (.to hbu hr)) ?_
      obtain⟨r,hr,hh⟩:=hr
      obtain⟨l,e1,e2⟩:=Rz_iff.1 hr
      rw[zkn (h.finT _ hok) hbu]at e1 e2
      exact⟨r,Rz_iff.2 ⟨l,e1,e2⟩,hh⟩
    · intro u hbu ih S' hok hV hr
      by_cases hk:u.kind=1
      · cases hsl:s.slot? u.id with
        |none=>exact .out hk (hok.noargs hk) (zkA hgr.1 hsl)
        | some y =>
          obtain⟨j,e,hjl,hj⟩:=slot?_some hsl
          have hyb:y.bound=false:=by rw[← bound_eq hk hsl];exact hbu
          have hjV:(j:Int)∈varsS s [t]:=by
           rw[← e]
           exact hV u.id (by rw[← hbu];exact zdy hk.symm rfl) (.here hk rfl)
          obtain⟨y',q1,q2,q3⟩:=hlow j hjV y hj
          have hji:i≠j:=fun h=>hoc (by rw[h];exact hjV)
          refine .unb (x:=y') hk (hok.noargs hk) ?_ (q3.trans hyb) q2
          rw[e,slot?_nat,← hs',zdS hi1 hji]
          exact q1
      · obtain⟨r,hr,hh⟩:=hr
        obtain⟨l,e1,e2⟩:=Rz_iff.1 hr
        have ew:s.w16 u=u:=zbo hbu _
        rw[ew]at e1 e2
        refine .node hk (fun h3 ha=>?_) fun v hv=>ih v hv S' (hok.arg hv) (fun j hj hr=>hV j hj (.arg hbu hv hr)) ?_
        · have hl0:l=[]:=by
           have:=e1.map
           rw[ha]at this
           exact this
          have:=hh r (by rw[e2,hl0];exact .here h3 rfl)
          rw[e2]at this
          exact this
        · obtain⟨y,hy,hyr⟩:=Rzs.part e1 hv
          exact⟨y,hyr,fun z hz=>hh z (by rw[e2];exact .arg (t:=.mk u.kind u.name u.id u.home l) hy hz)⟩
   obtain⟨r,hr,hrs⟩:=hz
   refine core t (h.finT _ ht) S ht (fun j hj hr=>v3 j hj hr) ⟨r,hr,fun z hz=>?_⟩
   have hres:(zT s.w16 t).1=r:=by
    unfold zT
    rw[if_pos (sz_fits.2 ⟨r,hr,by omega⟩)]
    exact full_of hr
   rw[hres]at hes
   refine Int.not_lt.1 fun hlt=>hes ⟨z,mem_rigids.2 hz,hlt⟩
 · obtain⟨y,q1,q2,_⟩:=hlnb k x g1
   rw[zdS hi1 hki,q1]at g3
   cases g3
   rw[q2,g2]at g4
   cases g4
theorem zwE{n S:Nat}(hS:1≤S)(hn:n*S+S≤90000):∀ (d:Nat) (s:Store) (a b:Ty),Tame n S s→TyOk n S a→TyOk n S b→need s a<d→∀ hm t,HT s hm t→HT (zbh d s a b).1 hm t :=
 zgO (R:=fun s s'=>∀ hm t,HT s hm t→HT s' hm t) hS hn (fun s _ hm t h=>h) (fun _ _ _ h k hm t ht=>k hm t (h hm t ht)) (fun s i j h hi hj h1 h2=>z7n h hi hj h1 h2) (fun s i t h hi h0 ht _ _ hz=>z7o h hS (by omega) hi h0 ht hz)
theorem zDi{n S:Nat}{s:Store}(h:Tame n S s){hm:Int}{t:Ty}(ht:HT s hm t):∀ r,Rz s.w16 t r→∀ z,Lf 3 z r→z.home≤hm:=by
 have hleaf:∀ t:Ty,t.kind=1→t.args=[]→s.bound t=false→∀ r,Rz s.w16 t r→∀ z,Lf 3 z r→z.home≤hm:=by
  intro t hk ha hb r hr z hz
  obtain⟨l,e1,e2⟩:=Rz_iff.1 hr
  have ew:s.w16 t=t:=zbo hb _
  rw[ew]at e1 e2
  have hl0:l=[]:=by
   have:=e1.map
   rw[ha]at this
   exact this
  rw[e2,hl0]at hz
  cases hz with
  | here h1 h2 =>
    have h1:t.kind=3:=h1
    rw[hk]at h1;cases h1
  |arg hu _=>cases hu
 induction ht with
 |unb a1 a2 a3 a4 a5=>exact hleaf _ a1 a2 (by rw[bound_eq a1 a3];exact a4)
 | @out t a1 a2 a3 =>
   refine hleaf _ a1 a2 ?_
   cases hb:s.bound t with
   |false=>rfl
   | true =>
     obtain⟨_,x,hx,_⟩:=bound_true hb
     rw[a3]at hx
     cases hx
 | @bnd t x a1 a2 a3 _ ih =>
   intro r hr
   have hb:s.bound t=true:=by rw[bound_eq a1 a2];exact a3
   have hto:s.to t=x.type:=by unfold to;rw[a2]
   have hf:s.Fin t:=Fin.mkb hb (h.finT _ (h.to hb))
   obtain⟨l,e1,e2⟩:=Rz_iff.1 hr
   rw[zkn hf hb,hto]at e1 e2
   exact ih r (Rz_iff.2 ⟨l,e1,e2⟩)
 | @node t a1 a2 _ ih =>
   intro r hr z hz
   have hb:s.bound t=false:=by
    cases hc:s.bound t with
    |false=>rfl
    |true=>exact absurd (zcr hc) a1
   obtain⟨l,e1,e2⟩:=Rz_iff.1 hr
   have ew:s.w16 t=t:=zbo hb _
   rw[ew]at e1 e2
   rw[e2]at hz
   generalize hq:Ty.mk t.kind t.name t.id t.home l=q at hz
   cases hz with
   | here h1 h2 =>
     subst hq
     refine a2 h1 ?_
     have h2:l=[]:=h2
     have:=e1.map
     rw[h2]at this
     exact List.map_eq_nil_iff.1 this.symm
   | arg hu hz =>
     subst hq
     obtain⟨v,hv,hr⟩:=Rzs.back e1 hu
     exact ih v hv _ hr z hz
end Store
end Go.J
/- The law UnifyHomes,without the program: what an equation does to homes,bases and rigid constants. -/
namespace Go.J
open Enc (enc)
namespace Store
structure HomesOk(s x:Store):Prop where
 len:x.slots.length=s.slots.length
 slot:∀ (i:Nat) (y:Slot),s.slots[i]?=some y→∃ y',x.slots[i]?=some y'∧y'.home≤y.home∧(y.base=true→y'.base=true)∧(y.bound=true→y'.bound=true)
 base:∀ (i:Nat) (y:Slot),s.slots[i]?=some y→y.bound=false→y.base=true→(zT x.w16 (zX (i:Int))).2=true→(zac (zT x.w16 (zX (i:Int))).1).c=false
 rigid:∀ (i:Nat) (y:Slot),s.slots[i]?=some y→y.bound=false→(zT x.w16 (zX (i:Int))).2=true→∀ z∈zaE [(zT x.w16 (zX (i:Int))).1],z.home≤y.home
theorem znY{n S:Nat}{s x:Store}(hx:Tame n S x)(hg:Gr s x)(hnb:∀ k,NB s k→NB x k)(hht:∀ hm t,HT s hm t→HT x hm t):HomesOk s x:=by
 refine⟨hg.1,fun i y hy=>?_,fun i y hy hb hs hr=>zpd hx (hnb i (.unb hy hb hs)) hr,fun i y hy hb hr z hz=>?_⟩
 · obtain⟨y',h1,h2⟩:=hg.2 i y hy
   exact⟨y',h1,h2.home,h2.base,fun h=>(h2.bound h).1⟩
 · have h1:HT s y.home (zX (i:Int)):=.unb rfl rfl (by show s.slot? (i:Int)=some y;rw[slot?_nat];exact hy) hb (Int.le_refl _)
   unfold zT at hr hz
   split at hr
   · rename_i hs
     rw[if_pos hs]at hz
     obtain⟨r,hrz,_⟩:=sz_fits.1 hs
     have hz:z∈zaE [full x.w16 (zX (i:Int))]:=hz
     rw[full_of hrz]at hz
     exact zDi hx (hht _ _ h1) r hrz z (mem_rigids.1 hz)
   · cases hr
theorem zrn{n S:Nat}{s:Store}{a b:Ty}(hS:1≤S)(hn:n*S+S≤90000)(hn2:n≤1000)(h:Tame n S s)(ha:TyOk n S a)(hb:TyOk n S b):HomesOk s (topM s a b).1:=by
 have ht:=(zj0 hS hn hn2 h ha hb).tame
 have hd:=zjO (s:=s) (by rw[h.len];exact hn2) a
 unfold topM at ht ⊢
 split
 · rename_i e
   rw[if_pos e]at ht
   exact znY ht (zwL hS hn 300000 s a b h ha hb hd) (zwv hS hn 300000 s a b h ha hb hd) (zwE hS hn 300000 s a b h ha hb hd)
 · exact znY h (.refl s) (fun _ h=>h) (fun _ _ h=>h)
end Store
end Go.J
