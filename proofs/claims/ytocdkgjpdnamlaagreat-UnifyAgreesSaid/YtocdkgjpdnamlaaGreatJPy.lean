import Derived.Test.YtocdkgjpdnamlaaGreatJPx
import Derived.Test.YtocdkgjpdnamlaaGreatJUv
import Derived.Test.YtocdkgjpdnamlaaGreatJS
import Derived.Test.YtocdkgjpdnamlaaGreatJP
import Derived.Test.YtocdkgjpdnamlaaGreatJW
set_option linter.all false
noncomputable section
/- The program's unification in a store: what its steps add to the trail. -/
namespace Go.J
open Enc (enc)
namespace Store
structure Grow(s s':Store)(m:Nat):Prop where
 len:s'.slots.length=s.slots.length
 trail:∃ ex,s'.trail=s.trail++ex/\ex.length<=m
theorem Grow.refl(s:Store)(m:Nat):Grow s s m:=⟨rfl,[],by simp,Nat.zero_le _⟩
theorem Grow.trans{a b c:Store}{m n:Nat}(h:Grow a b m)(k:Grow b c n):Grow a c (m+n):=by
 obtain⟨x,h1,h2⟩:=h.trail;obtain⟨y,h3,h4⟩:=k.trail;exact⟨k.len.trans h.len,x++y,by rw[h3,h1,List.append_assoc],by simp;omega⟩
theorem Grow.le{a b:Store}{m n:Nat}(h:Grow a b m)(I8:m<=n):Grow a b n:=⟨h.len,by obtain⟨x,h1,h2⟩:=h.trail;exact⟨x,h1,by omega⟩⟩
theorem Grow.eq{s s':Store}{m:Nat}(h:Grow s s' m):s'=⟨s'.slots,s.trail++s'.trail.drop s.trail.length⟩:=by
 obtain⟨x,h1,_⟩:=h.trail
 cases s' with
 | mk sl tr =>
   grind
theorem Grow.tl{s s':Store}{m:Nat}(h:Grow s s' m):s'.trail.length<=s.trail.length+m:=by
 obtain⟨x,h1,h2⟩:=h.trail
 grind
theorem zdo(s:Store)(i:Int)(x:Slot):Grow s (s.set i x).1 1:=by
 unfold Store.set
 cases s.slot? i with
 |none=>exact .refl _ _
 |some o=>exact⟨by simp,[⟨i,o,false⟩],rfl,Nat.le_refl _⟩
theorem ko(s:Store)(i:Int)(x:Slot):Grow s (s.mF i x) 1:=by
 unfold mF;split
 . exact .refl _ _
 . exact zdo ..
theorem kZ(s:Store)(i:Int)(t:Ty):Grow s (s.mY i t) 1:=ko ..
theorem Kc(s:Store)(a b:Ty):Grow s (s.lu a b) 2:=by
 unfold lu;split
 . exact(ko ..).trans (kZ ..)
 . exact(ko ..).trans (kZ ..)
theorem zdp(home:Int)(s:Store)(v:Int):Grow s (qf home s v) 1:=by
 unfold qf;split
 . exact ko ..
 . exact .refl _ _
theorem ZR(home:Int):∀ (l:List Int) (s:Store),Grow s (l.foldl (qf home) s) l.length:=by
 intro l
 induction l with
 |nil=>intro s;exact .refl _ _
 | cons v l ih =>
   intro s;rw[List.foldl_cons,List.length_cons,Nat.add_comm];exact(zdp home s v).trans (ih _)
theorem oL(s:Store)(v:Int)(t:Ty):Grow s (s.jG v t).1 ((dz s [t]).length+1):=by
 unfold jG;split
 . exact .refl _ _
 split
 . exact .refl _ _
 split
 . exact .refl _ _
 exact(ZR _ _ _).trans (kZ ..)
theorem zoD{s:Store}{i:Int}{x:Slot}(h:∀ c∈s.trail,0<=c.id/\c.id<s.slots.length):∀ c∈(s.set i x).1.trail,0<=c.id/\c.id<(s.set i x).1.slots.length:=by
 unfold Store.set
 cases e:s.slot? i with
 |none=>exact h
 | some o =>
   obtain⟨k,hk,hl,_⟩:=slot?_some e
   grind
theorem BG{s:Store}{i:Int}{x:Slot}(h:∀ c∈s.trail,0<=c.id/\c.id<s.slots.length):∀ c∈(s.mF i x).trail,0<=c.id/\c.id<(s.mF i x).slots.length:=by
 unfold mF;split
 . exact h
 . exact zoD h
theorem Hf{s:Store}{i:Int}{t:Ty}(h:∀ c∈s.trail,0<=c.id/\c.id<s.slots.length):∀ c∈(s.mY i t).trail,0<=c.id/\c.id<(s.mY i t).slots.length:=BG h
theorem zc6{s:Store}{a b:Ty}(h:∀ c∈s.trail,0<=c.id/\c.id<s.slots.length):∀ c∈(s.lu a b).trail,0<=c.id/\c.id<(s.lu a b).slots.length:=by
 unfold lu;split
 . exact Hf (BG h)
 . exact Hf (BG h)
theorem zc5(home:Int):∀ (l:List Int) {s:Store},(∀ c∈s.trail,0<=c.id/\c.id<s.slots.length)->∀ c∈(l.foldl (qf home) s).trail,0<=c.id/\c.id<(l.foldl (qf home) s).slots.length:=by
 intro l
 induction l with
 |nil=>intro s h;exact h
 | cons v l ih =>
   intro s h;rw[List.foldl_cons];refine ih ?_;unfold qf;split
   . exact BG h
   . exact h
theorem OZ{s:Store}{v:Int}{t:Ty}(h:∀ c∈s.trail,0<=c.id/\c.id<s.slots.length):∀ c∈(s.jG v t).1.trail,0<=c.id/\c.id<(s.jG v t).1.slots.length:=by
 unfold jG;split
 . exact h
 split
 . exact h
 split
 . exact h
 exact Hf (zc5 _ _ h)
theorem OY{s:Store}{a b:Ty}(h:∀ c∈s.trail,0<=c.id/\c.id<s.slots.length):∀ c∈(s.gu a b).2.2.trail,0<=c.id/\c.id<(s.gu a b).2.2.slots.length:=by
 unfold gu;split
 . exact h
 split
 . exact h
 split
 . split
   . exact zc6 h
   . exact OZ h
 split
 . exact OZ h
 grind
end Store
end Go.J
/- What a function leaves that answers with a new row and a value. -/
namespace Go.J
open Enc (enc)
theorem aj.Qf{k:Nat}{v v0:V}{OL:List (Nat×Obj)}{hs:HS}(hn:dL v=v0)(hv:v.nk (dom OL)=true/\v=v.ren (J.auto k [(0,v)] OL (PT.leaf.set 0 v) hs.H))
 (hH:∀ p∈OL,p.2.in (dom OL)=true/\hs.H.get (J.auto k [(0,v)] OL (PT.leaf.set 0 v) hs.H p.1)=some (p.2.ren (J.auto k [(0,v)] OL (PT.leaf.set 0 v) hs.H)))
 (hi:nodupB (OL.map fun p=>J.auto k [(0,v)] OL (PT.leaf.set 0 v) hs.H p.1)=true) (hk:(List.range k).all (fun i=>Nat.beq (J.auto k [(0,v)] OL (PT.leaf.set 0 v) hs.H i) i&&dom OL i)=true):aj k v0 OL v hs :=
 aj.lit _ hi hk hn hv hH
theorem Yh{ρ:Nat->Value}{E:Env}{f:FuncId}{fn:Func}{sc:SC}{T:PT V}{D:fA}{KK:V->HS->Prop}(hρ:J.Good ρ)(hcon:aZ ρ E)(hP:E.P.follows .mixedOrders=true)(hN:nW E.P)(hf:E.P.funcs[f]?=some fn)(hb:fn.body.bind aB=some sc)(he:iI fn.ntmps D.vs0 0 .leaf=some T)
 (hg:D.Good) (h:Wp ρ E D.k fn.ntmps sc T { H:=di D.OL,n:=D.k,log:=[] } (Leaves E.P fn KK)) (zRJ:∀ v hs,KK v hs->aj D.k D.v0 D.OL' v hs\/xY D.k D.v0 D.OL' v hs) {vs:List V} {hs:HS} (hfit:D.Fits vs hs) :
 aA ρ E.P f vs hs (D.v0.ren (news hs.n D.k D.π)) (sK hs D.k D.k' D.π D.OL'):=by
 rw[<- hfit.args];exact Yg hf hb he (zK hρ hcon hP hN h) (fun _ _ _ he=>zFA zRJ he) hg.ol hg.zOw hg.le hg.zHu hg.zCs hg.v0 hg.vs0 hfit.inj hfit.obj hfit.zNP hfit.lt
def YH:List V:=[.int .i64 0,.str [],.int .i64 0,.int .i64 0,.snil,.int .i64 0,.str [],.int .i64 0,.int .i64 0,.snil]
theorem Nz{L:List aT}{i n:Nat}(hi:i=L.length):(L.map aF++List.replicate (n+1) YH)[i]?=some YH:=by
 grind
theorem TJ{L:List aT}{i n:Nat}{y:aT}(hi:i=L.length):(L.map aF++List.replicate (n+1) YH).set i (aF y)=(L++[y]).map aF++List.replicate n YH:=by
 subst hi;rw[List.set_append_right _ _ (by simp),List.length_map,Nat.sub_self,List.map_append,List.append_assoc];rfl
def wI(L:List aT)(k:Nat):Obj:=.arr 10 0 (L.map aF++List.replicate k YH) true false true
def vB(l m:List Ty):List aT:=List.zipWith (fun x y=>(⟨x,y⟩:aT)) l m
theorem JJ{l m:List Ty}{i:Nat}(h1:i<l.length)(h2:i<m.length):(vB l m).take (i+1)=(vB l m).take i++[⟨l[i],m[i]⟩]:=by
 grind [vB,List.take_add_one,List.getElem?_eq_getElem]
theorem uw{l m:List Ty}(h:l.length=m.length):(vB l m).length=l.length:=by unfold vB;simp[h]
namespace Store
def wm(d:Nat)(s:Store)(a b:Ty):Prop:=s.dF/\a.ok=true/\b.ok=true/\s.trail.length<=3900 /\
 ∀ v t:Ty,(v=s.w a/\t=s.w b)\/(v=s.w b/\t=s.w a)->s.iR v=true->iO s [t]/\(dz s [t]).length<=1000/\(hiM ⟨s.slots,[]⟩ (s.aJ v.id).home d t []).isSome=true
theorem uQ{sl:List Slot}{tr:List Change}{t:Ty}(h:iR ⟨sl,tr⟩ t=true):t.kind=1/\∃ i:Nat,t.id=(i:Int)/\∃ hi:i<sl.length,aJ ⟨sl,tr⟩ t.id=sl[i]:=by
 unfold iR bG at h;rw[Bool.and_eq_true,Bool.and_eq_true]at h;obtain⟨m,hm⟩:=Option.isSome_iff_exists.1 h.1.2;obtain⟨q,hq1,hq,hq2⟩:=slot?_at hm
 grind [eD]
end Store
end Go.J
/- Ew within a store: a pointer to the store,two types. -/
namespace Go.J
open Enc (enc)
def zl4(sl:List Slot)(tr:List Change)(g:Option Nat):Obj:=.arr 2 0 [[.own 1 0 0 sl.length none,zl6 2 tr g]] true false false
def aC(sl:List Slot)(tr:List Change)(g:Option Nat):List (Nat×Obj):=[(0,zl4 sl tr g),(1,sW sl)]++zbC 2 tr g
def zbs(args:List V)(sl sl':List Slot)(tr wM:List Change)(g g':Option Nat)(r:V)(b c d:Nat):fA where
 k:=uK g 2
 k':=uK g' 2
 π:=fun i=>([b,c]++zt g d).getD i 0
 OL:=aC sl tr g
 OL':=aC sl' wM g'
 vs0:=.ptr 0 0 0::args
 v0:=r
def zw8 (F:List Slot->List Change->List V->Option (V×List Slot×List Change)) (vs:List V) (hs:HS):Option fA:=match vs with
 |.ptr b 0 0::args=>ob (hs.H.get b) fun o=>ob (wT o) fun q=>ob (zU hs q.1) fun s=>ob (yV hs q.2) fun t=>ob (F s.2 t.2.1 args) fun r =>
  gd (et (nodupB ([b,s.1]++zt t.2.2 t.1)) (et (([b,s.1]++zt t.2.2 t.1).all fun x=>Nat.blt x hs.n) (et (aR args) (et (r.1.nk fun _=>false) (cB hs hs.n)))))
   (some (zbs args s.2 r.2.1 t.2.1 (t.2.1++r.2.2) t.2.2 (gN t.2.2 r.2.2.length) r.1 b s.1 t.1))
 |_=>none
theorem Nq{sl:List Slot}{tr:List Change}{g:Option Nat}:(aC sl tr g).map Prod.fst=List.range (uK g 2):=by cases g<;>rfl
theorem Td{sl:List Slot}{tr:List Change}{g:Option Nat}:∀ p∈aC sl tr g,p.2.in (dom (aC sl tr g))=true/\p.2.fz=false:=by
 intro p hp
 cases g with
 | none =>
   simp only[aC,j4,List.append_nil,List.mem_cons,List.not_mem_nil,or_false]at hp ⊢;rcases hp with rfl|rfl
   . exact⟨rfl,rfl⟩
   . exact⟨uj,rfl⟩
 | some g =>
   simp only[aC,zbC,List.cons_append,List.nil_append,List.mem_cons,List.not_mem_nil,or_false]at hp ⊢;rcases hp with rfl|rfl|rfl
   . exact⟨rfl,rfl⟩
   . exact⟨uj,rfl⟩
   . exact⟨FV,rfl⟩
theorem zbr{args:List V}{sl sl':List Slot}{tr wM:List Change}{g:Option Nat}{m:Nat}{r:V}{b c d:Nat}(ha:aR args=true)(hr:(r.nk fun _=>false)=true):(zbs args sl sl' tr wM g (gN g m) r b c d).Good:=by
 refine⟨Nq,Nq,UE.1,fun p hp=>(Td p hp).1,Td,V.Ha (fun _ h=>by cases h) hr,?_⟩;intro v hv;rcases List.mem_cons.1 hv with rfl|hv
 . cases g<;>rfl
 . exact V.eO (gP ha v hv)
theorem znc {F:List Slot->List Change->List V->Option (V×List Slot×List Change)} {vs:List V} {hs:HS} {D:fA} (h:zw8 F vs hs=some D) :
 ∃ args sl tr g r sl' ex b c d,F sl tr args=some (r,sl',ex)/\D=zbs args sl sl' tr (tr++ex) g (gN g ex.length) r b c d/\aR args=true/\(r.nk fun _=>false)=true/\D.Good/\D.Fits vs hs:=by
 unfold zw8 at h;split at h
 . rename_i b args;simp only[af,aD,bA,ae]at h;obtain⟨o,ho,q,hq,s,hs1,t,ht,⟨r,sl',ex⟩,hr,⟨h1,h2,h3,h4,h5⟩,h⟩:=h;cases h;have e3:=yw hq;obtain⟨e4,g4⟩:=wU hs1;obtain⟨e5,g5⟩:=wP ht;obtain⟨c,sl⟩:=s;obtain⟨d,tr,g⟩:=t;obtain⟨x,y⟩:=q;simp only at e4 e5 g4 g5 h1 h2 hr h4;subst e4 e5 e3;refine⟨args,sl,tr,g,r,sl',ex,b,c,d,hr,rfl,h3,h4,zbr h3 h4,?_⟩;refine fA.BL ([b,c]++zt g d) (by cases g<;>rfl) rfl h1 h2 ?_ ?_ UE.2 h5
   . show (V.ptr 0 0 0::args).map (V.ren _)=_;rw[List.map_cons,F9 h3];rfl
   . intro p hp
     cases g with
     | none =>
       simp only[zbs,aC,j4,List.append_nil,List.mem_cons,List.not_mem_nil,or_false]at hp;rcases hp with rfl|rfl
       . exact ho
       . show hs.H.get c=_
         simp_all
     | some g =>
       simp only[zbs,aC,zbC,List.cons_append,List.nil_append,List.mem_cons,List.not_mem_nil,or_false]at hp;rcases hp with rfl|rfl|rfl
       . exact ho
       . show hs.H.get c=_
         simp_all
       . show hs.H.get d=_
         simp_all
 . cases h
section
variable {F:List Slot->List Change->List V->Option (V×List Slot×List Change)}{args:List V}{sl sl':List Slot}{tr wM:List Change}{g g':Nat}{r:V}{b c d:Nat}{hs:HS}{G G':Option Nat}
@[simp] theorem zNR:zl4 sl tr G=.arr 2 0 [[.own 1 0 0 sl.length none,zl6 2 tr G]] true false false:=(rfl)
@[simp] theorem zNQ:zw8 F (.ptr b 0 0::args) hs=ob (hs.H.get b) fun o=>ob (wT o) fun q=>ob (zU hs q.1) fun s=>ob (yV hs q.2) fun t=>ob (F s.2 t.2.1 args) fun r =>
      gd (et (nodupB ([b,s.1]++zt t.2.2 t.1)) (et (([b,s.1]++zt t.2.2 t.1).all fun x=>Nat.blt x hs.n) (et (aR args) (et (r.1.nk fun _=>false) (cB hs hs.n)))))
       (some (zbs args s.2 r.2.1 t.2.1 (t.2.1++r.2.2) t.2.2 (gN t.2.2 r.2.2.length) r.1 b s.1 t.1)):=(rfl)
@[simp] theorem zJD:(zbs args sl sl' tr wM G G' r b c d).v0=r:=(rfl)
@[simp] theorem zAM {e:Int}:(zbs args sl sl' tr wM G G' (.int .i64 e) b c d).val hs=.int .i64 e:=(rfl)
@[simp] theorem zs3:(zbs args sl sl' tr wM none none r b c d).heap hs={ H:=(hs.H.set c (sW sl')).set b (.arr 2 0 [[.own c 0 0 sl'.length none,.sl (wM.map aV) true]] true false false),n:=hs.n,log:=b::c::hs.log }:=by
  show ({ H:=(hs.H.set c ((sW sl').ren _)).set b _,n:=hs.n+0,log:=_ }:HS)=_;rw[lY];rfl
@[simp] theorem zs2:(zbs args sl sl' tr wM none (some g') r b c d).heap hs={ H:=((hs.H.set hs.n (Fv wM g')).set c (sW sl')).set b (.arr 2 0 [[.own c 0 0 sl'.length none,.own hs.n g' 0 wM.length none]] true false false),n:=hs.n+1,log:=b::c::hs.n::hs.log }:=by
  show ({ H:=((hs.H.set (hs.n+0) ((Fv wM g').ren _)).set c ((sW sl').ren _)).set b _,n:=hs.n+1,log:=_ }:HS)=_;rw[lY,oZ];rfl
@[simp] theorem zs1:(zbs args sl sl' tr wM (some g) (some g') r b c d).heap hs={ H:=((hs.H.set d (Fv wM g')).set c (sW sl')).set b (.arr 2 0 [[.own c 0 0 sl'.length none,.own d g' 0 wM.length none]] true false false),n:=hs.n,log:=b::c::d::hs.log }:=by
  show ({ H:=((hs.H.set d ((Fv wM g').ren _)).set c ((sW sl').ren _)).set b _,n:=hs.n+0,log:=_ }:HS)=_;rw[lY,oZ];rfl
end
@[simp] theorem zAO {args:List V} {sl sl':List Slot} {tr wM:List Change} {G G':Option Nat} {a b c d:Nat} {hs:HS} {L:List (List V)} {t:Bool} {e:Int}:(YS args sl sl' tr wM G G' (.tuple [.sl L t,.int .i64 e]) a b c d).val hs=.tuple [.sl L t,.int .i64 e]:=(rfl)
namespace Store
def cO(d:Nat):Nat->Store->List aT->Option (Store×Int)
 | 0,_,_=>none
 |_+1,s,[]=>some (s,0)
 |f+1,s,e::l=>open Classical in if wm d s e.left e.right/\l.length<=7000/\(s.gu e.left e.right).1.length<=1000 then (if (s.gu e.left e.right).2.1=0 then cO d f (s.gu e.left e.right).2.2 ((s.gu e.left e.right).1++l)else some ((s.gu e.left e.right).2.2,(s.gu e.left e.right).2.1))else none
end Store
theorem Zu{α:Type}{A B:List α}{x y:α}{n:Nat}(hn:n=A.length):gy (A++x::B) n [y]=A++y::B:=by
 subst hn
 induction A with
 |nil=>cases B<;>rfl
 |cons a A ih=>rw[List.cons_append,List.length_cons,Gx,ih];rfl
def zwG(HF:List (Nat×Obj))(l:List aT)(H:PT Obj):Prop:=(∀ p∈HF,H.get p.1=some p.2)/\∃ (wB gen:Nat) (cap:Option Nat) (rows:List aT) (x:Bool),5<=wB/\wB≠6/\wB≠7 /\
 H.get 4=some (dn (.own wB gen 0 l.length cap))/\H.get wB=some (.arr 10 gen (rows.map aF) x false true)/\rows.take l.length=l.reverse/\l.length<=rows.length/\∀ c,cap=some c->c=rows.length
def zSO(HF:List (Nat×Obj))(l:List aT)(e:List V)(T:PT V)(H:PT Obj)(n:Nat):Prop :=
 zwG HF l H/\T.get 8=some (.ptr 4 0 0)/\∃ id,T.get 13=some (.ptr id 0 0)/\7<id/\id<n/\H.get id=some (box e)
theorem Yw{HF:List (Nat×Obj)}(tJ:∀ p∈HF,p.1≠7){l:List aT}{H:PT Obj}{o:Obj}(h:zwG HF l H):zwG HF l (H.set 7 o):=by
 obtain⟨h1,wB,gen,cap,rows,x,h2,h3,h4,h5,h6,h7⟩:=h;exact⟨fun p hp=>by rw[PT.bD,if_neg (fun e=>tJ p hp e)];exact h1 p hp,wB,gen,cap,rows,x,h2,h3,h4,by rw[PT.bD,if_neg (by omega)];exact h5,by rw[PT.bD,if_neg h4];exact h6,h7⟩
theorem zlp{HF:List (Nat×Obj)}{l:List aT}{H:PT Obj}{n:Nat}(hv:H.get n=none){o o2:Obj}(h:zwG HF l H):zwG HF l ((H.set n o).set n o2):=by
 obtain⟨h1,wB,gen,cap,rows,x,h2,h3,h4,h5,h6,h7⟩:=h
 have key:∀ (i:Nat) (q:Obj),H.get i=some q->((H.set n o).set n o2).get i=some q:=fun i q hq=>by
  have:i≠n:=fun e=>by rw[e,hv]at hq;cases hq
  simp_all
 exact⟨fun p hp=>key _ _ (h1 p hp),wB,gen,cap,rows,x,h2,h3,h4,key _ _ h5,key _ _ h6,h7⟩
end Go.J
/- The program's unification in a store: its guards hold. -/
set_option maxRecDepth 100000
namespace Go.J
open Enc (enc)
namespace Store
section
variable {n S:Nat}
theorem Ni{s:Store}(h:bM n S s)(hS:1<=S)(hn:n*S+S<=90000)(hn2:n<=1000){t:Ty}(ht:bT n S t):iO s [t]:=by
 have h1:=h.und hS (List.replicate s.slots.length false);have h2:=ht.size;exact⟨h.dF hn2,Ty.gT.2 (by simp[ht.ok]),by simp,by simp only[Ty.sizes];omega⟩
theorem YL{s p:Store}(h:Tw s p){l:List Ty}(hv:iO s l):iO p l:=by
 unfold iO dF at hv ⊢;rw[h.slots];exact hv
theorem SF.ztW {s p:Store} {a b:Ty} (h:SF n S s a b) (hS:1<=S) (hn:n*S+S<=1000) (hn2:n<=1000) (hr:room n S s<=990) (hp:Tw s p):∃ d1,∀ d,d1<=d->wm d p a b:=by
 obtain⟨hs,hv,ha,hb,va,vb⟩:=h;have jg:bT n S (s.w16 a):=hs.bX (Nat.le_refl S) (s.slots.length+1) ha;have hwb:bT n S (s.w16 b):=hs.bX (Nat.le_refl S) (s.slots.length+1) hb;have ew:p.w=s.w16:=by rw[hp.w,hs.zsD]
 obtain⟨f1,k1⟩:=Mc (h:=(p.aJ (s.w16 b).id).home) (hs.nJ _ jg);obtain⟨f2,k2⟩:=Mc (h:=(p.aJ (s.w16 a).id).home) (hs.nJ _ hwb);have zOC:Tw s ⟨p.slots,[]⟩:=⟨hp.slots,Nat.zero_le _⟩;refine⟨max f1 f2,fun d hd=>⟨?_,ha.ok,hb.ok,?_,?_⟩⟩
 . have:=hs.dF hn2;unfold dF at this ⊢;rw[hp.slots];exact this
 . have:=hp.trail;unfold room at hr;omega
 . intro v t zyH _;rw[ew]at zyH
   have key:bT n S t/\(hiM ⟨p.slots,[]⟩ (p.aJ v.id).home d t []).isSome=true:=by
    rcases zyH with⟨rfl,rfl⟩|⟨rfl,rfl⟩
    . refine⟨hwb,?_⟩;obtain⟨r,hr2⟩:=k2 [];rw[zOC.hiM,uP (Nat.le_trans (Nat.le_max_right f1 f2) hd) hr2];rfl
    . refine⟨jg,?_⟩;obtain⟨r,hr2⟩:=k1 [];rw[zOC.hiM,uP (Nat.le_trans (Nat.le_max_left f1 f2) hd) hr2];rfl
   have hvars:=(hs.vars hS key.1 (by omega)).2.1;exact⟨YL hp (Ni hs hS (by omega) hn2 key.1),by rw[hp.dz];omega,key.2⟩
def Ez(B:Nat)(p:Store)(l0:List aT)(r:Store×Int):Prop:=∃ k p' d1,Tw r.1 p'/\∀ d,d1<=d->∀ l:List aT,l.length+B<=7000->(r.2=0->∀ g,cO d (g+k) p (l0++l)=cO d g p' l)/\(r.2≠0->∀ g,cO d (g+k) p (l0++l)=some (p',r.2))
theorem rF{B:Nat}{p:Store}{a b:Ty}{r:Store×Int}(hp:∃ d1,∀ d,d1<=d->wm d p a b)(h1:(p.gu a b).1=[])(h2:(p.gu a b).2.1=r.2)(h3:Tw r.1 (p.gu a b).2.2):Ez B p [⟨a,b⟩] r:=by
 obtain⟨d1,hp⟩:=hp;refine⟨1,_,d1,h3,fun d hd l hl=>⟨fun e g=>?_,fun e g=>?_⟩⟩
 . show cO d (g+1) p (⟨a,b⟩::l)=_;rw[cO,if_pos ⟨hp d hd,by omega,by rw[h1];simp⟩,if_pos (by rw[h2];exact e),h1];rfl
 . show cO d (g+1) p (⟨a,b⟩::l)=_;rw[cO,if_pos ⟨hp d hd,by omega,by rw[h1];simp⟩,if_neg (by rw[h2];exact e),h2]
theorem Kn{B:Nat}{s p:Store}(h:Tw s p):Ez B p [] (s,0):=⟨0,p,0,h,fun d _ l _=>⟨fun _ g=>rfl,fun e=>absurd rfl e⟩⟩
theorem Z7{B B0 B1:Nat}{p:Store}{l0 l1:List aT}{r:Store×Int}(h:Ez B0 p l0 r){r':Store×Int}(h':∀ p',Tw r.1 p'->Ez B1 p' l1 r')(h0:B0+l1.length<=B)(h1:B1<=B):Ez B p (l0++l1) (if r.2=0 then r' else r):=by
 obtain⟨k,p',d1,t1,q1⟩:=h;by_cases e:r.2=0
 . rw[if_pos e];obtain⟨k2,p2,d2,t2,q2⟩:=h' p' t1;refine⟨k2+k,p2,max d1 d2,t2,fun d hd l hl=>⟨fun e' g=>?_,fun e' g=>?_⟩⟩
   . grind
   . rw[List.append_assoc,<- Nat.add_assoc,(q1 d (Nat.le_trans (Nat.le_max_left _ _) hd) _ (by rw[List.length_append];omega)).1 e,(q2 d (Nat.le_trans (Nat.le_max_right _ _) hd) l (by omega)).2 e']
 . rw[if_neg e];refine⟨k,p',d1,t1,fun d hd l hl=>⟨fun e'=>absurd e' e,fun _ g=>?_⟩⟩
   grind
def nd(s:Store)(a:Ty):Nat:=s.ll*410+sz s.w16 a 200
def znr(w:Ty->Ty):List Ty->Nat
 | []=>0
 |x::l=>sz w x 200+znr w l
theorem Tx(w:Ty->Ty):∀ l:List Ty,l.length<=znr w l:=by
 intro l
 induction l with
 |nil=>exact Nat.le_refl _
 |cons x l ih=>have:=ztk (w:=w) x 200;simp only[znr,List.length_cons];omega
theorem ztj{w:Ty->Ty}{l m:List Ty}(h:wG w l m):znr w l<=Ty.sizes m:=by
 induction h with
 |nil=>exact Nat.le_refl _
 | cons hx _ ih =>
   rw[znr,yo hx,Ty.sizes];omega
theorem zbG{w:Ty->Ty}{a:Ty}(h:sz w a 200<=200):znr w (w a).args+1<=sz w a 200:=by
 obtain⟨r,hr,hrs⟩:=gp.1 h;obtain⟨m,h1,h2⟩:=gH.1 hr;have h3:=ztj h1;have h4:=Ty.size_eq r;have h5:r.args=m:=by rw[h2];rfl
 rw[h5]at h4;rw[yo hr];omega
theorem zbw {d:Nat} (hS:1<=S) (hn:n*S+S<=1000) (hn2:n<=1000)
 (ih:∀ s a b p,SF n S s a b->room n S s<=990->need s a<d->Tw s p->Ez (nd s a) p [⟨a,b⟩] (dC d s a b)) {s0:Store} {k:Nat} (hk:s0.ll*202+k<=d) :
 ∀ (l m:List Ty) (s p:Store),l.length<=200->(∀ x∈l,bT n S x/\x.valid=true/\sz s0.w16 x 200<k)->(∀ x∈m,bT n S x/\x.valid=true)->bM n S s->jW s->room n S s<=990->Tw s p->(s=s0\/s.ll<s0.ll) ->
   Ez (s0.ll*410+znr s0.w16 l) p (List.zipWith (fun x y=>(⟨x,y⟩:aT)) l m) (uL (dC d) l m s):=by
 intro l
 induction l with
 |nil=>intro m s p _ _ _ _ _ _ h _;rw[uL];exact Kn h;intro _ _ _ _ h;cases h
 | cons x l ihl =>
   intro m s p hll hl hm hs hv hr h hc
   cases m with
   |nil=>rw[uL];exact Kn h;intro _ _ _ _ _ h;cases h
   | cons y m =>
     have hx:=hl x (List.mem_cons_self ..);have hy:=hm y (List.mem_cons_self ..);have zRs:=zu (w:=s.w16) x 200
     have hnd:need s x<d:=by
      unfold need;rcases hc with rfl|hc
      . omega
      . have:s.ll*202+202<=s0.ll*202:=by omega
        omega
     have h1:=kH hS (by omega) d s x y hs hx.1 hy.1 hnd;have h2:=FR d s x y hv hx.2.1 hy.2;have h3:=ih s x y p ⟨hs,hv,hx.1,hy.1,hx.2.1,hy.2⟩ hr hnd h;have hr2:=Nat.le_trans h1.room hr;have hz1:=Tx s0.w16 l;have zRh:(List.zipWith (fun x y=>(⟨x,y⟩:aT)) l m).length<=l.length:=by rw[List.length_zipWith];exact Nat.min_le_left _ _
     simp only[List.length_cons]at hll;rw[uL];refine Z7 h3 (fun p' hp'=>ihl m _ p' (by omega) (fun z hz=>hl z (List.mem_cons_of_mem _ hz)) (fun z hz=>hm z (List.mem_cons_of_mem _ hz)) h1.iW h2 hr2 hp' ?_) ?_ ?_
     . rcases h1.less with e|h4
       . rw[e];exact hc
       . rcases hc with rfl|hc
         . exact .inr h4
         . exact .inr (Nat.lt_trans h4 hc)
     . unfold nd;rw[znr];rcases hc with rfl|hc
       . omega
       . have:s.ll*410+410<=s0.ll*410:=by omega
         omega
     . rw[znr];omega
theorem Nt (hS:1<=S) (hn:n*S+S<=1000) (hn2:n<=1000):∀ (d:Nat) (s:Store) (a b:Ty) (p:Store),SF n S s a b->room n S s<=990->need s a<d->Tw s p->Ez (nd s a) p [⟨a,b⟩] (dC d s a b):=by
 intro d
 induction d with
 |zero=>intro s a b p _ _ h;omega
 | succ d ih =>
   intro s a b p hst hroom hd h;have hpk:=hst.ztW hS hn hn2 hroom h;obtain⟨hs,hv,ha,hb,va,vb⟩:=hst;have jg:bT n S (s.w16 a):=hs.bX (Nat.le_refl S) (s.slots.length+1) ha;have hwb:bT n S (s.w16 b):=hs.bX (Nat.le_refl S) (s.slots.length+1) hb;have zP1:(s.w16 a).valid=true:=yc hv (s.slots.length+1) va;have zP0:(s.w16 b).valid=true:=yc hv (s.slots.length+1) vb;have fa:=(hs.nJ _ ha).walk.1;have fb:=(hs.nJ _ hb).walk.1;have ew:p.w=s.w16:=by rw[h.w,hs.zsD]
   have pa:=UF hs h jg fa;have pb:=UF hs h hwb fb
   have hz:∀ c:Ty,sz s.w16 c 200<=200->s.bound (s.w16 c)=false->∃ r,Rz s.w16 (s.w16 c) r/\r.size<=200:=fun c hc hb=>by
    obtain⟨r,hr,hl⟩:=gp.1 hc;obtain⟨l,h1,h2⟩:=gH.1 hr;have e:s.w16 (s.w16 c)=s.w16 c:=kS hb _
    grind [gH]
   have hP:p.gu a b=(if 200<sz s.w16 a 200\/200<sz s.w16 b 200 then ([],15,p)else
    if (s.w16 a).kind=1/\(s.w16 b).kind=1/\(s.w16 a).id=(s.w16 b).id then ([],0,p)else
    if s.bG (s.w16 a)=true then (if s.bG (s.w16 b)=true then ([],0,p.lu (s.w16 a) (s.w16 b))else ([],(p.jG (s.w16 a).id (s.w16 b)).2,(p.jG (s.w16 a).id (s.w16 b)).1))else
    if s.bG (s.w16 b)=true then ([],(p.jG (s.w16 b).id (s.w16 a)).2,(p.jG (s.w16 b).id (s.w16 a)).1)else
    if clash (s.w16 a) (s.w16 b)then ([],11,p)else
    (List.zipWith (fun x y=>(⟨x,y⟩:aT)) (s.w16 a).args (s.w16 b).args,0,p)):=by
    simp_all [gu]
   rw[dC];unfold rM;by_cases c1:200<sz s.w16 a 200\/200<sz s.w16 b 200
   . grind [rF]
   rw[if_neg c1]at hP ⊢;by_cases c2:s.bG (s.w16 a)=true
   . rw [if_pos c2]at hP ⊢;obtain⟨i,hi,e1,zr0,b1,_⟩:=hs.slot jg c2 fa;by_cases c3:s.bG (s.w16 b)=true
     . rw[if_pos c3]at hP ⊢;obtain⟨j,hj,e2,e2',b2,_⟩:=hs.slot hwb c3 fb;by_cases c4:(s.w16 a).kind=1/\(s.w16 b).kind=1/\(s.w16 a).id=(s.w16 b).id
       . rw[if_pos c4]at hP;refine rF hpk (by rw[hP]) (by rw[hP]) ?_;rw[hP];show Tw (s.join _ _) p;unfold Store.join
         grind
       . rw[if_neg c4]at hP;refine rF hpk (by rw[hP]) (by rw[hP]) ?_;rw[hP];show Tw (s.join _ _) (p.lu _ _);have hij:i≠j:=fun e=>c4 ⟨by rw[e1];rfl,by rw[e2];rfl,by rw[zr0,e2',e]⟩
         grind [zot]
     grind [Fy,Ym,rF]
   . rw [if_neg c2]at hP ⊢;have c4:¬ ((s.w16 a).kind=1/\(s.w16 b).kind=1/\(s.w16 a).id=(s.w16 b).id):=fun hh=>c2 (Fy hs jg hh.1)
     rw[if_neg c4]at hP;by_cases c3:s.bG (s.w16 b)=true
     . rw[if_pos c3]at hP ⊢;obtain⟨j,hj,e2,e2',b2,_⟩:=hs.slot hwb c3 fb
       grind [Ym,rF]
     . rw [if_neg c3]at hP ⊢;by_cases c5:clash (s.w16 a) (s.w16 b)
       . grind [rF]
       . rw[if_neg c5]at hP ⊢;unfold need at hd;have hza:=zbG (w:=s.w16) (a:=a) (by omega);have hzl:=Tx s.w16 (s.w16 a).args;have hal:(s.w16 a).args.length<=200:=by omega
         obtain⟨k,p',d1,t1,h1⟩:=zbw hS hn hn2 ih (s0:=s) (k:=sz s.w16 a 200) (by omega) (s.w16 a).args (s.w16 b).args s p hal
          (fun x hx=>⟨jg.arg hx,Ty.kG zP1 x hx,yt (by omega) x hx⟩) (fun x hx=>⟨hwb.arg hx,Ty.kG zP0 x hx⟩) hs hv hroom h (.inl rfl)
         obtain⟨d2,hpk⟩:=hpk;have zRh:(List.zipWith (fun x y=>(⟨x,y⟩:aT)) (s.w16 a).args (s.w16 b).args).length<=1000:=by rw[List.length_zipWith];omega
         refine⟨k+1,p',max d1 d2,t1,fun dd hdd l hl=>?_⟩
         grind [nd,Nat.le_trans,Nat.le_max_left,Nat.le_max_right,cO]
end
def zFP(s:Store)(a b:Ty)(r:Store×Int):Prop:=∃ d f,cO d f s [⟨a,b⟩]=some r
theorem zne{n S:Nat}(hS:1<=S)(hn:n*S+S<=1000)(hn2:n<=16){s:Store}{a b:Ty}(h:SF n S s a b)(hr:room n S s<=990):∃ r,zFP s a b r/\r.2=(ib s a b).2/\(r.2=0->Tw (ib s a b).1 r.1):=by
 have hu:s.ll<=n:=by rw[<- h.iW.len];exact List.countP_le_length
 obtain⟨k,p',d1,t1,h1⟩:=Nt hS hn (by omega) 300000 s a b s h hr (Br (by rw[h.iW.len];omega) a) (.refl s);have hsz:=zu (w:=s.w16) a 200;have h1:=h1 d1 (Nat.le_refl _) [] (by unfold nd;simp only[List.length_nil];omega);have hT:ib s a b=if (dC 300000 s a b).2=0 then ((dC 300000 s a b).1,0)else (s,(dC 300000 s a b).2):=rfl
 by_cases e:(dC 300000 s a b).2=0
 . rw[if_pos e]at hT;refine⟨(p',0),⟨d1,1+k,?_⟩,by rw[hT],fun _=>by rw[hT];exact t1⟩
   grind [cO]
 . rw[if_neg e]at hT;refine⟨(p',(dC 300000 s a b).2),⟨d1,0+k,?_⟩,by rw[hT],fun e'=>absurd e' e⟩;have:=h1.2 e 0
   grind
end Store
end Go.J
/- The program's unification: what it is taken for. -/
set_option maxRecDepth 100000
namespace Go.J
open Enc (enc)
namespace Store
theorem RY(s:Store)(a b:Ty):∃ m,Grow s (s.gu a b).2.2 m:=by
 unfold gu;split
 . exact⟨0,.refl _ _⟩
 split
 . exact⟨0,.refl _ _⟩
 split
 . grind [Kc,oL]
 split
 . grind [oL]
 split
 . exact⟨0,.refl _ _⟩
 . exact⟨0,.refl _ _⟩
theorem D8 (d:Nat):∀ (f:Nat) {s:Store} {l:List aT} {r:Store×Int},cO d f s l=some r->∃ m,Grow s r.1 m:=by
 intro f
 induction f with
 |zero=>intro s l r h;cases h
 | succ f ih =>
   intro s l r h
   cases l with
   |nil=>rw[cO]at h;cases h;exact⟨0,.refl _ _⟩
   | cons e l =>
     rw[cO]at h;split at h
     . obtain⟨m,hm⟩:=RY s e.left e.right;split at h
       . obtain⟨m2,hm2⟩:=ih h;exact⟨_,hm.trans hm2⟩
       . cases h;exact⟨m,hm⟩
     . cases h
theorem OX (d:Nat):∀ (f:Nat) {s:Store} {l:List aT} {r:Store×Int},(∀ c∈s.trail,0<=c.id/\c.id<s.slots.length)->cO d f s l=some r->∀ c∈r.1.trail,0<=c.id/\c.id<r.1.slots.length:=by
 intro f
 induction f with
 |zero=>intro s l r _ h;cases h
 | succ f ih =>
   intro s l r hs h
   cases l with
   |nil=>rw[cO]at h;cases h;exact hs
   | cons e l =>
     rw[cO]at h;split at h
     . split at h
       . exact ih (OY hs) h
       . cases h;exact OY hs
     . cases h
structure zwH(s:Store)(a b:Ty)(r:Store×Int):Prop where
 run:zFP s a b r
 err:r.2=(ib s a b).2
 tw:r.2=0->Tw (ib s a b).1 r.1
open Classical in
def AR(s:Store)(a b:Ty):Option (Store×Int):=if h:(s.slots≠[]/\s.slots.length<=1000/\s.trail.length<=1000)/\∃ r,zwH s a b r then some (if h.2.choose.2=0 then h.2.choose.1 else s,h.2.choose.2)else none
theorem Nu{s:Store}{a b:Ty}{q:Store×Int}(h:AR s a b=some q):s.slots≠[]/\s.slots.length<=1000/\s.trail.length<=1000/\∃ r,zwH s a b r/\q=(if r.2=0 then r.1 else s,r.2):=by
 unfold AR at h;split at h
 . rename_i hh;cases h;exact⟨hh.1.1,hh.1.2.1,hh.1.2.2,hh.2.choose,hh.2.choose_spec,rfl⟩
 . cases h
theorem zng{n S:Nat}(hS:1<=S)(hn:n*S+S<=1000)(hn1:1<=n)(hn2:n<=16){s:Store}{a b:Ty}(h:SF n S s a b)(hr:room n S s<=990)(zC5:∀ c∈s.trail,0<=c.id/\c.id<s.slots.length) :
 ∃ x,AR s a b=some (x,(ib s a b).2)/\x.slots=(ib s a b).1.slots/\∀ c∈x.trail,0<=c.id/\c.id<x.slots.length:=by
 obtain⟨r,h1,h2,h3⟩:=zne hS hn hn2 h hr;have hl:=h.iW.len
 have hh:(s.slots≠[]/\s.slots.length<=1000/\s.trail.length<=1000)/\∃ r,zwH s a b r:=by
  refine⟨⟨fun e=>by rw[e]at hl;simp at hl;omega,by omega,?_⟩,r,h1,h2,h3⟩
  grind [room]
 have ht:(ib s a b).2≠0->(ib s a b).1=s:=by
  grind [ib]
 obtain⟨r2,hr2⟩:∃ r2,hh.2.choose=r2:=⟨_,rfl⟩;have hT:=hh.2.choose_spec;rw[hr2]at hT
 have hU:AR s a b=some (if r2.2=0 then r2.1 else s,r2.2):=by
  unfold AR;rw[dif_pos hh,hr2]
 by_cases e:r2.2=0
 . rw[if_pos e]at hU;refine⟨r2.1,by rw[hU,hT.err],(hT.tw e).slots,?_⟩;obtain⟨d,f,hf⟩:=hT.run;exact OX d f zC5 hf
 . rw[if_neg e]at hU;refine⟨s,by rw[hU,hT.err],?_,zC5⟩;rw[ht (by rw[<- hT.err];exact e)]
end Store
def sD(es:List (List V))(sz:Nat)(tg:Bool):fA where
 k:=0
 k':=1
 π:=fun i=>i
 OL:=[]
 OL':=[(0,.arr sz 0 es false false true)]
 vs0:=[.sl es tg]
 v0:=.own 0 0 0 es.length none
def Dn(sz:Nat)(vs:List V)(hs:HS):Option fA:=match vs with
 | [.sl es tg]=>gd (et (nt (Nat.beq (aN es) 0)) (et (Nat.ble (aN es) 1000) (et (es.all fun e=>et (Nat.beq (aN e) sz) (e.all V.aI)) (et (dw es) (cB hs hs.n))))) (some (sD es sz tg))
 |_=>none
theorem Sl{sz:Nat}{vs:List V}{hs:HS}{D:fA}(h:Dn sz vs hs=some D):∃ es tg,es≠[]/\es.length<=1000/\(∀ e∈es,e.length=sz/\e.all V.aI=true)/\dw es=true/\D=sD es sz tg/\D.Good/\D.Fits vs hs:=by
 unfold Dn at h;split at h
 . rename_i es tg;simp only[aD,bA,fV,beq_false,dI,bJ,ae]at h;obtain⟨⟨h1,h2,h3,h6,h4⟩,h⟩:=h;cases h
   have h5:∀ e∈es,e.length=sz/\e.all V.aI=true:=fun e he=>by
    have:=List.all_eq_true.1 h3 e he;simp only[bA,beq_true,bJ]at this;exact this
   refine⟨es,tg,fun e=>h1 (by rw[e];rfl),h2,h5,h6,rfl,⟨rfl,rfl,Nat.zero_le _,(fun p hp=>by cases hp),fun p hp=>?_,rfl,fun v hv=>?_⟩,rfl,fun i j hi=>?_,(fun p hp=>by cases hp),fun i hi=>?_,fun i hi=>?_⟩
   . simp only[sD,List.mem_singleton]at hp;subst hp;exact⟨List.all_eq_true.2 fun e he=>(h5 e he).2,rfl⟩
   . simp only[sD,List.mem_singleton]at hv;subst hv;rfl
   . simp only[sD]at hi;omega
   . simp only[sD]at hi;have:i=0:=by omega
     subst this;exact h4
   . simp only[sD]at hi;omega
 . cases h
section
variable {es:List (List V)}{sz:Nat}{tg:Bool}{hs:HS}
@[simp] theorem zwf:(sD es sz tg).val hs=.own hs.n 0 0 es.length none:=(rfl)
theorem PX(h:∀ e∈es,e.all V.aI=true):(sD es sz tg).heap hs={ H:=hs.H.set hs.n (.arr sz 0 es false false true),n:=hs.n+1,log:=hs.n::hs.log }:=by
 have e1:(es.map fun e=>e.map (V.iy (news hs.n 0 fun i=>i)))=es:=vP fun e he v hv=>V.jb (List.all_eq_true.1 (h e he) v hv)
 show ({ H:=hs.H.set (news hs.n 0 (fun i=>i) 0) (.arr sz 0 (es.map fun e=>e.map (V.iy (news hs.n 0 fun i=>i))) false false true),n:=hs.n+1,log:=[news hs.n 0 (fun i=>i) 0]++hs.log }:HS)=_;rw[e1];rfl
@[simp] theorem zFn:Dn sz [.sl es tg] hs=gd (et (nt (Nat.beq (aN es) 0)) (et (Nat.ble (aN es) 1000) (et (es.all fun e=>et (Nat.beq (aN e) sz) (e.all V.aI)) (et (dw es) (cB hs hs.n))))) (some (sD es sz tg)):=(rfl)
end
def KA(vs:List V):Option V:=match vs with
 | [.sl es _]=>gd (sizes 10 es) (some (.sl es true))
 |_=>none
@[simp] theorem zIQ {es:List (List V)} {t:Bool}:KA [.sl es t]=gd (sizes 10 es) (some (.sl es true)):=(rfl)
theorem zad{vs:List V}{v:V}(h:KA vs=some v):∃ es t,vs=[.sl es t]/\sizes 10 es=true/\v=.sl es true:=by
 unfold KA at h
 grind [aD]
end Go.J
/- What the laws on unification in a store make. -/
set_option maxRecDepth 100000
namespace Go.J
open Enc (enc)
namespace Store
def zcR(n:Nat):List Ty:=dK n++[KZ 0 0,KZ 2 0,zti 0]
def LX (t:Tp) (D:List Decl):Store×Ty×Ty×Tp :=
 ((vE t D).2,(dh 2 (vE t D).1 D (zcR (vE t D).2.slots.length)).2,
   (dh 2 (dh 2 (vE t D).1 D (zcR (vE t D).2.slots.length)).1 D (zcR (vE t D).2.slots.length)).2,
   (dh 2 (dh 2 (vE t D).1 D (zcR (vE t D).2.slots.length)).1 D (zcR (vE t D).2.slots.length)).1)
structure Yx(n:Nat)(s:Store)(a b:Ty):Prop where
 low:1<=n
 high:n<=5
 stay:SF n 7 s a b
 room:room n 7 s<=990
 ids:∀ c∈s.trail,0<=c.id/\c.id<s.slots.length
theorem JM{x y:Store}(h:x.slots=y.slots):x.w16=y.w16:=by
 have h1:Tw x ⟨x.slots,[]⟩:=⟨rfl,Nat.zero_le _⟩;have h2:Tw y ⟨x.slots,[]⟩:=⟨h,Nat.zero_le _⟩;rw[<- h1.w16,h2.w16]
theorem Yx.znh{n:Nat}{s:Store}{a b:Ty}(h:Yx n s a b):∃ x,AR s a b=some (x,(ib s a b).2)/\x.slots=(ib s a b).1.slots/\(∀ c∈x.trail,0<=c.id/\c.id<x.slots.length)/\x.dF:=by
 have hh:=h.high;obtain⟨x,h1,h2,h3⟩:=zng (n:=n) (S:=7) (by omega) (by omega) h.low (by omega) h.stay h.room h.ids;have ht:=(AZ (n:=n) (S:=7) (by omega) (by omega) (by omega) h.stay.iW h.stay.left h.stay.right).iW;refine⟨x,h1,h2,h3,?_⟩;have:=ht.dF (by omega)
 grind [dF]
end Store
end Go.J
