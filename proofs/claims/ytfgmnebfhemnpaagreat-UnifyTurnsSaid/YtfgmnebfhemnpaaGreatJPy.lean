import Derived.Test.YtfgmnebfhemnpaaGreatJPx
import Derived.Test.YtfgmnebfhemnpaaGreatJUv
import Derived.Test.YtfgmnebfhemnpaaGreatJS
import Derived.Test.YtfgmnebfhemnpaaGreatJP
import Derived.Test.YtfgmnebfhemnpaaGreatJW
set_option linter.all false
noncomputable section
/- The program's unification in a store: what its steps add to the trail. -/
namespace Go.J
open Enc (enc)
namespace Store
structure Grow(s s':Store)(m:Nat):Prop where
 len:s'.slots.length=s.slots.length
 trail:∃ ex,s'.trail=s.trail++ex/\ex.length<=m
theorem Grow.refl(s:Store)(m:Nat):Grow s s m:=⟨rfl,[],by simp,Nat.zero_le _⟩
theorem Grow.trans{a b c:Store}{m n:Nat}(h:Grow a b m)(k:Grow b c n):Grow a c (m+n):=by
 obtain⟨x,h1,h2⟩:=h.trail;obtain⟨y,h3,h4⟩:=k.trail;exact⟨k.len.trans h.len,x++y,by rw[h3,h1,List.append_assoc],by simp;omega⟩
theorem Grow.le{a b:Store}{m n:Nat}(h:Grow a b m)(hmn:m<=n):Grow a b n:=⟨h.len,by obtain⟨x,h1,h2⟩:=h.trail;exact⟨x,h1,by omega⟩⟩
theorem Grow.eq{s s':Store}{m:Nat}(h:Grow s s' m):s'=⟨s'.slots,s.trail++s'.trail.drop s.trail.length⟩:=by
 obtain⟨x,h1,_⟩:=h.trail
 cases s' with
 | mk sl tr =>
   simp only at h1;subst h1;simp
theorem zxN(s:Store)(i:Int)(x:Slot):Grow s (s.set i x).1 1:=by
 unfold Store.set
 cases s.slot? i with
 |none=>exact .refl _ _
 |some o=>exact⟨by simp,[⟨i,o,false⟩],rfl,Nat.le_refl _⟩
theorem grow_setP(s:Store)(i:Int)(x:Slot):Grow s (s.setP i x) 1:=by
 unfold setP;split
 . exact .refl _ _
 . exact zxN ..
theorem grow_give(s:Store)(i:Int)(t:Ty):Grow s (s.giveP i t) 1:=grow_setP ..
theorem grow_join(s:Store)(a b:Ty):Grow s (s.joinP a b) 2:=by
 unfold joinP;split
 . exact(grow_setP ..).trans (grow_give ..)
 . exact(grow_setP ..).trans (grow_give ..)
theorem zxO(home:Int)(s:Store)(v:Int):Grow s (lowP home s v) 1:=by
 unfold lowP;split
 . exact grow_setP ..
 . exact .refl _ _
theorem zrN(home:Int):∀ (l:List Int) (s:Store),Grow s (l.foldl (lowP home) s) l.length:=by
 intro l
 induction l with
 |nil=>intro s;exact .refl _ _
 | cons v l ih =>
   intro s;rw[List.foldl_cons,List.length_cons,Nat.add_comm];exact(zxO home s v).trans (ih _)
theorem grow_bind(s:Store)(v:Int)(t:Ty):Grow s (s.bindP v t).1 ((varsS s [t]).length+1):=by
 unfold bindP;split
 . exact .refl _ _
 split
 . exact .refl _ _
 split
 . exact .refl _ _
 exact(zrN _ _ _).trans (grow_give ..)
theorem z9b{s:Store}{i:Int}{x:Slot}(h:∀ c∈s.trail,0<=c.id/\c.id<s.slots.length):∀ c∈(s.set i x).1.trail,0<=c.id/\c.id<(s.set i x).1.slots.length:=by
 unfold Store.set
 cases e:s.slot? i with
 |none=>exact h
 | some o =>
   obtain⟨k,hk,hl,_⟩:=slot?_some e;intro c hc;simp only[List.length_set];rcases List.mem_append.1 hc with hc|hc
   . exact h c hc
   . rw[List.mem_singleton.1 hc,hk];simp;exact hl
theorem zgJ{s:Store}{i:Int}{x:Slot}(h:∀ c∈s.trail,0<=c.id/\c.id<s.slots.length):∀ c∈(s.setP i x).trail,0<=c.id/\c.id<(s.setP i x).slots.length:=by
 unfold setP;split
 . exact h
 . exact z9b h
theorem zki{s:Store}{i:Int}{t:Ty}(h:∀ c∈s.trail,0<=c.id/\c.id<s.slots.length):∀ c∈(s.giveP i t).trail,0<=c.id/\c.id<(s.giveP i t).slots.length:=zgJ h
theorem zxI{s:Store}{a b:Ty}(h:∀ c∈s.trail,0<=c.id/\c.id<s.slots.length):∀ c∈(s.joinP a b).trail,0<=c.id/\c.id<(s.joinP a b).slots.length:=by
 unfold joinP;split
 . exact zki (zgJ h)
 . exact zki (zgJ h)
theorem zxH(home:Int):∀ (l:List Int) {s:Store},(∀ c∈s.trail,0<=c.id/\c.id<s.slots.length)->∀ c∈(l.foldl (lowP home) s).trail,0<=c.id/\c.id<(l.foldl (lowP home) s).slots.length:=by
 intro l
 induction l with
 |nil=>intro s h;exact h
 | cons v l ih =>
   intro s h;rw[List.foldl_cons];refine ih ?_;unfold lowP;split
   . exact zgJ h
   . exact h
theorem zoo{s:Store}{v:Int}{t:Ty}(h:∀ c∈s.trail,0<=c.id/\c.id<s.slots.length):∀ c∈(s.bindP v t).1.trail,0<=c.id/\c.id<(s.bindP v t).1.slots.length:=by
 unfold bindP;split
 . exact h
 split
 . exact h
 split
 . exact h
 exact zki (zxH _ _ h)
theorem zon{s:Store}{a b:Ty}(h:∀ c∈s.trail,0<=c.id/\c.id<s.slots.length):∀ c∈(s.pairP a b).2.2.trail,0<=c.id/\c.id<(s.pairP a b).2.2.slots.length:=by
 unfold pairP;split
 . exact h
 split
 . exact h
 split
 . split
   . exact zxI h
   . exact zoo h
 split
 . exact zoo h
 split
 . exact h
 . exact h
end Store
end Go.J
/- What a function leaves that answers with a new row and a value. -/
namespace Go.J
open Enc (enc)
theorem GivesL.autoN{k:Nat}{v v0:V}{OL:List (Nat×Obj)}{hs:HS}(hn:zat v=v0)(hv:v.in3 (dom OL)=true/\v=v.ren (J.auto k [(0,v)] OL (PT.leaf.set 0 v) hs.H))
 (hH:∀ p∈OL,p.2.in (dom OL)=true/\hs.H.get (J.auto k [(0,v)] OL (PT.leaf.set 0 v) hs.H p.1)=some (p.2.ren (J.auto k [(0,v)] OL (PT.leaf.set 0 v) hs.H)))
 (hi:nodupB (OL.map fun p=>J.auto k [(0,v)] OL (PT.leaf.set 0 v) hs.H p.1)=true) (hk:(List.range k).all (fun i=>Nat.beq (J.auto k [(0,v)] OL (PT.leaf.set 0 v) hs.H i) i&&dom OL i)=true):GivesL k v0 OL v hs :=
 GivesL.lit _ hi hk hn hv hH
theorem zve{ρ:Nat->Value}{E:Env}{f:FuncId}{fn:Func}{sc:SC}{T:PT V}{D:EmbD}{KK:V->HS->Prop}(hρ:J.Good ρ)(hcon:ConsOk ρ E)(hP:E.P.follows .mixedOrders=true)(hN:zdP E.P)(hf:E.P.funcs[f]?=some fn)(hb:fn.body.bind zz=some sc)(he:zbu fn.ntmps D.vs0 0 .leaf=some T)
 (hg:D.Good) (h:Wp ρ E D.k fn.ntmps sc T { H:=mkP D.OL,n:=D.k,log:=[] } (Leaves E.P fn KK)) (hKK:∀ v hs,KK v hs->GivesL D.k D.v0 D.OL' v hs\/GivesP D.k D.v0 D.OL' v hs) {vs:List V} {hs:HS} (hfit:D.Fits vs hs) :
 CallOk ρ E.P f vs hs (D.v0.ren (news hs.n D.k D.π)) (zgK hs D.k D.k' D.π D.OL'):=by
 rw[<- hfit.args];exact zvc hf hb he (ziH hρ hcon hP hN h) (fun _ _ _ he=>zNs hKK he) hg.ol hg.ol' hg.le hg.inn hg.inn' hg.v0 hg.vs0 hfit.inj hfit.obj hfit.vac hfit.lt
def zeq:List V:=[.int .i64 0,.str [],.int .i64 0,.int .i64 0,.snil,.int .i64 0,.str [],.int .i64 0,.int .i64 0,.snil]
theorem znK{L:List Equation}{i n:Nat}(hi:i=L.length):(L.map zx++List.replicate (n+1) zeq)[i]?=some zeq:=by
 subst hi;rw[List.getElem?_append_right (by simp),List.length_map,Nat.sub_self];rfl
theorem zqQ{L:List Equation}{i n:Nat}{y:Equation}(hi:i=L.length):(L.map zx++List.replicate (n+1) zeq).set i (zx y)=(L++[y]).map zx++List.replicate n zeq:=by
 subst hi;rw[List.set_append_right _ _ (by simp),List.length_map,Nat.sub_self,List.map_append,List.append_assoc];rfl
def zkx(L:List Equation)(k:Nat):Obj:=.arr 10 0 (L.map zx++List.replicate k zeq) true false true
def zjz(l m:List Ty):List Equation:=List.zipWith (fun x y=>(⟨x,y⟩:Equation)) l m
theorem zkz{l m:List Ty}{i:Nat}(h1:i<l.length)(h2:i<m.length):(zjz l m).take (i+1)=(zjz l m).take i++[⟨l[i],m[i]⟩]:=by
 unfold zjz;rw[List.take_add_one,List.getElem?_zipWith,List.getElem?_eq_getElem h1,List.getElem?_eq_getElem h2];rfl
theorem zes{l m:List Ty}(h:l.length=m.length):(zjz l m).length=l.length:=by unfold zjz;simp[h]
namespace Store
def PairOk(d:Nat)(s:Store)(a b:Ty):Prop:=s.tysOk/\a.ok=true/\b.ok=true/\s.trail.length<=3900 /\
 ∀ v t:Ty,(v=s.w a/\t=s.w b)\/(v=s.w b/\t=s.w a)->s.freeS v=true->zbw s [t]/\(varsS s [t]).length<=1000/\(hiM ⟨s.slots,[]⟩ (s.slotD v.id).home d t []).isSome=true
theorem freeS_at{sl:List Slot}{tr:List Change}{t:Ty}(h:freeS ⟨sl,tr⟩ t=true):t.kind=1/\∃ i:Nat,t.id=(i:Int)/\∃ hi:i<sl.length,slotD ⟨sl,tr⟩ t.id=sl[i]:=by
 unfold freeS isSlot at h;rw[Bool.and_eq_true,Bool.and_eq_true]at h;obtain⟨m,hm⟩:=Option.isSome_iff_exists.1 h.1.2;obtain⟨q,hq1,hq,hq2⟩:=slot?_at hm;exact⟨of_decide_eq_true h.1.1,q,hq,hq1,by rw[hq,slotD_at (s:=⟨sl,tr⟩) hq1]⟩
end Store
end Go.J
/- Unification within a store: a pointer to the store,two types. -/
namespace Go.J
open Enc (enc)
def uyB(sl:List Slot)(tr:List Change)(g:Option Nat):Obj:=.arr 2 0 [[.own 1 0 0 sl.length none,trC 2 tr g]] true false false
def zK(sl:List Slot)(tr:List Change)(g:Option Nat):List (Nat×Obj):=[(0,uyB sl tr g),(1,slO sl)]++trH 2 tr g
def uyD(args:List V)(sl sl':List Slot)(tr tr':List Change)(g g':Option Nat)(r:V)(b c d:Nat):EmbD where
 k:=uK g 2
 k':=uK g' 2
 π:=fun i=>([b,c]++uId g d).getD i 0
 OL:=zK sl tr g
 OL':=zK sl' tr' g'
 vs0:=.ptr 0 0 0::args
 v0:=r
def uyM (F:List Slot->List Change->List V->Option (V×List Slot×List Change)) (vs:List V) (hs:HS):Option EmbD:=match vs with
 |.ptr b 0 0::args=>ob (hs.H.get b) fun o=>ob (zhj o) fun q=>ob (zmI hs q.1) fun s=>ob (zmu hs q.2) fun t=>ob (F s.2 t.2.1 args) fun r =>
  gd (et (nodupB ([b,s.1]++uId t.2.2 t.1)) (et (([b,s.1]++uId t.2.2 t.1).all fun x=>Nat.blt x hs.n) (et (zD args) (et (r.1.in3 fun _=>false) (zZ hs hs.n)))))
   (some (uyD args s.2 r.2.1 t.2.1 (t.2.1++r.2.2) t.2.2 (gN t.2.2 r.2.2.length) r.1 b s.1 t.1))
 |_=>none
theorem znH{sl:List Slot}{tr:List Change}{g:Option Nat}:(zK sl tr g).map Prod.fst=List.range (uK g 2):=by cases g<;>rfl
theorem zqy{sl:List Slot}{tr:List Change}{g:Option Nat}:∀ p∈zK sl tr g,p.2.in (dom (zK sl tr g))=true/\p.2.fz=false:=by
 intro p hp
 cases g with
 | none =>
   simp only[zK,zbD,List.append_nil,List.mem_cons,List.not_mem_nil,or_false]at hp ⊢;rcases hp with rfl|rfl
   . exact⟨rfl,rfl⟩
   . exact⟨zeB,rfl⟩
 | some g =>
   simp only[zK,trH,List.cons_append,List.nil_append,List.mem_cons,List.not_mem_nil,or_false]at hp ⊢;rcases hp with rfl|rfl|rfl
   . exact⟨rfl,rfl⟩
   . exact⟨zeB,rfl⟩
   . exact⟨zkJ,rfl⟩
theorem zww{args:List V}{sl sl':List Slot}{tr tr':List Change}{g:Option Nat}{m:Nat}{r:V}{b c d:Nat}(ha:zD args=true)(hr:(r.in3 fun _=>false)=true):(uyD args sl sl' tr tr' g (gN g m) r b c d).Good:=by
 refine⟨znH,znH,gN_le.1,fun p hp=>(zqy p hp).1,zqy,V.in3_mono (fun _ h=>by cases h) hr,?_⟩;intro v hv;rcases List.mem_cons.1 hv with rfl|hv
 . cases g<;>rfl
 . exact V.in3_pure (zaF ha v hv)
theorem z7o {F:List Slot->List Change->List V->Option (V×List Slot×List Change)} {vs:List V} {hs:HS} {D:EmbD} (h:uyM F vs hs=some D) :
 ∃ args sl tr g r sl' ex b c d,F sl tr args=some (r,sl',ex)/\D=uyD args sl sl' tr (tr++ex) g (gN g ex.length) r b c d/\zD args=true/\(r.in3 fun _=>false)=true/\D.Good/\D.Fits vs hs:=by
 unfold uyM at h;split at h
 . rename_i b args;simp only[zt,z8,et_true,vacant_eq]at h;obtain⟨o,ho,q,hq,s,hs1,t,ht,⟨r,sl',ex⟩,hr,⟨h1,h2,h3,h4,h5⟩,h⟩:=h;cases h;have e3:=zfl hq;obtain⟨e4,g4⟩:=zfn hs1;obtain⟨e5,g5⟩:=zfg ht;obtain⟨c,sl⟩:=s;obtain⟨d,tr,g⟩:=t;obtain⟨x,y⟩:=q;simp only at e4 e5 g4 g5 h1 h2 hr h4;subst e4 e5 e3;refine⟨args,sl,tr,g,r,sl',ex,b,c,d,hr,rfl,h3,h4,zww h3 h4,?_⟩;refine EmbD.fits_of ([b,c]++uId g d) (by cases g<;>rfl) rfl h1 h2 ?_ ?_ gN_le.2 h5
   . show (V.ptr 0 0 0::args).map (V.ren _)=_;rw[List.map_cons,zjJ h3];rfl
   . intro p hp
     cases g with
     | none =>
       simp only[uyD,zK,zbD,List.append_nil,List.mem_cons,List.not_mem_nil,or_false]at hp;rcases hp with rfl|rfl
       . exact ho
       . show hs.H.get c=_;rw[g4];exact congrArg some slO_ren.symm
     | some g =>
       simp only[uyD,zK,trH,List.cons_append,List.nil_append,List.mem_cons,List.not_mem_nil,or_false]at hp;rcases hp with rfl|rfl|rfl
       . exact ho
       . show hs.H.get c=_;rw[g4];exact congrArg some slO_ren.symm
       . show hs.H.get d=_;rw[g5 g rfl];exact congrArg some trO_ren.symm
 . cases h
section
variable {F:List Slot->List Change->List V->Option (V×List Slot×List Change)}{args:List V}{sl sl':List Slot}{tr tr':List Change}{g g':Nat}{r:V}{b c d:Nat}{hs:HS}{G G':Option Nat}
@[simp] theorem zSi:uyB sl tr G=.arr 2 0 [[.own 1 0 0 sl.length none,trC 2 tr G]] true false false:=(rfl)
@[simp] theorem zSh:uyM F (.ptr b 0 0::args) hs=ob (hs.H.get b) fun o=>ob (zhj o) fun q=>ob (zmI hs q.1) fun s=>ob (zmu hs q.2) fun t=>ob (F s.2 t.2.1 args) fun r =>
      gd (et (nodupB ([b,s.1]++uId t.2.2 t.1)) (et (([b,s.1]++uId t.2.2 t.1).all fun x=>Nat.blt x hs.n) (et (zD args) (et (r.1.in3 fun _=>false) (zZ hs hs.n)))))
       (some (uyD args s.2 r.2.1 t.2.1 (t.2.1++r.2.2) t.2.2 (gN t.2.2 r.2.2.length) r.1 b s.1 t.1)):=(rfl)
@[simp] theorem zNS:(uyD args sl sl' tr tr' G G' r b c d).v0=r:=(rfl)
@[simp] theorem zH7 {e:Int}:(uyD args sl sl' tr tr' G G' (.int .i64 e) b c d).val hs=.int .i64 e:=(rfl)
@[simp] theorem zA4:(uyD args sl sl' tr tr' none none r b c d).heap hs={ H:=(hs.H.set c (slO sl')).set b (.arr 2 0 [[.own c 0 0 sl'.length none,.sl (tr'.map zA) true]] true false false),n:=hs.n,log:=b::c::hs.log }:=by
  show ({ H:=(hs.H.set c ((slO sl').ren _)).set b _,n:=hs.n+0,log:=_ }:HS)=_;rw[slO_ren];rfl
@[simp] theorem zA3:(uyD args sl sl' tr tr' none (some g') r b c d).heap hs={ H:=((hs.H.set hs.n (trO tr' g')).set c (slO sl')).set b (.arr 2 0 [[.own c 0 0 sl'.length none,.own hs.n g' 0 tr'.length none]] true false false),n:=hs.n+1,log:=b::c::hs.n::hs.log }:=by
  show ({ H:=((hs.H.set (hs.n+0) ((trO tr' g').ren _)).set c ((slO sl').ren _)).set b _,n:=hs.n+1,log:=_ }:HS)=_;rw[slO_ren,trO_ren];rfl
@[simp] theorem zA2:(uyD args sl sl' tr tr' (some g) (some g') r b c d).heap hs={ H:=((hs.H.set d (trO tr' g')).set c (slO sl')).set b (.arr 2 0 [[.own c 0 0 sl'.length none,.own d g' 0 tr'.length none]] true false false),n:=hs.n,log:=b::c::d::hs.log }:=by
  show ({ H:=((hs.H.set d ((trO tr' g').ren _)).set c ((slO sl').ren _)).set b _,n:=hs.n+0,log:=_ }:HS)=_;rw[slO_ren,trO_ren];rfl
end
@[simp] theorem zH9 {args:List V} {sl sl':List Slot} {tr tr':List Change} {G G':Option Nat} {a b c d:Nat} {hs:HS} {L:List (List V)} {t:Bool} {e:Int}:(uwD args sl sl' tr tr' G G' (.tuple [.sl L t,.int .i64 e]) a b c d).val hs=.tuple [.sl L t,.int .i64 e]:=(rfl)
namespace Store
def withinG(d:Nat):Nat->Store->List Equation->Option (Store×Int)
 | 0,_,_=>none
 |_+1,s,[]=>some (s,0)
 |f+1,s,e::l=>open Classical in if PairOk d s e.left e.right/\l.length<=7000/\(s.pairP e.left e.right).1.length<=1000 then (if (s.pairP e.left e.right).2.1=0 then withinG d f (s.pairP e.left e.right).2.2 ((s.pairP e.left e.right).1++l)else some ((s.pairP e.left e.right).2.2,(s.pairP e.left e.right).2.1))else none
end Store
theorem zru{α:Type}{A B:List α}{x y:α}{n:Nat}(hn:n=A.length):zbm (A++x::B) n [y]=A++y::B:=by
 subst hn
 induction A with
 |nil=>cases B<;>rfl
 |cons a A ih=>rw[List.cons_append,List.length_cons,ziY,ih];rfl
def WkI(HF:List (Nat×Obj))(l:List Equation)(H:PT Obj):Prop:=(∀ p∈HF,H.get p.1=some p.2)/\∃ (rid gen:Nat) (cap:Option Nat) (rows:List Equation) (x:Bool),5<=rid/\rid≠6/\rid≠7 /\
 H.get 4=some (zaM (.own rid gen 0 l.length cap))/\H.get rid=some (.arr 10 gen (rows.map zx) x false true)/\rows.take l.length=l.reverse/\l.length<=rows.length/\∀ c,cap=some c->c=rows.length
def WkM(HF:List (Nat×Obj))(l:List Equation)(e:List V)(T:PT V)(H:PT Obj)(n:Nat):Prop :=
 WkI HF l H/\T.get 8=some (.ptr 4 0 0)/\∃ id,T.get 13=some (.ptr id 0 0)/\7<id/\id<n/\H.get id=some (box e)
theorem zvB{HF:List (Nat×Obj)}(hHF:∀ p∈HF,p.1≠7){l:List Equation}{H:PT Obj}{o:Obj}(h:WkI HF l H):WkI HF l (H.set 7 o):=by
 obtain⟨h1,rid,gen,cap,rows,x,h2,h3,h4,h5,h6,h7⟩:=h;exact⟨fun p hp=>by rw[PT.set_get,if_neg (fun e=>hHF p hp e)];exact h1 p hp,rid,gen,cap,rows,x,h2,h3,h4,by rw[PT.set_get,if_neg (by omega)];exact h5,by rw[PT.set_get,if_neg h4];exact h6,h7⟩
theorem zy9{HF:List (Nat×Obj)}{l:List Equation}{H:PT Obj}{n:Nat}(hv:H.get n=none){o o2:Obj}(h:WkI HF l H):WkI HF l ((H.set n o).set n o2):=by
 obtain⟨h1,rid,gen,cap,rows,x,h2,h3,h4,h5,h6,h7⟩:=h
 have key:∀ (i:Nat) (q:Obj),H.get i=some q->((H.set n o).set n o2).get i=some q:=fun i q hq=>by
  have:i≠n:=fun e=>by rw[e,hv]at hq;cases hq
  rw[PT.set_get,if_neg this,PT.set_get,if_neg this];exact hq
 exact⟨fun p hp=>key _ _ (h1 p hp),rid,gen,cap,rows,x,h2,h3,h4,key _ _ h5,key _ _ h6,h7⟩
end Go.J
/- The program's unification in a store: its guards hold. -/
set_option maxRecDepth 100000
namespace Go.J
open Enc (enc)
namespace Store
section
variable {n S:Nat}
theorem zm2{s:Store}(h:Tame n S s)(hS:1<=S)(hn:n*S+S<=90000)(hn2:n<=1000){t:Ty}(ht:TyOk n S t):zbw s [t]:=by
 have h1:=h.und hS (List.replicate s.slots.length false);have h2:=ht.size;exact⟨h.tysOk hn2,Ty.oks_iff.2 (by simp[ht.ok]),by simp,by simp only[Ty.sizes];omega⟩
theorem zqq{s p:Store}(h:Tw s p){l:List Ty}(hv:zbw s l):zbw p l:=by
 unfold zbw tysOk at hv ⊢;rw[h.slots];exact hv
theorem Stay.pairOk {s p:Store} {a b:Ty} (h:Stay n S s a b) (hS:1<=S) (hn:n*S+S<=1000) (hn2:n<=1000) (hr:room n S s<=990) (hp:Tw s p):∃ d1,∀ d,d1<=d->PairOk d p a b:=by
 obtain⟨hs,hv,ha,hb,va,vb⟩:=h;have hwa:TyOk n S (s.w16 a):=hs.walkN (Nat.le_refl S) (s.slots.length+1) ha;have hwb:TyOk n S (s.w16 b):=hs.walkN (Nat.le_refl S) (s.slots.length+1) hb;have ew:p.w=s.w16:=by rw[hp.w,hs.w_eq]
 obtain⟨f1,k1⟩:=zni (h:=(p.slotD (s.w16 b).id).home) (hs.finT _ hwa);obtain⟨f2,k2⟩:=zni (h:=(p.slotD (s.w16 a).id).home) (hs.finT _ hwb);have htw:Tw s ⟨p.slots,[]⟩:=⟨hp.slots,Nat.zero_le _⟩;refine⟨max f1 f2,fun d hd=>⟨?_,ha.ok,hb.ok,?_,?_⟩⟩
 . have:=hs.tysOk hn2;unfold tysOk at this ⊢;rw[hp.slots];exact this
 . have:=hp.trail;unfold room at hr;omega
 . intro v t hvt _;rw[ew]at hvt
   have key:TyOk n S t/\(hiM ⟨p.slots,[]⟩ (p.slotD v.id).home d t []).isSome=true:=by
    rcases hvt with⟨rfl,rfl⟩|⟨rfl,rfl⟩
    . refine⟨hwb,?_⟩;obtain⟨r,hr2⟩:=k2 [];rw[htw.hiM,zez (Nat.le_trans (Nat.le_max_right f1 f2) hd) hr2];rfl
    . refine⟨hwa,?_⟩;obtain⟨r,hr2⟩:=k1 [];rw[htw.hiM,zez (Nat.le_trans (Nat.le_max_left f1 f2) hd) hr2];rfl
   have hvars:=(hs.vars hS key.1 (by omega)).2.1;exact⟨zqq hp (zm2 hs hS (by omega) hn2 key.1),by rw[hp.varsS];omega,key.2⟩
def zms(B:Nat)(p:Store)(l0:List Equation)(r:Store×Int):Prop:=∃ k p' d1,Tw r.1 p'/\∀ d,d1<=d->∀ l:List Equation,l.length+B<=7000->(r.2=0->∀ g,withinG d (g+k) p (l0++l)=withinG d g p' l)/\(r.2≠0->∀ g,withinG d (g+k) p (l0++l)=some (p',r.2))
theorem zdy{B:Nat}{p:Store}{a b:Ty}{r:Store×Int}(hp:∃ d1,∀ d,d1<=d->PairOk d p a b)(h1:(p.pairP a b).1=[])(h2:(p.pairP a b).2.1=r.2)(h3:Tw r.1 (p.pairP a b).2.2):zms B p [⟨a,b⟩] r:=by
 obtain⟨d1,hp⟩:=hp;refine⟨1,_,d1,h3,fun d hd l hl=>⟨fun e g=>?_,fun e g=>?_⟩⟩
 . show withinG d (g+1) p (⟨a,b⟩::l)=_;rw[withinG,if_pos ⟨hp d hd,by omega,by rw[h1];simp⟩,if_pos (by rw[h2];exact e),h1];rfl
 . show withinG d (g+1) p (⟨a,b⟩::l)=_;rw[withinG,if_pos ⟨hp d hd,by omega,by rw[h1];simp⟩,if_neg (by rw[h2];exact e),h2]
theorem zlZ{B:Nat}{s p:Store}(h:Tw s p):zms B p [] (s,0):=⟨0,p,0,h,fun d _ l _=>⟨fun _ g=>rfl,fun e=>absurd rfl e⟩⟩
theorem zvg{B B0 B1:Nat}{p:Store}{l0 l1:List Equation}{r:Store×Int}(h:zms B0 p l0 r){r':Store×Int}(h':∀ p',Tw r.1 p'->zms B1 p' l1 r')(h0:B0+l1.length<=B)(h1:B1<=B):zms B p (l0++l1) (if r.2=0 then r' else r):=by
 obtain⟨k,p',d1,t1,q1⟩:=h;by_cases e:r.2=0
 . rw[if_pos e];obtain⟨k2,p2,d2,t2,q2⟩:=h' p' t1;refine⟨k2+k,p2,max d1 d2,t2,fun d hd l hl=>⟨fun e' g=>?_,fun e' g=>?_⟩⟩
   . rw[List.append_assoc,<- Nat.add_assoc,(q1 d (Nat.le_trans (Nat.le_max_left _ _) hd) _ (by rw[List.length_append];omega)).1 e,(q2 d (Nat.le_trans (Nat.le_max_right _ _) hd) l (by omega)).1 e']
   . rw[List.append_assoc,<- Nat.add_assoc,(q1 d (Nat.le_trans (Nat.le_max_left _ _) hd) _ (by rw[List.length_append];omega)).1 e,(q2 d (Nat.le_trans (Nat.le_max_right _ _) hd) l (by omega)).2 e']
 . rw[if_neg e];refine⟨k,p',d1,t1,fun d hd l hl=>⟨fun e'=>absurd e' e,fun _ g=>?_⟩⟩;rw[List.append_assoc,(q1 d hd _ (by rw[List.length_append];omega)).2 e]
def nd(s:Store)(a:Ty):Nat:=s.unb*410+sz s.w16 a 200
def szs(w:Ty->Ty):List Ty->Nat
 | []=>0
 |x::l=>sz w x 200+szs w l
theorem zqB(w:Ty->Ty):∀ l:List Ty,l.length<=szs w l:=by
 intro l
 induction l with
 |nil=>exact Nat.le_refl _
 |cons x l ih=>have:=zDq (w:=w) x 200;simp only[szs,List.length_cons];omega
theorem zDp{w:Ty->Ty}{l m:List Ty}(h:Rzs w l m):szs w l<=Ty.sizes m:=by
 induction h with
 |nil=>exact Nat.le_refl _
 | cons hx _ ih =>
   rw[szs,zfT hx,Ty.sizes];omega
theorem zw3{w:Ty->Ty}{a:Ty}(h:sz w a 200<=200):szs w (w a).args+1<=sz w a 200:=by
 obtain⟨r,hr,hrs⟩:=sz_fits.1 h;obtain⟨m,h1,h2⟩:=Rz_iff.1 hr;have h3:=zDp h1;have h4:=Ty.size_eq r;have h5:r.args=m:=by rw[h2];rfl
 rw[h5]at h4;rw[zfT hr];omega
theorem zwy {d:Nat} (hS:1<=S) (hn:n*S+S<=1000) (hn2:n<=1000)
 (ih:∀ s a b p,Stay n S s a b->room n S s<=990->need s a<d->Tw s p->zms (nd s a) p [⟨a,b⟩] (zaj d s a b)) {s0:Store} {k:Nat} (hk:s0.unb*202+k<=d) :
 ∀ (l m:List Ty) (s p:Store),l.length<=200->(∀ x∈l,TyOk n S x/\x.valid=true/\sz s0.w16 x 200<k)->(∀ x∈m,TyOk n S x/\x.valid=true)->Tame n S s->AllV s->room n S s<=990->Tw s p->(s=s0\/s.unb<s0.unb) ->
   zms (s0.unb*410+szs s0.w16 l) p (List.zipWith (fun x y=>(⟨x,y⟩:Equation)) l m) (uL (zaj d) l m s):=by
 intro l
 induction l with
 |nil=>intro m s p _ _ _ _ _ _ h _;rw[uL];exact zlZ h;intro _ _ _ _ h;cases h
 | cons x l ihl =>
   intro m s p hll hl hm hs hv hr h hc
   cases m with
   |nil=>rw[uL];exact zlZ h;intro _ _ _ _ _ h;cases h
   | cons y m =>
     have hx:=hl x (List.mem_cons_self ..);have hy:=hm y (List.mem_cons_self ..);have hszx:=zjC (w:=s.w16) x 200
     have hnd:need s x<d:=by
      unfold need;rcases hc with rfl|hc
      . omega
      . have:s.unb*202+202<=s0.unb*202:=by omega
        omega
     have h1:=zcB hS (by omega) d s x y hs hx.1 hy.1 hnd;have h2:=ziL d s x y hv hx.2.1 hy.2;have h3:=ih s x y p ⟨hs,hv,hx.1,hy.1,hx.2.1,hy.2⟩ hr hnd h;have hr2:=Nat.le_trans h1.room hr;have hz1:=zqB s0.w16 l;have hzw:(List.zipWith (fun x y=>(⟨x,y⟩:Equation)) l m).length<=l.length:=by rw[List.length_zipWith];exact Nat.min_le_left _ _
     simp only[List.length_cons]at hll;rw[uL];refine zvg h3 (fun p' hp'=>ihl m _ p' (by omega) (fun z hz=>hl z (List.mem_cons_of_mem _ hz)) (fun z hz=>hm z (List.mem_cons_of_mem _ hz)) h1.tame h2 hr2 hp' ?_) ?_ ?_
     . rcases h1.less with e|h4
       . rw[e];exact hc
       . rcases hc with rfl|hc
         . exact .inr h4
         . exact .inr (Nat.lt_trans h4 hc)
     . unfold nd;rw[szs];rcases hc with rfl|hc
       . omega
       . have:s.unb*410+410<=s0.unb*410:=by omega
         omega
     . rw[szs];omega
theorem zm8 (hS:1<=S) (hn:n*S+S<=1000) (hn2:n<=1000):∀ (d:Nat) (s:Store) (a b:Ty) (p:Store),Stay n S s a b->room n S s<=990->need s a<d->Tw s p->zms (nd s a) p [⟨a,b⟩] (zaj d s a b):=by
 intro d
 induction d with
 |zero=>intro s a b p _ _ h;omega
 | succ d ih =>
   intro s a b p hst hroom hd h;have hpk:=hst.pairOk hS hn hn2 hroom h;obtain⟨hs,hv,ha,hb,va,vb⟩:=hst;have hwa:TyOk n S (s.w16 a):=hs.walkN (Nat.le_refl S) (s.slots.length+1) ha;have hwb:TyOk n S (s.w16 b):=hs.walkN (Nat.le_refl S) (s.slots.length+1) hb;have wva:(s.w16 a).valid=true:=zfc hv (s.slots.length+1) va;have wvb:(s.w16 b).valid=true:=zfc hv (s.slots.length+1) vb;have fa:=(hs.finT _ ha).walk.1;have fb:=(hs.finT _ hb).walk.1;have ew:p.w=s.w16:=by rw[h.w,hs.w_eq]
   have pa:=zrT hs h hwa fa;have pb:=zrT hs h hwb fb
   have hz:∀ c:Ty,sz s.w16 c 200<=200->s.bound (s.w16 c)=false->∃ r,Rz s.w16 (s.w16 c) r/\r.size<=200:=fun c hc hb=>by
    obtain⟨r,hr,hl⟩:=sz_fits.1 hc;obtain⟨l,h1,h2⟩:=Rz_iff.1 hr;have e:s.w16 (s.w16 c)=s.w16 c:=zcm hb _;exact⟨r,Rz_iff.2 ⟨l,by rw[e];exact h1,by rw[e];exact h2⟩,hl⟩
   have hP:p.pairP a b=(if 200<sz s.w16 a 200\/200<sz s.w16 b 200 then ([],15,p)else
    if (s.w16 a).kind=1/\(s.w16 b).kind=1/\(s.w16 a).id=(s.w16 b).id then ([],0,p)else
    if s.isSlot (s.w16 a)=true then (if s.isSlot (s.w16 b)=true then ([],0,p.joinP (s.w16 a) (s.w16 b))else ([],(p.bindP (s.w16 a).id (s.w16 b)).2,(p.bindP (s.w16 a).id (s.w16 b)).1))else
    if s.isSlot (s.w16 b)=true then ([],(p.bindP (s.w16 b).id (s.w16 a)).2,(p.bindP (s.w16 b).id (s.w16 a)).1)else
    if clash (s.w16 a) (s.w16 b)then ([],11,p)else
    (List.zipWith (fun x y=>(⟨x,y⟩:Equation)) (s.w16 a).args (s.w16 b).args,0,p)):=by
    unfold pairP;rw[ew,pa,pb]
   rw[zaj];unfold uStep;by_cases c1:200<sz s.w16 a 200\/200<sz s.w16 b 200
   . rw[if_pos c1]at hP ⊢;exact zdy hpk (by rw[hP]) (by rw[hP]) (by rw[hP];exact h)
   rw[if_neg c1]at hP ⊢;by_cases c2:s.isSlot (s.w16 a)=true
   . rw [if_pos c2]at hP ⊢;obtain⟨i,hi,e1,e1',b1,_⟩:=hs.slot hwa c2 fa;by_cases c3:s.isSlot (s.w16 b)=true
     . rw[if_pos c3]at hP ⊢;obtain⟨j,hj,e2,e2',b2,_⟩:=hs.slot hwb c3 fb;by_cases c4:(s.w16 a).kind=1/\(s.w16 b).kind=1/\(s.w16 a).id=(s.w16 b).id
       . rw[if_pos c4]at hP;refine zdy hpk (by rw[hP]) (by rw[hP]) ?_;rw[hP];show Tw (s.join _ _) p;unfold Store.join;rw[if_pos c4.2.2];exact h
       . rw[if_neg c4]at hP;refine zdy hpk (by rw[hP]) (by rw[hP]) ?_;rw[hP];show Tw (s.join _ _) (p.joinP _ _);have hij:i≠j:=fun e=>c4 ⟨by rw[e1];rfl,by rw[e2];rfl,by rw[e1',e2',e]⟩
         rw[e1,e2];exact z8C hs h hi hj hij b1 b2
     . rw[if_neg c3]at hP ⊢;have c4:¬ ((s.w16 a).kind=1/\(s.w16 b).kind=1/\(s.w16 a).id=(s.w16 b).id):=fun hh=>c3 (zqI hs hwb hh.2.1)
       rw[if_neg c4]at hP;have key:=zvy hs hv h hS (by omega) hi b1 hwb wvb (hz b (by omega) fb);rw[e1']at hP ⊢;exact zdy hpk (by rw[hP]) (by rw[hP];exact key.2) (by rw[hP];exact key.1)
   . rw [if_neg c2]at hP ⊢;have c4:¬ ((s.w16 a).kind=1/\(s.w16 b).kind=1/\(s.w16 a).id=(s.w16 b).id):=fun hh=>c2 (zqI hs hwa hh.1)
     rw[if_neg c4]at hP;by_cases c3:s.isSlot (s.w16 b)=true
     . rw[if_pos c3]at hP ⊢;obtain⟨j,hj,e2,e2',b2,_⟩:=hs.slot hwb c3 fb;have key:=zvy hs hv h hS (by omega) hj b2 hwa wva (hz a (by omega) fa);rw[e2']at hP ⊢;exact zdy hpk (by rw[hP]) (by rw[hP];exact key.2) (by rw[hP];exact key.1)
     . rw [if_neg c3]at hP ⊢;by_cases c5:clash (s.w16 a) (s.w16 b)
       . rw[if_pos c5]at hP ⊢;exact zdy hpk (by rw[hP]) (by rw[hP]) (by rw[hP];exact h)
       . rw[if_neg c5]at hP ⊢;unfold need at hd;have hza:=zw3 (w:=s.w16) (a:=a) (by omega);have hzl:=zqB s.w16 (s.w16 a).args;have hal:(s.w16 a).args.length<=200:=by omega
         obtain⟨k,p',d1,t1,h1⟩:=zwy hS hn hn2 ih (s0:=s) (k:=sz s.w16 a 200) (by omega) (s.w16 a).args (s.w16 b).args s p hal
          (fun x hx=>⟨hwa.arg hx,Ty.valid_args wva x hx,zgX (by omega) x hx⟩) (fun x hx=>⟨hwb.arg hx,Ty.valid_args wvb x hx⟩) hs hv hroom h (.inl rfl)
         obtain⟨d2,hpk⟩:=hpk;have hzw:(List.zipWith (fun x y=>(⟨x,y⟩:Equation)) (s.w16 a).args (s.w16 b).args).length<=1000:=by rw[List.length_zipWith];omega
         refine⟨k+1,p',max d1 d2,t1,fun dd hdd l hl=>?_⟩;unfold nd at hl;have g1:=h1 dd (Nat.le_trans (Nat.le_max_left _ _) hdd) l (by omega);have g2:=hpk dd (Nat.le_trans (Nat.le_max_right _ _) hdd);refine⟨fun e g=>?_,fun e g=>?_⟩
         . show withinG dd (g+k+1) p (⟨a,b⟩::l)=_;rw[withinG,if_pos ⟨g2,by omega,by rw[hP];exact hzw⟩,if_pos (by rw[hP]),hP];exact g1.1 e g
         . show withinG dd (g+k+1) p (⟨a,b⟩::l)=_;rw[withinG,if_pos ⟨g2,by omega,by rw[hP];exact hzw⟩,if_pos (by rw[hP]),hP];exact g1.2 e g
end
def zRM(s:Store)(a b:Ty)(r:Store×Int):Prop:=∃ d f,withinG d f s [⟨a,b⟩]=some r
theorem z7q{n S:Nat}(hS:1<=S)(hn:n*S+S<=1000)(hn2:n<=16){s:Store}{a b:Ty}(h:Stay n S s a b)(hr:room n S s<=990):∃ r,zRM s a b r/\r.2=(topM s a b).2/\(r.2=0->Tw (topM s a b).1 r.1):=by
 have hu:s.unb<=n:=by rw[<- h.tame.len];exact List.countP_le_length
 obtain⟨k,p',d1,t1,h1⟩:=zm8 hS hn (by omega) 300000 s a b s h hr (zkd (by rw[h.tame.len];omega) a) (.refl s);have hsz:=zjC (w:=s.w16) a 200;have h1:=h1 d1 (Nat.le_refl _) [] (by unfold nd;simp only[List.length_nil];omega);have hT:topM s a b=if (zaj 300000 s a b).2=0 then ((zaj 300000 s a b).1,0)else (s,(zaj 300000 s a b).2):=rfl
 by_cases e:(zaj 300000 s a b).2=0
 . rw[if_pos e]at hT;refine⟨(p',0),⟨d1,1+k,?_⟩,by rw[hT],fun _=>by rw[hT];exact t1⟩;have:=h1.1 e 1;rw[List.append_nil]at this;rw[this,withinG]
 . rw[if_neg e]at hT;refine⟨(p',(zaj 300000 s a b).2),⟨d1,0+k,?_⟩,by rw[hT],fun e'=>absurd e' e⟩;have:=h1.2 e 0;rw[List.append_nil]at this;exact this
end Store
end Go.J
/- The program's unification: what it is taken for. -/
set_option maxRecDepth 100000
namespace Go.J
open Enc (enc)
namespace Store
theorem zp9(s:Store)(a b:Ty):∃ m,Grow s (s.pairP a b).2.2 m:=by
 unfold pairP;split
 . exact⟨0,.refl _ _⟩
 split
 . exact⟨0,.refl _ _⟩
 split
 . split
   . exact⟨_,grow_join _ _ _⟩
   . exact⟨_,grow_bind _ _ _⟩
 split
 . exact⟨_,grow_bind _ _ _⟩
 split
 . exact⟨0,.refl _ _⟩
 . exact⟨0,.refl _ _⟩
theorem grow_within (d:Nat):∀ (f:Nat) {s:Store} {l:List Equation} {r:Store×Int},withinG d f s l=some r->∃ m,Grow s r.1 m:=by
 intro f
 induction f with
 |zero=>intro s l r h;cases h
 | succ f ih =>
   intro s l r h
   cases l with
   |nil=>rw[withinG]at h;cases h;exact⟨0,.refl _ _⟩
   | cons e l =>
     rw[withinG]at h;split at h
     . obtain⟨m,hm⟩:=zp9 s e.left e.right;split at h
       . obtain⟨m2,hm2⟩:=ih h;exact⟨_,hm.trans hm2⟩
       . cases h;exact⟨m,hm⟩
     . cases h
theorem znh (d:Nat):∀ (f:Nat) {s:Store} {l:List Equation} {r:Store×Int},(∀ c∈s.trail,0<=c.id/\c.id<s.slots.length)->withinG d f s l=some r->∀ c∈r.1.trail,0<=c.id/\c.id<r.1.slots.length:=by
 intro f
 induction f with
 |zero=>intro s l r _ h;cases h
 | succ f ih =>
   intro s l r hs h
   cases l with
   |nil=>rw[withinG]at h;cases h;exact hs
   | cons e l =>
     rw[withinG]at h;split at h
     . split at h
       . exact ih (zon hs) h
       . cases h;exact zon hs
     . cases h
structure UniT(s:Store)(a b:Ty)(r:Store×Int):Prop where
 run:zRM s a b r
 err:r.2=(topM s a b).2
 tw:r.2=0->Tw (topM s a b).1 r.1
open Classical in
def uniF(s:Store)(a b:Ty):Option (Store×Int):=if h:(s.slots≠[]/\s.slots.length<=1000/\s.trail.length<=1000)/\∃ r,UniT s a b r then some (if h.2.choose.2=0 then h.2.choose.1 else s,h.2.choose.2)else none
theorem uniF_inv{s:Store}{a b:Ty}{q:Store×Int}(h:uniF s a b=some q):s.slots≠[]/\s.slots.length<=1000/\s.trail.length<=1000/\∃ r,UniT s a b r/\q=(if r.2=0 then r.1 else s,r.2):=by
 unfold uniF at h;split at h
 . rename_i hh;cases h;exact⟨hh.1.1,hh.1.2.1,hh.1.2.2,hh.2.choose,hh.2.choose_spec,rfl⟩
 . cases h
theorem z7s{n S:Nat}(hS:1<=S)(hn:n*S+S<=1000)(hn1:1<=n)(hn2:n<=16){s:Store}{a b:Ty}(h:Stay n S s a b)(hr:room n S s<=990)(hids:∀ c∈s.trail,0<=c.id/\c.id<s.slots.length) :
 ∃ x,uniF s a b=some (x,(topM s a b).2)/\x.slots=(topM s a b).1.slots/\∀ c∈x.trail,0<=c.id/\c.id<x.slots.length:=by
 obtain⟨r,h1,h2,h3⟩:=z7q hS hn hn2 h hr;have hl:=h.tame.len
 have hh:(s.slots≠[]/\s.slots.length<=1000/\s.trail.length<=1000)/\∃ r,UniT s a b r:=by
  refine⟨⟨fun e=>by rw[e]at hl;simp at hl;omega,by omega,?_⟩,r,h1,h2,h3⟩;unfold room at hr;omega
 have ht:(topM s a b).2≠0->(topM s a b).1=s:=by
  unfold topM;split
  . intro e;exact absurd rfl e
  . intro _;rfl
 obtain⟨r2,hr2⟩:∃ r2,hh.2.choose=r2:=⟨_,rfl⟩;have hT:=hh.2.choose_spec;rw[hr2]at hT
 have hU:uniF s a b=some (if r2.2=0 then r2.1 else s,r2.2):=by
  unfold uniF;rw[dif_pos hh,hr2]
 by_cases e:r2.2=0
 . rw[if_pos e]at hU;refine⟨r2.1,by rw[hU,hT.err],(hT.tw e).slots,?_⟩;obtain⟨d,f,hf⟩:=hT.run;exact znh d f hids hf
 . rw[if_neg e]at hU;refine⟨s,by rw[hU,hT.err],?_,hids⟩;rw[ht (by rw[<- hT.err];exact e)]
end Store
def zej(es:List (List V))(sz:Nat)(tg:Bool):EmbD where
 k:=0
 k':=1
 π:=fun i=>i
 OL:=[]
 OL':=[(0,.arr sz 0 es false false true)]
 vs0:=[.sl es tg]
 v0:=.own 0 0 0 es.length none
def zju(sz:Nat)(vs:List V)(hs:HS):Option EmbD:=match vs with
 | [.sl es tg]=>gd (et (nt (Nat.beq (zS es) 0)) (et (Nat.ble (zS es) 1000) (et (es.all fun e=>et (Nat.beq (zS e) sz) (e.all V.pure2)) (et (zY es) (zZ hs hs.n))))) (some (zej es sz tg))
 |_=>none
theorem zpP{sz:Nat}{vs:List V}{hs:HS}{D:EmbD}(h:zju sz vs hs=some D):∃ es tg,es≠[]/\es.length<=1000/\(∀ e∈es,e.length=sz/\e.all V.pure2=true)/\zY es=true/\D=zej es sz tg/\D.Good/\D.Fits vs hs:=by
 unfold zju at h;split at h
 . rename_i es tg;simp only[z8,et_true,zaB,beq_false,ble_true,zO,vacant_eq]at h;obtain⟨⟨h1,h2,h3,h6,h4⟩,h⟩:=h;cases h
   have h5:∀ e∈es,e.length=sz/\e.all V.pure2=true:=fun e he=>by
    have:=List.all_eq_true.1 h3 e he;simp only[et_true,beq_true,zO]at this;exact this
   refine⟨es,tg,fun e=>h1 (by rw[e];rfl),h2,h5,h6,rfl,⟨rfl,rfl,Nat.zero_le _,(fun p hp=>by cases hp),fun p hp=>?_,rfl,fun v hv=>?_⟩,rfl,fun i j hi=>?_,(fun p hp=>by cases hp),fun i hi=>?_,fun i hi=>?_⟩
   . simp only[zej,List.mem_singleton]at hp;subst hp;exact⟨List.all_eq_true.2 fun e he=>(h5 e he).2,rfl⟩
   . simp only[zej,List.mem_singleton]at hv;subst hv;rfl
   . simp only[zej]at hi;omega
   . simp only[zej]at hi;have:i=0:=by omega
     subst this;exact h4
   . simp only[zej]at hi;omega
 . cases h
section
variable {es:List (List V)}{sz:Nat}{tg:Bool}{hs:HS}
@[simp] theorem zBX:(zej es sz tg).val hs=.own hs.n 0 0 es.length none:=(rfl)
theorem zny(h:∀ e∈es,e.all V.pure2=true):(zej es sz tg).heap hs={ H:=hs.H.set hs.n (.arr sz 0 es false false true),n:=hs.n+1,log:=hs.n::hs.log }:=by
 have e1:(es.map fun e=>e.map (V.ren2 (news hs.n 0 fun i=>i)))=es:=zeS fun e he v hv=>V.ren2_pure (List.all_eq_true.1 (h e he) v hv)
 show ({ H:=hs.H.set (news hs.n 0 (fun i=>i) 0) (.arr sz 0 (es.map fun e=>e.map (V.ren2 (news hs.n 0 fun i=>i))) false false true),n:=hs.n+1,log:=[news hs.n 0 (fun i=>i) 0]++hs.log }:HS)=_;rw[e1];rfl
@[simp] theorem zJR:zju sz [.sl es tg] hs=gd (et (nt (Nat.beq (zS es) 0)) (et (Nat.ble (zS es) 1000) (et (es.all fun e=>et (Nat.beq (zS e) sz) (e.all V.pure2)) (et (zY es) (zZ hs hs.n))))) (some (zej es sz tg)):=(rfl)
end
def zpQ(vs:List V):Option V:=match vs with
 | [.sl es _]=>gd (sizes 10 es) (some (.sl es true))
 |_=>none
@[simp] theorem zNm {es:List (List V)} {t:Bool}:zpQ [.sl es t]=gd (sizes 10 es) (some (.sl es true)):=(rfl)
theorem zvn{vs:List V}{v:V}(h:zpQ vs=some v):∃ es t,vs=[.sl es t]/\sizes 10 es=true/\v=.sl es true:=by
 unfold zpQ at h;split at h
 . simp only[z8]at h;obtain⟨h1,h⟩:=h;cases h;exact⟨_,_,rfl,h1,rfl⟩
 . cases h
end Go.J
/- What the laws on unification in a store make. -/
set_option maxRecDepth 100000
namespace Go.J
open Enc (enc)
namespace Store
def lv17(n:Nat):List Ty:=zaO n++[zax 0 0,zax 2 0,zcn 0]
def made17 (t:Tp) (D:List Decl):Store×Ty×Ty×Tp :=
 ((storeM t D).2,(typeM 2 (storeM t D).1 D (lv17 (storeM t D).2.slots.length)).2,
   (typeM 2 (typeM 2 (storeM t D).1 D (lv17 (storeM t D).2.slots.length)).1 D (lv17 (storeM t D).2.slots.length)).2,
   (typeM 2 (typeM 2 (storeM t D).1 D (lv17 (storeM t D).2.slots.length)).1 D (lv17 (storeM t D).2.slots.length)).1)
theorem zmC{t:Tp}(ht:t.ok){D:List Decl}(hD:zvJ D):room (storeN t) 7 (storeM t D).2<=990:=by
 have hn:=storeN_le t;obtain⟨f1,f2,f3⟩:=frM_ok (zbb ht 5) (storeN t);have hr:=f3.room (S:=7)
 have hr':room (storeN t) 7 (frM (t.next 5).1 (storeN t)).2<=990:=by
  have:(storeN t*7+7+2)*storeN t<=44*5:=Nat.mul_le_mul (by omega) hn.2;omega
 exact(unM_ok (n:=storeN t) hD (zbb f1 4) (by omega) (by omega) f3.tame hr' ((frM (t.next 5).1 (storeN t)).1.next 4).2.toNat).2.2.2
theorem zp4{n:Nat}{i:Int}:Leaf n (zcn i):=.inr ⟨by show (2:Int)≠1;decide,rfl,by simp[zcn,Ty.vplain,Ty.vplains]⟩
theorem zlz{n:Nat}:∀ u∈lv17 n,Leaf n u:=zeV zdY fun u hu=>by
 simp only[List.mem_cons,List.not_mem_nil,or_false]at hu;rcases hu with rfl|rfl|rfl
 . exact zex
 . exact zex
 . exact zp4
theorem zjd{n:Nat}(hn:n<=1000):∀ u∈lv17 n,u.valid=true:=fun u hu=>by
 rcases List.mem_append.1 hu with hu|hu
 . exact zeK (by omega) u hu
 . simp only[List.mem_cons,List.not_mem_nil,or_false]at hu;rcases hu with rfl|rfl|rfl<;>rfl
structure M17(n:Nat)(s:Store)(a b:Ty):Prop where
 low:1<=n
 high:n<=5
 stay:Stay n 7 s a b
 room:room n 7 s<=990
 ids:∀ c∈s.trail,0<=c.id/\c.id<s.slots.length
theorem made17_ok{t:Tp}(ht:t.ok){D:List Decl}(hD:zvJ D)(hD4:zHo D){s:Store}{a b:Ty}{t2:Tp}(h:made17 t D=(s,a,b,t2)):∃ n,M17 n s a b:=by
 obtain⟨s1,s2,s3,s4⟩:=storeM_ok ht hD;have s5:=zpd t hD4;have s6:=storeN_le t;have s7:=zmC ht hD;have s8:∀ c∈(storeM t D).2.trail,0<=c.id/\c.id<(storeM t D).2.slots.length:=fun c hc=>⟨(zlN t D).ids (fun c hc=>by cases hc) c hc,(zlN t D).lt (fun c hc=>by cases hc) c hc⟩
 unfold made17 at h;simp only[Prod.mk.injEq]at h;obtain⟨h1,h2,h3,h4⟩:=h;have hlen:=s3.len;rw[h1]at h2 h3 s3 s5 s7 s8 hlen;rw[hlen]at h2 h3;refine⟨storeN t,s6.1,s6.2,⟨s3,s5,?_,?_,?_,?_⟩,s7,?_⟩
 . rw[<- h2];exact zcC hD zlz 2 _ (S:=7) (by decide)
 . rw[<- h3];exact zcC hD zlz 2 _ (S:=7) (by decide)
 . rw[<- h2];exact zd2 hD4 (zjd (by omega)) 2 _
 . rw[<- h3];exact zd2 hD4 (zjd (by omega)) 2 _
 . exact s8
theorem zk4{x y:Store}(h:x.slots=y.slots):x.w16=y.w16:=by
 have h1:Tw x ⟨x.slots,[]⟩:=⟨rfl,Nat.zero_le _⟩;have h2:Tw y ⟨x.slots,[]⟩:=⟨h,Nat.zero_le _⟩;rw[<- h1.w16,h2.w16]
theorem M17.uni0{n:Nat}{s:Store}{a b:Ty}(h:M17 n s a b):∃ x,uniF s a b=some (x,(topM s a b).2)/\x.slots=(topM s a b).1.slots/\(∀ c∈x.trail,0<=c.id/\c.id<x.slots.length)/\x.tysOk:=by
 have hh:=h.high;obtain⟨x,h1,h2,h3⟩:=z7s (n:=n) (S:=7) (by omega) (by omega) h.low (by omega) h.stay h.room h.ids;have ht:=(zjB (n:=n) (S:=7) (by omega) (by omega) (by omega) h.stay.tame h.stay.left h.stay.right).tame;refine⟨x,h1,h2,h3,?_⟩;have:=ht.tysOk (by omega);unfold tysOk at this ⊢;rw[h2];exact this
end Store
end Go.J
