import Derived.Test.YtocdkgjpdnamlaaGreatJZ
import Derived.Test.YtocdkgjpdnamlaaGreatJS
import Derived.Test.YtocdkgjpdnamlaaGreatJPx
import Derived.Test.YtocdkgjpdnamlaaGreatJK
import Derived.Test.YtocdkgjpdnamlaaGreatJI
set_option linter.all false
noncomputable section
/- Methods on a store that is written: what lies in their caller's objects. -/
namespace Go.J
open Enc (enc)
theorem fA.BL{D:fA}{vs:List V}{hs:HS}(ids:List Nat)(hk:D.k=ids.length)(hπ:D.π=fun i=>ids.getD i 0)(hnd:nodupB ids=true)(hlt:ids.all (fun x=>Nat.blt x hs.n)=true)(ha:D.vs0.map (V.ren D.π)=vs)(ho:∀ p∈D.OL,hs.H.get (D.π p.1)=some (p.2.ren D.π))
 (hk':D.k'<=D.k+1) (hv:hs.H.get hs.n=none):D.Fits vs hs:=by
 refine⟨ha,fun i j hi hj e=>?_,ho,fun i hi=>?_,fun i hi=>?_⟩
 . rw[hk]at hi hj;rw[hπ]at e;exact Rt hnd hi hj e
 . have:i=0:=by omega
   subst this;exact hv
 . rw[hk]at hi;rw[hπ];simp only;rw[getD_lt hi];exact dO.1 (List.all_eq_true.1 hlt _ (List.getElem_mem hi))
def zl6(r:Nat)(tr:List Change)(g:Option Nat):V:=match g with
 |none=>.sl (tr.map aV) true
 |some g=>.own r g 0 tr.length none
def Fv(tr:List Change)(g:Nat):Obj:=.arr 10 g (tr.map aV) false false true
def zbC(r:Nat)(tr:List Change)(g:Option Nat):List (Nat×Obj):=match g with
 |none=>[]
 |some g=>[(r,Fv tr g)]
def gN (g:Option Nat) (m:Nat):Option Nat:=match m with
 | 0=>g
 | m+1=>some (match g with
   |none=>m
   |some g=>g+m+1)
def sW(sl:List Slot):Obj:=.arr 8 0 (sl.map aX) false false true
def uB(sl:List Slot)(tr:List Change)(g:Option Nat)(r:Nat):Obj:=.arr 2 0 [[.own 2 0 0 sl.length none,zl6 r tr g]] true false false
section
variable {r:Nat}{tr:List Change}{g m:Nat}{sl:List Slot}{G:Option Nat}
@[simp] theorem zA1:zl6 r tr none=.sl (tr.map aV) true:=(rfl)
@[simp] theorem zA0:zl6 r tr (some g)=.own r g 0 tr.length none:=(rfl)
@[simp] theorem j4:zbC r tr none=[]:=(rfl)
@[simp] theorem pq:zbC r tr (some g)=[(r,.arr 10 g (tr.map aV) false false true)]:=(rfl)
@[simp] theorem zIc:gN G 0=G:=(rfl)
@[simp] theorem UD:gN none (m+1)=some m:=(rfl)
@[simp] theorem zId:gN (some g) (m+1)=some (g+m+1):=(rfl)
@[simp] theorem zOa:sW sl=.arr 8 0 (sl.map aX) false false true:=(rfl)
@[simp] theorem zP5:uB sl tr G r=.arr 2 0 [[.own 2 0 0 sl.length none,zl6 r tr G]] true false false:=(rfl)
end
def zU (hs:HS) (v:V):Option (Nat×List Slot):=match v with
 | .own c 0 0 n none=>ob (hs.H.get c) fun o=>(match o with
   |.arr 8 0 es false false true=>gd (Nat.beq n (aN es)) (ob (bQ es:Option (List Slot)) fun sl=>some (c,sl))
   |_=>none)
 |_=>none
theorem wU{hs:HS}{v:V}{q:Nat×List Slot}(h:zU hs v=some q):v=.own q.1 0 0 q.2.length none/\hs.H.get q.1=some (sW q.2):=by
 unfold zU at h;split at h
 . simp only[af]at h;obtain⟨o,ho,h⟩:=h;split at h
   . simp only[aD,af,beq_true,bJ]at h;obtain⟨rfl,sl,hsl,h⟩:=h;cases h;have:=eZ hsl;subst this;exact⟨by simp,ho⟩
   . cases h
 . cases h
theorem zbX{hs:HS}{c n:Nat}:zU hs (.own c 0 0 n none)=ob (hs.H.get c) fun o=>(match o with
 |.arr 8 0 es false false true=>gd (Nat.beq n (aN es)) (ob (bQ es:Option (List Slot)) fun sl=>some (c,sl))
 |_=>none):=rfl
@[simp] theorem ztw {hs:HS} {c n:Nat} {sl:List Slot} (h:hs.H.get c=some (.arr 8 0 (sl.map aX) false false true)) (hn:n=sl.length):zU hs (.own c 0 0 n none)=some (c,sl):=by
  rw[zbX,h,hn];show gd (Nat.beq sl.length (aN (sl.map aX))) (ob (bQ (sl.map aX):Option (List Slot)) fun sl=>some (c,sl))=_;rw[Ku,bJ,List.length_map,beq_true.2 rfl];rfl
def yV (hs:HS) (v:V):Option (Nat×List Change×Option Nat):=match v with
 |.sl es true=>ob (bQ es:Option (List Change)) fun tr=>some (0,tr,none)
 | .own d g 0 n none=>ob (hs.H.get d) fun o=>(match o with
   |.arr 10 g' es false false true=>gd (et (Nat.beq g' g) (Nat.beq n (aN es))) (ob (bQ es:Option (List Change)) fun tr=>some (d,tr,some g))
   |_=>none)
 |_=>none
theorem wP{hs:HS}{v:V}{q:Nat×List Change×Option Nat}(h:yV hs v=some q):v=zl6 q.1 q.2.1 q.2.2/\∀ g,q.2.2=some g->hs.H.get q.1=some (Fv q.2.1 g):=by
 unfold yV at h;split at h
 . simp only[af]at h;obtain⟨tr,ht,h⟩:=h;cases h;have:=eZ ht;subst this;exact⟨rfl,fun g h=>by cases h⟩
 . simp only[af]at h;obtain⟨o,ho,h⟩:=h;split at h
   . simp only[aD,af,bA,beq_true,bJ]at h;obtain⟨⟨rfl,rfl⟩,tr,ht,h⟩:=h;cases h;have:=eZ ht;subst this;exact⟨by simp,fun g h=>by cases h;exact ho⟩
   . cases h
 . cases h
theorem zbB{hs:HS}{d g n:Nat}:yV hs (.own d g 0 n none)=ob (hs.H.get d) fun o=>(match o with
 |.arr 10 g' es false false true=>gd (et (Nat.beq g' g) (Nat.beq n (aN es))) (ob (bQ es:Option (List Change)) fun tr=>some (d,tr,some g))
 |_=>none):=rfl
@[simp] theorem zGk {hs:HS} {tr:List Change}:yV hs (.sl (tr.map aV) true)=some (0,tr,none):=by
  show ob (bQ (tr.map aV):Option (List Change)) (fun tr=>some (0,tr,none))=_;rw[xO];rfl
@[simp] theorem ztg {hs:HS} {d g n:Nat} {tr:List Change} (h:hs.H.get d=some (.arr 10 g (tr.map aV) false false true)) (hn:n=tr.length):yV hs (.own d g 0 n none)=some (d,tr,some g):=by
  rw[zbB,h,hn];show gd (et (Nat.beq g g) (Nat.beq tr.length (aN (tr.map aV)))) (ob (bQ (tr.map aV):Option (List Change)) fun tr=>some (d,tr,some g))=_;rw[xO,bJ,List.length_map,beq_true.2 rfl,beq_true.2 rfl];rfl
def zt(g:Option Nat)(d:Nat):List Nat:=match g with
 |none=>[]
 |some _=>[d]
@[simp] theorem zAY {d:Nat}:zt none d=[]:=(rfl)
@[simp] theorem zAX {g d:Nat}:zt (some g) d=[d]:=(rfl)
def uK(g:Option Nat)(k:Nat):Nat:=match g with
 |none=>k
 |some _=>k+1
@[simp] theorem zGj {k:Nat}:uK none k=k:=(rfl)
@[simp] theorem zGi {g k:Nat}:uK (some g) k=k+1:=(rfl)
theorem lY{sl:List Slot}{π:Nat->Nat}:(sW sl).ren π=sW sl:=by
 show Obj.arr _ _ ((sl.map aX).map fun e=>e.map (V.iy π)) _ _ _=_;rw[Eb (Aa sl)];rfl
theorem oZ{tr:List Change}{g:Nat}{π:Nat->Nat}:(Fv tr g).ren π=Fv tr g:=by
 show Obj.arr _ _ ((tr.map aV).map fun e=>e.map (V.iy π)) _ _ _=_;rw[Eb (vK tr)];rfl
theorem uj{sl:List Slot}{A:Nat->Bool}:(sW sl).in A=true:=Aa sl
theorem FV{tr:List Change}{g:Nat}{A:Nat->Bool}:(Fv tr g).in A=true:=vK tr
def aH(sl:List Slot)(tr:List Change)(g:Option Nat):List (Nat×Obj):=[(0,dn (.ptr 1 0 0)),(1,uB sl tr g 3),(2,sW sl)]++zbC 3 tr g
def YS(args:List V)(sl sl':List Slot)(tr wM:List Change)(g g':Option Nat)(r:V)(a b c d:Nat):fA where
 k:=uK g 3
 k':=uK g' 3
 π:=fun i=>([a,b,c]++zt g d).getD i 0
 OL:=aH sl tr g
 OL':=aH sl' wM g'
 vs0:=.ptr 0 0 0::args
 v0:=r
def xe(v:V):Option Nat:=match v with
 |.ptr b 0 0=>some b
 |_=>none
theorem yC{v:V}{b:Nat}(h:xe v=some b):v=.ptr b 0 0:=by
 unfold xe at h;split at h
 . cases h;rfl
 . cases h
@[simp] theorem zGR {b:Nat}:xe (.ptr b 0 0)=some b:=(rfl)
def wT(o:Obj):Option (V×V):=match o with
 |.arr 2 0 [[x,y]] true false false=>some (x,y)
 |_=>none
theorem yw{o:Obj}{q:V×V}(h:wT o=some q):o=.arr 2 0 [[q.1,q.2]] true false false:=by
 unfold wT at h;split at h
 . cases h;rfl
 . cases h
@[simp] theorem zGt {x y:V}:wT (.arr 2 0 [[x,y]] true false false)=some (x,y):=(rfl)
def sO (F:List Slot->List Change->List V->Option (V×List Slot×List Change)) (vs:List V) (hs:HS):Option fA:=match vs with
 |.ptr a 0 0::args=>ob (hs.H.get a) fun oa=>ob (capB? oa) fun va=>ob (xe va) fun b=>ob (hs.H.get b) fun o=>ob (wT o) fun q=>ob (zU hs q.1) fun s=>ob (yV hs q.2) fun t=>ob (F s.2 t.2.1 args) fun r =>
  gd (et (nodupB ([a,b,s.1]++zt t.2.2 t.1)) (et (([a,b,s.1]++zt t.2.2 t.1).all fun x=>Nat.blt x hs.n) (et (aR args) (et (r.1.nk fun _=>false) (cB hs hs.n)))))
   (some (YS args s.2 r.2.1 t.2.1 (t.2.1++r.2.2) t.2.2 (gN t.2.2 r.2.2.length) r.1 a b s.1 t.1))
 |_=>none
theorem Nr{sl:List Slot}{tr:List Change}{g:Option Nat}:(aH sl tr g).map Prod.fst=List.range (uK g 3):=by cases g<;>rfl
theorem Te{sl:List Slot}{tr:List Change}{g:Option Nat}:∀ p∈aH sl tr g,p.2.in (dom (aH sl tr g))=true/\p.2.fz=false:=by
 intro p hp
 cases g with
 | none =>
   simp only[aH,j4,List.append_nil,List.mem_cons,List.not_mem_nil,or_false]at hp ⊢;rcases hp with rfl|rfl|rfl
   . exact⟨rfl,rfl⟩
   . exact⟨rfl,rfl⟩
   . exact⟨uj,rfl⟩
 | some g =>
   simp only[aH,pq,List.cons_append,List.nil_append,List.mem_cons,List.not_mem_nil,or_false]at hp ⊢;rcases hp with rfl|rfl|rfl|rfl
   . exact⟨rfl,rfl⟩
   . exact⟨rfl,rfl⟩
   . exact⟨uj,rfl⟩
   . exact⟨FV,rfl⟩
theorem UE{g:Option Nat}{m k:Nat}:uK g k<=uK (gN g m) k/\uK (gN g m) k<=uK g k+1:=by
 cases g<;>cases m<;>simp
theorem zbt{args:List V}{sl sl':List Slot}{tr wM:List Change}{g:Option Nat}{m:Nat}{r:V}{a b c d:Nat}(ha:aR args=true)(hr:(r.nk fun _=>false)=true):(YS args sl sl' tr wM g (gN g m) r a b c d).Good:=by
 refine⟨Nr,Nr,UE.1,fun p hp=>(Te p hp).1,Te,V.Ha (fun _ h=>by cases h) hr,?_⟩;intro v hv;rcases List.mem_cons.1 hv with rfl|hv
 . cases g<;>rfl
 . exact V.eO (gP ha v hv)
theorem F9{args:List V}(ha:aR args=true)(π:Nat->Nat):args.map (V.ren π)=args :=
 (List.map_congr_left (g:=id) fun v hv=>V.jy (V.eO (gP ha v hv))).trans (by simp)
theorem yf {F:List Slot->List Change->List V->Option (V×List Slot×List Change)} {vs:List V} {hs:HS} {D:fA} (h:sO F vs hs=some D) :
 ∃ args sl tr g r sl' ex a b c d,F sl tr args=some (r,sl',ex)/\D=YS args sl sl' tr (tr++ex) g (gN g ex.length) r a b c d/\aR args=true/\(r.nk fun _=>false)=true/\D.Good/\D.Fits vs hs:=by
 unfold sO at h;split at h
 . rename_i a args;simp only[af,aD,bA,ae]at h;obtain⟨oa,hoa,va,hva,b,hb,o,ho,q,hq,s,hs1,t,ht,⟨r,sl',ex⟩,hr,⟨h1,h2,h3,h4,h5⟩,h⟩:=h;cases h;have e1:=nN hva;have e2:=yC hb;have e3:=yw hq;obtain⟨e4,g4⟩:=wU hs1;obtain⟨e5,g5⟩:=wP ht;obtain⟨c,sl⟩:=s;obtain⟨d,tr,g⟩:=t;obtain⟨x,y⟩:=q;simp only at e4 e5 g4 g5 h1 h2 hr h4;subst e4 e5 e2 e1 e3;refine⟨args,sl,tr,g,r,sl',ex,a,b,c,d,hr,rfl,h3,h4,zbt h3 h4,?_⟩;refine fA.BL ([a,b,c]++zt g d) (by cases g<;>rfl) rfl h1 h2 ?_ ?_ UE.2 h5
   . show (V.ptr 0 0 0::args).map (V.ren _)=_;rw[List.map_cons,F9 h3];rfl
   . intro p hp
     cases g with
     | none =>
       simp only[YS,aH,j4,List.append_nil,List.mem_cons,List.not_mem_nil,or_false]at hp;rcases hp with rfl|rfl|rfl
       . exact hoa
       . exact ho
       . show hs.H.get c=_;rw[g4];exact congrArg some lY.symm
     | some g =>
       simp only[YS,aH,pq,List.cons_append,List.nil_append,List.mem_cons,List.not_mem_nil,or_false]at hp;rcases hp with rfl|rfl|rfl|rfl
       . exact hoa
       . exact ho
       . show hs.H.get c=_;rw[g4];exact congrArg some lY.symm
       . show hs.H.get d=_;rw[g5 g rfl];exact congrArg some oZ.symm
 . cases h
section
variable {F:List Slot->List Change->List V->Option (V×List Slot×List Change)}{args:List V}{sl sl':List Slot}{tr wM:List Change}{g g':Nat}{r:V}{a b c d:Nat}{hs:HS}{G G':Option Nat}
@[simp] theorem zNS:sO F (.ptr a 0 0::args) hs=ob (hs.H.get a) fun oa=>ob (capB? oa) fun va=>ob (xe va) fun b=>ob (hs.H.get b) fun o=>ob (wT o) fun q=>ob (zU hs q.1) fun s=>ob (yV hs q.2) fun t=>ob (F s.2 t.2.1 args) fun r =>
      gd (et (nodupB ([a,b,s.1]++zt t.2.2 t.1)) (et (([a,b,s.1]++zt t.2.2 t.1).all fun x=>Nat.blt x hs.n) (et (aR args) (et (r.1.nk fun _=>false) (cB hs hs.n)))))
       (some (YS args s.2 r.2.1 t.2.1 (t.2.1++r.2.2) t.2.2 (gN t.2.2 r.2.2.length) r.1 a b s.1 t.1)):=(rfl)
@[simp] theorem zJE:(YS args sl sl' tr wM G G' r a b c d).v0=r:=(rfl)
@[simp] theorem zAN:(YS args sl sl' tr wM G G' (.tuple []) a b c d).val hs=.tuple []:=(rfl)
@[simp] theorem zAP {e:Int}:(YS args sl sl' tr wM G G' (.int .i64 e) a b c d).val hs=.int .i64 e:=(rfl)
@[simp] theorem zs6:(YS args sl sl' tr wM none none r a b c d).heap hs={ H:=((hs.H.set c (sW sl')).set b (.arr 2 0 [[.own c 0 0 sl'.length none,.sl (wM.map aV) true]] true false false)).set a (dn (.ptr b 0 0)),n:=hs.n,log:=a::b::c::hs.log }:=by
  show ({ H:=((hs.H.set c ((sW sl').ren _)).set b _).set a _,n:=hs.n+0,log:=_ }:HS)=_;rw[lY];rfl
@[simp] theorem zs5:(YS args sl sl' tr wM none (some g') r a b c d).heap hs={ H:=(((hs.H.set hs.n (Fv wM g')).set c (sW sl')).set b (.arr 2 0 [[.own c 0 0 sl'.length none,.own hs.n g' 0 wM.length none]] true false false)).set a (dn (.ptr b 0 0)),n:=hs.n+1,log:=a::b::c::hs.n::hs.log }:=by
  show ({ H:=(((hs.H.set (hs.n+0) ((Fv wM g').ren _)).set c ((sW sl').ren _)).set b _).set a _,n:=hs.n+1,log:=_ }:HS)=_;rw[lY,oZ];rfl
@[simp] theorem zs4:(YS args sl sl' tr wM (some g) (some g') r a b c d).heap hs={ H:=(((hs.H.set d (Fv wM g')).set c (sW sl')).set b (.arr 2 0 [[.own c 0 0 sl'.length none,.own d g' 0 wM.length none]] true false false)).set a (dn (.ptr b 0 0)),n:=hs.n,log:=a::b::c::d::hs.log }:=by
  show ({ H:=(((hs.H.set d ((Fv wM g').ren _)).set c ((sW sl').ren _)).set b _).set a _,n:=hs.n+0,log:=_ }:HS)=_;rw[lY,oZ];rfl
end
end Go.J
/- Functions that read a store that is written: handed as a value;and the search in it,with its closure. -/
namespace Go.J
open Enc (enc)
def EB(sl:List Slot)(tr:List Change)(g:Option Nat):List (Nat×Obj):=(0,sW sl)::zbC 1 tr g
def zw9(args:List V)(sl:List Slot)(tr:List Change)(g:Option Nat)(r:V)(c d:Nat):fA where
 k:=uK g 1
 k':=uK g 1
 π:=fun i=>(c::zt g d).getD i 0
 OL:=EB sl tr g
 OL':=EB sl tr g
 vs0:=.agg [.own 0 0 0 sl.length none,zl6 1 tr g]::args
 v0:=r
def zp3 (F:Store->List V->Option V) (vs:List V) (hs:HS):Option fA:=match vs with
 |.agg [x,y]::args=>ob (zU hs x) fun s=>ob (yV hs y) fun t=>ob (F ⟨s.2,t.2.1⟩ args) fun r =>
  gd (et (nodupB (s.1::zt t.2.2 t.1)) (et ((s.1::zt t.2.2 t.1).all fun x=>Nat.blt x hs.n) (et (aR args) (et r.pure (cB hs hs.n)))))
   (some (zw9 args s.2 t.2.1 t.2.2 r s.1 t.1))
 |_=>none
theorem Tf{sl:List Slot}{tr:List Change}{g:Option Nat}:∀ p∈EB sl tr g,p.2.in (dom (EB sl tr g))=true/\p.2.fz=false:=by
 intro p hp
 cases g with
 | none =>
   simp only[EB,j4,List.mem_cons,List.not_mem_nil,or_false]at hp;rcases hp with rfl;exact⟨uj,rfl⟩
 | some g =>
   simp only[EB,pq,List.mem_cons,List.not_mem_nil,or_false]at hp;rcases hp with rfl|rfl
   . exact⟨uj,rfl⟩
   . exact⟨FV,rfl⟩
theorem znd {F:Store->List V->Option V} {vs:List V} {hs:HS} {D:fA} (h:zp3 F vs hs=some D) :
 ∃ args sl tr g r c d,F ⟨sl,tr⟩ args=some r/\D=zw9 args sl tr g r c d/\aR args=true/\r.pure=true/\D.Good/\D.Fits vs hs:=by
 unfold zp3 at h;split at h
 . rename_i x y args;simp only[af,aD,bA,ae]at h;obtain⟨s,hs1,t,ht,r,hr,⟨h1,h2,h3,h4,h5⟩,h⟩:=h;cases h;obtain⟨e4,g4⟩:=wU hs1;obtain⟨e5,g5⟩:=wP ht;obtain⟨c,sl⟩:=s;obtain⟨d,tr,g⟩:=t;simp only at e4 e5 g4 g5 h1 h2 hr h4;subst e4 e5;refine⟨args,sl,tr,g,r,c,d,hr,rfl,h3,h4,⟨by cases g<;>rfl,by cases g<;>rfl,Nat.le_refl _,fun p hp=>(Tf p hp).1,Tf,V.eO h4,fun v hv=>?_⟩,?_⟩
   . rcases List.mem_cons.1 hv with rfl|hv
     . cases g<;>rfl
     . exact V.eO (gP h3 v hv)
   . refine fA.BL (c::zt g d) (by cases g<;>rfl) rfl h1 h2 ?_ ?_ (Nat.le_succ _) h5
     . show (V.agg [.own 0 0 0 sl.length none,zl6 1 tr g]::args).map (V.ren _)=_;rw[List.map_cons,F9 h3];cases g<;>rfl
     . intro p hp
       cases g with
       | none =>
         simp_all [zw9,EB,j4,List.mem_cons,List.not_mem_nil]
       | some g =>
         simp only[zw9,EB,pq,List.mem_cons,List.not_mem_nil,or_false]at hp;rcases hp with rfl|rfl
         . show hs.H.get c=_
           simp_all
         . show hs.H.get d=_;rw[g5 g rfl];exact congrArg some oZ.symm
 . cases h
@[simp] theorem zNT {F:Store→List V→Option V} {x y:V} {args:List V} {hs:HS}:zp3 F (.agg [x,y]::args) hs=ob (zU hs x) fun s=>ob (yV hs y) fun t=>ob (F ⟨s.2,t.2.1⟩ args) fun r =>
      gd (et (nodupB (s.1::zt t.2.2 t.1)) (et ((s.1::zt t.2.2 t.1).all fun x=>Nat.blt x hs.n) (et (aR args) (et r.pure (cB hs hs.n)))))
       (some (zw9 args s.2 t.2.1 t.2.2 r s.1 t.1)):=(rfl)
@[simp] theorem zJF {args:List V} {sl:List Slot} {tr:List Change} {g:Option Nat} {r:V} {c d:Nat}:(zw9 args sl tr g r c d).v0=r:=(rfl)
def qN(sl:List Slot)(tr:List Change)(g:Option Nat)(sn:List Int):List (Nat×Obj):=[(0,dn (.ptr 1 0 0)),(1,uB sl tr g 4),(2,sW sl),(3,.mp (sn.map lS))]++zbC 4 tr g
def znj(args:List V)(sl:List Slot)(tr:List Change)(g:Option Nat)(sn nZ:List Int)(r:Bool)(a b c m d:Nat):fA where
 k:=uK g 4
 k':=uK g 4
 π:=fun i=>([a,b,c,m]++zt g d).getD i 0
 OL:=qN sl tr g sn
 OL':=qN sl tr g nZ
 vs0:=.ptr 0 0 0::args++[.map 3]
 v0:=.bool r
def Tk (F:List Slot->Int->List Int->Ty->Option (Bool×List Int)) (vs:List V) (hs:HS):Option fA:=match vs with
 | [.ptr a 0 0,tv,.int .i64 h,.map m]=>ob (Enc.dec tv:Option Ty) fun ty=>ob (hs.H.get a) fun oa=>ob (capB? oa) fun va=>ob (xe va) fun b=>ob (hs.H.get b) fun o=>ob (wT o) fun q=>ob (zU hs q.1) fun s=>ob (yV hs q.2) fun t =>
  ob (hs.H.get m) fun om=>ob (LK om) fun es=>ob (oz es) fun sn=>ob (F s.2 h sn ty) fun r =>
  gd (et (nodupB ([a,b,s.1,m]++zt t.2.2 t.1)) (et (([a,b,s.1,m]++zt t.2.2 t.1).all fun x=>Nat.blt x hs.n) (cB hs hs.n)))
   (some (znj [tv,.int .i64 h] s.2 t.2.1 t.2.2 sn r.2 r.1 a b s.1 m t.1))
 |_=>none
theorem Ti{sl:List Slot}{tr:List Change}{g:Option Nat}{sn:List Int}:∀ p∈qN sl tr g sn,p.2.in (dom (qN sl tr g sn))=true/\p.2.fz=false:=by
 intro p hp
 cases g with
 | none =>
   simp only[qN,j4,List.append_nil,List.mem_cons,List.not_mem_nil,or_false]at hp ⊢;rcases hp with rfl|rfl|rfl|rfl
   . exact⟨rfl,rfl⟩
   . exact⟨rfl,rfl⟩
   . exact⟨uj,rfl⟩
   simp_all
 | some g =>
   simp only[qN,pq,List.cons_append,List.nil_append,List.mem_cons,List.not_mem_nil,or_false]at hp ⊢;rcases hp with rfl|rfl|rfl|rfl|rfl
   . exact⟨rfl,rfl⟩
   . exact⟨rfl,rfl⟩
   . exact⟨uj,rfl⟩
   . simp_all
   . exact⟨FV,rfl⟩
theorem Tj {F:List Slot->Int->List Int->Ty->Option (Bool×List Int)} {vs:List V} {hs:HS} {D:fA} (hh:Tk F vs hs=some D) :
 ∃ ty h sl tr g sn r a b c m d,F sl h sn ty=some r/\D=znj [enc ty,.int .i64 h] sl tr g sn r.2 r.1 a b c m d/\D.Good/\D.Fits vs hs:=by
 unfold Tk at hh;split at hh
 . rename_i a tv h m;simp only[af,aD,bA,ae]at hh;obtain⟨ty,hty,oa,hoa,va,hva,b,hb,o,ho,q,hq,s,hs1,t,ht,om,zq3,es,hes,sn,hsn,r,hr,⟨h1,h2,h5⟩,hh⟩:=hh;cases hh;have e0:=Enc.aU _ _ hty;have e1:=nN hva;have e2:=yC hb;have e3:=yw hq;obtain⟨e4,g4⟩:=wU hs1;obtain⟨e5,g5⟩:=wP ht;have e6:=GU hes;have e7:=zV hsn;obtain⟨c,sl⟩:=s;obtain⟨d,tr,g⟩:=t;obtain⟨x,y⟩:=q;simp only at e4 e5 g4 g5 h1 h2 hr;subst e4 e5 e2 e1 e3 e0 e7 e6;have hp:aR [enc ty,V.int .i64 h]=true:=by simp
   refine⟨ty,h,sl,tr,g,sn,r,a,b,c,m,d,hr,rfl,⟨by cases g<;>rfl,by cases g<;>rfl,Nat.le_refl _,fun p hp=>(Ti p hp).1,Ti,rfl,fun v hv=>?_⟩,?_⟩
   . have hv:v∈[V.ptr 0 0 0,enc ty,.int .i64 h,.map 3]:=hv;simp only[List.mem_cons,List.not_mem_nil,or_false]at hv;rcases hv with rfl|rfl|rfl|rfl
     . cases g<;>rfl
     . simp_all
     . rfl
     . cases g<;>rfl
   . refine fA.BL ([a,b,c,m]++zt g d) (by cases g<;>rfl) rfl h1 h2 ?_ ?_ (Nat.le_succ _) h5
     . show [V.ptr 0 0 0,enc ty,.int .i64 h,.map 3].map (V.ren _)=_;rw[List.map_cons,List.map_cons,V.jy (V.eO (Dj ty))];rfl
     . intro p hp
       cases g with
       | none =>
         simp only[znj,qN,j4,List.append_nil,List.mem_cons,List.not_mem_nil,or_false]at hp;rcases hp with rfl|rfl|rfl|rfl
         . exact hoa
         . exact ho
         . show hs.H.get c=_
           simp_all
         . exact zq3
       | some g =>
         simp only[znj,qN,pq,List.cons_append,List.nil_append,List.mem_cons,List.not_mem_nil,or_false]at hp;rcases hp with rfl|rfl|rfl|rfl|rfl
         . exact hoa
         . exact ho
         . show hs.H.get c=_
           simp_all
         . exact zq3
         . show hs.H.get d=_;rw[g5 g rfl];exact congrArg some oZ.symm
 . cases hh
section
variable {F:List Slot->Int->List Int->Ty->Option (Bool×List Int)}{args:List V}{sl:List Slot}{tr:List Change}{g:Nat}{r:Bool}{a b c m d:Nat}{hs:HS}{G:Option Nat}{sn nZ:List Int}{tv:V}{h:Int}
@[simp] theorem zNU:Tk F [.ptr a 0 0,tv,.int .i64 h,.map m] hs=ob (Enc.dec tv:Option Ty) fun ty=>ob (hs.H.get a) fun oa=>ob (capB? oa) fun va=>ob (xe va) fun b=>ob (hs.H.get b) fun o=>ob (wT o) fun q=>ob (zU hs q.1) fun s=>ob (yV hs q.2) fun t =>
      ob (hs.H.get m) fun om=>ob (LK om) fun es=>ob (oz es) fun sn=>ob (F s.2 h sn ty) fun r =>
      gd (et (nodupB ([a,b,s.1,m]++zt t.2.2 t.1)) (et (([a,b,s.1,m]++zt t.2.2 t.1).all fun x=>Nat.blt x hs.n) (cB hs hs.n)))
       (some (znj [tv,.int .i64 h] s.2 t.2.1 t.2.2 sn r.2 r.1 a b s.1 m t.1)):=(rfl)
@[simp] theorem zJG:(znj args sl tr G sn nZ r a b c m d).v0=.bool r:=(rfl)
@[simp] theorem zGh:(znj args sl tr G sn nZ r a b c m d).val hs=.bool r:=(rfl)
@[simp] theorem zxb:(znj args sl tr none sn nZ r a b c m d).heap hs={ H:=(((hs.H.set m (.mp (nZ.map lS))).set c (sW sl)).set b (.arr 2 0 [[.own c 0 0 sl.length none,.sl (tr.map aV) true]] true false false)).set a (dn (.ptr b 0 0)),n:=hs.n,log:=a::b::c::m::hs.log }:=by
  show ({ H:=(((hs.H.set m _).set c ((sW sl).ren _)).set b _).set a _,n:=hs.n+0,log:=_ }:HS)=_;rw[lY];rfl
@[simp] theorem zxa:(znj args sl tr (some g) sn nZ r a b c m d).heap hs={ H:=((((hs.H.set d (Fv tr g)).set m (.mp (nZ.map lS))).set c (sW sl)).set b (.arr 2 0 [[.own c 0 0 sl.length none,.own d g 0 tr.length none]] true false false)).set a (dn (.ptr b 0 0)),n:=hs.n,log:=a::b::c::m::d::hs.log }:=by
  show ({ H:=((((hs.H.set d ((Fv tr g).ren _)).set m _).set c ((sW sl).ren _)).set b _).set a _,n:=hs.n+0,log:=_ }:HS)=_;rw[lY,oZ];rfl
end
def fq(sl:List Slot)(tr:List Change)(g:Option Nat)(sn:List Int)(h:Int):List (Nat×Obj):=[(0,dn (.ptr 1 0 0)),(1,uB sl tr g 7),(2,sW sl),(3,.mp (sn.map lS)),(4,dn (.ptr 0 0 0)),(5,dn (.int .i64 h)),(6,dn (.map 3))]++zbC 7 tr g
def zl5(x:V)(f:Option Nat)(sl:List Slot)(tr:List Change)(g:Option Nat)(sn nZ:List Int)(h:Int)(r:V)(a b c m p q w d:Nat):fA where
 k:=uK g 7
 k':=uK g 7
 π:=fun i=>([a,b,c,m,p,q,w]++zt g d).getD i 0
 OL:=fq sl tr g sn h
 OL':=fq sl tr g nZ h
 vs0:=x::zxO f [.ptr 4 0 0,.ptr 5 0 0,.ptr 6 0 0]
 v0:=r
def zcs(l:List V):Option (Nat×Nat×Nat):=match l with
 | [.ptr p 0 0,.ptr q 0 0,.ptr w 0 0]=>some (p,q,w)
 |_=>none
theorem zcr{l:List V}{q:Nat×Nat×Nat}(h:zcs l=some q):l=[.ptr q.1 0 0,.ptr q.2.1 0 0,.ptr q.2.2 0 0]:=by
 unfold zcs at h
 grind
@[simp] theorem zKd {p q w:Nat}:zcs [.ptr p 0 0,.ptr q 0 0,.ptr w 0 0]=some (p,q,w):=(rfl)
def intOf(v:V):Option Int:=match v with
 |.int .i64 n=>some n
 |_=>none
theorem ZI{v:V}{n:Int}(h:intOf v=some n):v=.int .i64 n:=by
 unfold intOf at h
 grind
@[simp] theorem zHs {n:Int}:intOf (.int .i64 n)=some n:=(rfl)
def YV (f:Option Nat) (F:List Slot->Int->List Int->V->Option (V×List Int)) (vs:List V) (hs:HS):Option fA:=match vs with
 | x :: cl=>ob (BX f cl) fun l=>ob (zcs l) fun k=>ob (hs.H.get k.1) fun op=>ob (capB? op) fun vp=>ob (xe vp) fun a=>ob (hs.H.get k.2.1) fun oq=>ob (capB? oq) fun vq=>ob (intOf vq) fun h=>ob (hs.H.get k.2.2) fun ow=>ob (capB? ow) fun vw=>ob (mapId? vw) fun m =>
     ob (hs.H.get a) fun oa=>ob (capB? oa) fun va=>ob (xe va) fun b=>ob (hs.H.get b) fun o=>ob (wT o) fun q=>ob (zU hs q.1) fun s=>ob (yV hs q.2) fun t =>
     ob (hs.H.get m) fun om=>ob (LK om) fun es=>ob (oz es) fun sn=>ob (F s.2 h sn x) fun r =>
     gd (et (nodupB ([a,b,s.1,m,k.1,k.2.1,k.2.2]++zt t.2.2 t.1)) (et (([a,b,s.1,m,k.1,k.2.1,k.2.2]++zt t.2.2 t.1).all fun x=>Nat.blt x hs.n) (et x.pure (et r.1.pure (cB hs hs.n)))))
      (some (zl5 x f s.2 t.2.1 t.2.2 sn r.2 h r.1 a b s.1 m k.1 k.2.1 k.2.2 t.1))
 |_=>none
theorem Tm{sl:List Slot}{tr:List Change}{g:Option Nat}{sn:List Int}{h:Int}:∀ p∈fq sl tr g sn h,p.2.in (dom (fq sl tr g sn h))=true/\p.2.fz=false:=by
 intro p hp
 cases g with
 | none =>
   simp only[fq,j4,List.append_nil,List.mem_cons,List.not_mem_nil,or_false]at hp ⊢;rcases hp with rfl|rfl|rfl|rfl|rfl|rfl|rfl
   all_goals first|exact⟨rfl,rfl⟩|exact⟨uj,rfl⟩
 | some g =>
   simp only[fq,pq,List.cons_append,List.nil_append,List.mem_cons,List.not_mem_nil,or_false]at hp ⊢;rcases hp with rfl|rfl|rfl|rfl|rfl|rfl|rfl|rfl
   all_goals first|exact⟨rfl,rfl⟩|exact⟨uj,rfl⟩|exact⟨FV,rfl⟩
theorem KW {f:Option Nat} {F:List Slot->Int->List Int->V->Option (V×List Int)} {vs:List V} {hs:HS} {D:fA} (hh:YV f F vs hs=some D) :
 ∃ x h sl tr g sn r a b c m p q w d,F sl h sn x=some r/\D=zl5 x f sl tr g sn r.2 h r.1 a b c m p q w d/\x.pure=true/\r.1.pure=true/\D.Good/\D.Fits vs hs:=by
 unfold YV at hh;split at hh
 . rename_i x cl;simp only[af,aD,bA,ae]at hh;obtain⟨l,hl,k,hk,op,hop,vp,hvp,a,ha,oq,hoq,vq,zRn,h,zyI,ow,how,vw,hvw,m,hm,oa,hoa,va,hva,b,hb,o,ho,q,hq,s,hs1,t,ht,om,zq3,es,hes,sn,hsn,r,hr,⟨h1,h2,h3,h4,h5⟩,hh⟩:=hh;cases hh;have e1:=nN hva;have e2:=yC hb;have e3:=yw hq;obtain⟨e4,g4⟩:=wU hs1;obtain⟨e5,g5⟩:=wP ht;have e6:=GU hes;have e7:=zV hsn;have e8:=nN hvp;have e9:=yC ha;have e10:=nN zRn;have e11:=ZI zyI;have e12:=nN hvw;have e13:=Ka hm;have e14:=zcr hk;have e15:=KD hl;obtain⟨c,sl⟩:=s;obtain⟨d,tr,g⟩:=t;obtain⟨y,z⟩:=q;obtain⟨p,q,w⟩:=k;simp only at e4 e5 g4 g5 h1 h2 hr e14 hop hoq how;subst e4 e5 e2 e1 e3 e7 e6 e9 e8 e11 e10 e13 e12 e14 e15;refine⟨x,h,sl,tr,g,sn,r,a,b,c,m,p,q,w,d,hr,rfl,h3,h4,⟨by cases g<;>rfl,by cases g<;>rfl,Nat.le_refl _,fun p hp=>(Tm p hp).1,Tm,V.eO h4,fun v hv=>?_⟩,?_⟩
   . rcases List.mem_cons.1 hv with rfl|hv
     . exact V.eO h3
     . cases f with
       | none =>
         simp only[zcn,List.mem_cons,List.not_mem_nil,or_false]at hv;rcases hv with rfl|rfl|rfl<;>(cases g<;>rfl)
       | some f =>
         simp only[zcm,List.mem_cons,List.not_mem_nil,or_false]at hv;rcases hv with rfl;cases g<;>rfl
   . refine fA.BL ([a,b,c,m,p,q,w]++zt g d) (by cases g<;>rfl) rfl h1 h2 ?_ ?_ (Nat.le_succ _) h5
     . show (x::zxO f [.ptr 4 0 0,.ptr 5 0 0,.ptr 6 0 0]).map (V.ren _)=_;rw[List.map_cons,V.jy (V.eO h3)];cases f<;>rfl
     . intro u hu
       cases g with
       | none =>
         simp only[zl5,fq,j4,List.append_nil,List.mem_cons,List.not_mem_nil,or_false]at hu;rcases hu with rfl|rfl|rfl|rfl|rfl|rfl|rfl
         . exact hoa
         . exact ho
         . show hs.H.get c=_
           simp_all
         . exact zq3
         . exact hop
         . exact hoq
         . exact how
       | some g =>
         simp only[zl5,fq,pq,List.cons_append,List.nil_append,List.mem_cons,List.not_mem_nil,or_false]at hu;rcases hu with rfl|rfl|rfl|rfl|rfl|rfl|rfl|rfl
         . exact hoa
         . exact ho
         . show hs.H.get c=_
           simp_all
         . exact zq3
         . exact hop
         . exact hoq
         . exact how
         . show hs.H.get d=_;rw[g5 g rfl];exact congrArg some oZ.symm
 . cases hh
section
variable {f:Option Nat}{F:List Slot->Int->List Int->V->Option (V×List Int)}{cl:List V}{sl:List Slot}{tr:List Change}{g:Nat}{r x:V}{a b c m p q w d:Nat}{hs:HS}{G:Option Nat}{sn nZ:List Int}{h:Int}
@[simp] theorem zNV:YV f F (x::cl) hs=ob (BX f cl) fun l=>ob (zcs l) fun k=>ob (hs.H.get k.1) fun op=>ob (capB? op) fun vp=>ob (xe vp) fun a=>ob (hs.H.get k.2.1) fun oq=>ob (capB? oq) fun vq=>ob (intOf vq) fun h=>ob (hs.H.get k.2.2) fun ow=>ob (capB? ow) fun vw=>ob (mapId? vw) fun m =>
      ob (hs.H.get a) fun oa=>ob (capB? oa) fun va=>ob (xe va) fun b=>ob (hs.H.get b) fun o=>ob (wT o) fun q=>ob (zU hs q.1) fun s=>ob (yV hs q.2) fun t =>
      ob (hs.H.get m) fun om=>ob (LK om) fun es=>ob (oz es) fun sn=>ob (F s.2 h sn x) fun r =>
      gd (et (nodupB ([a,b,s.1,m,k.1,k.2.1,k.2.2]++zt t.2.2 t.1)) (et (([a,b,s.1,m,k.1,k.2.1,k.2.2]++zt t.2.2 t.1).all fun x=>Nat.blt x hs.n) (et x.pure (et r.1.pure (cB hs hs.n)))))
       (some (zl5 x f s.2 t.2.1 t.2.2 sn r.2 h r.1 a b s.1 m k.1 k.2.1 k.2.2 t.1)):=(rfl)
@[simp] theorem zJH:(zl5 x f sl tr G sn nZ h r a b c m p q w d).v0=r:=(rfl)
@[simp] theorem zAV {y:Bool}:(zl5 x f sl tr G sn nZ h (.bool y) a b c m p q w d).val hs=.bool y:=(rfl)
@[simp] theorem zAU {y:Int}:(zl5 x f sl tr G sn nZ h (.int .i64 y) a b c m p q w d).val hs=.int .i64 y:=(rfl)
@[simp] theorem zxd:(zl5 x f sl tr none sn nZ h r a b c m p q w d).heap hs={ H:=((((((hs.H.set w (dn (.map m))).set q (dn (.int .i64 h))).set p (dn (.ptr a 0 0))).set m (.mp (nZ.map lS))).set c (sW sl)).set b (.arr 2 0 [[.own c 0 0 sl.length none,.sl (tr.map aV) true]] true false false)).set a (dn (.ptr b 0 0)),n:=hs.n,log:=a::b::c::m::p::q::w::hs.log }:=by
  show ({ H:=((((((hs.H.set w _).set q _).set p _).set m _).set c ((sW sl).ren _)).set b _).set a _,n:=hs.n+0,log:=_ }:HS)=_;rw[lY];rfl
@[simp] theorem zxc:(zl5 x f sl tr (some g) sn nZ h r a b c m p q w d).heap hs={ H:=(((((((hs.H.set d (Fv tr g)).set w (dn (.map m))).set q (dn (.int .i64 h))).set p (dn (.ptr a 0 0))).set m (.mp (nZ.map lS))).set c (sW sl)).set b (.arr 2 0 [[.own c 0 0 sl.length none,.own d g 0 tr.length none]] true false false)).set a (dn (.ptr b 0 0)),n:=hs.n,log:=a::b::c::m::p::q::w::d::hs.log }:=by
  show ({ H:=(((((((hs.H.set d ((Fv tr g).ren _)).set w _).set q _).set p _).set m _).set c ((sW sl).ren _)).set b _).set a _,n:=hs.n+0,log:=_ }:HS)=_;rw[lY,oZ];rfl
end
end Go.J
/- Functions that are zRc a row that its owner writes IM,and hand back a row of numbers of their own. -/
namespace Go.J
open Enc (enc)
def zaQ(sz:Nat)(s:List V->Option (List (List V))):Spec:=fun vs hs=>ob (fD hs vs) fun vs'=>gd (aR vs') (ob (s (dB vs')) fun es=>gd (es.all fun e=>e.all V.rQ) (some (.sl es false,hs)))
section
variable {ρ:Nat->Value}{P:Program}{f:Nat}{sz:Nat}{s:List V->Option (List (List V))}
theorem N9{v:V}(h:v.rQ=true):v.aI=true:=by
 cases v<;>first|rfl|cases h
theorem Valid.zaQ (hf:lW P f) (hsz:sz≠0) (h:∀ vs es,aR vs=true->s vs=some es->(es.all fun e=>e.all V.aI)=true->∀ hs:HS,hs.H.get hs.n=none->aA ρ P f vs hs (oV hs.n es) (bi (Nat.beq (aN es) 0) hs { H:=hs.H.set hs.n (oO sz es),n:=hs.n+1,log:=hs.n::hs.log })):Valid ρ P f (zaQ sz s) where
 fn:=hf
 ok := by
  intro vs hs v hs' hq;simp only[J.zaQ,aD,af]at hq;obtain⟨vs',hst,hp,es,hv,hsc,hq⟩:=hq;cases hq;intro X w F μ xs hR hD hO hA;obtain⟨hlen,hall⟩:=yu hR (F':=fun b=>b<w.heap.size) hR.sI hst (fun _ _ _ _ id g off len cap _ m hm=>hR.lt id g m hm)
  have hA':Fq ρ w (fun b=>b<w.heap.size) (fun _ _=>none) vs' xs:=⟨hA.1.trans hlen.symm,fun i u hi=>by
   obtain⟨u0,hu0,hr⟩:=hall i u hi;obtain⟨x,hx,hr0⟩:=hA.2 i u0 hu0
   exact⟨x,hx,.pure (hr x hr0)⟩⟩
  have hsc2:∀ e∈es,∀ v∈e,v.rQ=true:=fun e he v hv=>List.all_eq_true.1 (List.all_eq_true.1 hsc e he) v hv
  have hsp:(es.all fun e=>e.all V.aI)=true:=List.all_eq_true.2 fun e he=>List.all_eq_true.2 fun v hv=>N9 (hsc2 e he v hv)
  have hc:=(h _ _ (qZ hp) hv hsp eQ rfl).norm hp;refine(hc _ w _ (fun _ _=>none) xs (R.empty fun _ h=>h) Ck.empty (Off.no _) hA').mono fun e w' he=>?_
  cases e with
  | returned x =>
    obtain⟨F1,μ1,g1,g2,g3⟩:=he;have hkeep:∀ b,b<w.heap.size->w'.heap[b]?=w.heap[b]?:=fun b hb=>g3.keep b hb (kK b _)
    obtain⟨a1,a2⟩:=alone hR g3.io g3.size hkeep;refine⟨_,μ,a1,.pure ?_,a2⟩;clear a1 a2 hkeep
    cases es with
    | nil =>
      have g2:bR ρ w' F1 μ1 .snil x:=g2
      cases g2 with
      |pure g2=>cases g2;exact .slE _ _ _ (fun _=>rfl)
    | cons e es =>
      have g2:bR ρ w' F1 μ1 (.own 0 es.length 0 (es.length+1) none) x:=by
       have e0:oV eQ.n (e::es)=.own 0 es.length 0 (es.length+1) none:=by simp[eQ]
       rw[e0]at g2;exact g2
      have hb0:Nat.beq (aN (e::es)) 0=false:=by simp
      rw[hb0]at g1 g3;replace g1:R ρ w' F1 μ1 P { H:=eQ.H.set eQ.n (oO sz (e::es)),n:=eQ.n+1,log:=eQ.n::eQ.log }:=g1
      have zK4:still { H:=eQ.H.set eQ.n (oO sz (e::es)),n:=eQ.n+1,log:=eQ.n::eQ.log } (.own 0 es.length 0 (es.length+1) none)=some (.sl (e::es) false):=by
       simp[still,Uf,eQ,hsz]
      have zDe:=Cx g1 g2 zK4 (F':=fun _=>True) (fun _ _=>trivial) (fun _ _ _ _=>trivial)
      cases g2 with
      |pure g2=>cases g2
      | own _ _ _ _ _ c m hm h1 h2 h3 h4 =>
        have hb:w.heap.size<=m.b:=by
         rcases g3.mn _ _ _ hm with h|⟨_,_,_,h,_⟩
         . exact h
         . cases h
        have hb2:=g1.lt _ _ _ hm
        cases zDe with
        | slC _ _ _ size _ _ ys q1 q2 q3 q4 q5 q6 =>
          exact .slC (e::es) m.b 0 size c false ys (.inr ⟨hb,hb2⟩) q2 q3 (fun i e' j v he hv=>by
           exact yz (μ:=μ1) (.pure (q4 i e' j v he hv)) (hsc2 _ (List.mem_of_getElem? he) _ (List.mem_of_getElem? hv))) q5 q6
  |panicked c=>exact he
  |outgrown=>exact he
 kept:=by
  intro vs hs q hq;simp only[J.zaQ,aD,af]at hq;obtain⟨_,_,_,_,_,_,hq⟩:=hq;cases hq;exact .refl _
variable {vs:List V}{hs:HS}{K:V×HS->Prop}
@[simp] theorem zMu:qI (zaQ sz s vs hs) K=qI (fD hs vs) fun vs'=>aR vs'=true/\qI (s (dB vs')) fun es=>(es.all fun e=>e.all V.rQ)=true/\K (.sl es false,hs):=by
  show ok (zaQ sz s vs hs) K=ok (fD hs vs) fun vs'=>aR vs'=true/\ok (s (dB vs')) fun es=>(es.all fun e=>e.all V.rQ)=true/\K (.sl es false,hs)
  simp only[zaQ,jA,dA,aW]
end
end Go.J
/- What a function leaves,with the new numbers found by the gI. -/
namespace Go.J
open Enc (enc)
theorem aj.auto{k:Nat}{v v1:V}{OL:List (Nat×Obj)}{hs:HS}(hv:v1.nk (dom OL)=true/\v=v1.ren (J.auto k [(0,v1)] OL (PT.leaf.set 0 v) hs.H))
 (hH:∀ p∈OL,p.2.in (dom OL)=true/\hs.H.get (J.auto k [(0,v1)] OL (PT.leaf.set 0 v) hs.H p.1)=some (p.2.ren (J.auto k [(0,v1)] OL (PT.leaf.set 0 v) hs.H)))
 (hi:nodupB (OL.map fun p=>J.auto k [(0,v1)] OL (PT.leaf.set 0 v) hs.H p.1)=true) (hk:(List.range k).all (fun i=>Nat.beq (J.auto k [(0,v1)] OL (PT.leaf.set 0 v) hs.H i) i&&dom OL i)=true):aj k v1 OL v hs :=
 aj.JB _ hi hk hv hH
@[simp] theorem zdt {g m:Nat}:gN (some g) m=some (g+m):=by cases m<;>rfl
def zOc(c n:Nat)(o:Obj):Option (Nat×List Slot):=match o with
 |.arr 8 0 es false false true=>gd (Nat.beq n (aN es)) (ob (bQ es:Option (List Slot)) fun sl=>some (c,sl))
 |_=>none
def zNY(d g n:Nat)(o:Obj):Option (Nat×List Change×Option Nat):=match o with
 |.arr 10 g' es false false true=>gd (et (Nat.beq g' g) (Nat.beq n (aN es))) (ob (bQ es:Option (List Change)) fun tr=>some (d,tr,some g))
 |_=>none
section
variable {hs:HS}{c d g h n:Nat}{sl:List Slot}{tr:List Change}
@[simp] theorem zxt:zU hs (.own c 0 0 n none)=ob (hs.H.get c) (zOc c n):=(rfl)
@[simp] theorem zOb:zOc c n (.arr 8 0 (sl.map aX) false false true)=gd (Nat.beq n sl.length) (some (c,sl)):=by
  show gd (Nat.beq n (aN (sl.map aX))) (ob (bQ (sl.map aX):Option (List Slot)) fun sl=>some (c,sl))=_
  simp_all
@[simp] theorem zxf:yV hs (.own d g 0 n none)=ob (hs.H.get d) (zNY d g n):=(rfl)
@[simp] theorem zNX:zNY d g n (.arr 10 h (tr.map aV) false false true)=gd (et (Nat.beq h g) (Nat.beq n tr.length)) (some (d,tr,some g)):=by
  show gd (et (Nat.beq h g) (Nat.beq n (aN (tr.map aV)))) (ob (bQ (tr.map aV):Option (List Change)) fun tr=>some (d,tr,some g))=_
  simp_all
end
@[simp] theorem zNW {tr:List Change} {g:Nat}:Fv tr g=.arr 10 g (tr.map aV) false false true:=(rfl)
@[simp] theorem zp4:nu []=.tuple []:=(rfl)
@[simp] theorem zqd:oz []=some []:=(rfl)
attribute [-simp] ztw ztg
end Go.J
