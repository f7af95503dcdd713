import Derived.Test.YtfgmnebfhemnpaaGreatJZ
import Derived.Test.YtfgmnebfhemnpaaGreatJS
import Derived.Test.YtfgmnebfhemnpaaGreatJPx
import Derived.Test.YtfgmnebfhemnpaaGreatJK
import Derived.Test.YtfgmnebfhemnpaaGreatJI
set_option linter.all false
noncomputable section
/- Methods on a store that is written: what lies in their caller's objects. -/
namespace Go.J
open Enc (enc)
theorem EmbD.fits_of{D:EmbD}{vs:List V}{hs:HS}(ids:List Nat)(hk:D.k=ids.length)(hπ:D.π=fun i=>ids.getD i 0)(hnd:nodupB ids=true)(hlt:ids.all (fun x=>Nat.blt x hs.n)=true)(ha:D.vs0.map (V.ren D.π)=vs)(ho:∀ p∈D.OL,hs.H.get (D.π p.1)=some (p.2.ren D.π))
 (hk':D.k'<=D.k+1) (hv:hs.H.get hs.n=none):D.Fits vs hs:=by
 refine⟨ha,fun i j hi hj e=>?_,ho,fun i hi=>?_,fun i hi=>?_⟩
 . rw[hk]at hi hj;rw[hπ]at e;exact zpx hnd hi hj e
 . have:i=0:=by omega
   subst this;exact hv
 . rw[hk]at hi;rw[hπ];simp only;rw[getD_lt hi];exact blt_true.1 (List.all_eq_true.1 hlt _ (List.getElem_mem hi))
def trC(r:Nat)(tr:List Change)(g:Option Nat):V:=match g with
 |none=>.sl (tr.map zA) true
 |some g=>.own r g 0 tr.length none
def trO(tr:List Change)(g:Nat):Obj:=.arr 10 g (tr.map zA) false false true
def trH(r:Nat)(tr:List Change)(g:Option Nat):List (Nat×Obj):=match g with
 |none=>[]
 |some g=>[(r,trO tr g)]
def gN (g:Option Nat) (m:Nat):Option Nat:=match m with
 | 0=>g
 | m+1=>some (match g with
   |none=>m
   |some g=>g+m+1)
def slO(sl:List Slot):Obj:=.arr 8 0 (sl.map zG) false false true
def uB(sl:List Slot)(tr:List Change)(g:Option Nat)(r:Nat):Obj:=.arr 2 0 [[.own 2 0 0 sl.length none,trC r tr g]] true false false
section
variable {r:Nat}{tr:List Change}{g m:Nat}{sl:List Slot}{G:Option Nat}
@[simp] theorem zHJ:trC r tr none=.sl (tr.map zA) true:=(rfl)
@[simp] theorem zHI:trC r tr (some g)=.own r g 0 tr.length none:=(rfl)
@[simp] theorem zbD:trH r tr none=[]:=(rfl)
@[simp] theorem zcU:trH r tr (some g)=[(r,.arr 10 g (tr.map zA) false false true)]:=(rfl)
@[simp] theorem zMv:gN G 0=G:=(rfl)
@[simp] theorem zrS:gN none (m+1)=some m:=(rfl)
@[simp] theorem zMw:gN (some g) (m+1)=some (g+m+1):=(rfl)
@[simp] theorem zS0:slO sl=.arr 8 0 (sl.map zG) false false true:=(rfl)
@[simp] theorem uB_n:uB sl tr G r=.arr 2 0 [[.own 2 0 0 sl.length none,trC r tr G]] true false false:=(rfl)
end
def zmI (hs:HS) (v:V):Option (Nat×List Slot):=match v with
 | .own c 0 0 n none=>ob (hs.H.get c) fun o=>(match o with
   |.arr 8 0 es false false true=>gd (Nat.beq n (zS es)) (ob (zah es:Option (List Slot)) fun sl=>some (c,sl))
   |_=>none)
 |_=>none
theorem zfn{hs:HS}{v:V}{q:Nat×List Slot}(h:zmI hs v=some q):v=.own q.1 0 0 q.2.length none/\hs.H.get q.1=some (slO q.2):=by
 unfold zmI at h;split at h
 . simp only[zt]at h;obtain⟨o,ho,h⟩:=h;split at h
   . simp only[z8,zt,beq_true,zO]at h;obtain⟨rfl,sl,hsl,h⟩:=h;cases h;have:=zaq hsl;subst this;exact⟨by simp,ho⟩
   . cases h
 . cases h
theorem zwH{hs:HS}{c n:Nat}:zmI hs (.own c 0 0 n none)=ob (hs.H.get c) fun o=>(match o with
 |.arr 8 0 es false false true=>gd (Nat.beq n (zS es)) (ob (zah es:Option (List Slot)) fun sl=>some (c,sl))
 |_=>none):=rfl
@[simp] theorem zD6 {hs:HS} {c n:Nat} {sl:List Slot} (h:hs.H.get c=some (.arr 8 0 (sl.map zG) false false true)) (hn:n=sl.length):zmI hs (.own c 0 0 n none)=some (c,sl):=by
  rw[zwH,h,hn];show gd (Nat.beq sl.length (zS (sl.map zG))) (ob (zah (sl.map zG):Option (List Slot)) fun sl=>some (c,sl))=_;rw[zhT,zO,List.length_map,beq_true.2 rfl];rfl
def zmu (hs:HS) (v:V):Option (Nat×List Change×Option Nat):=match v with
 |.sl es true=>ob (zah es:Option (List Change)) fun tr=>some (0,tr,none)
 | .own d g 0 n none=>ob (hs.H.get d) fun o=>(match o with
   |.arr 10 g' es false false true=>gd (et (Nat.beq g' g) (Nat.beq n (zS es))) (ob (zah es:Option (List Change)) fun tr=>some (d,tr,some g))
   |_=>none)
 |_=>none
theorem zfg{hs:HS}{v:V}{q:Nat×List Change×Option Nat}(h:zmu hs v=some q):v=trC q.1 q.2.1 q.2.2/\∀ g,q.2.2=some g->hs.H.get q.1=some (trO q.2.1 g):=by
 unfold zmu at h;split at h
 . simp only[zt]at h;obtain⟨tr,ht,h⟩:=h;cases h;have:=zaq ht;subst this;exact⟨rfl,fun g h=>by cases h⟩
 . simp only[zt]at h;obtain⟨o,ho,h⟩:=h;split at h
   . simp only[z8,zt,et_true,beq_true,zO]at h;obtain⟨⟨rfl,rfl⟩,tr,ht,h⟩:=h;cases h;have:=zaq ht;subst this;exact⟨by simp,fun g h=>by cases h;exact ho⟩
   . cases h
 . cases h
theorem zwz{hs:HS}{d g n:Nat}:zmu hs (.own d g 0 n none)=ob (hs.H.get d) fun o=>(match o with
 |.arr 10 g' es false false true=>gd (et (Nat.beq g' g) (Nat.beq n (zS es))) (ob (zah es:Option (List Change)) fun tr=>some (d,tr,some g))
 |_=>none):=rfl
@[simp] theorem zKJ {hs:HS} {tr:List Change}:zmu hs (.sl (tr.map zA) true)=some (0,tr,none):=by
  show ob (zah (tr.map zA):Option (List Change)) (fun tr=>some (0,tr,none))=_;rw[zd9];rfl
@[simp] theorem zDj {hs:HS} {d g n:Nat} {tr:List Change} (h:hs.H.get d=some (.arr 10 g (tr.map zA) false false true)) (hn:n=tr.length):zmu hs (.own d g 0 n none)=some (d,tr,some g):=by
  rw[zwz,h,hn];show gd (et (Nat.beq g g) (Nat.beq tr.length (zS (tr.map zA)))) (ob (zah (tr.map zA):Option (List Change)) fun tr=>some (d,tr,some g))=_;rw[zd9,zO,List.length_map,beq_true.2 rfl,beq_true.2 rfl];rfl
def uId(g:Option Nat)(d:Nat):List Nat:=match g with
 |none=>[]
 |some _=>[d]
@[simp] theorem zHG {d:Nat}:uId none d=[]:=(rfl)
@[simp] theorem zHF {g d:Nat}:uId (some g) d=[d]:=(rfl)
def uK(g:Option Nat)(k:Nat):Nat:=match g with
 |none=>k
 |some _=>k+1
@[simp] theorem zKI {k:Nat}:uK none k=k:=(rfl)
@[simp] theorem zKH {g k:Nat}:uK (some g) k=k+1:=(rfl)
theorem slO_ren{sl:List Slot}{π:Nat->Nat}:(slO sl).ren π=slO sl:=by
 show Obj.arr _ _ ((sl.map zG).map fun e=>e.map (V.ren2 π)) _ _ _=_;rw[zhN (zo sl)];rfl
theorem trO_ren{tr:List Change}{g:Nat}{π:Nat->Nat}:(trO tr g).ren π=trO tr g:=by
 show Obj.arr _ _ ((tr.map zA).map fun e=>e.map (V.ren2 π)) _ _ _=_;rw[zhN (zf tr)];rfl
theorem zeB{sl:List Slot}{A:Nat->Bool}:(slO sl).in A=true:=zo sl
theorem zkJ{tr:List Change}{g:Nat}{A:Nat->Bool}:(trO tr g).in A=true:=zf tr
def zP(sl:List Slot)(tr:List Change)(g:Option Nat):List (Nat×Obj):=[(0,zaM (.ptr 1 0 0)),(1,uB sl tr g 3),(2,slO sl)]++trH 3 tr g
def uwD(args:List V)(sl sl':List Slot)(tr tr':List Change)(g g':Option Nat)(r:V)(a b c d:Nat):EmbD where
 k:=uK g 3
 k':=uK g' 3
 π:=fun i=>([a,b,c]++uId g d).getD i 0
 OL:=zP sl tr g
 OL':=zP sl' tr' g'
 vs0:=.ptr 0 0 0::args
 v0:=r
def zh1(v:V):Option Nat:=match v with
 |.ptr b 0 0=>some b
 |_=>none
theorem zfv{v:V}{b:Nat}(h:zh1 v=some b):v=.ptr b 0 0:=by
 unfold zh1 at h;split at h
 . cases h;rfl
 . cases h
@[simp] theorem zLr {b:Nat}:zh1 (.ptr b 0 0)=some b:=(rfl)
def zhj(o:Obj):Option (V×V):=match o with
 |.arr 2 0 [[x,y]] true false false=>some (x,y)
 |_=>none
theorem zfl{o:Obj}{q:V×V}(h:zhj o=some q):o=.arr 2 0 [[q.1,q.2]] true false false:=by
 unfold zhj at h;split at h
 . cases h;rfl
 . cases h
@[simp] theorem zKS {x y:V}:zhj (.arr 2 0 [[x,y]] true false false)=some (x,y):=(rfl)
def uwM (F:List Slot->List Change->List V->Option (V×List Slot×List Change)) (vs:List V) (hs:HS):Option EmbD:=match vs with
 |.ptr a 0 0::args=>ob (hs.H.get a) fun oa=>ob (zbU oa) fun va=>ob (zh1 va) fun b=>ob (hs.H.get b) fun o=>ob (zhj o) fun q=>ob (zmI hs q.1) fun s=>ob (zmu hs q.2) fun t=>ob (F s.2 t.2.1 args) fun r =>
  gd (et (nodupB ([a,b,s.1]++uId t.2.2 t.1)) (et (([a,b,s.1]++uId t.2.2 t.1).all fun x=>Nat.blt x hs.n) (et (zD args) (et (r.1.in3 fun _=>false) (zZ hs hs.n)))))
   (some (uwD args s.2 r.2.1 t.2.1 (t.2.1++r.2.2) t.2.2 (gN t.2.2 r.2.2.length) r.1 a b s.1 t.1))
 |_=>none
theorem znI{sl:List Slot}{tr:List Change}{g:Option Nat}:(zP sl tr g).map Prod.fst=List.range (uK g 3):=by cases g<;>rfl
theorem zqz{sl:List Slot}{tr:List Change}{g:Option Nat}:∀ p∈zP sl tr g,p.2.in (dom (zP sl tr g))=true/\p.2.fz=false:=by
 intro p hp
 cases g with
 | none =>
   simp only[zP,zbD,List.append_nil,List.mem_cons,List.not_mem_nil,or_false]at hp ⊢;rcases hp with rfl|rfl|rfl
   . exact⟨rfl,rfl⟩
   . exact⟨rfl,rfl⟩
   . exact⟨zeB,rfl⟩
 | some g =>
   simp only[zP,zcU,List.cons_append,List.nil_append,List.mem_cons,List.not_mem_nil,or_false]at hp ⊢;rcases hp with rfl|rfl|rfl|rfl
   . exact⟨rfl,rfl⟩
   . exact⟨rfl,rfl⟩
   . exact⟨zeB,rfl⟩
   . exact⟨zkJ,rfl⟩
theorem gN_le{g:Option Nat}{m k:Nat}:uK g k<=uK (gN g m) k/\uK (gN g m) k<=uK g k+1:=by
 cases g<;>cases m<;>simp
theorem zwx{args:List V}{sl sl':List Slot}{tr tr':List Change}{g:Option Nat}{m:Nat}{r:V}{a b c d:Nat}(ha:zD args=true)(hr:(r.in3 fun _=>false)=true):(uwD args sl sl' tr tr' g (gN g m) r a b c d).Good:=by
 refine⟨znI,znI,gN_le.1,fun p hp=>(zqz p hp).1,zqz,V.in3_mono (fun _ h=>by cases h) hr,?_⟩;intro v hv;rcases List.mem_cons.1 hv with rfl|hv
 . cases g<;>rfl
 . exact V.in3_pure (zaF ha v hv)
theorem zjJ{args:List V}(ha:zD args=true)(π:Nat->Nat):args.map (V.ren π)=args :=
 (List.map_congr_left (g:=id) fun v hv=>V.ren_none (V.in3_pure (zaF ha v hv))).trans (by simp)
theorem zfQ {F:List Slot->List Change->List V->Option (V×List Slot×List Change)} {vs:List V} {hs:HS} {D:EmbD} (h:uwM F vs hs=some D) :
 ∃ args sl tr g r sl' ex a b c d,F sl tr args=some (r,sl',ex)/\D=uwD args sl sl' tr (tr++ex) g (gN g ex.length) r a b c d/\zD args=true/\(r.in3 fun _=>false)=true/\D.Good/\D.Fits vs hs:=by
 unfold uwM at h;split at h
 . rename_i a args;simp only[zt,z8,et_true,vacant_eq]at h;obtain⟨oa,hoa,va,hva,b,hb,o,ho,q,hq,s,hs1,t,ht,⟨r,sl',ex⟩,hr,⟨h1,h2,h3,h4,h5⟩,h⟩:=h;cases h;have e1:=zc8 hva;have e2:=zfv hb;have e3:=zfl hq;obtain⟨e4,g4⟩:=zfn hs1;obtain⟨e5,g5⟩:=zfg ht;obtain⟨c,sl⟩:=s;obtain⟨d,tr,g⟩:=t;obtain⟨x,y⟩:=q;simp only at e4 e5 g4 g5 h1 h2 hr h4;subst e4 e5 e2 e1 e3;refine⟨args,sl,tr,g,r,sl',ex,a,b,c,d,hr,rfl,h3,h4,zwx h3 h4,?_⟩;refine EmbD.fits_of ([a,b,c]++uId g d) (by cases g<;>rfl) rfl h1 h2 ?_ ?_ gN_le.2 h5
   . show (V.ptr 0 0 0::args).map (V.ren _)=_;rw[List.map_cons,zjJ h3];rfl
   . intro p hp
     cases g with
     | none =>
       simp only[uwD,zP,zbD,List.append_nil,List.mem_cons,List.not_mem_nil,or_false]at hp;rcases hp with rfl|rfl|rfl
       . exact hoa
       . exact ho
       . show hs.H.get c=_;rw[g4];exact congrArg some slO_ren.symm
     | some g =>
       simp only[uwD,zP,zcU,List.cons_append,List.nil_append,List.mem_cons,List.not_mem_nil,or_false]at hp;rcases hp with rfl|rfl|rfl|rfl
       . exact hoa
       . exact ho
       . show hs.H.get c=_;rw[g4];exact congrArg some slO_ren.symm
       . show hs.H.get d=_;rw[g5 g rfl];exact congrArg some trO_ren.symm
 . cases h
section
variable {F:List Slot->List Change->List V->Option (V×List Slot×List Change)}{args:List V}{sl sl':List Slot}{tr tr':List Change}{g g':Nat}{r:V}{a b c d:Nat}{hs:HS}{G G':Option Nat}
@[simp] theorem zSj:uwM F (.ptr a 0 0::args) hs=ob (hs.H.get a) fun oa=>ob (zbU oa) fun va=>ob (zh1 va) fun b=>ob (hs.H.get b) fun o=>ob (zhj o) fun q=>ob (zmI hs q.1) fun s=>ob (zmu hs q.2) fun t=>ob (F s.2 t.2.1 args) fun r =>
      gd (et (nodupB ([a,b,s.1]++uId t.2.2 t.1)) (et (([a,b,s.1]++uId t.2.2 t.1).all fun x=>Nat.blt x hs.n) (et (zD args) (et (r.1.in3 fun _=>false) (zZ hs hs.n)))))
       (some (uwD args s.2 r.2.1 t.2.1 (t.2.1++r.2.2) t.2.2 (gN t.2.2 r.2.2.length) r.1 a b s.1 t.1)):=(rfl)
@[simp] theorem zNT:(uwD args sl sl' tr tr' G G' r a b c d).v0=r:=(rfl)
@[simp] theorem zH8:(uwD args sl sl' tr tr' G G' (.tuple []) a b c d).val hs=.tuple []:=(rfl)
@[simp] theorem zHA {e:Int}:(uwD args sl sl' tr tr' G G' (.int .i64 e) a b c d).val hs=.int .i64 e:=(rfl)
@[simp] theorem zA7:(uwD args sl sl' tr tr' none none r a b c d).heap hs={ H:=((hs.H.set c (slO sl')).set b (.arr 2 0 [[.own c 0 0 sl'.length none,.sl (tr'.map zA) true]] true false false)).set a (zaM (.ptr b 0 0)),n:=hs.n,log:=a::b::c::hs.log }:=by
  show ({ H:=((hs.H.set c ((slO sl').ren _)).set b _).set a _,n:=hs.n+0,log:=_ }:HS)=_;rw[slO_ren];rfl
@[simp] theorem zA6:(uwD args sl sl' tr tr' none (some g') r a b c d).heap hs={ H:=(((hs.H.set hs.n (trO tr' g')).set c (slO sl')).set b (.arr 2 0 [[.own c 0 0 sl'.length none,.own hs.n g' 0 tr'.length none]] true false false)).set a (zaM (.ptr b 0 0)),n:=hs.n+1,log:=a::b::c::hs.n::hs.log }:=by
  show ({ H:=(((hs.H.set (hs.n+0) ((trO tr' g').ren _)).set c ((slO sl').ren _)).set b _).set a _,n:=hs.n+1,log:=_ }:HS)=_;rw[slO_ren,trO_ren];rfl
@[simp] theorem zA5:(uwD args sl sl' tr tr' (some g) (some g') r a b c d).heap hs={ H:=(((hs.H.set d (trO tr' g')).set c (slO sl')).set b (.arr 2 0 [[.own c 0 0 sl'.length none,.own d g' 0 tr'.length none]] true false false)).set a (zaM (.ptr b 0 0)),n:=hs.n,log:=a::b::c::d::hs.log }:=by
  show ({ H:=(((hs.H.set d ((trO tr' g').ren _)).set c ((slO sl').ren _)).set b _).set a _,n:=hs.n+0,log:=_ }:HS)=_;rw[slO_ren,trO_ren];rfl
end
end Go.J
/- Functions that read a store that is written: handed as a value;and the search in it,with its closure. -/
namespace Go.J
open Enc (enc)
def zqe(sl:List Slot)(tr:List Change)(g:Option Nat):List (Nat×Obj):=(0,slO sl)::trH 1 tr g
def usD(args:List V)(sl:List Slot)(tr:List Change)(g:Option Nat)(r:V)(c d:Nat):EmbD where
 k:=uK g 1
 k':=uK g 1
 π:=fun i=>(c::uId g d).getD i 0
 OL:=zqe sl tr g
 OL':=zqe sl tr g
 vs0:=.agg [.own 0 0 0 sl.length none,trC 1 tr g]::args
 v0:=r
def usM (F:Store->List V->Option V) (vs:List V) (hs:HS):Option EmbD:=match vs with
 |.agg [x,y]::args=>ob (zmI hs x) fun s=>ob (zmu hs y) fun t=>ob (F ⟨s.2,t.2.1⟩ args) fun r =>
  gd (et (nodupB (s.1::uId t.2.2 t.1)) (et ((s.1::uId t.2.2 t.1).all fun x=>Nat.blt x hs.n) (et (zD args) (et r.pure (zZ hs hs.n)))))
   (some (usD args s.2 t.2.1 t.2.2 r s.1 t.1))
 |_=>none
theorem zq0{sl:List Slot}{tr:List Change}{g:Option Nat}:∀ p∈zqe sl tr g,p.2.in (dom (zqe sl tr g))=true/\p.2.fz=false:=by
 intro p hp
 cases g with
 | none =>
   simp only[zqe,zbD,List.mem_cons,List.not_mem_nil,or_false]at hp;rcases hp with rfl;exact⟨zeB,rfl⟩
 | some g =>
   simp only[zqe,zcU,List.mem_cons,List.not_mem_nil,or_false]at hp;rcases hp with rfl|rfl
   . exact⟨zeB,rfl⟩
   . exact⟨zkJ,rfl⟩
theorem z7p {F:Store->List V->Option V} {vs:List V} {hs:HS} {D:EmbD} (h:usM F vs hs=some D) :
 ∃ args sl tr g r c d,F ⟨sl,tr⟩ args=some r/\D=usD args sl tr g r c d/\zD args=true/\r.pure=true/\D.Good/\D.Fits vs hs:=by
 unfold usM at h;split at h
 . rename_i x y args;simp only[zt,z8,et_true,vacant_eq]at h;obtain⟨s,hs1,t,ht,r,hr,⟨h1,h2,h3,h4,h5⟩,h⟩:=h;cases h;obtain⟨e4,g4⟩:=zfn hs1;obtain⟨e5,g5⟩:=zfg ht;obtain⟨c,sl⟩:=s;obtain⟨d,tr,g⟩:=t;simp only at e4 e5 g4 g5 h1 h2 hr h4;subst e4 e5;refine⟨args,sl,tr,g,r,c,d,hr,rfl,h3,h4,⟨by cases g<;>rfl,by cases g<;>rfl,Nat.le_refl _,fun p hp=>(zq0 p hp).1,zq0,V.in3_pure h4,fun v hv=>?_⟩,?_⟩
   . rcases List.mem_cons.1 hv with rfl|hv
     . cases g<;>rfl
     . exact V.in3_pure (zaF h3 v hv)
   . refine EmbD.fits_of (c::uId g d) (by cases g<;>rfl) rfl h1 h2 ?_ ?_ (Nat.le_succ _) h5
     . show (V.agg [.own 0 0 0 sl.length none,trC 1 tr g]::args).map (V.ren _)=_;rw[List.map_cons,zjJ h3];cases g<;>rfl
     . intro p hp
       cases g with
       | none =>
         simp only[usD,zqe,zbD,List.mem_cons,List.not_mem_nil,or_false]at hp;rcases hp with rfl;show hs.H.get c=_;rw[g4];exact congrArg some slO_ren.symm
       | some g =>
         simp only[usD,zqe,zcU,List.mem_cons,List.not_mem_nil,or_false]at hp;rcases hp with rfl|rfl
         . show hs.H.get c=_;rw[g4];exact congrArg some slO_ren.symm
         . show hs.H.get d=_;rw[g5 g rfl];exact congrArg some trO_ren.symm
 . cases h
@[simp] theorem zSk {F:Store→List V→Option V} {x y:V} {args:List V} {hs:HS}:usM F (.agg [x,y]::args) hs=ob (zmI hs x) fun s=>ob (zmu hs y) fun t=>ob (F ⟨s.2,t.2.1⟩ args) fun r =>
      gd (et (nodupB (s.1::uId t.2.2 t.1)) (et ((s.1::uId t.2.2 t.1).all fun x=>Nat.blt x hs.n) (et (zD args) (et r.pure (zZ hs hs.n)))))
       (some (usD args s.2 t.2.1 t.2.2 r s.1 t.1)):=(rfl)
@[simp] theorem zNU {args:List V} {sl:List Slot} {tr:List Change} {g:Option Nat} {r:V} {c d:Nat}:(usD args sl tr g r c d).v0=r:=(rfl)
def zgF(sl:List Slot)(tr:List Change)(g:Option Nat)(sn:List Int):List (Nat×Obj):=[(0,zaM (.ptr 1 0 0)),(1,uB sl tr g 4),(2,slO sl),(3,.mp (sn.map zdd))]++trH 4 tr g
def uhD(args:List V)(sl:List Slot)(tr:List Change)(g:Option Nat)(sn sn':List Int)(r:Bool)(a b c m d:Nat):EmbD where
 k:=uK g 4
 k':=uK g 4
 π:=fun i=>([a,b,c,m]++uId g d).getD i 0
 OL:=zgF sl tr g sn
 OL':=zgF sl tr g sn'
 vs0:=.ptr 0 0 0::args++[.map 3]
 v0:=.bool r
def uhM (F:List Slot->Int->List Int->Ty->Option (Bool×List Int)) (vs:List V) (hs:HS):Option EmbD:=match vs with
 | [.ptr a 0 0,tv,.int .i64 h,.map m]=>ob (Enc.dec tv:Option Ty) fun ty=>ob (hs.H.get a) fun oa=>ob (zbU oa) fun va=>ob (zh1 va) fun b=>ob (hs.H.get b) fun o=>ob (zhj o) fun q=>ob (zmI hs q.1) fun s=>ob (zmu hs q.2) fun t =>
  ob (hs.H.get m) fun om=>ob (zx1 om) fun es=>ob (zdj es) fun sn=>ob (F s.2 h sn ty) fun r =>
  gd (et (nodupB ([a,b,s.1,m]++uId t.2.2 t.1)) (et (([a,b,s.1,m]++uId t.2.2 t.1).all fun x=>Nat.blt x hs.n) (zZ hs hs.n)))
   (some (uhD [tv,.int .i64 h] s.2 t.2.1 t.2.2 sn r.2 r.1 a b s.1 m t.1))
 |_=>none
theorem zq4{sl:List Slot}{tr:List Change}{g:Option Nat}{sn:List Int}:∀ p∈zgF sl tr g sn,p.2.in (dom (zgF sl tr g sn))=true/\p.2.fz=false:=by
 intro p hp
 cases g with
 | none =>
   simp only[zgF,zbD,List.append_nil,List.mem_cons,List.not_mem_nil,or_false]at hp ⊢;rcases hp with rfl|rfl|rfl|rfl
   . exact⟨rfl,rfl⟩
   . exact⟨rfl,rfl⟩
   . exact⟨zeB,rfl⟩
   . exact⟨rfl,rfl⟩
 | some g =>
   simp only[zgF,zcU,List.cons_append,List.nil_append,List.mem_cons,List.not_mem_nil,or_false]at hp ⊢;rcases hp with rfl|rfl|rfl|rfl|rfl
   . exact⟨rfl,rfl⟩
   . exact⟨rfl,rfl⟩
   . exact⟨zeB,rfl⟩
   . exact⟨rfl,rfl⟩
   . exact⟨zkJ,rfl⟩
theorem zq5 {F:List Slot->Int->List Int->Ty->Option (Bool×List Int)} {vs:List V} {hs:HS} {D:EmbD} (hh:uhM F vs hs=some D) :
 ∃ ty h sl tr g sn r a b c m d,F sl h sn ty=some r/\D=uhD [enc ty,.int .i64 h] sl tr g sn r.2 r.1 a b c m d/\D.Good/\D.Fits vs hs:=by
 unfold uhM at hh;split at hh
 . rename_i a tv h m;simp only[zt,z8,et_true,vacant_eq]at hh;obtain⟨ty,hty,oa,hoa,va,hva,b,hb,o,ho,q,hq,s,hs1,t,ht,om,hom,es,hes,sn,hsn,r,hr,⟨h1,h2,h5⟩,hh⟩:=hh;cases hh;have e0:=Enc.enc_dec _ _ hty;have e1:=zc8 hva;have e2:=zfv hb;have e3:=zfl hq;obtain⟨e4,g4⟩:=zfn hs1;obtain⟨e5,g5⟩:=zfg ht;have e6:=zkf hes;have e7:=zfU hsn;obtain⟨c,sl⟩:=s;obtain⟨d,tr,g⟩:=t;obtain⟨x,y⟩:=q;simp only at e4 e5 g4 g5 h1 h2 hr;subst e4 e5 e2 e1 e3 e0 e7 e6;have hp:zD [enc ty,V.int .i64 h]=true:=by simp
   refine⟨ty,h,sl,tr,g,sn,r,a,b,c,m,d,hr,rfl,⟨by cases g<;>rfl,by cases g<;>rfl,Nat.le_refl _,fun p hp=>(zq4 p hp).1,zq4,rfl,fun v hv=>?_⟩,?_⟩
   . have hv:v∈[V.ptr 0 0 0,enc ty,.int .i64 h,.map 3]:=hv;simp only[List.mem_cons,List.not_mem_nil,or_false]at hv;rcases hv with rfl|rfl|rfl|rfl
     . cases g<;>rfl
     . exact V.in3_pure (zcO ty)
     . rfl
     . cases g<;>rfl
   . refine EmbD.fits_of ([a,b,c,m]++uId g d) (by cases g<;>rfl) rfl h1 h2 ?_ ?_ (Nat.le_succ _) h5
     . show [V.ptr 0 0 0,enc ty,.int .i64 h,.map 3].map (V.ren _)=_;rw[List.map_cons,List.map_cons,V.ren_none (V.in3_pure (zcO ty))];rfl
     . intro p hp
       cases g with
       | none =>
         simp only[uhD,zgF,zbD,List.append_nil,List.mem_cons,List.not_mem_nil,or_false]at hp;rcases hp with rfl|rfl|rfl|rfl
         . exact hoa
         . exact ho
         . show hs.H.get c=_;rw[g4];exact congrArg some slO_ren.symm
         . exact hom
       | some g =>
         simp only[uhD,zgF,zcU,List.cons_append,List.nil_append,List.mem_cons,List.not_mem_nil,or_false]at hp;rcases hp with rfl|rfl|rfl|rfl|rfl
         . exact hoa
         . exact ho
         . show hs.H.get c=_;rw[g4];exact congrArg some slO_ren.symm
         . exact hom
         . show hs.H.get d=_;rw[g5 g rfl];exact congrArg some trO_ren.symm
 . cases hh
section
variable {F:List Slot->Int->List Int->Ty->Option (Bool×List Int)}{args:List V}{sl:List Slot}{tr:List Change}{g:Nat}{r:Bool}{a b c m d:Nat}{hs:HS}{G:Option Nat}{sn sn':List Int}{tv:V}{h:Int}
@[simp] theorem zSl:uhM F [.ptr a 0 0,tv,.int .i64 h,.map m] hs=ob (Enc.dec tv:Option Ty) fun ty=>ob (hs.H.get a) fun oa=>ob (zbU oa) fun va=>ob (zh1 va) fun b=>ob (hs.H.get b) fun o=>ob (zhj o) fun q=>ob (zmI hs q.1) fun s=>ob (zmu hs q.2) fun t =>
      ob (hs.H.get m) fun om=>ob (zx1 om) fun es=>ob (zdj es) fun sn=>ob (F s.2 h sn ty) fun r =>
      gd (et (nodupB ([a,b,s.1,m]++uId t.2.2 t.1)) (et (([a,b,s.1,m]++uId t.2.2 t.1).all fun x=>Nat.blt x hs.n) (zZ hs hs.n)))
       (some (uhD [tv,.int .i64 h] s.2 t.2.1 t.2.2 sn r.2 r.1 a b s.1 m t.1)):=(rfl)
@[simp] theorem zNV:(uhD args sl tr G sn sn' r a b c m d).v0=.bool r:=(rfl)
@[simp] theorem zKF:(uhD args sl tr G sn sn' r a b c m d).val hs=.bool r:=(rfl)
@[simp] theorem zDc:(uhD args sl tr none sn sn' r a b c m d).heap hs={ H:=(((hs.H.set m (.mp (sn'.map zdd))).set c (slO sl)).set b (.arr 2 0 [[.own c 0 0 sl.length none,.sl (tr.map zA) true]] true false false)).set a (zaM (.ptr b 0 0)),n:=hs.n,log:=a::b::c::m::hs.log }:=by
  show ({ H:=(((hs.H.set m _).set c ((slO sl).ren _)).set b _).set a _,n:=hs.n+0,log:=_ }:HS)=_;rw[slO_ren];rfl
@[simp] theorem zDb:(uhD args sl tr (some g) sn sn' r a b c m d).heap hs={ H:=((((hs.H.set d (trO tr g)).set m (.mp (sn'.map zdd))).set c (slO sl)).set b (.arr 2 0 [[.own c 0 0 sl.length none,.own d g 0 tr.length none]] true false false)).set a (zaM (.ptr b 0 0)),n:=hs.n,log:=a::b::c::m::d::hs.log }:=by
  show ({ H:=((((hs.H.set d ((trO tr g).ren _)).set m _).set c ((slO sl).ren _)).set b _).set a _,n:=hs.n+0,log:=_ }:HS)=_;rw[slO_ren,trO_ren];rfl
end
def zb7(sl:List Slot)(tr:List Change)(g:Option Nat)(sn:List Int)(h:Int):List (Nat×Obj):=[(0,zaM (.ptr 1 0 0)),(1,uB sl tr g 7),(2,slO sl),(3,.mp (sn.map zdd)),(4,zaM (.ptr 0 0 0)),(5,zaM (.int .i64 h)),(6,zaM (.map 3))]++trH 7 tr g
def ucD(x:V)(f:Option Nat)(sl:List Slot)(tr:List Change)(g:Option Nat)(sn sn':List Int)(h:Int)(r:V)(a b c m p q w d:Nat):EmbD where
 k:=uK g 7
 k':=uK g 7
 π:=fun i=>([a,b,c,m,p,q,w]++uId g d).getD i 0
 OL:=zb7 sl tr g sn h
 OL':=zb7 sl tr g sn' h
 vs0:=x::rdC f [.ptr 4 0 0,.ptr 5 0 0,.ptr 6 0 0]
 v0:=r
def zEb(l:List V):Option (Nat×Nat×Nat):=match l with
 | [.ptr p 0 0,.ptr q 0 0,.ptr w 0 0]=>some (p,q,w)
 |_=>none
theorem zxj{l:List V}{q:Nat×Nat×Nat}(h:zEb l=some q):l=[.ptr q.1 0 0,.ptr q.2.1 0 0,.ptr q.2.2 0 0]:=by
 unfold zEb at h;split at h
 . cases h;rfl
 . cases h
@[simp] theorem zOr {p q w:Nat}:zEb [.ptr p 0 0,.ptr q 0 0,.ptr w 0 0]=some (p,q,w):=(rfl)
def intOf(v:V):Option Int:=match v with
 |.int .i64 n=>some n
 |_=>none
theorem zrH{v:V}{n:Int}(h:intOf v=some n):v=.int .i64 n:=by
 unfold intOf at h;split at h
 . cases h;rfl
 . cases h
@[simp] theorem zLN {n:Int}:intOf (.int .i64 n)=some n:=(rfl)
def ucM (f:Option Nat) (F:List Slot->Int->List Int->V->Option (V×List Int)) (vs:List V) (hs:HS):Option EmbD:=match vs with
 | x :: cl=>ob (zko f cl) fun l=>ob (zEb l) fun k=>ob (hs.H.get k.1) fun op=>ob (zbU op) fun vp=>ob (zh1 vp) fun a=>ob (hs.H.get k.2.1) fun oq=>ob (zbU oq) fun vq=>ob (intOf vq) fun h=>ob (hs.H.get k.2.2) fun ow=>ob (zbU ow) fun vw=>ob (zh9 vw) fun m =>
     ob (hs.H.get a) fun oa=>ob (zbU oa) fun va=>ob (zh1 va) fun b=>ob (hs.H.get b) fun o=>ob (zhj o) fun q=>ob (zmI hs q.1) fun s=>ob (zmu hs q.2) fun t =>
     ob (hs.H.get m) fun om=>ob (zx1 om) fun es=>ob (zdj es) fun sn=>ob (F s.2 h sn x) fun r =>
     gd (et (nodupB ([a,b,s.1,m,k.1,k.2.1,k.2.2]++uId t.2.2 t.1)) (et (([a,b,s.1,m,k.1,k.2.1,k.2.2]++uId t.2.2 t.1).all fun x=>Nat.blt x hs.n) (et x.pure (et r.1.pure (zZ hs hs.n)))))
      (some (ucD x f s.2 t.2.1 t.2.2 sn r.2 h r.1 a b s.1 m k.1 k.2.1 k.2.2 t.1))
 |_=>none
theorem zq6{sl:List Slot}{tr:List Change}{g:Option Nat}{sn:List Int}{h:Int}:∀ p∈zb7 sl tr g sn h,p.2.in (dom (zb7 sl tr g sn h))=true/\p.2.fz=false:=by
 intro p hp
 cases g with
 | none =>
   simp only[zb7,zbD,List.append_nil,List.mem_cons,List.not_mem_nil,or_false]at hp ⊢;rcases hp with rfl|rfl|rfl|rfl|rfl|rfl|rfl
   all_goals first|exact⟨rfl,rfl⟩|exact⟨zeB,rfl⟩
 | some g =>
   simp only[zb7,zcU,List.cons_append,List.nil_append,List.mem_cons,List.not_mem_nil,or_false]at hp ⊢;rcases hp with rfl|rfl|rfl|rfl|rfl|rfl|rfl|rfl
   all_goals first|exact⟨rfl,rfl⟩|exact⟨zeB,rfl⟩|exact⟨zkJ,rfl⟩
theorem zm9 {f:Option Nat} {F:List Slot->Int->List Int->V->Option (V×List Int)} {vs:List V} {hs:HS} {D:EmbD} (hh:ucM f F vs hs=some D) :
 ∃ x h sl tr g sn r a b c m p q w d,F sl h sn x=some r/\D=ucD x f sl tr g sn r.2 h r.1 a b c m p q w d/\x.pure=true/\r.1.pure=true/\D.Good/\D.Fits vs hs:=by
 unfold ucM at hh;split at hh
 . rename_i x cl;simp only[zt,z8,et_true,vacant_eq]at hh;obtain⟨l,hl,k,hk,op,hop,vp,hvp,a,ha,oq,hoq,vq,hvq,h,hh1,ow,how,vw,hvw,m,hm,oa,hoa,va,hva,b,hb,o,ho,q,hq,s,hs1,t,ht,om,hom,es,hes,sn,hsn,r,hr,⟨h1,h2,h3,h4,h5⟩,hh⟩:=hh;cases hh;have e1:=zc8 hva;have e2:=zfv hb;have e3:=zfl hq;obtain⟨e4,g4⟩:=zfn hs1;obtain⟨e5,g5⟩:=zfg ht;have e6:=zkf hes;have e7:=zfU hsn;have e8:=zc8 hvp;have e9:=zfv ha;have e10:=zc8 hvq;have e11:=zrH hh1;have e12:=zc8 hvw;have e13:=zlu hm;have e14:=zxj hk;have e15:=zmj hl;obtain⟨c,sl⟩:=s;obtain⟨d,tr,g⟩:=t;obtain⟨y,z⟩:=q;obtain⟨p,q,w⟩:=k;simp only at e4 e5 g4 g5 h1 h2 hr e14 hop hoq how;subst e4 e5 e2 e1 e3 e7 e6 e9 e8 e11 e10 e13 e12 e14 e15;refine⟨x,h,sl,tr,g,sn,r,a,b,c,m,p,q,w,d,hr,rfl,h3,h4,⟨by cases g<;>rfl,by cases g<;>rfl,Nat.le_refl _,fun p hp=>(zq6 p hp).1,zq6,V.in3_pure h4,fun v hv=>?_⟩,?_⟩
   . rcases List.mem_cons.1 hv with rfl|hv
     . exact V.in3_pure h3
     . cases f with
       | none =>
         simp only[zxf,List.mem_cons,List.not_mem_nil,or_false]at hv;rcases hv with rfl|rfl|rfl<;>(cases g<;>rfl)
       | some f =>
         simp only[zxe,List.mem_cons,List.not_mem_nil,or_false]at hv;rcases hv with rfl;cases g<;>rfl
   . refine EmbD.fits_of ([a,b,c,m,p,q,w]++uId g d) (by cases g<;>rfl) rfl h1 h2 ?_ ?_ (Nat.le_succ _) h5
     . show (x::rdC f [.ptr 4 0 0,.ptr 5 0 0,.ptr 6 0 0]).map (V.ren _)=_;rw[List.map_cons,V.ren_none (V.in3_pure h3)];cases f<;>rfl
     . intro u hu
       cases g with
       | none =>
         simp only[ucD,zb7,zbD,List.append_nil,List.mem_cons,List.not_mem_nil,or_false]at hu;rcases hu with rfl|rfl|rfl|rfl|rfl|rfl|rfl
         . exact hoa
         . exact ho
         . show hs.H.get c=_;rw[g4];exact congrArg some slO_ren.symm
         . exact hom
         . exact hop
         . exact hoq
         . exact how
       | some g =>
         simp only[ucD,zb7,zcU,List.cons_append,List.nil_append,List.mem_cons,List.not_mem_nil,or_false]at hu;rcases hu with rfl|rfl|rfl|rfl|rfl|rfl|rfl|rfl
         . exact hoa
         . exact ho
         . show hs.H.get c=_;rw[g4];exact congrArg some slO_ren.symm
         . exact hom
         . exact hop
         . exact hoq
         . exact how
         . show hs.H.get d=_;rw[g5 g rfl];exact congrArg some trO_ren.symm
 . cases hh
section
variable {f:Option Nat}{F:List Slot->Int->List Int->V->Option (V×List Int)}{cl:List V}{sl:List Slot}{tr:List Change}{g:Nat}{r x:V}{a b c m p q w d:Nat}{hs:HS}{G:Option Nat}{sn sn':List Int}{h:Int}
@[simp] theorem zSm:ucM f F (x::cl) hs=ob (zko f cl) fun l=>ob (zEb l) fun k=>ob (hs.H.get k.1) fun op=>ob (zbU op) fun vp=>ob (zh1 vp) fun a=>ob (hs.H.get k.2.1) fun oq=>ob (zbU oq) fun vq=>ob (intOf vq) fun h=>ob (hs.H.get k.2.2) fun ow=>ob (zbU ow) fun vw=>ob (zh9 vw) fun m =>
      ob (hs.H.get a) fun oa=>ob (zbU oa) fun va=>ob (zh1 va) fun b=>ob (hs.H.get b) fun o=>ob (zhj o) fun q=>ob (zmI hs q.1) fun s=>ob (zmu hs q.2) fun t =>
      ob (hs.H.get m) fun om=>ob (zx1 om) fun es=>ob (zdj es) fun sn=>ob (F s.2 h sn x) fun r =>
      gd (et (nodupB ([a,b,s.1,m,k.1,k.2.1,k.2.2]++uId t.2.2 t.1)) (et (([a,b,s.1,m,k.1,k.2.1,k.2.2]++uId t.2.2 t.1).all fun x=>Nat.blt x hs.n) (et x.pure (et r.1.pure (zZ hs hs.n)))))
       (some (ucD x f s.2 t.2.1 t.2.2 sn r.2 h r.1 a b s.1 m k.1 k.2.1 k.2.2 t.1)):=(rfl)
@[simp] theorem zNW:(ucD x f sl tr G sn sn' h r a b c m p q w d).v0=r:=(rfl)
@[simp] theorem zHE {y:Bool}:(ucD x f sl tr G sn sn' h (.bool y) a b c m p q w d).val hs=.bool y:=(rfl)
@[simp] theorem zHD {y:Int}:(ucD x f sl tr G sn sn' h (.int .i64 y) a b c m p q w d).val hs=.int .i64 y:=(rfl)
@[simp] theorem zDe:(ucD x f sl tr none sn sn' h r a b c m p q w d).heap hs={ H:=((((((hs.H.set w (zaM (.map m))).set q (zaM (.int .i64 h))).set p (zaM (.ptr a 0 0))).set m (.mp (sn'.map zdd))).set c (slO sl)).set b (.arr 2 0 [[.own c 0 0 sl.length none,.sl (tr.map zA) true]] true false false)).set a (zaM (.ptr b 0 0)),n:=hs.n,log:=a::b::c::m::p::q::w::hs.log }:=by
  show ({ H:=((((((hs.H.set w _).set q _).set p _).set m _).set c ((slO sl).ren _)).set b _).set a _,n:=hs.n+0,log:=_ }:HS)=_;rw[slO_ren];rfl
@[simp] theorem zDd:(ucD x f sl tr (some g) sn sn' h r a b c m p q w d).heap hs={ H:=(((((((hs.H.set d (trO tr g)).set w (zaM (.map m))).set q (zaM (.int .i64 h))).set p (zaM (.ptr a 0 0))).set m (.mp (sn'.map zdd))).set c (slO sl)).set b (.arr 2 0 [[.own c 0 0 sl.length none,.own d g 0 tr.length none]] true false false)).set a (zaM (.ptr b 0 0)),n:=hs.n,log:=a::b::c::m::p::q::w::d::hs.log }:=by
  show ({ H:=(((((((hs.H.set d ((trO tr g).ren _)).set w _).set q _).set p _).set m _).set c ((slO sl).ren _)).set b _).set a _,n:=hs.n+0,log:=_ }:HS)=_;rw[slO_ren,trO_ren];rfl
end
end Go.J
/- Functions that are lent a row that its owner writes afterwards,and hand back a row of numbers of their own. -/
namespace Go.J
open Enc (enc)
def fnR(sz:Nat)(s:List V->Option (List (List V))):Spec:=fun vs hs=>ob (zaD hs vs) fun vs'=>gd (zD vs') (ob (s (zal vs')) fun es=>gd (es.all fun e=>e.all V.scal1) (some (.sl es false,hs)))
section
variable {ρ:Nat->Value}{P:Program}{f:Nat}{sz:Nat}{s:List V->Option (List (List V))}
theorem zmM{v:V}(h:v.scal1=true):v.pure2=true:=by
 cases v<;>first|rfl|cases h
theorem Valid.fnR (hf:zeH P f) (hsz:sz≠0) (h:∀ vs es,zD vs=true->s vs=some es->(es.all fun e=>e.all V.pure2)=true->∀ hs:HS,hs.H.get hs.n=none->CallOk ρ P f vs hs (oV hs.n es) (bi (Nat.beq (zS es) 0) hs { H:=hs.H.set hs.n (oO sz es),n:=hs.n+1,log:=hs.n::hs.log })):Valid ρ P f (fnR sz s) where
 fn:=hf
 ok := by
  intro vs hs v hs' hq;simp only[J.fnR,z8,zt]at hq;obtain⟨vs',hst,hp,es,hv,hsc,hq⟩:=hq;cases hq;intro X w F μ xs hR hD hO hA;obtain⟨hlen,hall⟩:=zfj hR (F':=fun b=>b<w.heap.size) hR.flt hst (fun _ _ _ _ id g off len cap _ m hm=>hR.lt id g m hm)
  have hA':zqj ρ w (fun b=>b<w.heap.size) (fun _ _=>none) vs' xs:=⟨hA.1.trans hlen.symm,fun i u hi=>by
   obtain⟨u0,hu0,hr⟩:=hall i u hi;obtain⟨x,hx,hr0⟩:=hA.2 i u0 hu0
   exact⟨x,hx,.pure (hr x hr0)⟩⟩
  have hsc2:∀ e∈es,∀ v∈e,v.scal1=true:=fun e he v hv=>List.all_eq_true.1 (List.all_eq_true.1 hsc e he) v hv
  have hsp:(es.all fun e=>e.all V.pure2)=true:=List.all_eq_true.2 fun e he=>List.all_eq_true.2 fun v hv=>zmM (hsc2 e he v hv)
  have hc:=(h _ _ (zdc hp) hv hsp emptyHS rfl).norm hp;refine(hc _ w _ (fun _ _=>none) xs (R.empty fun _ h=>h) Dom.empty (Off.no _) hA').mono fun e w' he=>?_
  cases e with
  | returned x =>
    obtain⟨F1,μ1,g1,g2,g3⟩:=he;have hkeep:∀ b,b<w.heap.size->w'.heap[b]?=w.heap[b]?:=fun b hb=>g3.keep b hb (zbG b _)
    obtain⟨a1,a2⟩:=alone hR g3.io g3.size hkeep;refine⟨_,μ,a1,.pure ?_,a2⟩;clear a1 a2 hkeep
    cases es with
    | nil =>
      have g2:Rep ρ w' F1 μ1 .snil x:=g2
      cases g2 with
      |pure g2=>cases g2;exact .slE _ _ _ (fun _=>rfl)
    | cons e es =>
      have g2:Rep ρ w' F1 μ1 (.own 0 es.length 0 (es.length+1) none) x:=by
       have e0:oV emptyHS.n (e::es)=.own 0 es.length 0 (es.length+1) none:=by simp[emptyHS]
       rw[e0]at g2;exact g2
      have hb0:Nat.beq (zS (e::es)) 0=false:=by simp
      rw[hb0]at g1 g3;replace g1:R ρ w' F1 μ1 P { H:=emptyHS.H.set emptyHS.n (oO sz (e::es)),n:=emptyHS.n+1,log:=emptyHS.n::emptyHS.log }:=g1
      have hst2:still { H:=emptyHS.H.set emptyHS.n (oO sz (e::es)),n:=emptyHS.n+1,log:=emptyHS.n::emptyHS.log } (.own 0 es.length 0 (es.length+1) none)=some (.sl (e::es) false):=by
       simp[still,zrz,emptyHS,hsz]
      have hall2:=zhg g1 g2 hst2 (F':=fun _=>True) (fun _ _=>trivial) (fun _ _ _ _=>trivial)
      cases g2 with
      |pure g2=>cases g2
      | own _ _ _ _ _ c m hm h1 h2 h3 h4 =>
        have hb:w.heap.size<=m.b:=by
         rcases g3.mn _ _ _ hm with h|⟨_,_,_,h,_⟩
         . exact h
         . cases h
        have hb2:=g1.lt _ _ _ hm
        cases hall2 with
        | slC _ _ _ size _ _ ys q1 q2 q3 q4 q5 q6 =>
          exact .slC (e::es) m.b 0 size c false ys (.inr ⟨hb,hb2⟩) q2 q3 (fun i e' j v he hv=>by
           exact zfp (μ:=μ1) (.pure (q4 i e' j v he hv)) (hsc2 _ (List.mem_of_getElem? he) _ (List.mem_of_getElem? hv))) q5 q6
  |panicked c=>exact he
  |outgrown=>exact he
 kept:=by
  intro vs hs q hq;simp only[J.fnR,z8,zt]at hq;obtain⟨_,_,_,_,_,_,hq⟩:=hq;cases hq;exact .refl _
variable {vs:List V}{hs:HS}{K:V×HS->Prop}
@[simp] theorem zPA:okT (fnR sz s vs hs) K=okT (zaD hs vs) fun vs'=>zD vs'=true/\okT (s (zal vs')) fun es=>(es.all fun e=>e.all V.scal1)=true/\K (.sl es false,hs):=by
  show ok (fnR sz s vs hs) K=ok (zaD hs vs) fun vs'=>zD vs'=true/\ok (s (zal vs')) fun es=>(es.all fun e=>e.all V.scal1)=true/\K (.sl es false,hs)
  simp only[fnR,zbX,zak,zF]
end
end Go.J
/- What a function leaves,with the new numbers found by the evaluator. -/
namespace Go.J
open Enc (enc)
theorem GivesL.auto{k:Nat}{v v1:V}{OL:List (Nat×Obj)}{hs:HS}(hv:v1.in3 (dom OL)=true/\v=v1.ren (J.auto k [(0,v1)] OL (PT.leaf.set 0 v) hs.H))
 (hH:∀ p∈OL,p.2.in (dom OL)=true/\hs.H.get (J.auto k [(0,v1)] OL (PT.leaf.set 0 v) hs.H p.1)=some (p.2.ren (J.auto k [(0,v1)] OL (PT.leaf.set 0 v) hs.H)))
 (hi:nodupB (OL.map fun p=>J.auto k [(0,v1)] OL (PT.leaf.set 0 v) hs.H p.1)=true) (hk:(List.range k).all (fun i=>Nat.beq (J.auto k [(0,v1)] OL (PT.leaf.set 0 v) hs.H i) i&&dom OL i)=true):GivesL k v1 OL v hs :=
 GivesL.litX _ hi hk hv hH
@[simp] theorem zxS {g m:Nat}:gN (some g) m=some (g+m):=by cases m<;>rfl
def slA(c n:Nat)(o:Obj):Option (Nat×List Slot):=match o with
 |.arr 8 0 es false false true=>gd (Nat.beq n (zS es)) (ob (zah es:Option (List Slot)) fun sl=>some (c,sl))
 |_=>none
def trA(d g n:Nat)(o:Obj):Option (Nat×List Change×Option Nat):=match o with
 |.arr 10 g' es false false true=>gd (et (Nat.beq g' g) (Nat.beq n (zS es))) (ob (zah es:Option (List Change)) fun tr=>some (d,tr,some g))
 |_=>none
section
variable {hs:HS}{c d g h n:Nat}{sl:List Slot}{tr:List Change}
@[simp] theorem zD5:zmI hs (.own c 0 0 n none)=ob (hs.H.get c) (slA c n):=(rfl)
@[simp] theorem zS1:slA c n (.arr 8 0 (sl.map zG) false false true)=gd (Nat.beq n sl.length) (some (c,sl)):=by
  show gd (Nat.beq n (zS (sl.map zG))) (ob (zah (sl.map zG):Option (List Slot)) fun sl=>some (c,sl))=_;rw[zhT,zO,List.length_map];rfl
@[simp] theorem zDi:zmu hs (.own d g 0 n none)=ob (hs.H.get d) (trA d g n):=(rfl)
@[simp] theorem zSo:trA d g n (.arr 10 h (tr.map zA) false false true)=gd (et (Nat.beq h g) (Nat.beq n tr.length)) (some (d,tr,some g)):=by
  show gd (et (Nat.beq h g) (Nat.beq n (zS (tr.map zA)))) (ob (zah (tr.map zA):Option (List Change)) fun tr=>some (d,tr,some g))=_;rw[zd9,zO,List.length_map];rfl
end
@[simp] theorem zSn {tr:List Change} {g:Nat}:trO tr g=.arr 10 g (tr.map zA) false false true:=(rfl)
@[simp] theorem z7w:zcT []=.tuple []:=(rfl)
@[simp] theorem z7J:zdj []=some []:=(rfl)
attribute [-simp] zD6 zDj
end Go.J
