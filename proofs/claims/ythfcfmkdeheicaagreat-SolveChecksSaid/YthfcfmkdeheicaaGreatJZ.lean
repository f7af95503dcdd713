import Derived.Test.YthfcfmkdeheicaaGreatJK
import Derived.Test.YthfcfmkdeheicaaGreatJP
import Derived.Test.YthfcfmkdeheicaaGreatJS
import Derived.Test.YthfcfmkdeheicaaGreatJY
set_option linter.all false
noncomputable section
/- The closure of a search with a set: it holds the set,the store,the list found,and itself. -/
namespace Go.J
open Enc (enc)
@[simp] theorem piO_mp {es:List (V×V)} {o:Obj} {k z:Nat}:piO (.mp es) o k z=z:=by
  cases o<;>rfl
def seenP(i:Int):V×V:=(.int .i64 i,.bool true)
def seenOf:List (V×V)→Option (List Int)
 | []=>some []
 |(.int .i64 n,.bool true)::l=>(seenOf l).map (n::·)
 |_=>none
@[simp] theorem seenOf_map (l:List Int):seenOf (l.map seenP)=some l:=by
  induction l with
  |nil=>rfl
  | cons n l ih =>
    show (seenOf (l.map seenP)).map (n::·)=_
    rw[ih];rfl
@[simp] theorem seenOf_app (l:List Int) (n:Int):seenOf (l.map seenP++[seenP n])=some (l++[n]):=by
  have:=seenOf_map (l++[n])
  rwa [List.map_append]at this
@[simp] theorem find_seen (n:Int) (l:List Int):findJ (.int .i64 n) (l.map seenP)=some (if n∈l then some (.bool true)else none):=by
  induction l with
  |nil=>rfl
  | cons m l ih =>
    show ob (keyEq (.int .i64 n) (.int .i64 m)) (fun q=>bi q (some (some (.bool true))) (findJ (.int .i64 n) (l.map seenP)))=_
    rw[ih]
    show ob (gd (kindEq .i64 .i64) (some (eqI n m))) _=_
    by_cases h:n=m
    · subst h
      have:eqI n n=true:=by simp
      rw[this];simp[kindEq]
    · have:eqI n m=false:=by
       cases hq:eqI n m with
       |false=>rfl
       |true=>exact absurd (by simpa using hq) h
      rw[this]
      simp[h]
@[simp] theorem put_seen {n:Int} {l:List Int} (h:n ∉ l):putMapJ (.int .i64 n) (.bool true) (l.map seenP)=some ((l++[n]).map seenP):=by
  induction l with
  |nil=>rfl
  | cons m l ih =>
    have h1:n≠m:=fun e=>h (e ▸ List.mem_cons_self ..)
    have h2:n ∉ l:=fun e=>h (List.mem_cons_of_mem _ e)
    show ob (keyEq (.int .i64 n) (.int .i64 m)) (fun q=>bi q _ (ob (putMapJ (.int .i64 n) (.bool true) (l.map seenP)) fun r=>some (seenP m::r)))=_
    rw[ih h2]
    show ob (gd (kindEq .i64 .i64) (some (eqI n m))) _=_
    have:eqI n m=false:=by
     cases hq:eqI n m with
     |false=>rfl
     |true=>exact absurd (by simpa using hq) h1
    rw[this];rfl
def slfV(g a c b e:Nat):V:=.func g [.ptr a 0 0,.ptr c 0 0,.ptr b 0 0,.ptr e 0 0]
def slfIs(g a c b e:Nat)(v:V):Bool:=match v with
 |.func g' [.ptr a' 0 0,.ptr c' 0 0,.ptr b' 0 0,.ptr e' 0 0]=>et (Nat.beq g' g) (et (Nat.beq a' a) (et (Nat.beq c' c) (et (Nat.beq b' b) (Nat.beq e' e))))
 |_=>false
@[simp] theorem slfIs_n {g a c b e:Nat}:slfIs g a c b e (.func g [.ptr a 0 0,.ptr c 0 0,.ptr b 0 0,.ptr e 0 0])=true:=by
  show et (Nat.beq g g) (et (Nat.beq a a) (et (Nat.beq c c) (et (Nat.beq b b) (Nat.beq e e))))=true
  simp
def mapId? (v:V):Option Nat:=match v with
 |.map i=>some i
 |_=>none
@[simp] theorem mapId_n {m:Nat}:mapId? (.map m)=some m:=(rfl)
def mpOf(o:Obj):Option (List (V×V)):=match o with
 |.mp es=>some es
 |_=>none
@[simp] theorem mpOf_n {es:List (V×V)}:mpOf (.mp es)=some es:=(rfl)
def stBox? (o:Obj):Option Store:=match o with
 |.arr 2 0 [[sl,tr]] true false false=>(Enc.dec (.agg [sl,tr]):Option Store)
 |_=>none
@[simp] theorem stBox_n {s:Store}:stBox? (.arr 2 0 [[.sl (s.slots.map encSlot) false,.sl (s.trail.map encChange) false]] true false false)=some s:=by
  show (Enc.dec (Enc.enc s):Option Store)=some s
  exact Enc.dec_enc s
def svOL(g:Nat)(s:Store)(seen out:List Int):List (Nat×Obj) :=
 [(0,capB (.map 1)),(1,.mp (seen.map seenP)),(2,box (encStore s)),(3,capB (oV 5 (out.map encI))),(4,capB (slfV g 0 2 3 4))]++oH 5 1 (out.map encI)
def svPi(a m c b e ro:Nat)(i:Nat):Nat:=if i=0 then a else if i=1 then m else if i=2 then c else if i=3 then b else if i=4 then e else ro
def svD(g:Nat)(s:Store)(tv:V)(a m c b e ro:Nat)(st st':Store.Sv):EmbD where
 k:=match st.2 with | []=>5|_=>6
 k':=match st'.2 with | []=>5|_=>6
 π:=svPi a m c b e ro
 OL:=svOL g s st.1 st.2
 OL':=svOL g s st'.1 st'.2
 vs0:=[tv,.ptr 0 0 0,.ptr 2 0 0,.ptr 3 0 0,.ptr 4 0 0]
 v0:=.tuple []
def svNo(a m c b e:Nat):Bool:=et (nt (Nat.beq a m)) (et (nt (Nat.beq a c)) (et (nt (Nat.beq a b)) (et (nt (Nat.beq a e)) (et (nt (Nat.beq m c)) (et (nt (Nat.beq m b)) (et (nt (Nat.beq m e)) (et (nt (Nat.beq c b)) (et (nt (Nat.beq c e)) (nt (Nat.beq b e))))))))))
def svRo(a m c b e ro:Nat):Bool:=et (nt (Nat.beq a ro)) (et (nt (Nat.beq m ro)) (et (nt (Nat.beq c ro)) (et (nt (Nat.beq b ro)) (nt (Nat.beq e ro)))))
def svLt(a m c b e n:Nat):Bool:=et (Nat.blt a n) (et (Nat.blt m n) (et (Nat.blt c n) (et (Nat.blt b n) (Nat.blt e n))))
def svM (g:Nat) (F:Store→Store.Sv→Ty→Option Store.Sv) (vs:List V) (hs:HS):Option EmbD:=match vs with
 | [tv,.ptr a 0 0,.ptr c 0 0,.ptr b 0 0,.ptr e 0 0]=>ob (Enc.dec tv:Option Ty) fun t=>ob (hs.H.get a) fun oa=>ob (capB? oa) fun va=>ob (mapId? va) fun m=>ob (hs.H.get m) fun om=>ob (mpOf om) fun es=>ob (seenOf es) fun seen =>
  ob (hs.H.get c) fun oc=>ob (stBox? oc) fun s=>ob (hs.H.get b) fun o1=>ob (capB? o1) fun vb=>ob (rowOf 1 hs vb) fun oc1=>ob (decL oc1:Option (List Int)) fun out=>ob (hs.H.get e) fun oe=>ob (capB? oe) fun ve=>ob (F s (seen,out) t) fun r =>
   gd (et (slfIs g a c b e ve) (et (svNo a m c b e) (et (bi (Nat.beq (lenL oc1) 0) true (svRo a m c b e (rowId vb))) (et (svLt a m c b e hs.n) (et (Nat.ble (lenL out) (lenL r.2)) (vacant hs hs.n))))))
    (some (svD g s tv a m c b e (rowId vb) (seen,out) r))
 |_=>none
section
variable {g:Nat}{s:Store}{tv:V}{a m c b e ro:Nat}{seen seen' out out':List Int}{x y:Int}{hs:HS}{st st':Store.Sv}
@[simp] theorem svD_val:(svD g s tv a m c b e ro st st').val hs=.tuple []:=(rfl)
theorem svD_heap00:(svD g s tv a m c b e ro (seen,[]) (seen',[])).heap hs={ H:=((((hs.H.set e (capB (slfV g a c b e))).set b (capB .snil)).set c (box (encStore s))).set m (.mp (seen'.map seenP))).set a (capB (.map m)),n:=hs.n,log:=a::m::c::b::e::hs.log }:=by
 show ({ H:=((((hs.H.set e _).set b _).set c _).set m _).set a _,n:=hs.n+0,log:=_ }:HS)=_
 rfl
theorem svD_heap01:(svD g s tv a m c b e ro (seen,[]) (seen',x::out')).heap hs={ H:=(((((hs.H.set hs.n (oO 1 ((x::out').map encI))).set e (capB (slfV g a c b e))).set b (capB (oV hs.n ((x::out').map encI)))).set c (box (encStore s))).set m (.mp (seen'.map seenP))).set a (capB (.map m)),n:=hs.n+1,log:=a::m::c::b::e::hs.n::hs.log }:=by
 show ({ H:=(((((hs.H.set (hs.n+0) ((oO 1 ((x::out').map encI)).ren _)).set e _).set b _).set c _).set m _).set a _,n:=hs.n+1,log:=_ }:HS)=_
 rw[oO_ren (encI_pure (x::out'))];rfl
theorem svD_heap11:(svD g s tv a m c b e ro (seen,y::out) (seen',x::out')).heap hs={ H:=(((((hs.H.set ro (oO 1 ((x::out').map encI))).set e (capB (slfV g a c b e))).set b (capB (oV ro ((x::out').map encI)))).set c (box (encStore s))).set m (.mp (seen'.map seenP))).set a (capB (.map m)),n:=hs.n,log:=a::m::c::b::e::ro::hs.log }:=by
 show ({ H:=(((((hs.H.set ro ((oO 1 ((x::out').map encI)).ren _)).set e _).set b _).set c _).set m _).set a _,n:=hs.n+0,log:=_ }:HS)=_
 rw[oO_ren (encI_pure (x::out'))];rfl
attribute [simp] svD_heap00 svD_heap01 svD_heap11
@[simp] theorem svM_n {F:Store→Store.Sv→Ty→Option Store.Sv}:svM g F [tv,.ptr a 0 0,.ptr c 0 0,.ptr b 0 0,.ptr e 0 0] hs=ob (Enc.dec tv:Option Ty) fun t=>ob (hs.H.get a) fun oa=>ob (capB? oa) fun va=>ob (mapId? va) fun m=>ob (hs.H.get m) fun om=>ob (mpOf om) fun es=>ob (seenOf es) fun seen =>
      ob (hs.H.get c) fun oc=>ob (stBox? oc) fun s=>ob (hs.H.get b) fun o1=>ob (capB? o1) fun vb=>ob (rowOf 1 hs vb) fun oc1=>ob (decL oc1:Option (List Int)) fun out=>ob (hs.H.get e) fun oe=>ob (capB? oe) fun ve=>ob (F s (seen,out) t) fun r =>
       gd (et (slfIs g a c b e ve) (et (svNo a m c b e) (et (bi (Nat.beq (lenL oc1) 0) true (svRo a m c b e (rowId vb))) (et (svLt a m c b e hs.n) (et (Nat.ble (lenL out) (lenL r.2)) (vacant hs hs.n))))))
        (some (svD g s tv a m c b e (rowId vb) (seen,out) r)):=(rfl)
@[simp] theorem svNo_n:svNo a m c b e=et (nt (Nat.beq a m)) (et (nt (Nat.beq a c)) (et (nt (Nat.beq a b)) (et (nt (Nat.beq a e)) (et (nt (Nat.beq m c)) (et (nt (Nat.beq m b)) (et (nt (Nat.beq m e)) (et (nt (Nat.beq c b)) (et (nt (Nat.beq c e)) (nt (Nat.beq b e)))))))))):=(rfl)
@[simp] theorem svRo_n:svRo a m c b e ro=et (nt (Nat.beq a ro)) (et (nt (Nat.beq m ro)) (et (nt (Nat.beq c ro)) (et (nt (Nat.beq b ro)) (nt (Nat.beq e ro))))):=(rfl)
@[simp] theorem svLt_n {n:Nat}:svLt a m c b e n=et (Nat.blt a n) (et (Nat.blt m n) (et (Nat.blt c n) (et (Nat.blt b n) (Nat.blt e n)))):=(rfl)
end
end Go.J
/- Methods of a set of types: a struct of two maps,the second one nil,and the first one's types. -/
namespace Go.J
open Enc (enc)
def typP(a:Assign):V×V:=(.int .i64 a.id,enc a.type)
def typOf:List (V×V)→Option (List Assign)
 | []=>some []
 |(.int .i64 n,v)::l=>ob (Enc.dec v:Option Ty) fun t=>ob (typOf l) fun r=>some (⟨n,t⟩::r)
 |_=>none
@[simp] theorem typOf_map (l:List Assign):typOf (l.map typP)=some l:=by
  induction l with
  |nil=>rfl
  | cons a l ih =>
    show ob (Enc.dec (enc a.type):Option Ty) (fun t=>ob (typOf (l.map typP)) fun r=>some (⟨a.id,t⟩::r))=_
    rw[Enc.dec_enc,ih];rfl
@[simp] theorem typOf_app (l:List Assign) (a:Assign):typOf (l.map typP++[typP a])=some (l++[a]):=by
  have:=typOf_map (l++[a])
  rwa [List.map_append]at this
theorem eqI_false{n m:Int}(h:n≠m):eqI n m=false:=by
 cases hq:eqI n m with
 |false=>rfl
 |true=>exact absurd (by simpa using hq) h
@[simp] theorem find_typ (n:Int) (l:List Assign):findJ (.int .i64 n) (l.map typP)=some ((lookA l n).map fun t=>enc t):=by
  induction l with
  |nil=>rfl
  | cons a l ih =>
    show ob (keyEq (.int .i64 n) (.int .i64 a.id)) (fun q=>bi q (some (some (enc a.type))) (findJ (.int .i64 n) (l.map typP)))=_
    rw[ih]
    show ob (gd (kindEq .i64 .i64) (some (eqI n a.id))) _=_
    rw[lookA]
    by_cases h:a.id=n
    · have:eqI n a.id=true:=by simp[h]
      rw[this,if_pos h];rfl
    · rw[eqI_false fun e=>h e.symm,if_neg h];rfl
def triB(m:Nat):Obj:=.arr 2 0 [[.map m,.nilmap]] true false false
def triOf(o:Obj):Option Nat:=match o with
 |.arr 2 0 [[.map m,.nilmap]] true false false=>some m
 |_=>none
@[simp] theorem triOf_n {m:Nat}:triOf (.arr 2 0 [[.map m,.nilmap]] true false false)=some m:=(rfl)
def triOL(T:List Assign):List (Nat×Obj):=[(0,triB 1),(1,.mp (T.map typP))]
def triD(args:List V)(T T':List Assign)(r:V)(a m:Nat):EmbD where
 k:=2
 k':=2
 π:=fun i=>if i=0 then a else m
 OL:=triOL T
 OL':=triOL T'
 vs0:=.ptr 0 0 0::args
 v0:=r
def triM(F:List Assign→List V→Option (V×List Assign))(vs:List V)(hs:HS):Option EmbD:=match vs with
 |.ptr a 0 0::args=>ob (hs.H.get a) fun o=>ob (triOf o) fun m=>ob (hs.H.get m) fun om=>ob (mpOf om) fun es=>ob (typOf es) fun T=>ob (F T args) fun r =>
  gd (et (nt (Nat.beq a m)) (et (Nat.blt a hs.n) (et (Nat.blt m hs.n) (et (allPure args) r.1.pure)))) (some (triD args T r.2 r.1 a m))
 |_=>none
section
variable {F:List Assign→List V→Option (V×List Assign)}{args:List V}{hs:HS}{T T':List Assign}{r:V}{a m:Nat}
@[simp] theorem triM_n:triM F (.ptr a 0 0::args) hs=ob (hs.H.get a) fun o=>ob (triOf o) fun m=>ob (hs.H.get m) fun om=>ob (mpOf om) fun es=>ob (typOf es) fun T=>ob (F T args) fun r =>
      gd (et (nt (Nat.beq a m)) (et (Nat.blt a hs.n) (et (Nat.blt m hs.n) (et (allPure args) r.1.pure)))) (some (triD args T r.2 r.1 a m)):=(rfl)
@[simp] theorem triD_heap:(triD args T T' r a m).heap hs={ H:=(hs.H.set m (.mp (T'.map typP))).set a (triB m),n:=hs.n,log:=a::m::hs.log }:=by
  show ({ H:=(hs.H.set m _).set a _,n:=hs.n+0,log:=_ }:HS)=_
  rfl
end
end Go.J
/- The search for a variable in a set of types: a third object,the variables that were seen. -/
namespace Go.J
open Enc (enc)
def trsOL(T:List Assign)(S:List Int):List (Nat×Obj):=[(0,triB 1),(1,.mp (T.map typP)),(2,.mp (S.map seenP))]
def trsD(args:List V)(T:List Assign)(S S':List Int)(r:V)(a m c:Nat):EmbD where
 k:=3
 k':=3
 π:=fun i=>if i=0 then a else if i=1 then m else c
 OL:=trsOL T S
 OL':=trsOL T S'
 vs0:=.ptr 0 0 0::(args++[.map 2])
 v0:=r
def trsM(F:List Assign→List Int→Int→Ty→Option (Bool×List Int))(vs:List V)(hs:HS):Option EmbD:=match vs with
 | [.ptr a 0 0,.int .i64 n,tv,.map c]=>ob (Enc.dec tv:Option Ty) fun t=>ob (hs.H.get a) fun o=>ob (triOf o) fun m=>ob (hs.H.get m) fun om=>ob (mpOf om) fun es=>ob (typOf es) fun T=>ob (hs.H.get c) fun oc=>ob (mpOf oc) fun ec=>ob (seenOf ec) fun S=>ob (F T S n t) fun r =>
  gd (et (nt (Nat.beq a m)) (et (nt (Nat.beq a c)) (et (nt (Nat.beq m c)) (et (Nat.blt a hs.n) (et (Nat.blt m hs.n) (Nat.blt c hs.n)))))) (some (trsD [.int .i64 n,tv] T S r.2 (.bool r.1) a m c))
 |_=>none
section
variable {F:List Assign→List Int→Int→Ty→Option (Bool×List Int)}{hs:HS}{T:List Assign}{S S':List Int}{args:List V}{b:Bool}{a m c:Nat}{n:Int}{tv:V}
@[simp] theorem trsM_n:trsM F [.ptr a 0 0,.int .i64 n,tv,.map c] hs=ob (Enc.dec tv:Option Ty) fun t=>ob (hs.H.get a) fun o=>ob (triOf o) fun m=>ob (hs.H.get m) fun om=>ob (mpOf om) fun es=>ob (typOf es) fun T=>ob (hs.H.get c) fun oc=>ob (mpOf oc) fun ec=>ob (seenOf ec) fun S=>ob (F T S n t) fun r =>
      gd (et (nt (Nat.beq a m)) (et (nt (Nat.beq a c)) (et (nt (Nat.beq m c)) (et (Nat.blt a hs.n) (et (Nat.blt m hs.n) (Nat.blt c hs.n)))))) (some (trsD [.int .i64 n,tv] T S r.2 (.bool r.1) a m c)):=(rfl)
@[simp] theorem trsD_val:(trsD args T S S' (.bool b) a m c).val hs=.bool b:=(rfl)
@[simp] theorem trsD_heap:(trsD args T S S' (.bool b) a m c).heap hs={ H:=((hs.H.set c (.mp (S'.map seenP))).set m (.mp (T.map typP))).set a (.arr 2 0 [[.map m,.nilmap]] true false false),n:=hs.n,log:=a::m::c::hs.log }:=by
  show ({ H:=((hs.H.set c _).set m _).set a _,n:=hs.n+0,log:=_ }:HS)=_
  rfl
end
end Go.J
/- Methods of a set of types that resolve: the second map may be there or not. -/
namespace Go.J
open Enc (enc)
def reOL(T:List Assign):Option (List Assign)→List (Nat×Obj)
 |none=>[(0,.arr 2 0 [[.map 1,.nilmap]] true false false),(1,.mp (T.map typP))]
 |some L=>[(0,.arr 2 0 [[.map 1,.map 2]] true false false),(1,.mp (T.map typP)),(2,.mp (L.map typP))]
def reK:Option (List Assign)→Nat
 |none=>2
 |some _=>3
def rePi(a m c:Nat)(i:Nat):Nat:=if i=0 then a else if i=1 then m else c
def reD(args:List V)(T:List Assign)(D D':Option (List Assign))(r:V)(a m c:Nat):EmbD where
 k:=reK D
 k':=reK D'
 π:=rePi a m c
 OL:=reOL T D
 OL':=reOL T D'
 vs0:=.ptr 0 0 0::args
 v0:=r
def reOf(o:Obj):Option (Nat×V):=match o with
 |.arr 2 0 [[.map m,v]] true false false=>some (m,v)
 |_=>none
@[simp] theorem reOf_n {m:Nat} {v:V}:reOf (.arr 2 0 [[.map m,v]] true false false)=some (m,v):=(rfl)
def dnOf(hs:HS)(v:V):Option (Option (List Assign)×Nat):=match v with
 |.nilmap=>some (none,0)
 |.map c=>ob (hs.H.get c) fun o=>ob (mpOf o) fun es=>ob (typOf es) fun D=>some (some D,c)
 |_=>none
@[simp] theorem dnOf_nil {hs:HS}:dnOf hs .nilmap=some (none,0):=(rfl)
@[simp] theorem dnOf_map {hs:HS} {c:Nat}:dnOf hs (.map c)=ob (hs.H.get c) fun o=>ob (mpOf o) fun es=>ob (typOf es) fun D=>some (some D,c):=(rfl)
def reC(hs:HS)(a m:Nat)(D:Option (List Assign))(c:Nat)(D':Option (List Assign)):Bool:=match D,D' with
 |none,none=>true
 |none,some _=>vacant hs hs.n
 |some _,none=>false
 |some _,some _=>et (nt (Nat.beq a c)) (et (nt (Nat.beq m c)) (Nat.blt c hs.n))
@[simp] theorem reC_nn {hs:HS} {a m c:Nat}:reC hs a m none c none=true:=(rfl)
@[simp] theorem reC_ns {hs:HS} {a m c:Nat} {L:List Assign}:reC hs a m none c (some L)=vacant hs hs.n:=(rfl)
@[simp] theorem reC_ss {hs:HS} {a m c:Nat} {L L':List Assign}:reC hs a m (some L) c (some L')=et (nt (Nat.beq a c)) (et (nt (Nat.beq m c)) (Nat.blt c hs.n)):=(rfl)
def reM(F:List Assign→Option (List Assign)→List V→Option (V×Option (List Assign)))(vs:List V)(hs:HS):Option EmbD:=match vs with
 |.ptr a 0 0::args=>ob (hs.H.get a) fun o=>ob (reOf o) fun q=>ob (hs.H.get q.1) fun om=>ob (mpOf om) fun es=>ob (typOf es) fun T=>ob (dnOf hs q.2) fun dc=>ob (F T dc.1 args) fun r =>
  gd (et (nt (Nat.beq a q.1)) (et (Nat.blt a hs.n) (et (Nat.blt q.1 hs.n) (et (reC hs a q.1 dc.1 dc.2 r.2) (et (allPure args) r.1.pure))))) (some (reD args T dc.1 r.2 r.1 a q.1 dc.2))
 |_=>none
section
variable {F:List Assign→Option (List Assign)→List V→Option (V×Option (List Assign))}{args:List V}{hs:HS}{T L L':List Assign}{D D':Option (List Assign)}{r:V}{a m c:Nat}
@[simp] theorem reM_n:reM F (.ptr a 0 0::args) hs=ob (hs.H.get a) fun o=>ob (reOf o) fun q=>ob (hs.H.get q.1) fun om=>ob (mpOf om) fun es=>ob (typOf es) fun T=>ob (dnOf hs q.2) fun dc=>ob (F T dc.1 args) fun r =>
      gd (et (nt (Nat.beq a q.1)) (et (Nat.blt a hs.n) (et (Nat.blt q.1 hs.n) (et (reC hs a q.1 dc.1 dc.2 r.2) (et (allPure args) r.1.pure))))) (some (reD args T dc.1 r.2 r.1 a q.1 dc.2)):=(rfl)
@[simp] theorem reD_val (h:r.in3 (fun _=>false)=true):(reD args T D D' r a m c).val hs=r:=V.ren_none h
@[simp] theorem reD_heap00:(reD args T none none r a m c).heap hs={ H:=(hs.H.set m (.mp (T.map typP))).set a (.arr 2 0 [[.map m,.nilmap]] true false false),n:=hs.n,log:=a::m::hs.log }:=by
  show ({ H:=(hs.H.set m _).set a _,n:=hs.n+0,log:=_ }:HS)=_
  rfl
@[simp] theorem reD_heap01:(reD args T none (some L) r a m c).heap hs={ H:=((hs.H.set hs.n (.mp (L.map typP))).set m (.mp (T.map typP))).set a (.arr 2 0 [[.map m,.map hs.n]] true false false),n:=hs.n+1,log:=a::m::hs.n::hs.log }:=by
  show ({ H:=((hs.H.set (hs.n+0) _).set m _).set a _,n:=hs.n+1,log:=_ }:HS)=_
  rfl
@[simp] theorem reD_heap11:(reD args T (some L) (some L') r a m c).heap hs={ H:=((hs.H.set c (.mp (L'.map typP))).set m (.mp (T.map typP))).set a (.arr 2 0 [[.map m,.map c]] true false false),n:=hs.n,log:=a::m::c::hs.log }:=by
  show ({ H:=((hs.H.set c _).set m _).set a _,n:=hs.n+0,log:=_ }:HS)=_
  rfl
@[simp] theorem reD_v0:(reD args T D D' r a m c).v0=r:=(rfl)
end
def newD:EmbD where
 k:=0
 k':=2
 π:=fun i=>i
 OL:=[]
 OL':=triOL []
 vs0:=[]
 v0:=.ptr 0 0 0
def newM(vs:List V)(hs:HS):Option EmbD:=match vs with
 | []=>gd (et (vacant hs hs.n) (vacant hs (hs.n+1))) (some newD)
 |_=>none
@[simp] theorem newM_n {hs:HS}:newM [] hs=gd (et (vacant hs hs.n) (vacant hs (hs.n+1))) (some newD):=(rfl)
@[simp] theorem newD_val {hs:HS}:newD.val hs=.ptr hs.n 0 0:=(rfl)
@[simp] theorem newD_heap {hs:HS}:newD.heap hs={ H:=(hs.H.set (hs.n+1) (.mp [])).set hs.n (.arr 2 0 [[.map (hs.n+1),.nilmap]] true false false),n:=hs.n+2,log:=hs.n::(hs.n+1)::hs.log }:=by
  show ({ H:=(hs.H.set (hs.n+1) _).set (hs.n+0) _,n:=hs.n+2,log:=_ }:HS)=_
  rfl
@[simp] theorem typOf_nil:typOf []=some []:=(rfl)
@[simp] theorem findJ_nil0 {k:V}:findJ k []=some none:=(rfl)
@[simp] theorem binJ_nilmap {P:Program} {b:BinOp} {t:TypeId} {y:V}:binJ P b t .nilmap y=otherOp P b t .nilmap y:=(rfl)
@[simp] theorem binJ_map {P:Program} {b:BinOp} {t:TypeId} {i:Nat} {y:V}:binJ P b t (.map i) y=otherOp P b t (.map i) y:=(rfl)
end Go.J
/- Closures over a set of types: one that holds the variable of the set,one that holds the variable of the first,a function that is handed the second. -/
namespace Go.J
open Enc (enc)
def ptrOf(v:V):Option Nat:=match v with
 |.ptr a 0 0=>some a
 |_=>none
@[simp] theorem ptrOf_n {a:Nat}:ptrOf (.ptr a 0 0)=some a:=(rfl)
def lgF(g:Nat)(v:V):Option Nat:=match v with
 |.func g' [.ptr c 0 0]=>gd (Nat.beq g' g) (some c)
 |_=>none
@[simp] theorem lgF_n {g g' c:Nat}:lgF g (.func g' [.ptr c 0 0])=gd (Nat.beq g' g) (some c):=(rfl)
def lgOL(w g1:Nat)(T:List Assign):List (Nat×Obj) :=
 [(0,.arr 1 0 [[.ptr 1 0 0]] true false false),(1,.arr 2 0 [[.map 2,.nilmap]] true false false),(2,.mp (T.map typP))]++(match w with | 0=>[]|_+1=>[(3,.arr 1 0 [[.func g1 [.ptr 0 0 0]]] true false false)])
def lgK(w:Nat):Nat:=match w with | 0=>3|_+1=>4
def lgV(w g2:Nat):V:=match w with | 0=>.ptr 0 0 0 | 1=>.ptr 3 0 0|_+2=>.func g2 [.ptr 3 0 0]
def lgPi(c a m b:Nat)(i:Nat):Nat:=if i=0 then c else if i=1 then a else if i=2 then m else b
def lgD(w g1 g2:Nat)(av:V)(T:List Assign)(r:V)(c a m b:Nat):EmbD where
 k:=lgK w
 k':=lgK w
 π:=lgPi c a m b
 OL:=lgOL w g1 T
 OL':=lgOL w g1 T
 vs0:=[av,lgV w g2]
 v0:=r
@[simp] theorem lgD_v0 {w g1 g2:Nat} {av:V} {T:List Assign} {r:V} {c a m b:Nat}:(lgD w g1 g2 av T r c a m b).v0=r:=(rfl)
def lgR (F:List Assign→V→Option V) (w g1 g2:Nat) (av:V) (hs:HS) (b c:Nat):Option EmbD :=
 ob (hs.H.get c) fun oc=>ob (capB? oc) fun pv=>ob (ptrOf pv) fun a=>ob (hs.H.get a) fun oa=>ob (triOf oa) fun m=>ob (hs.H.get m) fun om=>ob (mpOf om) fun es=>ob (typOf es) fun T=>ob (F T av) fun r =>
  gd (et (et av.pure r.pure) (et (et (nt (Nat.beq c a)) (et (nt (Nat.beq c m)) (et (nt (Nat.beq a m)) (et (Nat.blt c hs.n) (et (Nat.blt a hs.n) (Nat.blt m hs.n)))))) (bi (Nat.beq w 0) true (et (nt (Nat.beq b c)) (et (nt (Nat.beq b a)) (et (nt (Nat.beq b m)) (Nat.blt b hs.n))))))) (some (lgD w g1 g2 av T r c a m b))
def lgM(F:List Assign→V→Option V)(w g1 g2:Nat)(vs:List V)(hs:HS):Option EmbD:=match w,vs with
 | 0,[av,.ptr c 0 0]=>lgR F 0 g1 g2 av hs 0 c
 | 1,[av,.ptr b 0 0]=>ob (hs.H.get b) fun ob1=>ob (capB? ob1) fun fv=>ob (lgF g1 fv) fun c=>lgR F 1 g1 g2 av hs b c
 | 2,[av,.func g [.ptr b 0 0]]=>gd (Nat.beq g g2) (ob (hs.H.get b) fun ob1=>ob (capB? ob1) fun fv=>ob (lgF g1 fv) fun c=>lgR F 2 g1 g2 av hs b c)
 |_,_=>none
section
variable {F:List Assign→V→Option V}{g1 g2 g b c:Nat}{av:V}{hs:HS}
@[simp] theorem lgM_0:lgM F 0 g1 g2 [av,.ptr c 0 0] hs=lgR F 0 g1 g2 av hs 0 c:=(rfl)
@[simp] theorem lgM_1:lgM F 1 g1 g2 [av,.ptr b 0 0] hs=ob (hs.H.get b) fun ob1=>ob (capB? ob1) fun fv=>ob (lgF g1 fv) fun c=>lgR F 1 g1 g2 av hs b c:=(rfl)
@[simp] theorem lgM_2:lgM F 2 g1 g2 [av,.func g [.ptr b 0 0]] hs=gd (Nat.beq g g2) (ob (hs.H.get b) fun ob1=>ob (capB? ob1) fun fv=>ob (lgF g1 fv) fun c=>lgR F 2 g1 g2 av hs b c):=(rfl)
@[simp] theorem lgR_n {w:Nat}:lgR F w g1 g2 av hs b c=ob (hs.H.get c) fun oc=>ob (capB? oc) fun pv=>ob (ptrOf pv) fun a=>ob (hs.H.get a) fun oa=>ob (triOf oa) fun m=>ob (hs.H.get m) fun om=>ob (mpOf om) fun es=>ob (typOf es) fun T=>ob (F T av) fun r =>
 gd (et (et av.pure r.pure) (et (et (nt (Nat.beq c a)) (et (nt (Nat.beq c m)) (et (nt (Nat.beq a m)) (et (Nat.blt c hs.n) (et (Nat.blt a hs.n) (Nat.blt m hs.n)))))) (bi (Nat.beq w 0) true (et (nt (Nat.beq b c)) (et (nt (Nat.beq b a)) (et (nt (Nat.beq b m)) (Nat.blt b hs.n))))))) (some (lgD w g1 g2 av T r c a m b)):=(rfl)
end
end Go.J
