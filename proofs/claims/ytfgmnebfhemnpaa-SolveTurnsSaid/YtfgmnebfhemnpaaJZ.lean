import Derived.Test.YtfgmnebfhemnpaaJK
import Derived.Test.YtfgmnebfhemnpaaJP
import Derived.Test.YtfgmnebfhemnpaaJS
import Derived.Test.YtfgmnebfhemnpaaJY
set_option linter.all false
noncomputable section
/- The closure of a search with a set: it holds the set,the store,the list found,and itself. -/
namespace Go.J
open Enc (enc)
@[simp] theorem piO_mp {es:List (V×V)} {o:Obj} {k z:Nat}:piO (.mp es) o k z=z:=by
  cases o<;>rfl
def seenP(i:Int):V×V:=(.int .i64 i,.bool true)
def seenOf:List (V×V)→Option (List Int)
 | []=>some []
 |(.int .i64 n,.bool true)::l=>(seenOf l).map (n::·)
 |_=>none
theorem seenOf_inv:∀ {es:List (V×V)} {l:List Int},seenOf es=some l→es=l.map seenP:=by
 intro es
 induction es with
 |nil=>intro l h;cases h;rfl
 | cons p es ih =>
   intro l h
   unfold seenOf at h
   split at h
   · rename_i e;cases e
   · rename_i n t e
     cases e
     rw[Option.map_eq_some_iff]at h
     obtain⟨m,hm,rfl⟩:=h
     rw[ih hm];rfl
   · cases h
@[simp] theorem seenOf_map (l:List Int):seenOf (l.map seenP)=some l:=by
  induction l with
  |nil=>rfl
  | cons n l ih =>
    show (seenOf (l.map seenP)).map (n::·)=_
    rw[ih];rfl
@[simp] theorem seenOf_app (l:List Int) (n:Int):seenOf (l.map seenP++[seenP n])=some (l++[n]):=by
  have:=seenOf_map (l++[n])
  rwa [List.map_append]at this
@[simp] theorem find_seen (n:Int) (l:List Int):findJ (.int .i64 n) (l.map seenP)=some (if n∈l then some (.bool true)else none):=by
  induction l with
  |nil=>rfl
  | cons m l ih =>
    show ob (keyEq (.int .i64 n) (.int .i64 m)) (fun q=>bi q (some (some (.bool true))) (findJ (.int .i64 n) (l.map seenP)))=_
    rw[ih]
    show ob (gd (kindEq .i64 .i64) (some (eqI n m))) _=_
    by_cases h:n=m
    · subst h
      have:eqI n n=true:=by simp
      rw[this];simp[kindEq]
    · have:eqI n m=false:=by
       cases hq:eqI n m with
       |false=>rfl
       |true=>exact absurd (by simpa using hq) h
      rw[this]
      simp[h]
@[simp] theorem put_seen {n:Int} {l:List Int} (h:n ∉ l):putMapJ (.int .i64 n) (.bool true) (l.map seenP)=some ((l++[n]).map seenP):=by
  induction l with
  |nil=>rfl
  | cons m l ih =>
    have h1:n≠m:=fun e=>h (e ▸ List.mem_cons_self ..)
    have h2:n ∉ l:=fun e=>h (List.mem_cons_of_mem _ e)
    show ob (keyEq (.int .i64 n) (.int .i64 m)) (fun q=>bi q _ (ob (putMapJ (.int .i64 n) (.bool true) (l.map seenP)) fun r=>some (seenP m::r)))=_
    rw[ih h2]
    show ob (gd (kindEq .i64 .i64) (some (eqI n m))) _=_
    have:eqI n m=false:=by
     cases hq:eqI n m with
     |false=>rfl
     |true=>exact absurd (by simpa using hq) h1
    rw[this];rfl
def slfV(g a c b e:Nat):V:=.func g [.ptr a 0 0,.ptr c 0 0,.ptr b 0 0,.ptr e 0 0]
def slfIs(g a c b e:Nat)(v:V):Bool:=match v with
 |.func g' [.ptr a' 0 0,.ptr c' 0 0,.ptr b' 0 0,.ptr e' 0 0]=>et (Nat.beq g' g) (et (Nat.beq a' a) (et (Nat.beq c' c) (et (Nat.beq b' b) (Nat.beq e' e))))
 |_=>false
@[simp] theorem slfIs_n {g a c b e:Nat}:slfIs g a c b e (.func g [.ptr a 0 0,.ptr c 0 0,.ptr b 0 0,.ptr e 0 0])=true:=by
  show et (Nat.beq g g) (et (Nat.beq a a) (et (Nat.beq c c) (et (Nat.beq b b) (Nat.beq e e))))=true
  simp
def mapId? (v:V):Option Nat:=match v with
 |.map i=>some i
 |_=>none
@[simp] theorem mapId_n {m:Nat}:mapId? (.map m)=some m:=(rfl)
def mpOf(o:Obj):Option (List (V×V)):=match o with
 |.mp es=>some es
 |_=>none
theorem mpOf_inv{o:Obj}{es:List (V×V)}(h:mpOf o=some es):o=.mp es:=by
 unfold mpOf at h
 split at h
 · cases h;rfl
 · cases h
@[simp] theorem mpOf_n {es:List (V×V)}:mpOf (.mp es)=some es:=(rfl)
def stBox? (o:Obj):Option Store:=match o with
 |.arr 2 0 [[sl,tr]] true false false=>(Enc.dec (.agg [sl,tr]):Option Store)
 |_=>none
@[simp] theorem stBox_n {s:Store}:stBox? (.arr 2 0 [[.sl (s.slots.map encSlot) false,.sl (s.trail.map encChange) false]] true false false)=some s:=by
  show (Enc.dec (Enc.enc s):Option Store)=some s
  exact Enc.dec_enc s
def svOL(g:Nat)(s:Store)(seen out:List Int):List (Nat×Obj) :=
 [(0,capB (.map 1)),(1,.mp (seen.map seenP)),(2,box (encStore s)),(3,capB (oV 5 (out.map encI))),(4,capB (slfV g 0 2 3 4))]++oH 5 1 (out.map encI)
def svPi(a m c b e ro:Nat)(i:Nat):Nat:=if i=0 then a else if i=1 then m else if i=2 then c else if i=3 then b else if i=4 then e else ro
def svD(g:Nat)(s:Store)(tv:V)(a m c b e ro:Nat)(st st':Store.Sv):EmbD where
 k:=match st.2 with | []=>5|_=>6
 k':=match st'.2 with | []=>5|_=>6
 π:=svPi a m c b e ro
 OL:=svOL g s st.1 st.2
 OL':=svOL g s st'.1 st'.2
 vs0:=[tv,.ptr 0 0 0,.ptr 2 0 0,.ptr 3 0 0,.ptr 4 0 0]
 v0:=.tuple []
def svNo(a m c b e:Nat):Bool:=et (nt (Nat.beq a m)) (et (nt (Nat.beq a c)) (et (nt (Nat.beq a b)) (et (nt (Nat.beq a e)) (et (nt (Nat.beq m c)) (et (nt (Nat.beq m b)) (et (nt (Nat.beq m e)) (et (nt (Nat.beq c b)) (et (nt (Nat.beq c e)) (nt (Nat.beq b e))))))))))
def svRo(a m c b e ro:Nat):Bool:=et (nt (Nat.beq a ro)) (et (nt (Nat.beq m ro)) (et (nt (Nat.beq c ro)) (et (nt (Nat.beq b ro)) (nt (Nat.beq e ro)))))
def svLt(a m c b e n:Nat):Bool:=et (Nat.blt a n) (et (Nat.blt m n) (et (Nat.blt c n) (et (Nat.blt b n) (Nat.blt e n))))
def svM (g:Nat) (F:Store→Store.Sv→Ty→Option Store.Sv) (vs:List V) (hs:HS):Option EmbD:=match vs with
 | [tv,.ptr a 0 0,.ptr c 0 0,.ptr b 0 0,.ptr e 0 0]=>ob (Enc.dec tv:Option Ty) fun t=>ob (hs.H.get a) fun oa=>ob (capB? oa) fun va=>ob (mapId? va) fun m=>ob (hs.H.get m) fun om=>ob (mpOf om) fun es=>ob (seenOf es) fun seen =>
  ob (hs.H.get c) fun oc=>ob (stBox? oc) fun s=>ob (hs.H.get b) fun o1=>ob (capB? o1) fun vb=>ob (rowOf 1 hs vb) fun oc1=>ob (decL oc1:Option (List Int)) fun out=>ob (hs.H.get e) fun oe=>ob (capB? oe) fun ve=>ob (F s (seen,out) t) fun r =>
   gd (et (slfIs g a c b e ve) (et (svNo a m c b e) (et (bi (Nat.beq (lenL oc1) 0) true (svRo a m c b e (rowId vb))) (et (svLt a m c b e hs.n) (et (Nat.ble (lenL out) (lenL r.2)) (vacant hs hs.n))))))
    (some (svD g s tv a m c b e (rowId vb) (seen,out) r))
 |_=>none
section
variable {g:Nat}{s:Store}{tv:V}{a m c b e ro:Nat}{seen seen' out out':List Int}{x y:Int}{hs:HS}{st st':Store.Sv}
@[simp] theorem svD_val:(svD g s tv a m c b e ro st st').val hs=.tuple []:=(rfl)
theorem svD_heap00:(svD g s tv a m c b e ro (seen,[]) (seen',[])).heap hs={ H:=((((hs.H.set e (capB (slfV g a c b e))).set b (capB .snil)).set c (box (encStore s))).set m (.mp (seen'.map seenP))).set a (capB (.map m)),n:=hs.n,log:=a::m::c::b::e::hs.log }:=by
 show ({ H:=((((hs.H.set e _).set b _).set c _).set m _).set a _,n:=hs.n+0,log:=_ }:HS)=_
 rfl
theorem svD_heap01:(svD g s tv a m c b e ro (seen,[]) (seen',x::out')).heap hs={ H:=(((((hs.H.set hs.n (oO 1 ((x::out').map encI))).set e (capB (slfV g a c b e))).set b (capB (oV hs.n ((x::out').map encI)))).set c (box (encStore s))).set m (.mp (seen'.map seenP))).set a (capB (.map m)),n:=hs.n+1,log:=a::m::c::b::e::hs.n::hs.log }:=by
 show ({ H:=(((((hs.H.set (hs.n+0) ((oO 1 ((x::out').map encI)).ren _)).set e _).set b _).set c _).set m _).set a _,n:=hs.n+1,log:=_ }:HS)=_
 rw[oO_ren (encI_pure (x::out'))];rfl
theorem svD_heap11:(svD g s tv a m c b e ro (seen,y::out) (seen',x::out')).heap hs={ H:=(((((hs.H.set ro (oO 1 ((x::out').map encI))).set e (capB (slfV g a c b e))).set b (capB (oV ro ((x::out').map encI)))).set c (box (encStore s))).set m (.mp (seen'.map seenP))).set a (capB (.map m)),n:=hs.n,log:=a::m::c::b::e::ro::hs.log }:=by
 show ({ H:=(((((hs.H.set ro ((oO 1 ((x::out').map encI)).ren _)).set e _).set b _).set c _).set m _).set a _,n:=hs.n+0,log:=_ }:HS)=_
 rw[oO_ren (encI_pure (x::out'))];rfl
attribute [simp] svD_heap00 svD_heap01 svD_heap11
@[simp] theorem svM_n {F:Store→Store.Sv→Ty→Option Store.Sv}:svM g F [tv,.ptr a 0 0,.ptr c 0 0,.ptr b 0 0,.ptr e 0 0] hs=ob (Enc.dec tv:Option Ty) fun t=>ob (hs.H.get a) fun oa=>ob (capB? oa) fun va=>ob (mapId? va) fun m=>ob (hs.H.get m) fun om=>ob (mpOf om) fun es=>ob (seenOf es) fun seen =>
      ob (hs.H.get c) fun oc=>ob (stBox? oc) fun s=>ob (hs.H.get b) fun o1=>ob (capB? o1) fun vb=>ob (rowOf 1 hs vb) fun oc1=>ob (decL oc1:Option (List Int)) fun out=>ob (hs.H.get e) fun oe=>ob (capB? oe) fun ve=>ob (F s (seen,out) t) fun r =>
       gd (et (slfIs g a c b e ve) (et (svNo a m c b e) (et (bi (Nat.beq (lenL oc1) 0) true (svRo a m c b e (rowId vb))) (et (svLt a m c b e hs.n) (et (Nat.ble (lenL out) (lenL r.2)) (vacant hs hs.n))))))
        (some (svD g s tv a m c b e (rowId vb) (seen,out) r)):=(rfl)
@[simp] theorem svNo_n:svNo a m c b e=et (nt (Nat.beq a m)) (et (nt (Nat.beq a c)) (et (nt (Nat.beq a b)) (et (nt (Nat.beq a e)) (et (nt (Nat.beq m c)) (et (nt (Nat.beq m b)) (et (nt (Nat.beq m e)) (et (nt (Nat.beq c b)) (et (nt (Nat.beq c e)) (nt (Nat.beq b e)))))))))):=(rfl)
@[simp] theorem svRo_n:svRo a m c b e ro=et (nt (Nat.beq a ro)) (et (nt (Nat.beq m ro)) (et (nt (Nat.beq c ro)) (et (nt (Nat.beq b ro)) (nt (Nat.beq e ro))))):=(rfl)
@[simp] theorem svLt_n {n:Nat}:svLt a m c b e n=et (Nat.blt a n) (et (Nat.blt m n) (et (Nat.blt c n) (et (Nat.blt b n) (Nat.blt e n)))):=(rfl)
end
end Go.J
/- Methods of a set of types: a struct of two maps,the second one nil,and the first one's types. -/
namespace Go.J
open Enc (enc)
def typP(a:Assign):V×V:=(.int .i64 a.id,enc a.type)
def typOf:List (V×V)→Option (List Assign)
 | []=>some []
 |(.int .i64 n,v)::l=>ob (Enc.dec v:Option Ty) fun t=>ob (typOf l) fun r=>some (⟨n,t⟩::r)
 |_=>none
theorem typOf_inv:∀ {es:List (V×V)} {l:List Assign},typOf es=some l→es=l.map typP:=by
 intro es
 induction es with
 |nil=>intro l h;rw[typOf]at h;cases h;rfl
 | cons p es ih =>
   intro l h
   unfold typOf at h
   split at h
   · rename_i e;cases e
   · rename_i n v t e
     cases e
     simp only[ob_eq]at h
     obtain⟨ty,h1,r,h2,h⟩:=h
     cases h
     rw[ih h2,Enc.enc_dec _ _ h1];rfl
   · cases h
@[simp] theorem typOf_map (l:List Assign):typOf (l.map typP)=some l:=by
  induction l with
  |nil=>rfl
  | cons a l ih =>
    show ob (Enc.dec (enc a.type):Option Ty) (fun t=>ob (typOf (l.map typP)) fun r=>some (⟨a.id,t⟩::r))=_
    rw[Enc.dec_enc,ih];rfl
@[simp] theorem typOf_app (l:List Assign) (a:Assign):typOf (l.map typP++[typP a])=some (l++[a]):=by
  have:=typOf_map (l++[a])
  rwa [List.map_append]at this
theorem eqI_false{n m:Int}(h:n≠m):eqI n m=false:=by
 cases hq:eqI n m with
 |false=>rfl
 |true=>exact absurd (by simpa using hq) h
@[simp] theorem find_typ (n:Int) (l:List Assign):findJ (.int .i64 n) (l.map typP)=some ((lookA l n).map fun t=>enc t):=by
  induction l with
  |nil=>rfl
  | cons a l ih =>
    show ob (keyEq (.int .i64 n) (.int .i64 a.id)) (fun q=>bi q (some (some (enc a.type))) (findJ (.int .i64 n) (l.map typP)))=_
    rw[ih]
    show ob (gd (kindEq .i64 .i64) (some (eqI n a.id))) _=_
    rw[lookA]
    by_cases h:a.id=n
    · have:eqI n a.id=true:=by simp[h]
      rw[this,if_pos h];rfl
    · rw[eqI_false fun e=>h e.symm,if_neg h];rfl
theorem put_typ{n:Int}{t:Ty}{l:List Assign}(h:lookA l n=none):putMapJ (.int .i64 n) (enc t) (l.map typP)=some ((l++[(⟨n,t⟩:Assign)]).map typP):=by
 induction l with
 |nil=>rfl
 | cons a l ih =>
   rw[lookA]at h
   by_cases e:a.id=n
   · rw[if_pos e]at h;cases h
   · rw[if_neg e]at h
     show ob (keyEq (.int .i64 n) (.int .i64 a.id)) (fun q=>bi q _ (ob (putMapJ (.int .i64 n) (enc t) (l.map typP)) fun r=>some (typP a::r)))=_
     rw[ih h]
     show ob (gd (kindEq .i64 .i64) (some (eqI n a.id))) _=_
     rw[eqI_false fun e'=>e e'.symm];rfl
def triB(m:Nat):Obj:=.arr 2 0 [[.map m,.nilmap]] true false false
def triOf(o:Obj):Option Nat:=match o with
 |.arr 2 0 [[.map m,.nilmap]] true false false=>some m
 |_=>none
theorem triOf_inv{o:Obj}{m:Nat}(h:triOf o=some m):o=triB m:=by
 unfold triOf at h
 split at h
 · cases h;rfl
 · cases h
@[simp] theorem triOf_n {m:Nat}:triOf (.arr 2 0 [[.map m,.nilmap]] true false false)=some m:=(rfl)
def triOL(T:List Assign):List (Nat×Obj):=[(0,triB 1),(1,.mp (T.map typP))]
def triD(args:List V)(T T':List Assign)(r:V)(a m:Nat):EmbD where
 k:=2
 k':=2
 π:=fun i=>if i=0 then a else m
 OL:=triOL T
 OL':=triOL T'
 vs0:=.ptr 0 0 0::args
 v0:=r
def triM(F:List Assign→List V→Option (V×List Assign))(vs:List V)(hs:HS):Option EmbD:=match vs with
 |.ptr a 0 0::args=>ob (hs.H.get a) fun o=>ob (triOf o) fun m=>ob (hs.H.get m) fun om=>ob (mpOf om) fun es=>ob (typOf es) fun T=>ob (F T args) fun r =>
  gd (et (nt (Nat.beq a m)) (et (Nat.blt a hs.n) (et (Nat.blt m hs.n) (et (allPure args) r.1.pure)))) (some (triD args T r.2 r.1 a m))
 |_=>none
theorem triD_good{args:List V}{T T':List Assign}{r:V}{a m:Nat}(ha:allPure args=true)(hr:r.pure=true):(triD args T T' r a m).Good:=by
 refine⟨rfl,rfl,Nat.le_refl _,?_,?_,V.in3_pure hr,?_⟩
 · intro p hp
   simp only[triD,triOL,List.mem_cons,List.not_mem_nil,or_false]at hp
   rcases hp with rfl|rfl<;>rfl
 · intro p hp
   simp only[triD,triOL,List.mem_cons,List.not_mem_nil,or_false]at hp
   rcases hp with rfl|rfl<;>exact⟨rfl,rfl⟩
 · intro v hv
   rcases List.mem_cons.1 hv with rfl|hv
   · rfl
   · exact V.in3_pure (allPure_ok ha v hv)
theorem triM_inv{F:List Assign→List V→Option (V×List Assign)}{vs:List V}{hs:HS}{D:EmbD}(h:triM F vs hs=some D) :
 ∃ args T r T' a m,F T args=some (r,T')∧D=triD args T T' r a m∧allPure args=true∧r.pure=true∧D.Good∧D.Fits vs hs:=by
 unfold triM at h
 split at h
 · rename_i a args
   simp only[ob_eq,gd_eq,et_true,blt_true,nt_true]at h
   obtain⟨o,ho,m,hm,om,hom,es,hes,T,hT,⟨r,T'⟩,hr,⟨h1,h2,h3,h4,h5⟩,h⟩:=h
   cases h
   have e1:=triOf_inv hm
   have e2:=mpOf_inv hes
   have e3:=typOf_inv hT
   subst e1 e2 e3
   refine⟨args,T,r,T',a,m,hr,rfl,h4,h5,triD_good h4 h5,?_,?_,?_,?_,?_⟩
   · show (V.ptr 0 0 0::args).map (V.ren _)=_
     rw[List.map_cons]
     congr 1
     exact(List.map_congr_left (g:=id) fun v hv=>V.ren_none (V.in3_pure (allPure_ok h4 v hv))).trans (by simp)
   · intro i j hi hj e
     have hne:a≠m:=by simpa using h1
     simp only[triD]at hi hj e
     rcases(show i=0∨i=1 by omega)with rfl|rfl<;>rcases(show j=0∨j=1 by omega)with rfl|rfl<;>first|rfl|(simp at e;first|(exact absurd e hne)|(exact absurd e.symm hne))
   · intro p hp
     simp only[triD,triOL,List.mem_cons,List.not_mem_nil,or_false]at hp
     rcases hp with rfl|rfl
     · exact ho
     · exact hom
   · intro i hi
     simp only[triD]at hi
     omega
   · intro i hi
     simp only[triD]at hi ⊢
     rcases(show i=0∨i=1 by omega)with rfl|rfl
     · exact h2
     · exact h3
 · cases h
section
variable {F:List Assign→List V→Option (V×List Assign)}{args:List V}{hs:HS}{T T':List Assign}{r:V}{a m:Nat}
@[simp] theorem triM_n:triM F (.ptr a 0 0::args) hs=ob (hs.H.get a) fun o=>ob (triOf o) fun m=>ob (hs.H.get m) fun om=>ob (mpOf om) fun es=>ob (typOf es) fun T=>ob (F T args) fun r =>
      gd (et (nt (Nat.beq a m)) (et (Nat.blt a hs.n) (et (Nat.blt m hs.n) (et (allPure args) r.1.pure)))) (some (triD args T r.2 r.1 a m)):=(rfl)
@[simp] theorem triD_heap:(triD args T T' r a m).heap hs={ H:=(hs.H.set m (.mp (T'.map typP))).set a (triB m),n:=hs.n,log:=a::m::hs.log }:=by
  show ({ H:=(hs.H.set m _).set a _,n:=hs.n+0,log:=_ }:HS)=_
  rfl
end
end Go.J
/- The search for a variable in a set of types: a third object,the variables that were seen. -/
namespace Go.J
open Enc (enc)
def trsOL(T:List Assign)(S:List Int):List (Nat×Obj):=[(0,triB 1),(1,.mp (T.map typP)),(2,.mp (S.map seenP))]
def trsD(args:List V)(T:List Assign)(S S':List Int)(r:V)(a m c:Nat):EmbD where
 k:=3
 k':=3
 π:=fun i=>if i=0 then a else if i=1 then m else c
 OL:=trsOL T S
 OL':=trsOL T S'
 vs0:=.ptr 0 0 0::(args++[.map 2])
 v0:=r
def trsM(F:List Assign→List Int→Int→Ty→Option (Bool×List Int))(vs:List V)(hs:HS):Option EmbD:=match vs with
 | [.ptr a 0 0,.int .i64 n,tv,.map c]=>ob (Enc.dec tv:Option Ty) fun t=>ob (hs.H.get a) fun o=>ob (triOf o) fun m=>ob (hs.H.get m) fun om=>ob (mpOf om) fun es=>ob (typOf es) fun T=>ob (hs.H.get c) fun oc=>ob (mpOf oc) fun ec=>ob (seenOf ec) fun S=>ob (F T S n t) fun r =>
  gd (et (nt (Nat.beq a m)) (et (nt (Nat.beq a c)) (et (nt (Nat.beq m c)) (et (Nat.blt a hs.n) (et (Nat.blt m hs.n) (Nat.blt c hs.n)))))) (some (trsD [.int .i64 n,tv] T S r.2 (.bool r.1) a m c))
 |_=>none
theorem trsD_good{n:Int}{t:Ty}{T:List Assign}{S S':List Int}{b:Bool}{a m c:Nat}:(trsD [.int .i64 n,enc t] T S S' (.bool b) a m c).Good:=by
 refine⟨rfl,rfl,Nat.le_refl _,?_,?_,rfl,?_⟩
 · intro p hp
   simp only[trsD,trsOL,List.mem_cons,List.not_mem_nil,or_false]at hp
   rcases hp with rfl|rfl|rfl<;>rfl
 · intro p hp
   simp only[trsD,trsOL,List.mem_cons,List.not_mem_nil,or_false]at hp
   rcases hp with rfl|rfl|rfl<;>exact⟨rfl,rfl⟩
 · intro v hv
   simp only[trsD,List.cons_append,List.nil_append,List.mem_cons,List.not_mem_nil,or_false]at hv
   rcases hv with rfl|rfl|rfl|rfl
   · rfl
   · rfl
   · exact V.in3_pure (enc_pure1 t)
   · rfl
theorem trsM_inv{F:List Assign→List Int→Int→Ty→Option (Bool×List Int)}{vs:List V}{hs:HS}{D:EmbD}(h:trsM F vs hs=some D) :
 ∃ T S n t b S' a m c,F T S n t=some (b,S')∧D=trsD [.int .i64 n,enc t] T S S' (.bool b) a m c∧D.Good∧D.Fits vs hs:=by
 unfold trsM at h
 split at h
 · rename_i a n tv c
   simp only[ob_eq,gd_eq,et_true,blt_true,nt_true]at h
   obtain⟨t,ht,o,ho,m,hm,om,hom,es,hes,T,hT,oc,hoc,ec,hec,S,hS,⟨b,S'⟩,hr,⟨h1,h2,h3,h4,h5,h6⟩,h⟩:=h
   cases h
   have e0:=Enc.enc_dec _ _ ht
   have e1:=triOf_inv hm
   have e2:=mpOf_inv hes
   have e3:=typOf_inv hT
   have e4:=mpOf_inv hec
   have e5:=seenOf_inv hS
   subst e0 e1 e2 e3 e4 e5
   refine⟨T,S,n,t,b,S',a,m,c,hr,rfl,trsD_good,?_,?_,?_,?_,?_⟩
   · show ([V.ptr 0 0 0,.int .i64 n,enc t,.map 2]:List V).map (V.ren _)=_
     simp only[List.map_cons,List.map_nil]
     rw[V.ren_none (V.in3_pure (enc_pure1 t))]
     rfl
   · have n1:a≠m:=by simpa using h1
     have n2:a≠c:=by simpa using h2
     have n3:m≠c:=by simpa using h3
     intro i j hi hj e
     simp only[trsD]at hi hj e
     rcases(show i=0∨i=1∨i=2 by omega)with rfl|rfl|rfl<;>rcases(show j=0∨j=1∨j=2 by omega)with rfl|rfl|rfl<;>first|rfl|(simp at e;first|(exact absurd e (by assumption))|(exact absurd e.symm (by assumption)))
   · intro p hp
     simp only[trsD,trsOL,List.mem_cons,List.not_mem_nil,or_false]at hp
     rcases hp with rfl|rfl|rfl
     · exact ho
     · exact hom
     · exact hoc
   · intro i hi
     simp only[trsD]at hi
     omega
   · intro i hi
     simp only[trsD]at hi ⊢
     rcases(show i=0∨i=1∨i=2 by omega)with rfl|rfl|rfl
     · exact h4
     · exact h5
     · exact h6
 · cases h
section
variable {F:List Assign→List Int→Int→Ty→Option (Bool×List Int)}{hs:HS}{T:List Assign}{S S':List Int}{args:List V}{b:Bool}{a m c:Nat}{n:Int}{tv:V}
@[simp] theorem trsM_n:trsM F [.ptr a 0 0,.int .i64 n,tv,.map c] hs=ob (Enc.dec tv:Option Ty) fun t=>ob (hs.H.get a) fun o=>ob (triOf o) fun m=>ob (hs.H.get m) fun om=>ob (mpOf om) fun es=>ob (typOf es) fun T=>ob (hs.H.get c) fun oc=>ob (mpOf oc) fun ec=>ob (seenOf ec) fun S=>ob (F T S n t) fun r =>
      gd (et (nt (Nat.beq a m)) (et (nt (Nat.beq a c)) (et (nt (Nat.beq m c)) (et (Nat.blt a hs.n) (et (Nat.blt m hs.n) (Nat.blt c hs.n)))))) (some (trsD [.int .i64 n,tv] T S r.2 (.bool r.1) a m c)):=(rfl)
@[simp] theorem trsD_val:(trsD args T S S' (.bool b) a m c).val hs=.bool b:=(rfl)
@[simp] theorem trsD_heap:(trsD args T S S' (.bool b) a m c).heap hs={ H:=((hs.H.set c (.mp (S'.map seenP))).set m (.mp (T.map typP))).set a (.arr 2 0 [[.map m,.nilmap]] true false false),n:=hs.n,log:=a::m::c::hs.log }:=by
  show ({ H:=((hs.H.set c _).set m _).set a _,n:=hs.n+0,log:=_ }:HS)=_
  rfl
end
end Go.J
/- Methods of a set of types that resolve: the second map may be there or not. -/
namespace Go.J
open Enc (enc)
def reOL(T:List Assign):Option (List Assign)→List (Nat×Obj)
 |none=>[(0,.arr 2 0 [[.map 1,.nilmap]] true false false),(1,.mp (T.map typP))]
 |some L=>[(0,.arr 2 0 [[.map 1,.map 2]] true false false),(1,.mp (T.map typP)),(2,.mp (L.map typP))]
def reK:Option (List Assign)→Nat
 |none=>2
 |some _=>3
def rePi(a m c:Nat)(i:Nat):Nat:=if i=0 then a else if i=1 then m else c
def reD(args:List V)(T:List Assign)(D D':Option (List Assign))(r:V)(a m c:Nat):EmbD where
 k:=reK D
 k':=reK D'
 π:=rePi a m c
 OL:=reOL T D
 OL':=reOL T D'
 vs0:=.ptr 0 0 0::args
 v0:=r
def reOf(o:Obj):Option (Nat×V):=match o with
 |.arr 2 0 [[.map m,v]] true false false=>some (m,v)
 |_=>none
theorem reOf_inv{o:Obj}{q:Nat×V}(h:reOf o=some q):o=.arr 2 0 [[.map q.1,q.2]] true false false:=by
 unfold reOf at h
 split at h
 · cases h;rfl
 · cases h
@[simp] theorem reOf_n {m:Nat} {v:V}:reOf (.arr 2 0 [[.map m,v]] true false false)=some (m,v):=(rfl)
def dnOf(hs:HS)(v:V):Option (Option (List Assign)×Nat):=match v with
 |.nilmap=>some (none,0)
 |.map c=>ob (hs.H.get c) fun o=>ob (mpOf o) fun es=>ob (typOf es) fun D=>some (some D,c)
 |_=>none
@[simp] theorem dnOf_nil {hs:HS}:dnOf hs .nilmap=some (none,0):=(rfl)
@[simp] theorem dnOf_map {hs:HS} {c:Nat}:dnOf hs (.map c)=ob (hs.H.get c) fun o=>ob (mpOf o) fun es=>ob (typOf es) fun D=>some (some D,c):=(rfl)
theorem dnOf_inv{hs:HS}{v:V}{q:Option (List Assign)×Nat}(h:dnOf hs v=some q):(v=.nilmap∧q=(none,0))∨∃ L,v=.map q.2∧q.1=some L∧hs.H.get q.2=some (.mp (L.map typP)):=by
 unfold dnOf at h
 split at h
 · cases h;exact .inl ⟨rfl,rfl⟩
 · simp only[ob_eq]at h
   obtain⟨o,ho,es,hes,D,hD,h⟩:=h
   cases h
   refine .inr ⟨D,rfl,rfl,?_⟩
   rw[ho,mpOf_inv hes,typOf_inv hD]
 · cases h
def reC(hs:HS)(a m:Nat)(D:Option (List Assign))(c:Nat)(D':Option (List Assign)):Bool:=match D,D' with
 |none,none=>true
 |none,some _=>vacant hs hs.n
 |some _,none=>false
 |some _,some _=>et (nt (Nat.beq a c)) (et (nt (Nat.beq m c)) (Nat.blt c hs.n))
@[simp] theorem reC_nn {hs:HS} {a m c:Nat}:reC hs a m none c none=true:=(rfl)
@[simp] theorem reC_ns {hs:HS} {a m c:Nat} {L:List Assign}:reC hs a m none c (some L)=vacant hs hs.n:=(rfl)
@[simp] theorem reC_ss {hs:HS} {a m c:Nat} {L L':List Assign}:reC hs a m (some L) c (some L')=et (nt (Nat.beq a c)) (et (nt (Nat.beq m c)) (Nat.blt c hs.n)):=(rfl)
def reM(F:List Assign→Option (List Assign)→List V→Option (V×Option (List Assign)))(vs:List V)(hs:HS):Option EmbD:=match vs with
 |.ptr a 0 0::args=>ob (hs.H.get a) fun o=>ob (reOf o) fun q=>ob (hs.H.get q.1) fun om=>ob (mpOf om) fun es=>ob (typOf es) fun T=>ob (dnOf hs q.2) fun dc=>ob (F T dc.1 args) fun r =>
  gd (et (nt (Nat.beq a q.1)) (et (Nat.blt a hs.n) (et (Nat.blt q.1 hs.n) (et (reC hs a q.1 dc.1 dc.2 r.2) (et (allPure args) r.1.pure))))) (some (reD args T dc.1 r.2 r.1 a q.1 dc.2))
 |_=>none
theorem reD_good{args:List V}{T:List Assign}{D D':Option (List Assign)}{r:V}{a m c:Nat}(hle:reK D≤reK D')(ha:allPure args=true)(hr:r.pure=true):(reD args T D D' r a m c).Good:=by
 have hin:∀ D:Option (List Assign),∀ p∈reOL T D,p.2.in (dom (reOL T D))=true∧p.2.fz=false:=by
  intro D p hp
  cases D with
  | none =>
    simp only[reOL,List.mem_cons,List.not_mem_nil,or_false]at hp
    rcases hp with rfl|rfl<;>exact⟨rfl,rfl⟩
  | some L =>
    simp only[reOL,List.mem_cons,List.not_mem_nil,or_false]at hp
    rcases hp with rfl|rfl|rfl<;>exact⟨rfl,rfl⟩
 have hk:∀ D:Option (List Assign),(reOL T D).map Prod.fst=List.range (reK D):=fun D=>by cases D<;>rfl
 refine⟨hk D,hk D',hle,fun p hp=>(hin D p hp).1,fun p hp=>hin D' p hp,V.in3_pure hr,?_⟩
 intro v hv
 rcases List.mem_cons.1 hv with rfl|hv
 · cases D<;>rfl
 · exact V.in3_pure (allPure_ok ha v hv)
theorem reM_inv {F:List Assign→Option (List Assign)→List V→Option (V×Option (List Assign))} {vs:List V} {hs:HS} {D:EmbD} (h:reM F vs hs=some D) :
 ∃ args T D0 r D1 a m c,F T D0 args=some (r,D1)∧D=reD args T D0 D1 r a m c∧allPure args=true∧r.pure=true∧D.Good∧D.Fits vs hs:=by
 unfold reM at h
 split at h
 · rename_i a args
   simp only[ob_eq,gd_eq,et_true,blt_true,nt_true]at h
   obtain⟨o,ho,⟨m,dv⟩,hm,om,hom,es,hes,T,hT,⟨D0,c⟩,hd,⟨r,D1⟩,hr,⟨h1,h2,h3,h6,h4,h5⟩,h⟩:=h
   cases h
   have e1:=reOf_inv hm
   have e2:=mpOf_inv hes
   have e3:=typOf_inv hT
   subst e1 e2 e3
   have hne:a≠m:=by simpa using h1
   simp only at hd hr h3 h6 hom ho
   have hargs:(V.ptr 0 0 0::args).map (V.ren (rePi a m c))=.ptr a 0 0::args:=by
    rw[List.map_cons]
    congr 1
    exact(List.map_congr_left (g:=id) fun v hv=>V.ren_none (V.in3_pure (allPure_ok h4 v hv))).trans (by simp)
   rcases dnOf_inv hd with⟨rfl,h⟩|⟨L,e,e5,hL⟩
   · cases h
     have hle:reK none≤reK D1:=by cases D1<;>simp[reK]
     refine⟨args,T,none,r,D1,a,m,0,hr,rfl,h4,h5,reD_good hle h4 h5,hargs,?_,?_,?_,?_⟩
     · intro i j hi hj e
       simp only[reD,reK]at hi hj e
       rcases(show i=0∨i=1 by omega)with rfl|rfl<;>rcases(show j=0∨j=1 by omega)with rfl|rfl<;>first|rfl|(simp[rePi]at e;first|(exact absurd e hne)|(exact absurd e.symm hne))
     · intro p hp
       simp only[reD,reOL,List.mem_cons,List.not_mem_nil,or_false]at hp
       rcases hp with rfl|rfl
       · exact ho
       · exact hom
     · intro i hi
       cases D1 with
       |none=>simp[reD,reK]at hi
       | some L1 =>
         have:i=0:=by simp[reD,reK]at hi;omega
         subst this
         exact vacant_eq.1 h6
     · intro i hi
       simp only[reD,reK]at hi
       rcases(show i=0∨i=1 by omega)with rfl|rfl
       · exact h2
       · exact h3
   · simp only at e e5 hL
     subst e e5
     cases D1 with
     |none=>cases h6
     | some L1 =>
       simp only[reC_ss,et_true,nt_true,blt_true]at h6
       obtain⟨h7,h8,h9⟩:=h6
       have n2:a≠c:=by simpa using h7
       have n3:m≠c:=by simpa using h8
       refine⟨args,T,some L,r,some L1,a,m,c,hr,rfl,h4,h5,reD_good (Nat.le_refl _) h4 h5,hargs,?_,?_,?_,?_⟩
       · intro i j hi hj e
         simp only[reD,reK]at hi hj e
         rcases(show i=0∨i=1∨i=2 by omega)with rfl|rfl|rfl<;>rcases(show j=0∨j=1∨j=2 by omega)with rfl|rfl|rfl<;>first|rfl|(simp[rePi]at e;first|(exact absurd e (by assumption))|(exact absurd e.symm (by assumption)))
       · intro p hp
         simp only[reD,reOL,List.mem_cons,List.not_mem_nil,or_false]at hp
         rcases hp with rfl|rfl|rfl
         · exact ho
         · exact hom
         · exact hL
       · intro i hi
         simp[reD,reK]at hi
       · intro i hi
         simp only[reD,reK]at hi
         rcases(show i=0∨i=1∨i=2 by omega)with rfl|rfl|rfl
         · exact h2
         · exact h3
         · exact h9
 · cases h
section
variable {F:List Assign→Option (List Assign)→List V→Option (V×Option (List Assign))}{args:List V}{hs:HS}{T L L':List Assign}{D D':Option (List Assign)}{r:V}{a m c:Nat}
@[simp] theorem reM_n:reM F (.ptr a 0 0::args) hs=ob (hs.H.get a) fun o=>ob (reOf o) fun q=>ob (hs.H.get q.1) fun om=>ob (mpOf om) fun es=>ob (typOf es) fun T=>ob (dnOf hs q.2) fun dc=>ob (F T dc.1 args) fun r =>
      gd (et (nt (Nat.beq a q.1)) (et (Nat.blt a hs.n) (et (Nat.blt q.1 hs.n) (et (reC hs a q.1 dc.1 dc.2 r.2) (et (allPure args) r.1.pure))))) (some (reD args T dc.1 r.2 r.1 a q.1 dc.2)):=(rfl)
@[simp] theorem reD_val (h:r.in3 (fun _=>false)=true):(reD args T D D' r a m c).val hs=r:=V.ren_none h
@[simp] theorem reD_heap00:(reD args T none none r a m c).heap hs={ H:=(hs.H.set m (.mp (T.map typP))).set a (.arr 2 0 [[.map m,.nilmap]] true false false),n:=hs.n,log:=a::m::hs.log }:=by
  show ({ H:=(hs.H.set m _).set a _,n:=hs.n+0,log:=_ }:HS)=_
  rfl
@[simp] theorem reD_heap01:(reD args T none (some L) r a m c).heap hs={ H:=((hs.H.set hs.n (.mp (L.map typP))).set m (.mp (T.map typP))).set a (.arr 2 0 [[.map m,.map hs.n]] true false false),n:=hs.n+1,log:=a::m::hs.n::hs.log }:=by
  show ({ H:=((hs.H.set (hs.n+0) _).set m _).set a _,n:=hs.n+1,log:=_ }:HS)=_
  rfl
@[simp] theorem reD_heap11:(reD args T (some L) (some L') r a m c).heap hs={ H:=((hs.H.set c (.mp (L'.map typP))).set m (.mp (T.map typP))).set a (.arr 2 0 [[.map m,.map c]] true false false),n:=hs.n,log:=a::m::c::hs.log }:=by
  show ({ H:=((hs.H.set c _).set m _).set a _,n:=hs.n+0,log:=_ }:HS)=_
  rfl
@[simp] theorem reD_v0:(reD args T D D' r a m c).v0=r:=(rfl)
end
def newD:EmbD where
 k:=0
 k':=2
 π:=fun i=>i
 OL:=[]
 OL':=triOL []
 vs0:=[]
 v0:=.ptr 0 0 0
def newM(vs:List V)(hs:HS):Option EmbD:=match vs with
 | []=>gd (et (vacant hs hs.n) (vacant hs (hs.n+1))) (some newD)
 |_=>none
@[simp] theorem newM_n {hs:HS}:newM [] hs=gd (et (vacant hs hs.n) (vacant hs (hs.n+1))) (some newD):=(rfl)
@[simp] theorem newD_val {hs:HS}:newD.val hs=.ptr hs.n 0 0:=(rfl)
@[simp] theorem newD_heap {hs:HS}:newD.heap hs={ H:=(hs.H.set (hs.n+1) (.mp [])).set hs.n (.arr 2 0 [[.map (hs.n+1),.nilmap]] true false false),n:=hs.n+2,log:=hs.n::(hs.n+1)::hs.log }:=by
  show ({ H:=(hs.H.set (hs.n+1) _).set (hs.n+0) _,n:=hs.n+2,log:=_ }:HS)=_
  rfl
theorem newD_good:newD.Good:=by
 refine⟨rfl,rfl,by decide,fun p hp=>(by cases hp),?_,rfl,fun v hv=>(by cases hv)⟩
 intro p hp
 simp only[newD,triOL,List.mem_cons,List.not_mem_nil,or_false]at hp
 rcases hp with rfl|rfl<;>exact⟨rfl,rfl⟩
theorem newM_inv{vs:List V}{hs:HS}{D:EmbD}(h:newM vs hs=some D):D=newD∧D.Fits vs hs:=by
 unfold newM at h
 split at h
 · simp only[gd_eq,et_true,vacant_eq]at h
   obtain⟨⟨h1,h2⟩,h⟩:=h
   cases h
   refine⟨rfl,rfl,fun i j hi=>absurd hi (Nat.not_lt_zero _),fun p hp=>(by cases hp),fun i hi=>?_,fun i hi=>absurd hi (Nat.not_lt_zero _)⟩
   have hi:i<2:=hi
   rcases(show i=0∨i=1 by omega)with rfl|rfl
   · exact h1
   · exact h2
 · cases h
@[simp] theorem typOf_nil:typOf []=some []:=(rfl)
@[simp] theorem findJ_nil0 {k:V}:findJ k []=some none:=(rfl)
@[simp] theorem binJ_nilmap {P:Program} {b:BinOp} {t:TypeId} {y:V}:binJ P b t .nilmap y=otherOp P b t .nilmap y:=(rfl)
@[simp] theorem binJ_map {P:Program} {b:BinOp} {t:TypeId} {i:Nat} {y:V}:binJ P b t (.map i) y=otherOp P b t (.map i) y:=(rfl)
def GLF(k:Nat)(v0:V)(OL:List (Nat×Obj))(v:V)(hs:HS):Prop:=GivesL k v0 OL v hs∨GivesF k v0 OL v hs
theorem em_runLF{ρ:Nat→Value}{E:Env}{f:FuncId}{fn:Func}{sc:SC}{T:PT V}{D:EmbD}(hρ:J.Good ρ)(hcon:ConsOk ρ E)(hP:E.P.follows .mixedOrders=true)(hN:Named E.P)(hf:E.P.funcs[f]?=some fn)(hb:fn.body.bind stripC=some sc)(he:enterJ fn.ntmps D.vs0 0 .leaf=some T)
 (hg:D.Good) (h:Wp ρ E D.k fn.ntmps sc T { H:=mkP D.OL,n:=D.k,log:=[] } (Leaves E.P fn (GLF D.k D.v0 D.OL'))) {vs:List V} {hs:HS} (hfit:D.Fits vs hs) :
 CallOk ρ E.P f vs hs (D.v0.ren (news hs.n D.k D.π)) (embH hs D.k D.k' D.π D.OL'):=by
 rw[← hfit.args]
 exact emb_okK hf hb he (Wp_ok hρ hcon hP hN h) (fun _ _ h=>h) hg.ol hg.ol' hg.le hg.inn hg.inn' hg.v0 hg.vs0 hfit.inj hfit.obj hfit.vac hfit.lt
end Go.J
/- Closures over a set of types: one that holds the variable of the set,one that holds the variable of the first,a function that is handed the second. -/
namespace Go.J
open Enc (enc)
def ptrOf(v:V):Option Nat:=match v with
 |.ptr a 0 0=>some a
 |_=>none
theorem ptrOf_inv{v:V}{a:Nat}(h:ptrOf v=some a):v=.ptr a 0 0:=by
 unfold ptrOf at h
 split at h
 · cases h;rfl
 · cases h
@[simp] theorem ptrOf_n {a:Nat}:ptrOf (.ptr a 0 0)=some a:=(rfl)
def lgF(g:Nat)(v:V):Option Nat:=match v with
 |.func g' [.ptr c 0 0]=>gd (Nat.beq g' g) (some c)
 |_=>none
theorem lgF_inv{g:Nat}{v:V}{c:Nat}(h:lgF g v=some c):v=.func g [.ptr c 0 0]:=by
 unfold lgF at h
 split at h
 · simp only[gd_eq,beq_true]at h
   obtain⟨rfl,h⟩:=h
   cases h;rfl
 · cases h
@[simp] theorem lgF_n {g g' c:Nat}:lgF g (.func g' [.ptr c 0 0])=gd (Nat.beq g' g) (some c):=(rfl)
def lgOL(w g1:Nat)(T:List Assign):List (Nat×Obj) :=
 [(0,.arr 1 0 [[.ptr 1 0 0]] true false false),(1,.arr 2 0 [[.map 2,.nilmap]] true false false),(2,.mp (T.map typP))]++(match w with | 0=>[]|_+1=>[(3,.arr 1 0 [[.func g1 [.ptr 0 0 0]]] true false false)])
def lgK(w:Nat):Nat:=match w with | 0=>3|_+1=>4
def lgV(w g2:Nat):V:=match w with | 0=>.ptr 0 0 0 | 1=>.ptr 3 0 0|_+2=>.func g2 [.ptr 3 0 0]
def lgPi(c a m b:Nat)(i:Nat):Nat:=if i=0 then c else if i=1 then a else if i=2 then m else b
def lgD(w g1 g2:Nat)(av:V)(T:List Assign)(r:V)(c a m b:Nat):EmbD where
 k:=lgK w
 k':=lgK w
 π:=lgPi c a m b
 OL:=lgOL w g1 T
 OL':=lgOL w g1 T
 vs0:=[av,lgV w g2]
 v0:=r
@[simp] theorem lgD_v0 {w g1 g2:Nat} {av:V} {T:List Assign} {r:V} {c a m b:Nat}:(lgD w g1 g2 av T r c a m b).v0=r:=(rfl)
def lgR (F:List Assign→V→Option V) (w g1 g2:Nat) (av:V) (hs:HS) (b c:Nat):Option EmbD :=
 ob (hs.H.get c) fun oc=>ob (capB? oc) fun pv=>ob (ptrOf pv) fun a=>ob (hs.H.get a) fun oa=>ob (triOf oa) fun m=>ob (hs.H.get m) fun om=>ob (mpOf om) fun es=>ob (typOf es) fun T=>ob (F T av) fun r =>
  gd (et (et av.pure r.pure) (et (et (nt (Nat.beq c a)) (et (nt (Nat.beq c m)) (et (nt (Nat.beq a m)) (et (Nat.blt c hs.n) (et (Nat.blt a hs.n) (Nat.blt m hs.n)))))) (bi (Nat.beq w 0) true (et (nt (Nat.beq b c)) (et (nt (Nat.beq b a)) (et (nt (Nat.beq b m)) (Nat.blt b hs.n))))))) (some (lgD w g1 g2 av T r c a m b))
def lgM(F:List Assign→V→Option V)(w g1 g2:Nat)(vs:List V)(hs:HS):Option EmbD:=match w,vs with
 | 0,[av,.ptr c 0 0]=>lgR F 0 g1 g2 av hs 0 c
 | 1,[av,.ptr b 0 0]=>ob (hs.H.get b) fun ob1=>ob (capB? ob1) fun fv=>ob (lgF g1 fv) fun c=>lgR F 1 g1 g2 av hs b c
 | 2,[av,.func g [.ptr b 0 0]]=>gd (Nat.beq g g2) (ob (hs.H.get b) fun ob1=>ob (capB? ob1) fun fv=>ob (lgF g1 fv) fun c=>lgR F 2 g1 g2 av hs b c)
 |_,_=>none
section
variable {F:List Assign→V→Option V}{g1 g2 g b c:Nat}{av:V}{hs:HS}
@[simp] theorem lgM_0:lgM F 0 g1 g2 [av,.ptr c 0 0] hs=lgR F 0 g1 g2 av hs 0 c:=(rfl)
@[simp] theorem lgM_1:lgM F 1 g1 g2 [av,.ptr b 0 0] hs=ob (hs.H.get b) fun ob1=>ob (capB? ob1) fun fv=>ob (lgF g1 fv) fun c=>lgR F 1 g1 g2 av hs b c:=(rfl)
@[simp] theorem lgM_2:lgM F 2 g1 g2 [av,.func g [.ptr b 0 0]] hs=gd (Nat.beq g g2) (ob (hs.H.get b) fun ob1=>ob (capB? ob1) fun fv=>ob (lgF g1 fv) fun c=>lgR F 2 g1 g2 av hs b c):=(rfl)
@[simp] theorem lgR_n {w:Nat}:lgR F w g1 g2 av hs b c=ob (hs.H.get c) fun oc=>ob (capB? oc) fun pv=>ob (ptrOf pv) fun a=>ob (hs.H.get a) fun oa=>ob (triOf oa) fun m=>ob (hs.H.get m) fun om=>ob (mpOf om) fun es=>ob (typOf es) fun T=>ob (F T av) fun r =>
 gd (et (et av.pure r.pure) (et (et (nt (Nat.beq c a)) (et (nt (Nat.beq c m)) (et (nt (Nat.beq a m)) (et (Nat.blt c hs.n) (et (Nat.blt a hs.n) (Nat.blt m hs.n)))))) (bi (Nat.beq w 0) true (et (nt (Nat.beq b c)) (et (nt (Nat.beq b a)) (et (nt (Nat.beq b m)) (Nat.blt b hs.n))))))) (some (lgD w g1 g2 av T r c a m b)):=(rfl)
end
theorem lgD_good{w g1 g2:Nat}{av:V}{T:List Assign}{r:V}{c a m b:Nat}(ha:av.pure=true)(hr:r.pure=true):(lgD w g1 g2 av T r c a m b).Good:=by
 have hin:∀ p∈lgOL w g1 T,p.2.in (dom (lgOL w g1 T))=true∧p.2.fz=false:=by
  intro p hp
  rcases w with _|w
  · simp only[lgOL,List.append_nil,List.mem_cons,List.not_mem_nil,or_false]at hp
    rcases hp with rfl|rfl|rfl<;>exact⟨rfl,rfl⟩
  · simp only[lgOL,List.cons_append,List.nil_append,List.mem_cons,List.not_mem_nil,or_false]at hp
    rcases hp with rfl|rfl|rfl|rfl<;>exact⟨rfl,rfl⟩
 have hk:(lgOL w g1 T).map Prod.fst=List.range (lgK w):=by rcases w with _|w<;>rfl
 refine⟨hk,hk,Nat.le_refl _,fun p hp=>(hin p hp).1,hin,V.in3_pure hr,?_⟩
 intro v hv
 simp only[lgD,List.mem_cons,List.not_mem_nil,or_false]at hv
 rcases hv with rfl|rfl
 · exact V.in3_pure ha
 · rcases w with _|_|w<;>rfl
theorem lgR_inv{F:List Assign→V→Option V}{w g1 g2:Nat}{av:V}{hs:HS}{b c:Nat}{D:EmbD}(h:lgR F w g1 g2 av hs b c=some D)(hb:w≠0→hs.H.get b=some (.arr 1 0 [[.func g1 [.ptr c 0 0]]] true false false)){vs:List V}(hvs:vs=[av,(lgV w g2).ren (lgPi c 0 0 b)]) :
 ∃ T r a m,F T av=some r∧D=lgD w g1 g2 av T r c a m b∧r.pure=true∧D.Good∧D.Fits vs hs:=by
 simp only[lgR_n,ob_eq,gd_eq,et_true,blt_true,nt_true]at h
 obtain⟨oc,hoc,pv,hpv,a,ha,oa,hoa,m,hm,om,hom,es,hes,T,hT,r,hr,⟨⟨k1,k2⟩,⟨n1,n2,n3,l1,l2,l3⟩,hbb⟩,h⟩:=h
 cases h
 have e1:=capB_inv hpv
 have e2:=ptrOf_inv ha
 have e3:=triOf_inv hm
 have e4:=mpOf_inv hes
 have e5:=typOf_inv hT
 subst e1 e2 e3 e4 e5
 have n1:c≠a:=by simpa using n1
 have n2:c≠m:=by simpa using n2
 have n3:a≠m:=by simpa using n3
 refine⟨T,r,a,m,hr,rfl,k2,lgD_good k1 k2,?_,?_,?_,?_,?_⟩
 · subst hvs
   show ([av,lgV w g2]:List V).map (V.ren _)=_
   rw[List.map_cons,List.map_cons,V.ren_none (V.in3_pure k1)]
   rcases w with _|_|w<;>rfl
 · rcases w with _|w
   · intro i j hi hj e
     simp only[lgD,lgK]at hi hj e
     rcases(show i=0∨i=1∨i=2 by omega)with rfl|rfl|rfl<;>rcases(show j=0∨j=1∨j=2 by omega)with rfl|rfl|rfl<;>first|rfl|(simp[lgPi]at e;first|(exact absurd e (by assumption))|(exact absurd e.symm (by assumption)))
   · have hbb:et (nt (Nat.beq b c)) (et (nt (Nat.beq b a)) (et (nt (Nat.beq b m)) (Nat.blt b hs.n)))=true:=hbb
     simp only[et_true,nt_true,blt_true]at hbb
     obtain⟨b1,b2,b3,b4⟩:=hbb
     have b1:b≠c:=by simpa using b1
     have b2:b≠a:=by simpa using b2
     have b3:b≠m:=by simpa using b3
     intro i j hi hj e
     simp only[lgD,lgK]at hi hj e
     rcases(show i=0∨i=1∨i=2∨i=3 by omega)with rfl|rfl|rfl|rfl<;>rcases(show j=0∨j=1∨j=2∨j=3 by omega)with rfl|rfl|rfl|rfl<;>first|rfl|(simp[lgPi]at e;first|(exact absurd e (by assumption))|(exact absurd e.symm (by assumption)))
 · intro p hp
   rcases w with _|w
   · simp only[lgD,lgOL,List.append_nil,List.mem_cons,List.not_mem_nil,or_false]at hp
     rcases hp with rfl|rfl|rfl
     · exact hoc
     · exact hoa
     · exact hom
   · simp only[lgD,lgOL,List.cons_append,List.nil_append,List.mem_cons,List.not_mem_nil,or_false]at hp
     rcases hp with rfl|rfl|rfl|rfl
     · exact hoc
     · exact hoa
     · exact hom
     · exact hb (by omega)
 · intro i hi
   simp only[lgD]at hi
   omega
 · intro i hi
   rcases w with _|w
   · simp only[lgD,lgK]at hi ⊢
     rcases(show i=0∨i=1∨i=2 by omega)with rfl|rfl|rfl
     · exact l1
     · exact l2
     · exact l3
   · have hbb:et (nt (Nat.beq b c)) (et (nt (Nat.beq b a)) (et (nt (Nat.beq b m)) (Nat.blt b hs.n)))=true:=hbb
     simp only[et_true,nt_true,blt_true]at hbb
     simp only[lgD,lgK]at hi ⊢
     rcases(show i=0∨i=1∨i=2∨i=3 by omega)with rfl|rfl|rfl|rfl
     · exact l1
     · exact l2
     · exact l3
     · exact hbb.2.2.2
theorem lgM_inv{F:List Assign→V→Option V}{w g1 g2:Nat}{vs:List V}{hs:HS}{D:EmbD}(h:lgM F w g1 g2 vs hs=some D) :
 ∃ av T r c a m b,F T av=some r∧D=lgD w g1 g2 av T r c a m b∧r.pure=true∧D.Good∧D.Fits vs hs:=by
 unfold lgM at h
 split at h
 · rename_i av c
   obtain⟨T,r,a,m,q1,q2,q3,q4,q5⟩:=lgR_inv h (fun h=>absurd rfl h) (vs:=[av,.ptr c 0 0]) rfl
   exact⟨av,T,r,c,a,m,0,q1,q2,q3,q4,q5⟩
 · rename_i av b
   simp only[ob_eq]at h
   obtain⟨o,ho,fv,hfv,c,hc,h⟩:=h
   rw[lgF_inv hc]at hfv
   rw[capB_inv hfv]at ho
   obtain⟨T,r,a,m,q1,q2,q3,q4,q5⟩:=lgR_inv h (fun _=>ho) (vs:=[av,.ptr b 0 0]) rfl
   exact⟨av,T,r,c,a,m,b,q1,q2,q3,q4,q5⟩
 · rename_i av g b
   simp only[ob_eq,gd_eq,beq_true]at h
   obtain⟨rfl,o,ho,fv,hfv,c,hc,h⟩:=h
   rw[lgF_inv hc]at hfv
   rw[capB_inv hfv]at ho
   obtain⟨T,r,a,m,q1,q2,q3,q4,q5⟩:=lgR_inv h (fun _=>ho) (vs:=[av,.func g [.ptr b 0 0]]) rfl
   exact⟨av,T,r,c,a,m,b,q1,q2,q3,q4,q5⟩
 · cases h
end Go.J
