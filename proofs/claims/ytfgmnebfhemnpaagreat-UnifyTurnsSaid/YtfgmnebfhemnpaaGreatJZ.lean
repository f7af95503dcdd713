import Derived.Test.YtfgmnebfhemnpaaGreatJK
import Derived.Test.YtfgmnebfhemnpaaGreatJP
set_option linter.all false
noncomputable section
/- The closure of a search with a set: it holds the set,the store,the list found,and itself. -/
namespace Go.J
open Enc (enc)
@[simp] theorem zOs {es:List (V×V)} {o:Obj} {k z:Nat}:piO (.mp es) o k z=z:=by
  cases o<;>rfl
def zdd(i:Int):V×V:=(.int .i64 i,.bool true)
def zdj:List (V×V)->Option (List Int)
 | []=>some []
 |(.int .i64 n,.bool true)::l=>(zdj l).map (n::·)
 |_=>none
theorem zfU:∀ {es:List (V×V)} {l:List Int},zdj es=some l->es=l.map zdd:=by
 intro es
 induction es with
 |nil=>intro l h;cases h;rfl
 | cons p es ih =>
   intro l h;unfold zdj at h;split at h
   . rename_i e;cases e
   . rename_i n t e;cases e;rw[Option.map_eq_some_iff]at h;obtain⟨m,hm,rfl⟩:=h;rw[ih hm];rfl
   . cases h
@[simp] theorem zpm (l:List Int):zdj (l.map zdd)=some l:=by
  induction l with
  |nil=>rfl
  | cons n l ih =>
    show (zdj (l.map zdd)).map (n::·)=_;rw[ih];rfl
@[simp] theorem zAK (l:List Int) (n:Int):zdj (l.map zdd++[zdd n])=some (l++[n]):=by
  have:=zpm (l++[n])
  rwa [List.map_append]at this
@[simp] theorem zFb (n:Int) (l:List Int):znl (.int .i64 n) (l.map zdd)=some (if n∈l then some (.bool true)else none):=by
  induction l with
  |nil=>rfl
  | cons m l ih =>
    show ob (ziB (.int .i64 n) (.int .i64 m)) (fun q=>bi q (some (some (.bool true))) (znl (.int .i64 n) (l.map zdd)))=_;rw[ih];show ob (gd (zeE .i64 .i64) (some (eqI n m))) _=_;by_cases h:n=m
    . subst h;have:eqI n n=true:=by simp
      rw[this];simp[zeE]
    . have:eqI n m=false:=by
       cases hq:eqI n m with
       |false=>rfl
       |true=>exact absurd (by simpa using hq) h
      rw[this];simp[h]
@[simp] theorem zIt {n:Int} {l:List Int} (h:n ∉ l):zeO (.int .i64 n) (.bool true) (l.map zdd)=some ((l++[n]).map zdd):=by
  induction l with
  |nil=>rfl
  | cons m l ih =>
    have h1:n≠m:=fun e=>h (e ▸ List.mem_cons_self ..)
    have h2:n ∉ l:=fun e=>h (List.mem_cons_of_mem _ e)
    show ob (ziB (.int .i64 n) (.int .i64 m)) (fun q=>bi q _ (ob (zeO (.int .i64 n) (.bool true) (l.map zdd)) fun r=>some (zdd m::r)))=_;rw[ih h2];show ob (gd (zeE .i64 .i64) (some (eqI n m))) _=_
    have:eqI n m=false:=by
     cases hq:eqI n m with
     |false=>rfl
     |true=>exact absurd (by simpa using hq) h1
    rw[this];rfl
def zb0(g a c b e:Nat):V:=.func g [.ptr a 0 0,.ptr c 0 0,.ptr b 0 0,.ptr e 0 0]
def zqN(g a c b e:Nat)(v:V):Bool:=match v with
 |.func g' [.ptr a' 0 0,.ptr c' 0 0,.ptr b' 0 0,.ptr e' 0 0]=>et (Nat.beq g' g) (et (Nat.beq a' a) (et (Nat.beq c' c) (et (Nat.beq b' b) (Nat.beq e' e))))
 |_=>false
theorem zqM{g a c b e:Nat}{v:V}(h:zqN g a c b e v=true):v=zb0 g a c b e:=by
 unfold zqN at h;split at h
 . simp only[et_true,beq_true]at h;obtain⟨rfl,rfl,rfl,rfl,rfl⟩:=h;rfl
 . cases h
@[simp] theorem zKZ {g a c b e:Nat}:zqN g a c b e (.func g [.ptr a 0 0,.ptr c 0 0,.ptr b 0 0,.ptr e 0 0])=true:=by
  show et (Nat.beq g g) (et (Nat.beq a a) (et (Nat.beq c c) (et (Nat.beq b b) (Nat.beq e e))))=true;simp
def zh9 (v:V):Option Nat:=match v with
 |.map i=>some i
 |_=>none
theorem zlu{v:V}{m:Nat}(h:zh9 v=some m):v=.map m:=by
 unfold zh9 at h;split at h
 . cases h;rfl
 . cases h
@[simp] theorem zLK {m:Nat}:zh9 (.map m)=some m:=(rfl)
def zx1(o:Obj):Option (List (V×V)):=match o with
 |.mp es=>some es
 |_=>none
theorem zkf{o:Obj}{es:List (V×V)}(h:zx1 o=some es):o=.mp es:=by
 unfold zx1 at h;split at h
 . cases h;rfl
 . cases h
@[simp] theorem zO6 {es:List (V×V)}:zx1 (.mp es)=some es:=(rfl)
def zkN (o:Obj):Option Store:=match o with
 |.arr 2 0 [[sl,tr]] true false false=>(Enc.dec (.agg [sl,tr]):Option Store)
 |_=>none
theorem zqG{o:Obj}{s:Store}(h:zkN o=some s):o=box (zI s):=by
 unfold zkN at h;split at h
 . have:=Enc.enc_dec _ _ h;simp at this;obtain⟨rfl,rfl⟩:=this;rfl
 . cases h
@[simp] theorem zKR {s:Store}:zkN (.arr 2 0 [[.sl (s.slots.map zG) false,.sl (s.trail.map zA) false]] true false false)=some s:=by
  show (Enc.dec (Enc.enc s):Option Store)=some s;exact Enc.dec_enc s
def zaK(g:Nat)(s:Store)(seen out:List Int):List (Nat×Obj) :=
 [(0,zaM (.map 1)),(1,.mp (seen.map zdd)),(2,box (zI s)),(3,zaM (oV 5 (out.map encI))),(4,zaM (zb0 g 0 2 3 4))]++oH 5 1 (out.map encI)
def zDv(a m c b e ro:Nat)(i:Nat):Nat:=if i=0 then a else if i=1 then m else if i=2 then c else if i=3 then b else if i=4 then e else ro
def svD(g:Nat)(s:Store)(tv:V)(a m c b e ro:Nat)(st st':Store.Sv):EmbD where
 k:=match st.2 with | []=>5|_=>6
 k':=match st'.2 with | []=>5|_=>6
 π:=zDv a m c b e ro
 OL:=zaK g s st.1 st.2
 OL':=zaK g s st'.1 st'.2
 vs0:=[tv,.ptr 0 0 0,.ptr 2 0 0,.ptr 3 0 0,.ptr 4 0 0]
 v0:=.tuple []
def zDx(a m c b e:Nat):Bool:=et (nt (Nat.beq a m)) (et (nt (Nat.beq a c)) (et (nt (Nat.beq a b)) (et (nt (Nat.beq a e)) (et (nt (Nat.beq m c)) (et (nt (Nat.beq m b)) (et (nt (Nat.beq m e)) (et (nt (Nat.beq c b)) (et (nt (Nat.beq c e)) (nt (Nat.beq b e))))))))))
def zDu(a m c b e ro:Nat):Bool:=et (nt (Nat.beq a ro)) (et (nt (Nat.beq m ro)) (et (nt (Nat.beq c ro)) (et (nt (Nat.beq b ro)) (nt (Nat.beq e ro)))))
def zHN(a m c b e n:Nat):Bool:=et (Nat.blt a n) (et (Nat.blt m n) (et (Nat.blt c n) (et (Nat.blt b n) (Nat.blt e n))))
def svM (g:Nat) (F:Store->Store.Sv->Ty->Option Store.Sv) (vs:List V) (hs:HS):Option EmbD:=match vs with
 | [tv,.ptr a 0 0,.ptr c 0 0,.ptr b 0 0,.ptr e 0 0]=>ob (Enc.dec tv:Option Ty) fun t=>ob (hs.H.get a) fun oa=>ob (zbU oa) fun va=>ob (zh9 va) fun m=>ob (hs.H.get m) fun om=>ob (zx1 om) fun es=>ob (zdj es) fun seen =>
  ob (hs.H.get c) fun oc=>ob (zkN oc) fun s=>ob (hs.H.get b) fun o1=>ob (zbU o1) fun vb=>ob (rowOf 1 hs vb) fun oc1=>ob (zah oc1:Option (List Int)) fun out=>ob (hs.H.get e) fun oe=>ob (zbU oe) fun ve=>ob (F s (seen,out) t) fun r =>
   gd (et (zqN g a c b e ve) (et (zDx a m c b e) (et (bi (Nat.beq (zS oc1) 0) true (zDu a m c b e (zaU vb))) (et (zHN a m c b e hs.n) (et (Nat.ble (zS out) (zS r.2)) (zZ hs hs.n))))))
    (some (svD g s tv a m c b e (zaU vb) (seen,out) r))
 |_=>none
theorem znM {g:Nat} {s:Store} {t:Ty} {a m c b e ro:Nat} {st st':Store.Sv} (hle:st.2.length<=st'.2.length):(svD g s (enc t) a m c b e ro st st').Good:=by
 have hin:∀ (seen out:List Int) (p:Nat×Obj),p∈zaK g s seen out->p.2.in (dom (zaK g s seen out))=true/\p.2.fz=false:=by
  intro seen out p hp;unfold zaK at hp ⊢;rcases List.mem_append.1 hp with hp|hp
  . simp only[List.mem_cons,List.not_mem_nil,or_false]at hp;rcases hp with rfl|rfl|rfl|rfl|rfl
    . cases out<;>exact⟨rfl,rfl⟩
    . exact⟨rfl,rfl⟩
    . cases out<;>exact⟨rfl,rfl⟩
    . cases out<;>exact⟨rfl,rfl⟩
    . cases out<;>exact⟨rfl,rfl⟩
  . cases out with
    |nil=>cases hp
    | cons x l =>
      simp only[List.map_cons,zgc,List.mem_singleton]at hp;subst hp;exact⟨zbz (x::l),rfl⟩
 obtain⟨seen,out⟩:=st;obtain⟨seen',out'⟩:=st';refine⟨?_,?_,?_,fun p hp=>(hin seen out p hp).1,hin seen' out',rfl,?_⟩
 . cases out<;>rfl
 . cases out'<;>rfl
 . cases out<;>cases out'<;>first|(simp at hle;done)|exact Nat.le_refl _|exact Nat.le_succ _
 . intro v hv;simp only[svD,List.mem_cons,List.not_mem_nil,or_false]at hv;rcases hv with rfl|rfl|rfl|rfl|rfl
   . exact V.in3_pure (zcO t)
   all_goals (cases out<;>rfl)
theorem znL{a m c b e ro k:Nat}(hk:k=5\/(k=6/\zDu a m c b e ro=true))(h:zDx a m c b e=true):∀ i j,i<k->j<k->zDv a m c b e ro i=zDv a m c b e ro j->i=j:=by
 unfold zDx at h;simp at h;obtain⟨n1,n2,n3,n4,n5,n6,n7,n8,n9,n10⟩:=h;intro i j hi hj eq;rcases hk with rfl|⟨rfl,hr⟩
 . rcases(show i=0\/i=1\/i=2\/i=3\/i=4 by omega)with rfl|rfl|rfl|rfl|rfl<;>rcases(show j=0\/j=1\/j=2\/j=3\/j=4 by omega)with rfl|rfl|rfl|rfl|rfl <;>
    first|rfl|(simp[zDv]at eq;first|omega|(exact absurd eq (by assumption))|(exact absurd eq.symm (by assumption)))
 . unfold zDu at hr;simp only[et_true,zaB,beq_true]at hr;obtain⟨r1,r2,r3,r4,r5⟩:=hr;have q:∀ x y:Nat,x.beq y=false->x≠y:=fun x y h e=>by subst e;simp at h
   replace r1:=q _ _ r1;replace r2:=q _ _ r2;replace r3:=q _ _ r3;replace r4:=q _ _ r4;replace r5:=q _ _ r5
   rcases(show i=0\/i=1\/i=2\/i=3\/i=4\/i=5 by omega)with rfl|rfl|rfl|rfl|rfl|rfl<;>rcases(show j=0\/j=1\/j=2\/j=3\/j=4\/j=5 by omega)with rfl|rfl|rfl|rfl|rfl|rfl <;>
    first|rfl|(simp[zDv]at eq;first|omega|(exact absurd eq (by assumption))|(exact absurd eq.symm (by assumption)))
theorem zqC {g:Nat} {F:Store->Store.Sv->Ty->Option Store.Sv} {vs:List V} {hs:HS} {D:EmbD} (h:svM g F vs hs=some D) :
 ∃ s t st r a m c b e ro,F s st t=some r/\D=svD g s (enc t) a m c b e ro st r/\st.2.length<=r.2.length/\D.Good/\D.Fits vs hs:=by
 unfold svM at h;split at h
 . rename_i tv a c b e;simp only[zt,z8,et_true,zaB,zO,ble_true,vacant_eq]at h;obtain⟨t,ht,oa,hoa,va,hva,m,hm,om,hom,es,hes,seen,hseen,oc,hoc,s,hs1,o1,ho1,vb,hvb,oc1,hoc1,out,hout,oe,hoe,ve,hve,r,hr,⟨g1,g2,g3,g4,g5,g6⟩,h⟩:=h;cases h;have e1:=Enc.enc_dec _ _ ht;subst e1;have e2:=zc8 hva;have e3:=zlu hm;subst e3;subst e2;have e4:=zkf hes;have e5:=zfU hseen;subst e5;subst e4;have e6:=zqG hs1;subst e6;have e7:=zc8 hvb;subst e7;have e8:=zc8 hve;have e9:=zqM g1;subst e9;subst e8;have e10:=zaq hout;subst e10;refine⟨s,t,(seen,out),r,a,m,c,b,e,zaU vb,hr,rfl,g5,znM g5,?_⟩;have htv:∀ π:Nat->Nat,(enc t:V).ren π=enc t:=fun π=>V.ren_none (V.in3_pure (zcO t))
   unfold zHN at g4;simp only[et_true,blt_true]at g4;obtain⟨l1,l2,l3,l4,l5⟩:=g4;rcases zdm hoc1 with⟨f5,f6⟩|⟨ro,f5,f6,h5,h6,_⟩
   . subst f5;have e7:out=[]:=by cases out with|nil=>rfl|cons x l=>cases f6
     subst e7;refine⟨?_,znL (.inl rfl) g2,?_,?_,?_⟩
     . simp only[svD,List.map_cons,List.map_nil];rw[htv];rfl
     . intro p hp;simp only[svD,zaK,List.map_nil,zzs,List.append_nil,List.mem_cons,List.not_mem_nil,or_false]at hp;rcases hp with rfl|rfl|rfl|rfl|rfl
       . exact hoa
       . exact hom
       . exact hoc
       . exact ho1
       . exact hoe
     . intro i hi;simp only[svD]at hi
       have:i=0:=by
        cases hr1:r.2<;>rw[hr1]at hi<;>simp at hi<;>omega
       subst this;exact g6
     . intro i hi;simp only[svD]at hi ⊢;rcases(show i=0\/i=1\/i=2\/i=3\/i=4 by omega)with rfl|rfl|rfl|rfl|rfl<;>assumption
   . subst f5
     cases out with
     |nil=>exact absurd rfl f6
     | cons x l =>
       have hro:zaU (oV ro ((x::l).map Cel.cells))=ro:=rfl;rw[hro]at g3 ⊢
       have hr1:∃ y q,r.2=y::q:=by
        cases hr1:r.2 with
        |nil=>rw[hr1]at g5;simp at g5
        |cons y q=>exact⟨y,q,rfl⟩
       obtain⟨y,q,hr1⟩:=hr1;refine⟨?_,znL (.inr ⟨rfl,g3⟩) g2,?_,?_,?_⟩
       . simp only[svD,List.map_cons,List.map_nil];rw[htv];rfl
       . intro p hp;simp only[svD,zaK,List.map_cons,zgc,List.cons_append,List.nil_append,List.mem_cons,List.not_mem_nil,or_false]at hp;rcases hp with rfl|rfl|rfl|rfl|rfl|rfl
         . exact hoa
         . exact hom
         . exact hoc
         . exact ho1
         . exact hoe
         . show hs.H.get ro=_;rw[h5];exact congrArg some (zcL (es:=(x::l).map encI) (zbz (x::l))).symm
       . intro i hi;simp only[svD,hr1]at hi;simp at hi
       . intro i hi;simp only[svD]at hi ⊢;rcases(show i=0\/i=1\/i=2\/i=3\/i=4\/i=5 by omega)with rfl|rfl|rfl|rfl|rfl|rfl<;>assumption
 . cases h
section
variable {g:Nat}{s:Store}{tv:V}{a m c b e ro:Nat}{seen seen' out out':List Int}{x y:Int}{hs:HS}{st st':Store.Sv}
@[simp] theorem zKQ:(svD g s tv a m c b e ro st st').val hs=.tuple []:=(rfl)
theorem zpb:(svD g s tv a m c b e ro (seen,[]) (seen',[])).heap hs={ H:=((((hs.H.set e (zaM (zb0 g a c b e))).set b (zaM .snil)).set c (box (zI s))).set m (.mp (seen'.map zdd))).set a (zaM (.map m)),n:=hs.n,log:=a::m::c::b::e::hs.log }:=by
 show ({ H:=((((hs.H.set e _).set b _).set c _).set m _).set a _,n:=hs.n+0,log:=_ }:HS)=_;rfl
theorem zpa:(svD g s tv a m c b e ro (seen,[]) (seen',x::out')).heap hs={ H:=(((((hs.H.set hs.n (oO 1 ((x::out').map encI))).set e (zaM (zb0 g a c b e))).set b (zaM (oV hs.n ((x::out').map encI)))).set c (box (zI s))).set m (.mp (seen'.map zdd))).set a (zaM (.map m)),n:=hs.n+1,log:=a::m::c::b::e::hs.n::hs.log }:=by
 show ({ H:=(((((hs.H.set (hs.n+0) ((oO 1 ((x::out').map encI)).ren _)).set e _).set b _).set c _).set m _).set a _,n:=hs.n+1,log:=_ }:HS)=_;rw[zcL (zbz (x::out'))];rfl
theorem zoZ:(svD g s tv a m c b e ro (seen,y::out) (seen',x::out')).heap hs={ H:=(((((hs.H.set ro (oO 1 ((x::out').map encI))).set e (zaM (zb0 g a c b e))).set b (zaM (oV ro ((x::out').map encI)))).set c (box (zI s))).set m (.mp (seen'.map zdd))).set a (zaM (.map m)),n:=hs.n,log:=a::m::c::b::e::ro::hs.log }:=by
 show ({ H:=(((((hs.H.set ro ((oO 1 ((x::out').map encI)).ren _)).set e _).set b _).set c _).set m _).set a _,n:=hs.n+0,log:=_ }:HS)=_;rw[zcL (zbz (x::out'))];rfl
attribute [simp] zpb zpa zoZ
@[simp] theorem zSw {F:Store→Store.Sv→Ty→Option Store.Sv}:svM g F [tv,.ptr a 0 0,.ptr c 0 0,.ptr b 0 0,.ptr e 0 0] hs=ob (Enc.dec tv:Option Ty) fun t=>ob (hs.H.get a) fun oa=>ob (zbU oa) fun va=>ob (zh9 va) fun m=>ob (hs.H.get m) fun om=>ob (zx1 om) fun es=>ob (zdj es) fun seen =>
      ob (hs.H.get c) fun oc=>ob (zkN oc) fun s=>ob (hs.H.get b) fun o1=>ob (zbU o1) fun vb=>ob (rowOf 1 hs vb) fun oc1=>ob (zah oc1:Option (List Int)) fun out=>ob (hs.H.get e) fun oe=>ob (zbU oe) fun ve=>ob (F s (seen,out) t) fun r =>
       gd (et (zqN g a c b e ve) (et (zDx a m c b e) (et (bi (Nat.beq (zS oc1) 0) true (zDu a m c b e (zaU vb))) (et (zHN a m c b e hs.n) (et (Nat.ble (zS out) (zS r.2)) (zZ hs hs.n))))))
        (some (svD g s tv a m c b e (zaU vb) (seen,out) r)):=(rfl)
@[simp] theorem zOb:zDx a m c b e=et (nt (Nat.beq a m)) (et (nt (Nat.beq a c)) (et (nt (Nat.beq a b)) (et (nt (Nat.beq a e)) (et (nt (Nat.beq m c)) (et (nt (Nat.beq m b)) (et (nt (Nat.beq m e)) (et (nt (Nat.beq c b)) (et (nt (Nat.beq c e)) (nt (Nat.beq b e)))))))))):=(rfl)
@[simp] theorem zOa:zDu a m c b e ro=et (nt (Nat.beq a ro)) (et (nt (Nat.beq m ro)) (et (nt (Nat.beq c ro)) (et (nt (Nat.beq b ro)) (nt (Nat.beq e ro))))):=(rfl)
@[simp] theorem zOc {n:Nat}:zHN a m c b e n=et (Nat.blt a n) (et (Nat.blt m n) (et (Nat.blt c n) (et (Nat.blt b n) (Nat.blt e n)))):=(rfl)
end
end Go.J
