import Derived.Test.YtocdkgjpdnamlaaGreatJK
import Derived.Test.YtocdkgjpdnamlaaGreatJP
set_option linter.all false
noncomputable section
/- The closure of a search with a set: it holds the set,the store,the list found,and itself. -/
namespace Go.J
open Enc (enc)
@[simp] theorem zKf {es:List (V×V)} {o:Obj} {k z:Nat}:zxW (.mp es) o k z=z:=by
  cases o<;>rfl
def lS(i:Int):V×V:=(.int .i64 i,.bool true)
def oz:List (V×V)->Option (List Int)
 | []=>some []
 |(.int .i64 n,.bool true)::l=>(oz l).map (n::·)
 |_=>none
theorem zV:∀ {es:List (V×V)} {l:List Int},oz es=some l->es=l.map lS:=by
 intro es
 induction es with
 |nil=>intro l h;cases h;rfl
 | cons p es ih =>
   intro l h;unfold oz at h;split at h
   . grind
   . rename_i n t e;cases e;rw[Option.map_eq_some_iff]at h;obtain⟨m,hm,rfl⟩:=h;rw[ih hm];rfl
   . cases h
@[simp] theorem Q3 (l:List Int):oz (l.map lS)=some l:=by
  induction l with
  |nil=>rfl
  | cons n l ih =>
    grind [oz,lS]
@[simp] theorem ztB (l:List Int) (n:Int):oz (l.map lS++[lS n])=some (l++[n]):=by
  have:=Q3 (l++[n])
  rwa [List.map_append]at this
@[simp] theorem zyR (n:Int) (l:List Int):Hw (.int .i64 n) (l.map lS)=some (if n∈l then some (.bool true)else none):=by
  induction l with
  |nil=>rfl
  | cons m l ih =>
    show ob (zB (.int .i64 n) (.int .i64 m)) (fun q=>bi q (some (some (.bool true))) (Hw (.int .i64 n) (l.map lS)))=_;rw[ih];show ob (gd (um .i64 .i64) (some (M8 n m))) _=_;by_cases h:n=m
    . subst h;have:M8 n n=true:=by simp
      rw[this];simp[um]
    . have:M8 n m=false:=by
       cases hq:M8 n m with
       |false=>rfl
       |true=>exact absurd (by simpa using hq) h
      rw[this];simp[h]
@[simp] theorem zBH {n:Int} {l:List Int} (h:n ∉ l):vJ (.int .i64 n) (.bool true) (l.map lS)=some ((l++[n]).map lS):=by
  induction l with
  |nil=>rfl
  | cons m l ih =>
    have h1:n≠m:=fun e=>h (e ▸ List.mem_cons_self ..)
    have h2:n ∉ l:=fun e=>h (List.mem_cons_of_mem _ e)
    show ob (zB (.int .i64 n) (.int .i64 m)) (fun q=>bi q _ (ob (vJ (.int .i64 n) (.bool true) (l.map lS)) fun r=>some (lS m::r)))=_;rw[ih h2];show ob (gd (um .i64 .i64) (some (M8 n m))) _=_
    simp_all
def gJ(g a c b e:Nat):V:=.func g [.ptr a 0 0,.ptr c 0 0,.ptr b 0 0,.ptr e 0 0]
def NT(g a c b e:Nat)(v:V):Bool:=match v with
 |.func g' [.ptr a' 0 0,.ptr c' 0 0,.ptr b' 0 0,.ptr e' 0 0]=>et (Nat.beq g' g) (et (Nat.beq a' a) (et (Nat.beq c' c) (et (Nat.beq b' b) (Nat.beq e' e))))
 |_=>false
theorem Y4{g a c b e:Nat}{v:V}(h:NT g a c b e v=true):v=gJ g a c b e:=by
 unfold NT at h;split at h
 . simp only[bA,beq_true]at h;obtain⟨rfl,rfl,rfl,rfl,rfl⟩:=h;rfl
 . cases h
@[simp] theorem zGz {g a c b e:Nat}:NT g a c b e (.func g [.ptr a 0 0,.ptr c 0 0,.ptr b 0 0,.ptr e 0 0])=true:=by
  show et (Nat.beq g g) (et (Nat.beq a a) (et (Nat.beq c c) (et (Nat.beq b b) (Nat.beq e e))))=true;simp
def mapId? (v:V):Option Nat:=match v with
 |.map i=>some i
 |_=>none
theorem Ka{v:V}{m:Nat}(h:mapId? v=some m):v=.map m:=by
 unfold mapId? at h
 grind
@[simp] theorem zHo {m:Nat}:mapId? (.map m)=some m:=(rfl)
def LK(o:Obj):Option (List (V×V)):=match o with
 |.mp es=>some es
 |_=>none
theorem GU{o:Obj}{es:List (V×V)}(h:LK o=some es):o=.mp es:=by
 unfold LK at h
 grind
@[simp] theorem zKD {es:List (V×V)}:LK (.mp es)=some es:=(rfl)
def stBox? (o:Obj):Option Store:=match o with
 |.arr 2 0 [[sl,tr]] true false false=>(Enc.dec (.agg [sl,tr]):Option Store)
 |_=>none
theorem YZ{o:Obj}{s:Store}(h:stBox? o=some s):o=box (bB s):=by
 unfold stBox? at h;split at h
 . have:=Enc.aU _ _ h
   simp_all
 . cases h
@[simp] theorem zGs {s:Store}:stBox? (.arr 2 0 [[.sl (s.slots.map aX) false,.sl (s.trail.map aV) false]] true false false)=some s:=by
  show (Enc.dec (Enc.enc s):Option Store)=some s
  simp_all
def df(g:Nat)(s:Store)(seen out:List Int):List (Nat×Obj) :=
 [(0,dn (.map 1)),(1,.mp (seen.map lS)),(2,box (bB s)),(3,dn (oV 5 (out.map encI))),(4,dn (gJ g 0 2 3 4))]++oH 5 1 (out.map encI)
def zbM(a m c b e ro:Nat)(i:Nat):Nat:=if i=0 then a else if i=1 then m else if i=2 then c else if i=3 then b else if i=4 then e else ro
def zR(g:Nat)(s:Store)(tv:V)(a m c b e ro:Nat)(st st':Store.Sv):fA where
 k:=match st.2 with | []=>5|_=>6
 k':=match st'.2 with | []=>5|_=>6
 π:=zbM a m c b e ro
 OL:=df g s st.1 st.2
 OL':=df g s st'.1 st'.2
 vs0:=[tv,.ptr 0 0 0,.ptr 2 0 0,.ptr 3 0 0,.ptr 4 0 0]
 v0:=.tuple []
def zbN(a m c b e:Nat):Bool:=et (nt (Nat.beq a m)) (et (nt (Nat.beq a c)) (et (nt (Nat.beq a b)) (et (nt (Nat.beq a e)) (et (nt (Nat.beq m c)) (et (nt (Nat.beq m b)) (et (nt (Nat.beq m e)) (et (nt (Nat.beq c b)) (et (nt (Nat.beq c e)) (nt (Nat.beq b e))))))))))
def zbL(a m c b e ro:Nat):Bool:=et (nt (Nat.beq a ro)) (et (nt (Nat.beq m ro)) (et (nt (Nat.beq c ro)) (et (nt (Nat.beq b ro)) (nt (Nat.beq e ro)))))
def znu(a m c b e n:Nat):Bool:=et (Nat.blt a n) (et (Nat.blt m n) (et (Nat.blt c n) (et (Nat.blt b n) (Nat.blt e n))))
def znt (g:Nat) (F:Store->Store.Sv->Ty->Option Store.Sv) (vs:List V) (hs:HS):Option fA:=match vs with
 | [tv,.ptr a 0 0,.ptr c 0 0,.ptr b 0 0,.ptr e 0 0]=>ob (Enc.dec tv:Option Ty) fun t=>ob (hs.H.get a) fun oa=>ob (capB? oa) fun va=>ob (mapId? va) fun m=>ob (hs.H.get m) fun om=>ob (LK om) fun es=>ob (oz es) fun seen =>
  ob (hs.H.get c) fun oc=>ob (stBox? oc) fun s=>ob (hs.H.get b) fun o1=>ob (capB? o1) fun vb=>ob (rowOf 1 hs vb) fun zya=>ob (bQ zya:Option (List Int)) fun out=>ob (hs.H.get e) fun oe=>ob (capB? oe) fun ve=>ob (F s (seen,out) t) fun r =>
   gd (et (NT g a c b e ve) (et (zbN a m c b e) (et (bi (Nat.beq (aN zya) 0) true (zbL a m c b e (fH vb))) (et (znu a m c b e hs.n) (et (Nat.ble (aN out) (aN r.2)) (cB hs hs.n))))))
    (some (zR g s tv a m c b e (fH vb) (seen,out) r))
 |_=>none
theorem ND {g:Nat} {s:Store} {t:Ty} {a m c b e ro:Nat} {st st':Store.Sv} (hle:st.2.length<=st'.2.length):(zR g s (enc t) a m c b e ro st st').Good:=by
 have hin:∀ (seen out:List Int) (p:Nat×Obj),p∈df g s seen out->p.2.in (dom (df g s seen out))=true/\p.2.fz=false:=by
  intro seen out p hp;unfold df at hp ⊢;rcases List.mem_append.1 hp with hp|hp
  . simp only[List.mem_cons,List.not_mem_nil,or_false]at hp;rcases hp with rfl|rfl|rfl|rfl|rfl
    . cases out<;>exact⟨rfl,rfl⟩
    . simp_all
    . cases out<;>exact⟨rfl,rfl⟩
    . cases out<;>exact⟨rfl,rfl⟩
    . cases out<;>exact⟨rfl,rfl⟩
  . cases out with
    |nil=>cases hp
    | cons x l =>
      simp only[List.map_cons,yF,List.mem_singleton]at hp;subst hp;exact⟨ku (x::l),rfl⟩
 obtain⟨seen,out⟩:=st;obtain⟨seen',out'⟩:=st';refine⟨?_,?_,?_,fun p hp=>(hin seen out p hp).1,hin seen' out',rfl,?_⟩
 . cases out<;>rfl
 . cases out'<;>rfl
 . cases out<;>cases out'<;>first|(simp at hle;done)|exact Nat.le_refl _|exact Nat.le_succ _
 . intro v hv;simp only[zR,List.mem_cons,List.not_mem_nil,or_false]at hv;rcases hv with rfl|rfl|rfl|rfl|rfl
   . simp_all
   all_goals (cases out<;>rfl)
theorem NC{a m c b e ro k:Nat}(hk:k=5\/(k=6/\zbL a m c b e ro=true))(h:zbN a m c b e=true):∀ i j,i<k->j<k->zbM a m c b e ro i=zbM a m c b e ro j->i=j:=by
 unfold zbN at h;simp at h;obtain⟨n1,n2,n3,n4,n5,n6,n7,n8,n9,n10⟩:=h;intro i j hi hj eq;rcases hk with rfl|⟨rfl,hr⟩
 . grind [zbM]
 . unfold zbL at hr;simp only[bA,fV,beq_true]at hr;obtain⟨r1,r2,r3,r4,r5⟩:=hr;have q:∀ x y:Nat,x.beq y=false->x≠y:=fun x y h e=>by subst e;simp at h
   replace r1:=q _ _ r1;replace r2:=q _ _ r2;replace r3:=q _ _ r3;replace r4:=q _ _ r4;replace r5:=q _ _ r5
   rcases(show i=0\/i=1\/i=2\/i=3\/i=4\/i=5 by omega)with rfl|rfl|rfl|rfl|rfl|rfl<;>rcases(show j=0\/j=1\/j=2\/j=3\/j=4\/j=5 by omega)with rfl|rfl|rfl|rfl|rfl|rfl <;>
    first|rfl|(simp[zbM]at eq;first|omega|(exact absurd eq (by assumption))|(exact absurd eq.symm (by assumption)))
theorem TB {g:Nat} {F:Store->Store.Sv->Ty->Option Store.Sv} {vs:List V} {hs:HS} {D:fA} (h:znt g F vs hs=some D) :
 ∃ s t st r a m c b e ro,F s st t=some r/\D=zR g s (enc t) a m c b e ro st r/\st.2.length<=r.2.length/\D.Good/\D.Fits vs hs:=by
 unfold znt at h;split at h
 . rename_i tv a c b e;simp only[af,aD,bA,fV,bJ,dI,ae]at h;obtain⟨t,ht,oa,hoa,va,hva,m,hm,om,zq3,es,hes,seen,zCR,oc,hoc,s,hs1,o1,ho1,vb,hvb,zya,zLd,out,hout,oe,hoe,ve,zRo,r,hr,⟨g1,g2,g3,g4,g5,g6⟩,h⟩:=h;cases h;have e1:=Enc.aU _ _ ht;subst e1;have e2:=nN hva;have e3:=Ka hm;subst e3;subst e2;have e4:=GU hes;have e5:=zV zCR;subst e5;subst e4;have e6:=YZ hs1;subst e6;have e7:=nN hvb;subst e7;have e8:=nN zRo;have e9:=Y4 g1;subst e9;subst e8;have e10:=eZ hout;subst e10;refine⟨s,t,(seen,out),r,a,m,c,b,e,fH vb,hr,rfl,g5,ND g5,?_⟩;have zCN:∀ π:Nat->Nat,(enc t:V).ren π=enc t:=fun π=>V.jy (V.eO (Dj t))
   unfold znu at g4;simp only[bA,dO]at g4;obtain⟨l1,l2,l3,l4,l5⟩:=g4;rcases rq zLd with⟨f5,f6⟩|⟨ro,f5,f6,h5,h6,_⟩
   . subst f5;have e7:out=[]:=by cases out with|nil=>rfl|cons x l=>cases f6
     subst e7;refine⟨?_,NC (.inl rfl) g2,?_,?_,?_⟩
     . simp only[zR,List.map_cons,List.map_nil];rw[zCN];rfl
     . intro p hp;simp only[zR,df,List.map_nil,zcG,List.append_nil,List.mem_cons,List.not_mem_nil,or_false]at hp;rcases hp with rfl|rfl|rfl|rfl|rfl
       . exact hoa
       . exact zq3
       . exact hoc
       . exact ho1
       . exact hoe
     . grind [zR]
     . intro i hi;simp only[zR]at hi ⊢;rcases(show i=0\/i=1\/i=2\/i=3\/i=4 by omega)with rfl|rfl|rfl|rfl|rfl<;>assumption
   . subst f5
     cases out with
     |nil=>exact absurd rfl f6
     | cons x l =>
       have hro:fH (oV ro ((x::l).map fB.cells))=ro:=rfl;rw[hro]at g3 ⊢
       have hr1:∃ y q,r.2=y::q:=by
        cases hr1:r.2 with
        |nil=>rw[hr1]at g5;simp at g5
        |cons y q=>exact⟨y,q,rfl⟩
       obtain⟨y,q,hr1⟩:=hr1;refine⟨?_,NC (.inr ⟨rfl,g3⟩) g2,?_,?_,?_⟩
       . simp only[zR,List.map_cons,List.map_nil];rw[zCN];rfl
       . intro p hp;simp only[zR,df,List.map_cons,yF,List.cons_append,List.nil_append,List.mem_cons,List.not_mem_nil,or_false]at hp;rcases hp with rfl|rfl|rfl|rfl|rfl|rfl
         . exact hoa
         . exact zq3
         . exact hoc
         . exact ho1
         . exact hoe
         . show hs.H.get ro=_
           simp_all
       . grind [zR]
       . intro i hi;simp only[zR]at hi ⊢;rcases(show i=0\/i=1\/i=2\/i=3\/i=4\/i=5 by omega)with rfl|rfl|rfl|rfl|rfl|rfl<;>assumption
 . cases h
section
variable {g:Nat}{s:Store}{tv:V}{a m c b e ro:Nat}{seen seen' out out':List Int}{x y:Int}{hs:HS}{st st':Store.Sv}
@[simp] theorem zGr:(zR g s tv a m c b e ro st st').val hs=.tuple []:=(rfl)
theorem QQ:(zR g s tv a m c b e ro (seen,[]) (seen',[])).heap hs={ H:=((((hs.H.set e (dn (gJ g a c b e))).set b (dn .snil)).set c (box (bB s))).set m (.mp (seen'.map lS))).set a (dn (.map m)),n:=hs.n,log:=a::m::c::b::e::hs.log }:=by
 show ({ H:=((((hs.H.set e _).set b _).set c _).set m _).set a _,n:=hs.n+0,log:=_ }:HS)=_;rfl
theorem QP:(zR g s tv a m c b e ro (seen,[]) (seen',x::out')).heap hs={ H:=(((((hs.H.set hs.n (oO 1 ((x::out').map encI))).set e (dn (gJ g a c b e))).set b (dn (oV hs.n ((x::out').map encI)))).set c (box (bB s))).set m (.mp (seen'.map lS))).set a (dn (.map m)),n:=hs.n+1,log:=a::m::c::b::e::hs.n::hs.log }:=by
 show ({ H:=(((((hs.H.set (hs.n+0) ((oO 1 ((x::out').map encI)).ren _)).set e _).set b _).set c _).set m _).set a _,n:=hs.n+1,log:=_ }:HS)=_;rw[nH (ku (x::out'))];rfl
theorem QO:(zR g s tv a m c b e ro (seen,y::out) (seen',x::out')).heap hs={ H:=(((((hs.H.set ro (oO 1 ((x::out').map encI))).set e (dn (gJ g a c b e))).set b (dn (oV ro ((x::out').map encI)))).set c (box (bB s))).set m (.mp (seen'.map lS))).set a (dn (.map m)),n:=hs.n,log:=a::m::c::b::e::ro::hs.log }:=by
 show ({ H:=(((((hs.H.set ro ((oO 1 ((x::out').map encI)).ren _)).set e _).set b _).set c _).set m _).set a _,n:=hs.n+0,log:=_ }:HS)=_;rw[nH (ku (x::out'))];rfl
attribute [simp] QQ QP QO
@[simp] theorem zN7 {F:Store→Store.Sv→Ty→Option Store.Sv}:znt g F [tv,.ptr a 0 0,.ptr c 0 0,.ptr b 0 0,.ptr e 0 0] hs=ob (Enc.dec tv:Option Ty) fun t=>ob (hs.H.get a) fun oa=>ob (capB? oa) fun va=>ob (mapId? va) fun m=>ob (hs.H.get m) fun om=>ob (LK om) fun es=>ob (oz es) fun seen =>
      ob (hs.H.get c) fun oc=>ob (stBox? oc) fun s=>ob (hs.H.get b) fun o1=>ob (capB? o1) fun vb=>ob (rowOf 1 hs vb) fun zya=>ob (bQ zya:Option (List Int)) fun out=>ob (hs.H.get e) fun oe=>ob (capB? oe) fun ve=>ob (F s (seen,out) t) fun r =>
       gd (et (NT g a c b e ve) (et (zbN a m c b e) (et (bi (Nat.beq (aN zya) 0) true (zbL a m c b e (fH vb))) (et (znu a m c b e hs.n) (et (Nat.ble (aN out) (aN r.2)) (cB hs hs.n))))))
        (some (zR g s tv a m c b e (fH vb) (seen,out) r)):=(rfl)
@[simp] theorem zJP:zbN a m c b e=et (nt (Nat.beq a m)) (et (nt (Nat.beq a c)) (et (nt (Nat.beq a b)) (et (nt (Nat.beq a e)) (et (nt (Nat.beq m c)) (et (nt (Nat.beq m b)) (et (nt (Nat.beq m e)) (et (nt (Nat.beq c b)) (et (nt (Nat.beq c e)) (nt (Nat.beq b e)))))))))):=(rfl)
@[simp] theorem zJO:zbL a m c b e ro=et (nt (Nat.beq a ro)) (et (nt (Nat.beq m ro)) (et (nt (Nat.beq c ro)) (et (nt (Nat.beq b ro)) (nt (Nat.beq e ro))))):=(rfl)
@[simp] theorem zJQ {n:Nat}:znu a m c b e n=et (Nat.blt a n) (et (Nat.blt m n) (et (Nat.blt c n) (et (Nat.blt b n) (Nat.blt e n)))):=(rfl)
end
end Go.J
