import Derived.Test.YtpcmebclpindjaaGreatJK
import Derived.Test.YtpcmebclpindjaaGreatJQuiet
set_option linter.all false
noncomputable section
/- Functions that read variables of their caller: closures,and functions that are handed them,perhaps with a row. -/
namespace Go.J
open Enc (enc)
def zA0:Nat->List (List V)->List (Nat×Obj)
 |_,[]=>[]
 |i,c::l=>(i,box c)::zA0 (i+1) l
def z8U:Nat->Nat->List V
 |_,0=>[]
 |i,n+1=>.ptr i 0 0::z8U (i+1) n
@[simp] theorem zAz {i:Nat}:zA0 i []=[]:=(rfl)
@[simp] theorem z6X {i:Nat} {c:List V} {l:List (List V)}:zA0 i (c::l)=(i,box c)::zA0 (i+1) l:=(rfl)
@[simp] theorem z4H {i:Nat}:z8U i 0=[]:=(rfl)
@[simp] theorem z4I {i n:Nat}:z8U i (n+1)=.ptr i 0 0::z8U (i+1) n:=(rfl)
def rdC(g:Option Nat)(l:List V):List V:=match g with
 |none=>l
 |some g=>[.func g l]
@[simp] theorem z8K {l:List V}:rdC none l=l:=(rfl)
@[simp] theorem z8J {g:Nat} {l:List V}:rdC (some g) l=[.func g l]:=(rfl)
def zle (g:Option Nat) (l:List V):Option (List V):=match g with
 |none=>some l
 | some g=>(match l with
   | [.func g' l]=>gd (Nat.beq g' g) (some l)
   |_=>none)
@[simp] theorem z3c {l:List V}:zle none l=some l:=(rfl)
@[simp] theorem z3b {g:Nat} {l:List V}:zle (some g) [.func g l]=some l:=by
  show gd (Nat.beq g g) (some l)=_;rw[beq_true.2 rfl];rfl
theorem zrc{g:Option Nat}{l m:List V}(h:zle g l=some m):l=rdC g m:=by
 cases g with
 |none=>cases h;rfl
 | some g =>
   unfold zle at h;dsimp only at h;split at h
   . simp only[zk,beq_true]at h;obtain⟨rfl,h⟩:=h;cases h;rfl
   . cases h
def z6U(o:Obj):Option (List V):=match o with
 |.arr n 0 [c] true false false=>gd (et (Nat.beq n (zG c)) (c.all V.pure2)) (some c)
 |_=>none
theorem ztr{o:Obj}{c:List V}(h:z6U o=some c):o=box c/\c.all V.pure2=true:=by
 unfold z6U at h;split at h
 . simp only[zk,et_true,beq_true]at h;obtain⟨⟨rfl,h1⟩,h⟩:=h;cases h;exact⟨rfl,h1⟩
 . cases h
@[simp] theorem zHd {n:Nat} {c:List V}:z6U (.arr n 0 [c] true false false)=gd (et (Nat.beq n (zG c)) (c.all V.pure2)) (some c):=(rfl)
def zdg(hs:HS):List V->Option (List (Nat×List V))
 | []=>some []
 |.ptr id 0 0::l=>ob (hs.H.get id) fun o=>ob (z6U o) fun c=>gd (Nat.blt id hs.n) (ob (zdg hs l) fun r=>some ((id,c)::r))
 |_=>none
@[simp] theorem z3a {hs:HS}:zdg hs []=some []:=by rw[zdg]
@[simp] theorem z2Z {hs:HS} {id:Nat} {l:List V}:zdg hs (.ptr id 0 0::l)=ob (hs.H.get id) fun o=>ob (z6U o) fun c=>gd (Nat.blt id hs.n) (ob (zdg hs l) fun r=>some ((id,c)::r)):=by rw[zdg]
theorem zmU{hs:HS}:∀ {l:List V} {q:List (Nat×List V)},zdg hs l=some q->l=q.map (fun p=>V.ptr p.1 0 0)/\∀ p∈q,hs.H.get p.1=some (box p.2)/\p.1<hs.n/\p.2.all V.pure2=true:=by
 intro l
 induction l with
 |nil=>intro q h;rw[zdg]at h;cases h;exact⟨rfl,fun p hp=>by cases hp⟩
 | cons v l ih =>
   intro q h;unfold zdg at h;split at h
   . rename_i e;cases e
   . rename_i id m e;cases e;simp only[za,zk,blt_true]at h;obtain⟨o,ho,c,hc,hlt,r,hr,h⟩:=h;cases h;obtain⟨rfl,hp⟩:=ztr hc;obtain⟨rfl,ih2⟩:=ih hr;refine⟨rfl,fun p hp2=>?_⟩;rcases List.mem_cons.1 hp2 with rfl|hp2
     . exact⟨ho,hlt,hp⟩
     . exact ih2 p hp2
   . cases h
def zdd(v:V):List Nat:=match v with
 |.own id _ _ _ _=>[id]
 |_=>[]
@[simp] theorem z1w {id g o n:Nat} {c:Option Nat}:zdd (.own id g o n c)=[id]:=(rfl)
@[simp] theorem zyW:zdd .snil=[]:=(rfl)
@[simp] theorem z4n {es:List (List V)} {b:Bool}:zdd (.sl es b)=[]:=(rfl)
@[simp] theorem z1y {l:List V}:zdd (.agg l)=[]:=(rfl)
@[simp] theorem z1x {k:IntKind} {n:Int}:zdd (.int k n)=[]:=(rfl)
def zhW(sz:Nat)(hs:HS)(v:V):Option V:=match v with
 |.snil=>some (.sl [] false)
 |.own i g o n c=>ob (rowOf sz hs (.own i g o n c)) fun es=>some (.sl es false)
 |v=>gd v.pure (some v)
@[simp] theorem z1i {sz:Nat} {hs:HS}:zhW sz hs .snil=some (.sl [] false):=(rfl)
@[simp] theorem z3B {sz:Nat} {hs:HS} {i g o n:Nat} {c:Option Nat}:zhW sz hs (.own i g o n c)=ob (rowOf sz hs (.own i g o n c)) fun es=>some (.sl es false):=(rfl)
@[simp] theorem z7Y {sz:Nat} {hs:HS} {es:List (List V)} {b:Bool}:zhW sz hs (.sl es b)=gd (V.sl es b).pure (some (.sl es b)):=(rfl)
@[simp] theorem z3D {sz:Nat} {hs:HS} {l:List V}:zhW sz hs (.agg l)=gd (V.agg l).pure (some (.agg l)):=(rfl)
@[simp] theorem z3C {sz:Nat} {hs:HS} {k:IntKind} {n:Int}:zhW sz hs (.int k n)=gd (V.int k n).pure (some (.int k n)):=(rfl)
def RdX(sz n:Nat)(X X0:V)(RL:List (Nat×Obj)):Prop:=(X0=X/\RL=[]/\X.pure=true)\/∃ es,X=.sl es false/\X0=oV n es/\RL=oH n sz es/\(es.all fun e=>e.all V.pure2)=true
def rdS(sz:Nat)(g:Option Nat)(F:V->List (List V)->Option V):Spec:=fun vs hs=>match vs with
 |x::cl=>ob (zle g cl) fun l=>ob (zdg hs l) fun q=>gd (nodupB (q.map Prod.fst++zdd x)) (ob (zhW sz hs x) fun X=>ob (F X (q.map Prod.snd)) fun r=>gd r.pure (some (r,hs)))
 |_=>none
section
variable {ρ:Nat->Value}{E:Env}{f:FuncId}{fn:Func}{sc:SC}{T:PT V}{g:Option Nat}{X X0 r:V}{RL:List (Nat×Obj)}{cs:List (List V)}{sz:Nat}
end
section
variable {ρ:Nat->Value}{P:Program}{f:Nat}{sz:Nat}{g:Option Nat}{F:V->List (List V)->Option V}
theorem Valid.rd (hf:zeo P f) (h:∀ X cs r,F X cs=some r->r.pure=true->∀ x X0 RL,RdX sz cs.length X X0 RL ->
 ∀ (hs:HS) (q:List (Nat×List V)),q.map Prod.snd=cs->(∀ p∈q,hs.H.get p.1=some (box p.2)/\p.1<hs.n/\p.2.all V.pure2=true)->nodupB (q.map Prod.fst++zdd x)=true ->
   ((X0=x/\RL=[]/\x.pure=true/\zdd x=[])\/∃ es i,x=oV i es/\es≠[]/\X0=oV cs.length es/\RL=oH cs.length sz es/\(es.all fun e=>e.all V.pure2)=true/\hs.H.get i=some (oO sz es)/\i<hs.n) ->
   CallOk ρ P f (x::rdC g (q.map fun p=>V.ptr p.1 0 0)) hs r hs):Valid ρ P f (rdS sz g F) where
 fn:=hf
 ok := by
  intro vs hs v hs' hq;unfold rdS at hq;split at hq
  . rename_i x cl;simp only[za,zk]at hq;obtain⟨l,hl,q,hq1,hnd,X,hX,r,hr,hp,hq⟩:=hq;cases hq;have e1:=zrc hl;subst e1;obtain⟨rfl,hc⟩:=zmU hq1;have hlen:(q.map Prod.snd).length=q.length:=by simp
    unfold zhW at hX;split at hX
    . cases hX;exact h _ _ _ hr hp .snil .snil [] (.inr ⟨[],rfl,rfl,rfl,rfl⟩) hs q rfl hc hnd (.inl ⟨rfl,rfl,rfl,rfl⟩)
    . rename_i i g o n c;simp only[za]at hX;obtain⟨es,hes,hX⟩:=hX;cases hX;rcases zew hes with⟨h1,_⟩|⟨id,h1,h2,h3,h4,h5⟩
      . cases h1
      . rw[h1]at hnd ⊢;exact h _ _ _ hr hp (oV id es) (oV _ es) (oH _ sz es) (.inr ⟨es,rfl,rfl,rfl,h5⟩) hs q rfl hc hnd (.inr ⟨es,id,rfl,h2,rfl,rfl,h5,h3,h4⟩)
    . rename_i h1 h2;simp only[zk]at hX;obtain⟨hpx,hX⟩:=hX;cases hX
      have hri:zdd x=[]:=by
       unfold zdd;split
       . exact absurd rfl (h2 _ _ _ _ _)
       . rfl
      exact h _ _ _ hr hp x x [] (.inl ⟨rfl,rfl,hpx⟩) hs q rfl hc hnd (.inl ⟨rfl,rfl,hpx,hri⟩)
  . cases hq
 kept:=by
  intro vs hs q hq;unfold rdS at hq;split at hq
  . simp only[za,zk]at hq;obtain⟨_,_,_,_,_,_,_,_,_,_,hq⟩:=hq;cases hq;exact .refl _
  . cases hq
end
section
variable {sz:Nat}{g:Option Nat}{F:V->List (List V)->Option V}{x:V}{cl:List V}{hs:HS}{Q:V×HS->Prop}
@[simp] theorem zEp:okT (rdS sz g F (x::cl) hs) Q=okT (zle g cl) fun l=>okT (zdg hs l) fun q=>nodupB (q.map Prod.fst++zdd x)=true/\okT (zhW sz hs x) fun X=>okT (F X (q.map Prod.snd)) fun r=>r.pure=true/\Q (r,hs):=by
  show ok (rdS sz g F (x::cl) hs) Q=ok (zle g cl) fun l=>ok (zdg hs l) fun q=>nodupB (q.map Prod.fst++zdd x)=true/\ok (zhW sz hs x) fun X=>ok (F X (q.map Prod.snd)) fun r=>r.pure=true/\Q (r,hs)
  simp only[rdS,zcd,zZ,zm]
variable {α β γ σ τ:Type} [Enc α] [Enc β] [Cel σ] [Cel τ]
def zHV(F:α->σ->Option β)(x:V)(cs:List (List V)):Option V:=match cs with
 | [c]=>ob (Enc.dec x) fun a=>ob (Cel.dec c) fun s=>ob (F a s) fun r=>some (enc r)
 |_=>none
def zHU(F:α->σ->τ->Option β)(x:V)(cs:List (List V)):Option V:=match cs with
 | [c,d]=>ob (Enc.dec x) fun a=>ob (Cel.dec c) fun s=>ob (Cel.dec d) fun t=>ob (F a s t) fun r=>some (enc r)
 |_=>none
@[simp] theorem zEr {F:α->σ->Option β} {x:V} {c:List V}:zHV F x [c]=ob (Enc.dec x) fun a=>ob (Cel.dec c) fun s=>ob (F a s) fun r=>some (enc r):=(rfl)
@[simp] theorem zEq {F:α->σ->τ->Option β} {x:V} {c d:List V}:zHU F x [c,d]=ob (Enc.dec x) fun a=>ob (Cel.dec c) fun s=>ob (Cel.dec d) fun t=>ob (F a s t) fun r=>some (enc r):=(rfl)
end
section
variable {π σ:Nat->Nat}{A:Nat->Bool}
end
def rdE(M:List V->HS->Option EmbD):Spec:=fun vs hs=>ob (M vs hs) fun D=>gd D.v0.pure (some (D.v0,hs))
theorem Valid.rdE{ρ:Nat->Value}{P:Program}{f:Nat}{M:List V->HS->Option EmbD}(hf:zeo P f)(h:∀ vs hs D,M vs hs=some D->D.v0.pure=true->CallOk ρ P f vs hs D.v0 hs):Valid ρ P f (rdE M) where
 fn:=hf
 ok:=by
  intro vs hs v hs' hq;simp only[J.rdE,za,zk]at hq;obtain⟨D,hD,hp,hq⟩:=hq;cases hq;exact h _ _ _ hD hp
 kept:=by
  intro vs hs q hq;simp only[J.rdE,za,zk]at hq;obtain⟨D,hD,hp,hq⟩:=hq;cases hq;exact .refl _
@[simp] theorem zEs {M:List V->HS->Option EmbD} {vs:List V} {hs:HS} {Q:V×HS->Prop}:okT (J.rdE M vs hs) Q=okT (M vs hs) fun D=>D.v0.pure=true/\Q (D.v0,hs):=by
  show ok (J.rdE M vs hs) Q=ok (M vs hs) fun D=>D.v0.pure=true/\Q (D.v0,hs)
  simp only[J.rdE,zZ,zcd,zm]
section
variable {α β γ:Type} [Enc α] [Enc β] [Cel γ]
def rrV(w:Nat)(g:Nat)(a r:V)(id:Nat):List V:=match w with
 | 0=>[a,r]
 | 1=>[r,a]
 | 2=>[a,.ptr id 0 0]
 |_=>[a,.func g [.ptr id 0 0]]
def rrD(sz w g:Nat)(a:V)(id ro:Nat)(es:List (List V))(r:V):EmbD where
 k:=if w<2 then 1 else 2
 k':=if w<2 then 1 else 2
 π:=fun i=>if w<2 then ro else if i=0 then id else ro
 OL:=if w<2 then [(0,oO sz es)]else [(0,box [oV 1 es]),(1,oO sz es)]
 OL':=if w<2 then [(0,oO sz es)]else [(0,box [oV 1 es]),(1,oO sz es)]
 vs0:=rrV w g a (oV 0 es) 0
 v0:=r
def rrM(sz w g:Nat)(F:α->List γ->Option β)(vs:List V)(hs:HS):Option EmbD :=
 match w,vs with
 | 0,[a,.own ro x o n c]=>ob (Enc.dec a:Option α) fun t=>ob (rowOf sz hs (.own ro x o n c)) fun es=>ob (zP es:Option (List γ)) fun l=>ob (F t l) fun r=>some (rrD sz 0 g a 0 ro es (enc r))
 | 1,[.own ro x o n c,a]=>ob (Enc.dec a:Option α) fun t=>ob (rowOf sz hs (.own ro x o n c)) fun es=>ob (zP es:Option (List γ)) fun l=>ob (F t l) fun r=>some (rrD sz 1 g a 0 ro es (enc r))
 | 2,[a,.ptr id 0 0]=>ob (Enc.dec a:Option α) fun t=>ob (hs.H.get id) fun ob1=>ob (zlf ob1) fun v=>ob (rowOf sz hs v) fun es=>ob (zP es:Option (List γ)) fun l=>ob (F t l) fun r =>
  gd (et (Nat.blt id hs.n) (et (nt (Nat.beq (zG es) 0)) (nt (Nat.beq id (zdk v))))) (some (rrD sz 2 g a id (zdk v) es (enc r)))
 | 3,[a,.func g' [.ptr id 0 0]]=>ob (Enc.dec a:Option α) fun t=>ob (hs.H.get id) fun ob1=>ob (zlf ob1) fun v=>ob (rowOf sz hs v) fun es=>ob (zP es:Option (List γ)) fun l=>ob (F t l) fun r =>
  gd (et (Nat.beq g' g) (et (Nat.blt id hs.n) (et (nt (Nat.beq (zG es) 0)) (nt (Nat.beq id (zdk v)))))) (some (rrD sz 3 g a id (zdk v) es (enc r)))
 |_,_=>none
variable {sz g:Nat}{F:α->List γ->Option β}{a:V}{hs:HS}
@[simp] theorem zHT {ro x o n:Nat} {c:Option Nat}:rrM sz 0 g F [a,.own ro x o n c] hs=ob (Enc.dec a:Option α) fun t=>ob (rowOf sz hs (.own ro x o n c)) fun es=>ob (zP es:Option (List γ)) fun l=>ob (F t l) fun r=>some (rrD sz 0 g a 0 ro es (enc r)):=(rfl)
@[simp] theorem zHS {ro x o n:Nat} {c:Option Nat}:rrM sz 1 g F [.own ro x o n c,a] hs=ob (Enc.dec a:Option α) fun t=>ob (rowOf sz hs (.own ro x o n c)) fun es=>ob (zP es:Option (List γ)) fun l=>ob (F t l) fun r=>some (rrD sz 1 g a 0 ro es (enc r)):=(rfl)
@[simp] theorem zHR {id:Nat}:rrM sz 2 g F [a,.ptr id 0 0] hs=ob (Enc.dec a:Option α) fun t=>ob (hs.H.get id) fun ob1=>ob (zlf ob1) fun v=>ob (rowOf sz hs v) fun es=>ob (zP es:Option (List γ)) fun l=>ob (F t l) fun r =>
      gd (et (Nat.blt id hs.n) (et (nt (Nat.beq (zG es) 0)) (nt (Nat.beq id (zdk v))))) (some (rrD sz 2 g a id (zdk v) es (enc r))):=(rfl)
@[simp] theorem zHQ {id g':Nat}:rrM sz 3 g F [a,.func g' [.ptr id 0 0]] hs=ob (Enc.dec a:Option α) fun t=>ob (hs.H.get id) fun ob1=>ob (zlf ob1) fun v=>ob (rowOf sz hs v) fun es=>ob (zP es:Option (List γ)) fun l=>ob (F t l) fun r =>
      gd (et (Nat.beq g' g) (et (Nat.blt id hs.n) (et (nt (Nat.beq (zG es) 0)) (nt (Nat.beq id (zdk v)))))) (some (rrD sz 3 g a id (zdk v) es (enc r))):=(rfl)
@[simp] theorem zEn {w id ro:Nat} {es:List (List V)} {r:V}:(rrD sz w g a id ro es r).v0=r:=(rfl)
end
end Go.J
/- Functions of two values and a row that they append to;they hand back the row and one more value. -/
namespace Go.J
open Enc (enc)
def rwK(fst:Bool)(v r:V):V:=match fst with
 |true=>.tuple [v,r]
 |false=>.tuple [r,v]
@[simp] theorem z8j {v r:V}:rwK true v r=.tuple [v,r]:=(rfl)
@[simp] theorem z4j {v r:V}:rwK false v r=.tuple [r,v]:=(rfl)
def rwS(sz:Nat)(fst:Bool)(F:V->V->List (List V)->Option (List (List V)×V)):Spec:=fun vs hs=>match vs with
 | [a,b,v]=>gd (et a.pure (et b.pure (zaP hs hs.n))) (ob (rowOf sz hs v) fun es=>ob (F a b es) fun r =>
  gd (et (r.1.all fun e=>e.all V.pure2) (et (r.2.in2 fun _=>false) (Nat.ble (zG es) (zG r.1)))) (some (rwK fst (zb9 sz v es r.1 hs).1 r.2,(zb9 sz v es r.1 hs).2)))
 |_=>none
def GivesP(k:Nat)(v0:V)(OL:List (Nat×Obj))(v:V)(hs:HS):Prop:=∃ a b q,v=.tuple [a,b]/\zaT a hs=some q/\GivesL k v0 OL (.tuple [zaa q.1,b]) q.2
section
variable {ρ:Nat->Value}{E:Env}{f:FuncId}{fn:Func}{sc:SC}{T:PT V}{es es':List (List V)}{a b r:V}{sz:Nat}{fst:Bool}
end
section
variable {ρ:Nat->Value}{P:Program}{f:Nat}{sz:Nat}{fst:Bool}{F:V->V->List (List V)->Option (List (List V)×V)}
theorem Valid.rw (hf:zeo P f) (h:∀ a b es r,a.pure=true->b.pure=true->(es.all fun e=>e.all V.pure2)=true->F a b es=some r->(r.1.all fun e=>e.all V.pure2)=true->(r.2.in2 fun _=>false)=true->es.length<=r.1.length ->
 ∀ (hs:HS) (v:V),rowOf sz hs v=some es->hs.H.get hs.n=none->CallOk ρ P f [a,b,v] hs (rwK fst (zb9 sz v es r.1 hs).1 r.2) (zb9 sz v es r.1 hs).2):Valid ρ P f (rwS sz fst F) where
 fn:=hf
 ok := by
  intro vs hs v hs' hq;unfold rwS at hq;split at hq
  . rename_i a b v0;simp only[zk,za,et_true]at hq;obtain⟨⟨ha,hb,hvac⟩,es,hes,r,hr,⟨h1,h2,h3⟩,hq⟩:=hq;cases hq;rw[vacant_eq]at hvac;rw[ble_true,zz,zz]at h3
    have h0:(es.all fun e=>e.all V.pure2)=true:=by
     rcases zew hes with⟨_,rfl⟩|⟨_,_,_,_,_,h⟩
     . rfl
     . exact h
    exact h a b es r ha hb h0 hr h1 h2 h3 hs v0 hes hvac
  . cases hq
 kept := by
  intro vs hs q hq;unfold rwS at hq;split at hq
  . rename_i a b v0;simp only[zk,za,et_true]at hq;obtain⟨⟨_,_,hvac⟩,es,hes,r,hr,_,hq⟩:=hq;cases hq;rw[vacant_eq]at hvac;unfold zb9
    cases es with
    | nil =>
      show Kept hs (bi (Nat.beq (zG r.1) 0) hs _);rw[zaf];split
      . exact .refl _
      . refine⟨fun k hk=>List.mem_cons_of_mem _ hk,fun k o ho hn=>?_,Nat.le_succ _,fun k hk=>?_⟩
        . show (hs.H.set hs.n _).get k=_;rw[PT.set_get];split
          . rename_i e;subst e;rw[hvac]at ho;cases ho
          . exact ho
        . show (hs.H.set hs.n _).get k≠none;rw[PT.set_get];split
          . simp
          . exact hk
    |cons a l=>exact zaG ..
  . cases hq
end
section
variable {sz:Nat}{fst:Bool}{F:V->V->List (List V)->Option (List (List V)×V)}{a b v:V}{hs:HS}{Q:V×HS->Prop}
@[simp] theorem zEm:okT (rwS sz fst F [a,b,v] hs) Q=((a.pure=true/\b.pure=true/\hs.H.get hs.n=none)/\okT (rowOf sz hs v) fun es=>okT (F a b es) fun r =>
 ((r.1.all fun e=>e.all V.pure2)=true/\(r.2.in2 fun _=>false)=true/\es.length<=r.1.length)/\Q (rwK fst (zb9 sz v es r.1 hs).1 r.2,(zb9 sz v es r.1 hs).2)):=by
  show ok (rwS sz fst F [a,b,v] hs) Q=((a.pure=true/\b.pure=true/\hs.H.get hs.n=none)/\ok (rowOf sz hs v) fun es=>ok (F a b es) fun r =>
   ((r.1.all fun e=>e.all V.pure2)=true/\(r.2.in2 fun _=>false)=true/\es.length<=r.1.length)/\Q (rwK fst (zb9 sz v es r.1 hs).1 r.2,(zb9 sz v es r.1 hs).2))
  simp only[rwS,zcd,zZ,zm,et_true,vacant_eq,ble_true,zz]
variable {α β γ δ:Type} [Enc α] [Enc β] [Cel γ] [Enc δ]
def rwF(F:α->β->List γ->Option (List γ×δ))(a b:V)(es:List (List V)):Option (List (List V)×V) :=
 ob (Enc.dec a) fun a=>ob (Enc.dec b) fun b=>ob (zP es) fun L=>ob (F a b L) fun r=>some (r.1.map Cel.cells,enc r.2)
@[simp] theorem zHP {F:α->β->List γ->Option (List γ×δ)} {es:List (List V)}:rwF F a b es=ob (Enc.dec a) fun a=>ob (Enc.dec b) fun b=>ob (zP es) fun L=>ob (F a b L) fun r=>some (r.1.map Cel.cells,enc r.2):=(rfl)
end
theorem GivesP.keep{k:Nat}{v0 a b:V}{OL:List (Nat×Obj)}{hs:HS}(hi:nodupB (OL.map fun p=>p.1)=true)(hk:(List.range k).all (fun i=>dom OL i)=true)(hs2:ok (zaF hs a) fun a'=>V.tuple [zaa a',b]=v0/\v0.in3 (dom OL)=true)
 (hH:∀ p∈OL,p.2.in (dom OL)=true/\(a.cells.any (ownB p.1))=false/\hs.H.get p.1=some p.2):GivesP k v0 OL (.tuple [a,b]) hs:=by
 obtain⟨a',ha,rfl,hv⟩:=hs2;refine⟨a,b,(a',zaB hs a.cells),rfl,by simp only[zaT,ha];rfl,GivesL.keepX hi hk hv fun p hp=>?_⟩;obtain⟨h1,h2,h3⟩:=hH p hp;exact⟨h1,by rw[zgu h2];exact h3⟩
section
variable {ρ:Nat->Value}{E:Env}{f:FuncId}{fn:Func}{sc:SC}{vs:List V}{T:PT V}{r:V}{c c':List V}
theorem znx{K:V->HS->Prop}(hρ:Good ρ)(hcon:ConsOk ρ E)(hP:E.P.follows .mixedOrders=true)(hN:zen E.P)(hf:E.P.funcs[f]?=some fn)(hb:fn.body.bind zq=some sc)(he:zb5 fn.ntmps (.ptr 0 0 0::vs) 0 .leaf=some T)(hp:zw vs=true)
 (hc:c.all V.pure2=true) (hc':c'.all V.pure2=true) (hr:r.in3 (fun _=>false)=true)
 (h:Wp ρ E 1 fn.ntmps sc T { H:=mkP [(0,box c)],n:=1,log:=[] } (Leaves E.P fn K)) (hK:∀ v hs,K v hs->GivesL 1 r [(0,box c')] v hs\/GivesF 1 r [(0,box c')] v hs) {hs:HS} {id:Nat} (hid:id<hs.n) (hg:hs.H.get id=some (box c)):CallOk ρ E.P f (.ptr id 0 0::vs) hs r (hs.wr id (box c')):=by
 have hren:∀ (π:Nat->Nat) (c:List V),c.all V.pure2=true->(box c).ren π=box c:=by
  intro π c hc;show Obj.arr _ _ [c.map (V.ren2 π)] _ _ _=_;rw[map_id' fun v hv=>V.ren2_pure (List.all_eq_true.1 hc v hv)];rfl
 have hbin:∀ (A:Nat->Bool) (c:List V),c.all V.pure2=true->(box c).in A=true:=by
  intro A c hc;show ([c].all fun e=>e.all fun v=>v.in2 A)=true;simp only[List.all_cons,List.all_nil,Bool.and_true];exact List.all_eq_true.2 fun v hv=>V.in2_pure2 (List.all_eq_true.1 hc v hv)
 have hps:=zbs hp
 have key:=zqQ (k:=1) (k':=1) (OL:=[(0,box c)]) (OL':=[(0,box c')]) (v0:=r) (vs0:=.ptr 0 0 0::vs) hf hb he (zhp hρ hcon hP hN h) hK rfl rfl (Nat.le_refl _)
  (fun p hp=>by simp only[List.mem_singleton]at hp;subst hp;exact hbin _ _ hc)
  (fun p hp=>by simp only[List.mem_singleton]at hp;subst hp;exact⟨hbin _ _ hc',rfl⟩)
  (V.in3_mono (fun _ h=>by cases h) hr)
  (fun v hv=>by
    rcases List.mem_cons.1 hv with rfl|hv
    . rfl
    . exact V.in3_pure (hps v hv))
  (hs:=hs) (π:=fun _=>id) (fun i j hi hj _=>by omega) (fun p hp=>by simp only[List.mem_singleton]at hp;subst hp;rw[hren _ _ hc];exact hg) (fun i hi=>absurd hi (by omega)) (fun _ _=>hid)
 rw[V.ren_none hr]at key
 have e1:(V.ptr 0 0 0::vs).map (V.ren fun _=>id)=.ptr id 0 0::vs:=by
  rw[List.map_cons,map_id' fun v hv=>V.ren_none (V.in3_pure (hps v hv))];rfl
 rw[e1]at key
 have e2:zg6 hs 1 1 (fun _=>id) [(0,box c')]=hs.wr id (box c'):=by
  show ({ H:=(hs.H.set (news hs.n 1 (fun _=>id) 0) ((box c').ren _)),n:=hs.n+0,log:=[news hs.n 1 (fun _=>id) 0]++hs.log }:HS)=_;rw[hren _ _ hc'];rfl
 rw[e2]at key;exact key
end
end Go.J
