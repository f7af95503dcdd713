import Derived.Test.YtfgmnebfhemnpaaGreatJK
import Derived.Test.YtfgmnebfhemnpaaGreatJQuiet
set_option linter.all false
noncomputable section
/- Functions that read variables of their caller: closures,and functions that are handed them,perhaps with a row. -/
namespace Go.J
open Enc (enc)
def zJZ:Nat->List (List V)->List (Nat×Obj)
 |_,[]=>[]
 |i,c::l=>(i,box c)::zJZ (i+1) l
def zI2:Nat->Nat->List V
 |_,0=>[]
 |i,n+1=>.ptr i 0 0::zI2 (i+1) n
@[simp] theorem zJY {i:Nat}:zJZ i []=[]:=(rfl)
@[simp] theorem zGA {i:Nat} {c:List V} {l:List (List V)}:zJZ i (c::l)=(i,box c)::zJZ (i+1) l:=(rfl)
@[simp] theorem zDZ {i:Nat}:zI2 i 0=[]:=(rfl)
@[simp] theorem zEa {i n:Nat}:zI2 i (n+1)=.ptr i 0 0::zI2 (i+1) n:=(rfl)
def rdC(g:Option Nat)(l:List V):List V:=match g with
 |none=>l
 |some g=>[.func g l]
@[simp] theorem zxf {l:List V}:rdC none l=l:=(rfl)
@[simp] theorem zxe {g:Nat} {l:List V}:rdC (some g) l=[.func g l]:=(rfl)
def zko (g:Option Nat) (l:List V):Option (List V):=match g with
 |none=>some l
 | some g=>(match l with
   | [.func g' l]=>gd (Nat.beq g' g) (some l)
   |_=>none)
@[simp] theorem zCl {l:List V}:zko none l=some l:=(rfl)
@[simp] theorem zCk {g:Nat} {l:List V}:zko (some g) [.func g l]=some l:=by
  show gd (Nat.beq g g) (some l)=_;rw[beq_true.2 rfl];rfl
theorem zmj{g:Option Nat}{l m:List V}(h:zko g l=some m):l=rdC g m:=by
 cases g with
 |none=>cases h;rfl
 | some g =>
   unfold zko at h;dsimp only at h;split at h
   . simp only[z8,beq_true]at h;obtain⟨rfl,h⟩:=h;cases h;rfl
   . cases h
def zG7(o:Obj):Option (List V):=match o with
 |.arr n 0 [c] true false false=>gd (et (Nat.beq n (zS c)) (c.all V.pure2)) (some c)
 |_=>none
theorem zyp{o:Obj}{c:List V}(h:zG7 o=some c):o=box c/\c.all V.pure2=true:=by
 unfold zG7 at h;split at h
 . simp only[z8,et_true,beq_true]at h;obtain⟨⟨rfl,h1⟩,h⟩:=h;cases h;exact⟨rfl,h1⟩
 . cases h
@[simp] theorem zRA {n:Nat} {c:List V}:zG7 (.arr n 0 [c] true false false)=gd (et (Nat.beq n (zS c)) (c.all V.pure2)) (some c):=(rfl)
def zdI(hs:HS):List V->Option (List (Nat×List V))
 | []=>some []
 |.ptr id 0 0::l=>ob (hs.H.get id) fun o=>ob (zG7 o) fun c=>gd (Nat.blt id hs.n) (ob (zdI hs l) fun r=>some ((id,c)::r))
 |_=>none
@[simp] theorem zCj {hs:HS}:zdI hs []=some []:=by rw[zdI]
@[simp] theorem zCi {hs:HS} {id:Nat} {l:List V}:zdI hs (.ptr id 0 0::l)=ob (hs.H.get id) fun o=>ob (zG7 o) fun c=>gd (Nat.blt id hs.n) (ob (zdI hs l) fun r=>some ((id,c)::r)):=by rw[zdI]
theorem zpR{hs:HS}:∀ {l:List V} {q:List (Nat×List V)},zdI hs l=some q->l=q.map (fun p=>V.ptr p.1 0 0)/\∀ p∈q,hs.H.get p.1=some (box p.2)/\p.1<hs.n/\p.2.all V.pure2=true:=by
 intro l
 induction l with
 |nil=>intro q h;rw[zdI]at h;cases h;exact⟨rfl,fun p hp=>by cases hp⟩
 | cons v l ih =>
   intro q h;unfold zdI at h;split at h
   . rename_i e;cases e
   . rename_i id m e;cases e;simp only[zt,z8,blt_true]at h;obtain⟨o,ho,c,hc,hlt,r,hr,h⟩:=h;cases h;obtain⟨rfl,hp⟩:=zyp hc;obtain⟨rfl,ih2⟩:=ih hr;refine⟨rfl,fun p hp2=>?_⟩;rcases List.mem_cons.1 hp2 with rfl|hp2
     . exact⟨ho,hlt,hp⟩
     . exact ih2 p hp2
   . cases h
def zdD(v:V):List Nat:=match v with
 |.own id _ _ _ _=>[id]
 |_=>[]
@[simp] theorem zAM {id g o n:Nat} {c:Option Nat}:zdD (.own id g o n c)=[id]:=(rfl)
@[simp] theorem z7Q:zdD .snil=[]:=(rfl)
@[simp] theorem zDH {es:List (List V)} {b:Bool}:zdD (.sl es b)=[]:=(rfl)
@[simp] theorem zAO {l:List V}:zdD (.agg l)=[]:=(rfl)
@[simp] theorem zAN {k:IntKind} {n:Int}:zdD (.int k n)=[]:=(rfl)
def zj3(sz:Nat)(hs:HS)(v:V):Option V:=match v with
 |.snil=>some (.sl [] false)
 |.own i g o n c=>ob (rowOf sz hs (.own i g o n c)) fun es=>some (.sl es false)
 |v=>gd v.pure (some v)
@[simp] theorem zA1 {sz:Nat} {hs:HS}:zj3 sz hs .snil=some (.sl [] false):=(rfl)
@[simp] theorem zCE {sz:Nat} {hs:HS} {i g o n:Nat} {c:Option Nat}:zj3 sz hs (.own i g o n c)=ob (rowOf sz hs (.own i g o n c)) fun es=>some (.sl es false):=(rfl)
@[simp] theorem zH5 {sz:Nat} {hs:HS} {es:List (List V)} {b:Bool}:zj3 sz hs (.sl es b)=gd (V.sl es b).pure (some (.sl es b)):=(rfl)
@[simp] theorem zCG {sz:Nat} {hs:HS} {l:List V}:zj3 sz hs (.agg l)=gd (V.agg l).pure (some (.agg l)):=(rfl)
@[simp] theorem zCF {sz:Nat} {hs:HS} {k:IntKind} {n:Int}:zj3 sz hs (.int k n)=gd (V.int k n).pure (some (.int k n)):=(rfl)
def RdX(sz n:Nat)(X X0:V)(RL:List (Nat×Obj)):Prop:=(X0=X/\RL=[]/\X.pure=true)\/∃ es,X=.sl es false/\X0=oV n es/\RL=oH n sz es/\(es.all fun e=>e.all V.pure2)=true
def rdS(sz:Nat)(g:Option Nat)(F:V->List (List V)->Option V):Spec:=fun vs hs=>match vs with
 |x::cl=>ob (zko g cl) fun l=>ob (zdI hs l) fun q=>gd (nodupB (q.map Prod.fst++zdD x)) (ob (zj3 sz hs x) fun X=>ob (F X (q.map Prod.snd)) fun r=>gd r.pure (some (r,hs)))
 |_=>none
theorem zhz{H:PT Obj}:∀ {l:List (Nat×Obj)},(∀ p∈l,H.get p.1=some p.2)->∀ id,(zdU H l).get id=H.get id:=by
 intro l
 induction l with
 |nil=>intro _ id;rfl
 | cons p l ih =>
   intro h id;show ((zdU H l).set p.1 p.2).get id=_;rw[PT.set_get];split
   . rename_i e;rw[e];exact(h p (List.mem_cons_self ..)).symm
   . exact ih (fun q hq=>h q (List.mem_cons_of_mem _ hq)) id
theorem getD_lt{l:List Nat}{i:Nat}(h:i<l.length):l.getD i 0=l[i]:=by simp[List.getD,h]
theorem zpx{l:List Nat}(h:nodupB l=true){i j:Nat}(hi:i<l.length)(hj:j<l.length)(e:l.getD i 0=l.getD j 0):i=j:=by
 have:=zlq h;rw[getD_lt hi,getD_lt hj]at e;exact(List.getElem_inj this).1 e
section
variable {ρ:Nat->Value}{E:Env}{f:FuncId}{fn:Func}{sc:SC}{T:PT V}{g:Option Nat}{X X0 r:V}{RL:List (Nat×Obj)}{cs:List (List V)}{sz:Nat}
end
section
variable {ρ:Nat->Value}{P:Program}{f:Nat}{sz:Nat}{g:Option Nat}{F:V->List (List V)->Option V}
theorem Valid.rd (hf:zeH P f) (h:∀ X cs r,F X cs=some r->r.pure=true->∀ x X0 RL,RdX sz cs.length X X0 RL ->
 ∀ (hs:HS) (q:List (Nat×List V)),q.map Prod.snd=cs->(∀ p∈q,hs.H.get p.1=some (box p.2)/\p.1<hs.n/\p.2.all V.pure2=true)->nodupB (q.map Prod.fst++zdD x)=true ->
   ((X0=x/\RL=[]/\x.pure=true/\zdD x=[])\/∃ es i,x=oV i es/\es≠[]/\X0=oV cs.length es/\RL=oH cs.length sz es/\(es.all fun e=>e.all V.pure2)=true/\hs.H.get i=some (oO sz es)/\i<hs.n) ->
   CallOk ρ P f (x::rdC g (q.map fun p=>V.ptr p.1 0 0)) hs r hs):Valid ρ P f (rdS sz g F) where
 fn:=hf
 ok := by
  intro vs hs v hs' hq;unfold rdS at hq;split at hq
  . rename_i x cl;simp only[zt,z8]at hq;obtain⟨l,hl,q,hq1,hnd,X,hX,r,hr,hp,hq⟩:=hq;cases hq;have e1:=zmj hl;subst e1;obtain⟨rfl,hc⟩:=zpR hq1;have hlen:(q.map Prod.snd).length=q.length:=by simp
    unfold zj3 at hX;split at hX
    . cases hX;exact h _ _ _ hr hp .snil .snil [] (.inr ⟨[],rfl,rfl,rfl,rfl⟩) hs q rfl hc hnd (.inl ⟨rfl,rfl,rfl,rfl⟩)
    . rename_i i g o n c;simp only[zt]at hX;obtain⟨es,hes,hX⟩:=hX;cases hX;rcases zdm hes with⟨h1,_⟩|⟨id,h1,h2,h3,h4,h5⟩
      . cases h1
      . rw[h1]at hnd ⊢;exact h _ _ _ hr hp (oV id es) (oV _ es) (oH _ sz es) (.inr ⟨es,rfl,rfl,rfl,h5⟩) hs q rfl hc hnd (.inr ⟨es,id,rfl,h2,rfl,rfl,h5,h3,h4⟩)
    . rename_i h1 h2;simp only[z8]at hX;obtain⟨hpx,hX⟩:=hX;cases hX
      have hri:zdD x=[]:=by
       unfold zdD;split
       . exact absurd rfl (h2 _ _ _ _ _)
       . rfl
      exact h _ _ _ hr hp x x [] (.inl ⟨rfl,rfl,hpx⟩) hs q rfl hc hnd (.inl ⟨rfl,rfl,hpx,hri⟩)
  . cases hq
 kept:=by
  intro vs hs q hq;unfold rdS at hq;split at hq
  . simp only[zt,z8]at hq;obtain⟨_,_,_,_,_,_,_,_,_,_,hq⟩:=hq;cases hq;exact .refl _
  . cases hq
end
section
variable {sz:Nat}{g:Option Nat}{F:V->List (List V)->Option V}{x:V}{cl:List V}{hs:HS}{Q:V×HS->Prop}
@[simp] theorem zOn:okT (rdS sz g F (x::cl) hs) Q=okT (zko g cl) fun l=>okT (zdI hs l) fun q=>nodupB (q.map Prod.fst++zdD x)=true/\okT (zj3 sz hs x) fun X=>okT (F X (q.map Prod.snd)) fun r=>r.pure=true/\Q (r,hs):=by
  show ok (rdS sz g F (x::cl) hs) Q=ok (zko g cl) fun l=>ok (zdI hs l) fun q=>nodupB (q.map Prod.fst++zdD x)=true/\ok (zj3 sz hs x) fun X=>ok (F X (q.map Prod.snd)) fun r=>r.pure=true/\Q (r,hs)
  simp only[rdS,zbX,zak,zF]
variable {α β γ σ τ:Type} [Enc α] [Enc β] [Cel σ] [Cel τ]
def zSF(F:α->σ->Option β)(x:V)(cs:List (List V)):Option V:=match cs with
 | [c]=>ob (Enc.dec x) fun a=>ob (Cel.dec c) fun s=>ob (F a s) fun r=>some (enc r)
 |_=>none
def zSE(F:α->σ->τ->Option β)(x:V)(cs:List (List V)):Option V:=match cs with
 | [c,d]=>ob (Enc.dec x) fun a=>ob (Cel.dec c) fun s=>ob (Cel.dec d) fun t=>ob (F a s t) fun r=>some (enc r)
 |_=>none
@[simp] theorem zOp {F:α->σ->Option β} {x:V} {c:List V}:zSF F x [c]=ob (Enc.dec x) fun a=>ob (Cel.dec c) fun s=>ob (F a s) fun r=>some (enc r):=(rfl)
@[simp] theorem zOo {F:α->σ->τ->Option β} {x:V} {c d:List V}:zSE F x [c,d]=ob (Enc.dec x) fun a=>ob (Cel.dec c) fun s=>ob (Cel.dec d) fun t=>ob (F a s t) fun r=>some (enc r):=(rfl)
end
section
variable {π σ:Nat->Nat}{A:Nat->Bool}
theorem V.ren1_congr(h:∀ i,A i=true->π i=σ i){v:V}(hv:v.in1 A=true):v.ren1 π=v.ren1 σ:=by
 cases v<;>first|rfl|(simp only[V.ren1];rw[h _ hv])
theorem V.ren2_congr(h:∀ i,A i=true->π i=σ i){v:V}(hv:v.in2 A=true):v.ren2 π=v.ren2 σ:=by
 cases v with
 |agg cs=>show V.agg (cs.map (V.ren1 π))=V.agg (cs.map (V.ren1 σ));rw[List.map_congr_left fun u hu=>V.ren1_congr h (List.all_eq_true.1 (show (cs.all (V.in1 A))=true from hv) u hu)]
 |func f cs=>show V.func f (cs.map (V.ren1 π))=V.func f (cs.map (V.ren1 σ));rw[List.map_congr_left fun u hu=>V.ren1_congr h (List.all_eq_true.1 (show (cs.all (V.in1 A))=true from hv) u hu)]
 |iface t v=>show V.iface t (v.ren1 π)=V.iface t (v.ren1 σ);rw[V.ren1_congr h (show v.in1 A=true from hv)]
 |ptr id g off=>exact V.ren1_congr (v:=.ptr id g off) h hv
 |own id g off len cap=>exact V.ren1_congr (v:=.own id g off len cap) h hv
 |map id=>exact V.ren1_congr (v:=.map id) h hv
 |yld id=>exact V.ren1_congr (v:=.yld id) h hv
 |_=>rfl
theorem Obj.ren_congr(h:∀ i,A i=true->π i=σ i){o:Obj}(ho:o.in A=true):o.ren π=o.ren σ:=by
 cases o with
 | arr size gen es ex fz row =>
   show Obj.arr _ _ _ _ _ _=Obj.arr _ _ _ _ _ _
   congr 1
   refine List.map_congr_left fun e he=>List.map_congr_left fun v hv=>?_
   have h1:=List.all_eq_true.1 (List.all_eq_true.1 (show (es.all fun e=>e.all fun v=>if row then v.pure2 else v.in2 A)=true from ho) e he) v hv
   cases row with
   |true=>rw[V.ren2_pure (by simpa using h1),V.ren2_pure (by simpa using h1)]
   |false=>exact V.ren2_congr h (by simpa using h1)
 |mp es=>rfl
 |lp=>rfl
end
def rdE(M:List V->HS->Option EmbD):Spec:=fun vs hs=>ob (M vs hs) fun D=>gd D.v0.pure (some (D.v0,hs))
theorem z8a{ρ:Nat->Value}{E:Env}{f:FuncId}{fn:Func}{sc:SC}{T:PT V}{D:EmbD}(hρ:J.Good ρ)(hcon:ConsOk ρ E)(hP:E.P.follows .mixedOrders=true)(hN:zdP E.P)(hf:E.P.funcs[f]?=some fn)(hb:fn.body.bind zz=some sc)(he:zbu fn.ntmps D.vs0 0 .leaf=some T)
 (hg:D.Good) (ho:D.OL'=D.OL) (hr:D.v0.pure=true) (h:Wp ρ E D.k fn.ntmps sc T { H:=mkP D.OL,n:=D.k,log:=[] } (Leaves E.P fn (GivesL D.k D.v0 D.OL))) {vs:List V} {hs:HS} (hfit:D.Fits vs hs) :
 CallOk ρ E.P f vs hs D.v0 hs:=by
 have key:=zoG hρ hcon hP hN hf hb he hg (by rw[ho];exact h) hfit;rw[V.ren_none (V.in3_pure hr)]at key
 have hsame:∀ id,(zgK hs D.k D.k' D.π D.OL').H.get id=hs.H.get id:=by
  intro id;refine zhz (fun p hp=>?_) id;obtain⟨p0,hp0,rfl⟩:=List.mem_map.1 hp;have hp1:p0∈D.OL:=by rw[<- ho];exact hp0
  have hlt:∀ i,dom D.OL i=true->i<D.k:=by
   intro i hi;obtain⟨q,hq,hqi⟩:=List.any_eq_true.1 hi;rw[beq_true]at hqi;exact List.mem_range.1 (by rw[<- hg.ol];exact List.mem_map.2 ⟨q,hq,hqi⟩)
  have h0:p0.1<D.k:=hlt _ (List.any_eq_true.2 ⟨p0,hp1,beq_true.2 rfl⟩);show hs.H.get (news hs.n D.k D.π p0.1)=some (p0.2.ren (news hs.n D.k D.π));rw[show news hs.n D.k D.π p0.1=D.π p0.1 from if_pos h0,Obj.ren_congr (A:=dom D.OL) (π:=news hs.n D.k D.π) (σ:=D.π) (fun i hi=>if_pos (hlt i hi)) (hg.inn p0 hp1)];exact hfit.obj p0 hp1
 exact CallOk.quiet key hr (fun id o ho=>by rw[hsame];exact ho) (fun id _ hn=>by rw[hsame];exact hn)
theorem Valid.rdE{ρ:Nat->Value}{P:Program}{f:Nat}{M:List V->HS->Option EmbD}(hf:zeH P f)(h:∀ vs hs D,M vs hs=some D->D.v0.pure=true->CallOk ρ P f vs hs D.v0 hs):Valid ρ P f (rdE M) where
 fn:=hf
 ok:=by
  intro vs hs v hs' hq;simp only[J.rdE,zt,z8]at hq;obtain⟨D,hD,hp,hq⟩:=hq;cases hq;exact h _ _ _ hD hp
 kept:=by
  intro vs hs q hq;simp only[J.rdE,zt,z8]at hq;obtain⟨D,hD,hp,hq⟩:=hq;cases hq;exact .refl _
@[simp] theorem zOq {M:List V->HS->Option EmbD} {vs:List V} {hs:HS} {Q:V×HS->Prop}:okT (J.rdE M vs hs) Q=okT (M vs hs) fun D=>D.v0.pure=true/\Q (D.v0,hs):=by
  show ok (J.rdE M vs hs) Q=ok (M vs hs) fun D=>D.v0.pure=true/\Q (D.v0,hs)
  simp only[J.rdE,zak,zbX,zF]
section
variable {α β γ:Type} [Enc α] [Enc β] [Cel γ]
def rrV(w:Nat)(g:Nat)(a r:V)(id:Nat):List V:=match w with
 | 0=>[a,r]
 | 1=>[r,a]
 | 2=>[a,.ptr id 0 0]
 |_=>[a,.func g [.ptr id 0 0]]
def rrD(sz w g:Nat)(a:V)(id ro:Nat)(es:List (List V))(r:V):EmbD where
 k:=if w<2 then 1 else 2
 k':=if w<2 then 1 else 2
 π:=fun i=>if w<2 then ro else if i=0 then id else ro
 OL:=if w<2 then [(0,oO sz es)]else [(0,box [oV 1 es]),(1,oO sz es)]
 OL':=if w<2 then [(0,oO sz es)]else [(0,box [oV 1 es]),(1,oO sz es)]
 vs0:=rrV w g a (oV 0 es) 0
 v0:=r
def rrM(sz w g:Nat)(F:α->List γ->Option β)(vs:List V)(hs:HS):Option EmbD :=
 match w,vs with
 | 0,[a,.own ro x o n c]=>ob (Enc.dec a:Option α) fun t=>ob (rowOf sz hs (.own ro x o n c)) fun es=>ob (zah es:Option (List γ)) fun l=>ob (F t l) fun r=>some (rrD sz 0 g a 0 ro es (enc r))
 | 1,[.own ro x o n c,a]=>ob (Enc.dec a:Option α) fun t=>ob (rowOf sz hs (.own ro x o n c)) fun es=>ob (zah es:Option (List γ)) fun l=>ob (F t l) fun r=>some (rrD sz 1 g a 0 ro es (enc r))
 | 2,[a,.ptr id 0 0]=>ob (Enc.dec a:Option α) fun t=>ob (hs.H.get id) fun ob1=>ob (zbU ob1) fun v=>ob (rowOf sz hs v) fun es=>ob (zah es:Option (List γ)) fun l=>ob (F t l) fun r =>
  gd (et (Nat.blt id hs.n) (et (nt (Nat.beq (zS es) 0)) (nt (Nat.beq id (zaU v))))) (some (rrD sz 2 g a id (zaU v) es (enc r)))
 | 3,[a,.func g' [.ptr id 0 0]]=>ob (Enc.dec a:Option α) fun t=>ob (hs.H.get id) fun ob1=>ob (zbU ob1) fun v=>ob (rowOf sz hs v) fun es=>ob (zah es:Option (List γ)) fun l=>ob (F t l) fun r =>
  gd (et (Nat.beq g' g) (et (Nat.blt id hs.n) (et (nt (Nat.beq (zS es) 0)) (nt (Nat.beq id (zaU v)))))) (some (rrD sz 3 g a id (zaU v) es (enc r)))
 |_,_=>none
variable {sz g:Nat}{F:α->List γ->Option β}{a:V}{hs:HS}
@[simp] theorem zSD {ro x o n:Nat} {c:Option Nat}:rrM sz 0 g F [a,.own ro x o n c] hs=ob (Enc.dec a:Option α) fun t=>ob (rowOf sz hs (.own ro x o n c)) fun es=>ob (zah es:Option (List γ)) fun l=>ob (F t l) fun r=>some (rrD sz 0 g a 0 ro es (enc r)):=(rfl)
@[simp] theorem zSC {ro x o n:Nat} {c:Option Nat}:rrM sz 1 g F [.own ro x o n c,a] hs=ob (Enc.dec a:Option α) fun t=>ob (rowOf sz hs (.own ro x o n c)) fun es=>ob (zah es:Option (List γ)) fun l=>ob (F t l) fun r=>some (rrD sz 1 g a 0 ro es (enc r)):=(rfl)
@[simp] theorem zSB {id:Nat}:rrM sz 2 g F [a,.ptr id 0 0] hs=ob (Enc.dec a:Option α) fun t=>ob (hs.H.get id) fun ob1=>ob (zbU ob1) fun v=>ob (rowOf sz hs v) fun es=>ob (zah es:Option (List γ)) fun l=>ob (F t l) fun r =>
      gd (et (Nat.blt id hs.n) (et (nt (Nat.beq (zS es) 0)) (nt (Nat.beq id (zaU v))))) (some (rrD sz 2 g a id (zaU v) es (enc r))):=(rfl)
@[simp] theorem zSA {id g':Nat}:rrM sz 3 g F [a,.func g' [.ptr id 0 0]] hs=ob (Enc.dec a:Option α) fun t=>ob (hs.H.get id) fun ob1=>ob (zbU ob1) fun v=>ob (rowOf sz hs v) fun es=>ob (zah es:Option (List γ)) fun l=>ob (F t l) fun r =>
      gd (et (Nat.beq g' g) (et (Nat.blt id hs.n) (et (nt (Nat.beq (zS es) 0)) (nt (Nat.beq id (zaU v)))))) (some (rrD sz 3 g a id (zaU v) es (enc r))):=(rfl)
@[simp] theorem zOk {w id ro:Nat} {es:List (List V)} {r:V}:(rrD sz w g a id ro es r).v0=r:=(rfl)
end
end Go.J
/- Functions of two values and a row that they append to;they hand back the row and one more value. -/
namespace Go.J
open Enc (enc)
def rwK(fst:Bool)(v r:V):V:=match fst with
 |true=>.tuple [v,r]
 |false=>.tuple [r,v]
@[simp] theorem zHT {v r:V}:rwK true v r=.tuple [v,r]:=(rfl)
@[simp] theorem zDD {v r:V}:rwK false v r=.tuple [r,v]:=(rfl)
def rwS(sz:Nat)(fst:Bool)(F:V->V->List (List V)->Option (List (List V)×V)):Spec:=fun vs hs=>match vs with
 | [a,b,v]=>gd (et a.pure (et b.pure (zZ hs hs.n))) (ob (rowOf sz hs v) fun es=>ob (F a b es) fun r =>
  gd (et (r.1.all fun e=>e.all V.pure2) (et (r.2.in2 fun _=>false) (Nat.ble (zS es) (zS r.1)))) (some (rwK fst (zb9 sz v es r.1 hs).1 r.2,(zb9 sz v es r.1 hs).2)))
 |_=>none
def GivesP(k:Nat)(v0:V)(OL:List (Nat×Obj))(v:V)(hs:HS):Prop:=∃ a b q,v=.tuple [a,b]/\zbt a hs=some q/\GivesL k v0 OL (.tuple [zat q.1,b]) q.2
theorem zNs{ρ:Nat->Value}{P:Program}{s:Start}{K:V->HS->Prop}{k:Nat}{v0:V}{OL:List (Nat×Obj)}(hK:∀ v hs,K v hs->GivesL k v0 OL v hs\/GivesP k v0 OL v hs){e:Ending}{w:World}(h:zmt ρ P s K e w):zmt ρ P s (GivesL k v0 OL) e w:=by
 cases e with
 |panicked c=>exact h
 |outgrown=>exact h
 | returned x =>
   obtain⟨v,hs',F',μ',q,hL,hR,hD,hx⟩:=h;rcases hK _ _ q with h|⟨a,b,p,rfl,hp,hg⟩
   . exact⟨v,hs',F',μ',h,hL,hR,hD,hx⟩
   . obtain⟨ys,rfl,hsz,hc⟩:=Rep.tuple_inv ρ hx;obtain⟨F2,R2,f2,_,P2⟩:=zcI hR (hc 0 a rfl) hp;refine⟨.tuple [zat p.1,b],p.2,F2,μ',hg,hL.step f2,R2,fun id g hg=>(zby hp).hm id (hD id g hg),.tuple _ ys hsz fun i v hi=>?_⟩;rcases i with _|_|i
     . cases hi;exact .pure P2.norm
     . cases hi;exact f2.rep hR (hc 1 b rfl)
     . simp at hi
section
variable {ρ:Nat->Value}{E:Env}{f:FuncId}{fn:Func}{sc:SC}{T:PT V}{es es':List (List V)}{a b r:V}{sz:Nat}{fst:Bool}
end
section
variable {ρ:Nat->Value}{P:Program}{f:Nat}{sz:Nat}{fst:Bool}{F:V->V->List (List V)->Option (List (List V)×V)}
theorem Valid.rw (hf:zeH P f) (h:∀ a b es r,a.pure=true->b.pure=true->(es.all fun e=>e.all V.pure2)=true->F a b es=some r->(r.1.all fun e=>e.all V.pure2)=true->(r.2.in2 fun _=>false)=true->es.length<=r.1.length ->
 ∀ (hs:HS) (v:V),rowOf sz hs v=some es->hs.H.get hs.n=none->CallOk ρ P f [a,b,v] hs (rwK fst (zb9 sz v es r.1 hs).1 r.2) (zb9 sz v es r.1 hs).2):Valid ρ P f (rwS sz fst F) where
 fn:=hf
 ok := by
  intro vs hs v hs' hq;unfold rwS at hq;split at hq
  . rename_i a b v0;simp only[z8,zt,et_true]at hq;obtain⟨⟨ha,hb,hvac⟩,es,hes,r,hr,⟨h1,h2,h3⟩,hq⟩:=hq;cases hq;rw[vacant_eq]at hvac;rw[ble_true,zO,zO]at h3
    have h0:(es.all fun e=>e.all V.pure2)=true:=by
     rcases zdm hes with⟨_,rfl⟩|⟨_,_,_,_,_,h⟩
     . rfl
     . exact h
    exact h a b es r ha hb h0 hr h1 h2 h3 hs v0 hes hvac
  . cases hq
 kept := by
  intro vs hs q hq;unfold rwS at hq;split at hq
  . rename_i a b v0;simp only[z8,zt,et_true]at hq;obtain⟨⟨_,_,hvac⟩,es,hes,r,hr,_,hq⟩:=hq;cases hq;rw[vacant_eq]at hvac;unfold zb9
    cases es with
    | nil =>
      show Kept hs (bi (Nat.beq (zS r.1) 0) hs _);rw[za0];split
      . exact .refl _
      . refine⟨fun k hk=>List.mem_cons_of_mem _ hk,fun k o ho hn=>?_,Nat.le_succ _,fun k hk=>?_⟩
        . show (hs.H.set hs.n _).get k=_;rw[PT.set_get];split
          . rename_i e;subst e;rw[hvac]at ho;cases ho
          . exact ho
        . show (hs.H.set hs.n _).get k≠none;rw[PT.set_get];split
          . simp
          . exact hk
    |cons a l=>exact zbi ..
  . cases hq
end
section
variable {sz:Nat}{fst:Bool}{F:V->V->List (List V)->Option (List (List V)×V)}{a b v:V}{hs:HS}{Q:V×HS->Prop}
@[simp] theorem zOj:okT (rwS sz fst F [a,b,v] hs) Q=((a.pure=true/\b.pure=true/\hs.H.get hs.n=none)/\okT (rowOf sz hs v) fun es=>okT (F a b es) fun r =>
 ((r.1.all fun e=>e.all V.pure2)=true/\(r.2.in2 fun _=>false)=true/\es.length<=r.1.length)/\Q (rwK fst (zb9 sz v es r.1 hs).1 r.2,(zb9 sz v es r.1 hs).2)):=by
  show ok (rwS sz fst F [a,b,v] hs) Q=((a.pure=true/\b.pure=true/\hs.H.get hs.n=none)/\ok (rowOf sz hs v) fun es=>ok (F a b es) fun r =>
   ((r.1.all fun e=>e.all V.pure2)=true/\(r.2.in2 fun _=>false)=true/\es.length<=r.1.length)/\Q (rwK fst (zb9 sz v es r.1 hs).1 r.2,(zb9 sz v es r.1 hs).2))
  simp only[rwS,zbX,zak,zF,et_true,vacant_eq,ble_true,zO]
variable {α β γ δ:Type} [Enc α] [Enc β] [Cel γ] [Enc δ]
def rwF(F:α->β->List γ->Option (List γ×δ))(a b:V)(es:List (List V)):Option (List (List V)×V) :=
 ob (Enc.dec a) fun a=>ob (Enc.dec b) fun b=>ob (zah es) fun L=>ob (F a b L) fun r=>some (r.1.map Cel.cells,enc r.2)
@[simp] theorem zS8 {F:α->β->List γ->Option (List γ×δ)} {es:List (List V)}:rwF F a b es=ob (Enc.dec a) fun a=>ob (Enc.dec b) fun b=>ob (zah es) fun L=>ob (F a b L) fun r=>some (r.1.map Cel.cells,enc r.2):=(rfl)
end
theorem GivesP.keep{k:Nat}{v0 a b:V}{OL:List (Nat×Obj)}{hs:HS}(hi:nodupB (OL.map fun p=>p.1)=true)(hk:(List.range k).all (fun i=>dom OL i)=true)(hs2:ok (zbh hs a) fun a'=>V.tuple [zat a',b]=v0/\v0.in3 (dom OL)=true)
 (hH:∀ p∈OL,p.2.in (dom OL)=true/\(a.cells.any (ownB p.1))=false/\hs.H.get p.1=some p.2):GivesP k v0 OL (.tuple [a,b]) hs:=by
 obtain⟨a',ha,rfl,hv⟩:=hs2;refine⟨a,b,(a',zbe hs a.cells),rfl,by simp only[zbt,ha];rfl,GivesL.keepX hi hk hv fun p hp=>?_⟩;obtain⟨h1,h2,h3⟩:=hH p hp;exact⟨h1,by rw[zhJ h2];exact h3⟩
section
variable {ρ:Nat->Value}{E:Env}{f:FuncId}{fn:Func}{sc:SC}{vs:List V}{T:PT V}{r:V}{c c':List V}
end
end Go.J
/- The pairs that a search for common parts has seen: a variable with two rows. -/
namespace Go.J
open Enc (enc)
def pcB(u v:V):Obj:=.arr 2 0 [[u,v]] true false false
@[simp] theorem zSK {u v:V}:pcB u v=.arr 2 0 [[u,v]] true false false:=(rfl)
def pcL(X Y:List Ty):List (Nat×Obj):=(0,pcB (oV 1 (X.map zw)) (oV 2 (Y.map zw)))::(oH 1 5 (X.map zw)++oH 2 5 (Y.map zw))
def pcK(X:List Ty):Nat:=match X with
 | []=>1
 |_::_=>3
@[simp] theorem zL3:pcK []=1:=(rfl)
@[simp] theorem zIA {x:Ty} {X:List Ty}:pcK (x::X)=3:=(rfl)
def pcD(id ra rb:Nat)(a b:Ty)(X Y X2 Y2:List Ty)(r:Ty):EmbD where
 k:=pcK X
 k':=pcK X2
 π:=fun i=>if i=0 then id else if i=1 then ra else rb
 OL:=pcL X Y
 OL':=pcL X2 Y2
 vs0:=[.ptr 0 0 0,enc a,enc b]
 v0:=enc r
def pcO(o:Obj):Option (V×V):=match o with
 |.arr 2 0 [[u,v]] true false false=>some (u,v)
 |_=>none
@[simp] theorem zSI {u v:V}:pcO (.arr 2 0 [[u,v]] true false false)=some (u,v):=(rfl)
@[simp] theorem zED {n:Nat}:zls n []=false:=(rfl)
@[simp] theorem zBp {n x:Nat} {l:List Nat}:zls n (x::l)=(decide (n=x)||zls n l):=by
  show bi (Nat.beq n x) true (zls n l)=_;rw[Bool.eq_iff_iff];by_cases h:n=x
  . simp[h]
  . simp[h]
theorem zjc{x:Nat}{l m:List Nat}:meet (x::l) m=(zls x m||meet l m):=by
 show bi (zls x m) true (meet l m)=_;cases zls x m<;>rfl
@[simp] theorem zLJ {x y z:Nat} {m:List Nat}:meet [x] (y::z::m)=zls x (y::z::m):=by rw[zjc];simp
@[simp] theorem zLI {x w:Nat} {l m:List Nat}:meet (x::w::l) m=(zls x m||meet (w::l) m):=zjc
def pcM (F:List Ty->List Ty->Ty->Ty->Option (T3 (List Ty) (List Ty) Ty)) (vs:List V) (hs:HS):Option EmbD:=match vs with
 | [.ptr id 0 0,av,bv]=>ob (Enc.dec av:Option Ty) fun a=>ob (Enc.dec bv:Option Ty) fun b=>ob (hs.H.get id) fun o=>ob (pcO o) fun q=>ob (rowOf 5 hs q.1) fun ea=>ob (rowOf 5 hs q.2) fun eb=>ob (zah ea:Option (List Ty)) fun X=>ob (zah eb:Option (List Ty)) fun Y=>ob (F X Y a b) fun r =>
  gd (et (Nat.blt id hs.n) (et (Nat.beq (zS X) (zS Y)) (et (Nat.beq (zS r.a) (zS r.b)) (et (Nat.ble (zS X) (zS r.a)) (et (bi (Nat.beq (zS X) 0) true (et (nt (Nat.beq id (zaU q.1))) (et (nt (Nat.beq id (zaU q.2))) (nt (Nat.beq (zaU q.1) (zaU q.2)))))) (et (zZ hs hs.n) (zZ hs (hs.n+1))))))))
   (some (pcD id (zaU q.1) (zaU q.2) a b X Y r.a r.b r.c))
 |_=>none
section
variable {id ra rb:Nat}{a b r x y z u:Ty}{X Y X2 Y2:List Ty}{hs:HS}
@[simp] theorem zL4:(pcD id ra rb a b X Y X2 Y2 r).val hs=enc r:=V.ren_none (V.in3_pure (zcO r))
@[simp] theorem zEg:(pcD id ra rb a b [] [] [] [] r).heap hs={ H:=hs.H.set id (.arr 2 0 [[.snil,.snil]] true false false),n:=hs.n,log:=id::hs.log }:=(rfl)
@[simp] theorem zEf:(pcD id ra rb a b [] [] (z::X2) (u::Y2) r).heap hs={ H:=((hs.H.set (hs.n+1) (oO 5 ((u::Y2).map zw))).set hs.n (oO 5 ((z::X2).map zw))).set id (.arr 2 0 [[oV hs.n ((z::X2).map zw),oV (hs.n+1) ((u::Y2).map zw)]] true false false),n:=hs.n+2,log:=id::hs.n::(hs.n+1)::hs.log }:=by
  show ({ H:=((hs.H.set (hs.n+1) ((oO 5 ((u::Y2).map zw)).ren _)).set hs.n ((oO 5 ((z::X2).map zw)).ren _)).set id ((pcB (oV 1 ((z::X2).map zw)) (oV 2 ((u::Y2).map zw))).ren _),n:=hs.n+2,log:=id::hs.n::(hs.n+1)::hs.log }:HS)=_;rw[zcL (sz:=5) (es:=(z::X2).map zw) (zfu (z::X2)),zcL (sz:=5) (es:=(u::Y2).map zw) (zfu (u::Y2))];rfl
@[simp] theorem zEe:(pcD id ra rb a b (x::X) (y::Y) (z::X2) (u::Y2) r).heap hs={ H:=((hs.H.set rb (oO 5 ((u::Y2).map zw))).set ra (oO 5 ((z::X2).map zw))).set id (.arr 2 0 [[oV ra ((z::X2).map zw),oV rb ((u::Y2).map zw)]] true false false),n:=hs.n,log:=id::ra::rb::hs.log }:=by
  show ({ H:=((hs.H.set rb ((oO 5 ((u::Y2).map zw)).ren _)).set ra ((oO 5 ((z::X2).map zw)).ren _)).set id ((pcB (oV 1 ((z::X2).map zw)) (oV 2 ((u::Y2).map zw))).ren _),n:=hs.n,log:=id::ra::rb::hs.log }:HS)=_;rw[zcL (sz:=5) (es:=(z::X2).map zw) (zfu (z::X2)),zcL (sz:=5) (es:=(u::Y2).map zw) (zfu (u::Y2))];rfl
@[simp] theorem zSJ {F:List Ty→List Ty→Ty→Ty→Option (T3 (List Ty) (List Ty) Ty)} {av bv:V}:pcM F [.ptr id 0 0,av,bv] hs=ob (Enc.dec av:Option Ty) fun a=>ob (Enc.dec bv:Option Ty) fun b=>ob (hs.H.get id) fun o=>ob (pcO o) fun q=>ob (rowOf 5 hs q.1) fun ea=>ob (rowOf 5 hs q.2) fun eb=>ob (zah ea:Option (List Ty)) fun X=>ob (zah eb:Option (List Ty)) fun Y=>ob (F X Y a b) fun r =>
      gd (et (Nat.blt id hs.n) (et (Nat.beq (zS X) (zS Y)) (et (Nat.beq (zS r.a) (zS r.b)) (et (Nat.ble (zS X) (zS r.a)) (et (bi (Nat.beq (zS X) 0) true (et (nt (Nat.beq id (zaU q.1))) (et (nt (Nat.beq id (zaU q.2))) (nt (Nat.beq (zaU q.1) (zaU q.2)))))) (et (zZ hs hs.n) (zZ hs (hs.n+1))))))))
       (some (pcD id (zaU q.1) (zaU q.2) a b X Y r.a r.b r.c)):=(rfl)
end
end Go.J
