import Derived.Test.YtpcmebclpindjaaGreatJK
import Derived.Test.YtpcmebclpindjaaGreatJN
set_option linter.all false
noncomputable section
/- A contract for functions that write an appended row in place: slices.Reverse. -/
namespace Go.J
open Enc (enc)
def zhb(id g sz:Nat)(es es':List (List V)):EmbD where
 k:=1
 k':=1
 π:=fun _=>id
 OL:=[(0,.arr sz g es false false true)]
 OL':=[(0,.arr sz g es' false false true)]
 vs0:=[.own 0 g 0 es.length none]
 v0:=.tuple []
def revZ:EmbD where
 k:=0
 k':=0
 π:=fun i=>i
 OL:=[]
 OL':=[]
 vs0:=[.snil]
 v0:=.tuple []
section
variable {α:Type} [Cel α]
def z4r (sz:Nat) (F:List α->Option (List α)) (vs:List V) (hs:HS):Option EmbD:=match vs with
 | [.snil]=>some revZ
 | [.own id g 0 n none]=>ob (hs.H.get id) fun o=>match o with
   |.arr s h es false false true=>gd (et (Nat.beq s sz) (et (Nat.beq h g) (et (Nat.beq n (zG es)) (Nat.blt id hs.n)))) (ob (zP es) fun l=>ob (F l) fun l'=>some (zhb id g sz es (l'.map Cel.cells)))
   |_=>none
 |_=>none
theorem zss{sz:Nat}{F:List α->Option (List α)}{vs:List V}{hs:HS}{D:EmbD}(h:z4r sz F vs hs=some D) :
 (D=revZ/\vs=[.snil])\/∃ id g,∃ l l':List α,F l=some l'/\D=zhb id g sz (l.map Cel.cells) (l'.map Cel.cells)/\vs=[.own id g 0 l.length none]/\hs.H.get id=some (.arr sz g (l.map Cel.cells) false false true)/\id<hs.n:=by
 unfold z4r at h;split at h
 . cases h;exact .inl ⟨rfl,rfl⟩
 . rename_i id g n;rw[za]at h;obtain⟨o,ho,h⟩:=h;split at h
   . rename_i s h' es;simp only[zk,et_true,beq_true,blt_true,za,zz]at h;obtain⟨⟨h1,h2,h3,h4⟩,l,hl,l',hl',h⟩:=h;cases h;subst h1 h2 h3;obtain rfl:=zan hl;exact .inr ⟨id,h',l,l',hl',rfl,by simp,ho,h4⟩
   . cases h
 . cases h
theorem znA:revZ.Good:=⟨rfl,rfl,Nat.le_refl _,(fun p hp=>by cases hp),(fun p hp=>by cases hp),rfl,fun v hv=>by simp only[revZ,List.mem_singleton]at hv;subst hv;rfl⟩
theorem znB(hs:HS):revZ.Fits [.snil] hs:=⟨rfl,(fun i j hi=>by simp only[revZ]at hi;omega),(fun p hp=>by cases hp),(fun i hi=>by simp only[revZ]at hi;omega),fun i hi=>by simp only[revZ]at hi;omega⟩
theorem znC{id g sz:Nat}{l l':List α}:(zhb id g sz (l.map Cel.cells) (l'.map Cel.cells)).Good:=by
 refine⟨rfl,rfl,Nat.le_refl _,fun p hp=>?_,fun p hp=>?_,rfl,fun v hv=>?_⟩
 . simp only[zhb,List.mem_singleton]at hp;subst hp;exact zK l
 . simp only[zhb,List.mem_singleton]at hp;subst hp;exact⟨zK l',rfl⟩
 . simp only[zhb,List.mem_singleton]at hv;subst hv;rfl
theorem zkh{l:List α}{π:Nat->Nat}:((l.map Cel.cells).map fun e=>e.map (V.ren2 π))=l.map Cel.cells:=zaj (zK l)
theorem znD{id g sz:Nat}{l:List α}{es':List (List V)}{hs:HS}(hg:hs.H.get id=some (.arr sz g (l.map Cel.cells) false false true))(hi:id<hs.n):(zhb id g sz (l.map Cel.cells) es').Fits [.own id g 0 l.length none] hs:=by
 refine⟨by simp only[zhb,List.length_map];rfl,fun i j h1 h2 _=>?_,fun p hp=>?_,fun i h=>?_,fun i h=>hi⟩
 . simp only[zhb]at h1 h2;omega
 . simp only[zhb,List.mem_singleton]at hp;subst hp;show hs.H.get id=some (.arr sz g ((l.map Cel.cells).map fun e=>e.map (V.ren2 (fun _=>id))) false false true);rw[zkh];exact hg
 . simp only[zhb]at h;omega
@[simp] theorem z8m {hs:HS}:revZ.val hs=.tuple []:=(rfl)
@[simp] theorem z4p {hs:HS}:revZ.heap hs=hs:=(rfl)
@[simp] theorem z8o {id g sz:Nat} {es es':List (List V)} {hs:HS}:(zhb id g sz es es').val hs=.tuple []:=(rfl)
theorem zfW{id g sz:Nat}{es:List (List V)}{l':List α}{hs:HS}:(zhb id g sz es (l'.map Cel.cells)).heap hs=hs.wr id (.arr sz g (l'.map Cel.cells) false false true):=by
 show ({ H:=hs.H.set (news hs.n 1 (fun _=>id) 0) (.arr sz g ((l'.map Cel.cells).map fun e=>e.map (V.ren2 (news hs.n 1 fun _=>id))) false false true),n:=hs.n+0,log:=[news hs.n 1 (fun _=>id) 0]++hs.log }:HS)=_;rw[zkh];rfl
@[simp] theorem z8n {sz:Nat} {F:List α->Option (List α)} {hs:HS}:z4r sz F [.snil] hs=some revZ:=(rfl)
theorem zsr{sz:Nat}{F:List α->Option (List α)}{id g n:Nat}{hs:HS}{l l':List α}(hg:hs.H.get id=some (.arr sz g (l.map Cel.cells) false false true))(hn:n=l.length)(hi:id<hs.n)(hF:F l=some l') :
 z4r sz F [.own id g 0 n none] hs=some (zhb id g sz (l.map Cel.cells) (l'.map Cel.cells)):=by
 show ob (hs.H.get id) _=_;rw[hg];subst hn;have e1:Nat.beq sz sz=true:=beq_true.2 rfl;have e2:Nat.beq g g=true:=beq_true.2 rfl;have e3:Nat.beq l.length (zG (l.map Cel.cells))=true:=beq_true.2 (by simp);have e4:Nat.blt id hs.n=true:=blt_true.2 hi;show gd (et (Nat.beq sz sz) (et (Nat.beq g g) (et (Nat.beq l.length (zG (l.map Cel.cells))) (Nat.blt id hs.n)))) (ob (zP (l.map Cel.cells)) fun l=>ob (F l) fun l'=>some (zhb id g sz _ (l'.map Cel.cells)))=_;rw[e1,e2,e3,e4,zam];show ob (F l) _=_;rw[hF];rfl
end
def RevI{α:Type}(l:List α)(i:Nat)(L:List α):Prop:=L.length=l.length/\∀ k,k<l.length->L[k]?=if k<i\/l.length-1-i<k then l[l.length-1-k]? else l[k]?
theorem RevI.start{α:Type}(l:List α):RevI l 0 l:=⟨rfl,fun k hk=>by rw[if_neg (by omega)]⟩
theorem RevI.done{α:Type}{l L:List α}{i:Nat}(h:RevI l i L)(hi:l.length<=2*i+1):L=l.reverse:=by
 apply List.ext_getElem?;intro k;by_cases hk:k<l.length
 . rw[h.2 k hk,List.getElem?_reverse hk];split
   . rfl
   . congr 1;omega
 . rw[List.getElem?_eq_none (by rw[h.1];omega),List.getElem?_eq_none (by simp;omega)]
theorem RevI.step{α:Type}{l L:List α}{i:Nat}(h:RevI l i L)(hi:2*i+1<l.length)(h1:i<L.length)(h2:l.length-1-i<L.length):RevI l (i+1) ((L.set i L[l.length-1-i]).set (l.length-1-i) L[i]):=by
 have e1:=h.2 i (by omega);have e2:=h.2 (l.length-1-i) (by omega);rw[if_neg (by omega),List.getElem?_eq_getElem h1]at e1;rw[if_neg (by omega),List.getElem?_eq_getElem h2]at e2;refine⟨by simp[h.1],fun k hk=>?_⟩;rw[List.getElem?_set,List.getElem?_set];by_cases k1:l.length-1-i=k
 . subst k1;rw[if_pos rfl,if_pos (by simpa using h2),if_pos (by omega),e1]
   congr 1;omega
 . rw[if_neg k1];by_cases k2:i=k
   . subst k2;rw[if_pos rfl,if_pos h1,if_pos (by omega),e2]
   . rw[if_neg k2,h.2 k hk];by_cases k3:k<i\/l.length-1-i<k
     . rw[if_pos k3,if_pos (by omega)]
     . rw[if_neg k3,if_neg (by omega)]
end Go.J
/- Expressions: depth,spines,the shape of normal terms. -/
namespace Go.J
open Enc (enc)
mutual
def Xp.depth:Xp->Nat
 |.mk _ _ _ _ ks as _=>1+max (Xp.depths ks) (Am.depths as)
def Xp.depths:List Xp->Nat
 | []=>0
 |x::l=>max x.depth (Xp.depths l)
def Am.depths:List Am->Nat
 | []=>0
 |.mk _ _ _ b::l=>max b.depth (Am.depths l)
end
mutual
def Xp.wide(B:Nat):Xp->Bool
 |.mk _ _ _ _ ks as _=>decide (ks.length<=B)&&decide (as.length<=B)&&Xp.wides B ks&&Am.wides B as
def Xp.wides(B:Nat):List Xp->Bool
 | []=>true
 |x::l=>x.wide B&&Xp.wides B l
def Am.wides(B:Nat):List Am->Bool
 | []=>true
 |.mk _ _ _ b::l=>b.wide B&&Am.wides B l
end
theorem Xp.depth_eq(x:Xp):x.depth=1+max (Xp.depths x.kids) (Am.depths x.arms):=by cases x;rw[Xp.depth];rfl
theorem Xp.wide_eq(B:Nat)(x:Xp):x.wide B=(decide (x.kids.length<=B)&&decide (x.arms.length<=B)&&Xp.wides B x.kids&&Am.wides B x.arms):=by cases x;rw[Xp.wide];rfl
theorem Xp.depths_mem{l:List Xp}{x:Xp}(h:x∈l):x.depth<=Xp.depths l:=by
 induction l with
 |nil=>cases h
 | cons y l ih =>
   rw[Xp.depths];rcases List.mem_cons.1 h with rfl|h
   . exact Nat.le_max_left _ _
   . exact Nat.le_trans (ih h) (Nat.le_max_right _ _)
theorem Am.depths_mem{l:List Am}{a:Am}(h:a∈l):a.body.depth<=Am.depths l:=by
 induction l with
 |nil=>cases h
 | cons y l ih =>
   obtain⟨p,c,v,b⟩:=y;rw[Am.depths];rcases List.mem_cons.1 h with rfl|h
   . exact Nat.le_max_left _ _
   . exact Nat.le_trans (ih h) (Nat.le_max_right _ _)
theorem Xp.wides_mem{B:Nat}{l:List Xp}(hl:Xp.wides B l=true){x:Xp}(h:x∈l):x.wide B=true:=by
 induction l with
 |nil=>cases h
 | cons y l ih =>
   rw[Xp.wides,Bool.and_eq_true]at hl;rcases List.mem_cons.1 h with rfl|h
   . exact hl.1
   . exact ih hl.2 h
theorem Am.wides_mem{B:Nat}{l:List Am}(hl:Am.wides B l=true){a:Am}(h:a∈l):a.body.wide B=true:=by
 induction l with
 |nil=>cases h
 | cons y l ih =>
   obtain⟨p,c,v,b⟩:=y;rw[Am.wides,Bool.and_eq_true]at hl;rcases List.mem_cons.1 h with rfl|h
   . exact hl.1
   . exact ih hl.2 h
theorem Xp.kid_depth{x k:Xp}(h:k∈x.kids):k.depth<x.depth:=by
 have:=Xp.depths_mem h;rw[Xp.depth_eq x];omega
theorem Xp.arm_depth{x:Xp}{a:Am}(h:a∈x.arms):a.body.depth<x.depth:=by
 have:=Am.depths_mem h;rw[Xp.depth_eq x];omega
theorem Xp.wide_parts{B:Nat}{x:Xp}(h:x.wide B=true):x.kids.length<=B/\x.arms.length<=B/\(∀ k∈x.kids,k.wide B=true)/\∀ a∈x.arms,a.body.wide B=true:=by
 rw[Xp.wide_eq,Bool.and_eq_true,Bool.and_eq_true,Bool.and_eq_true,decide_eq_true_eq,decide_eq_true_eq]at h;exact⟨h.1.1.1,h.1.1.2,fun k hk=>Xp.wides_mem h.1.2 hk,fun a ha=>Am.wides_mem h.2 ha⟩
def x0:Xp:=.mk 0 0 [] 0 [] [] ty0
def Xp.isApp(x:Xp):Bool:=decide (x.kind=5)&&decide (x.kids.length=2)
def Xp.fn(x:Xp):Xp:=(x.kids[0]?).getD x0
def Xp.arg(x:Xp):Xp:=(x.kids[1]?).getD x0
theorem Xp.isApp_iff{x:Xp}:x.isApp=true↔x.kind=5/\x.kids.length=2:=by simp[Xp.isApp]
theorem Xp.app_kids{x:Xp}(h:x.isApp=true):x.kids=[x.fn,x.arg]:=by
 obtain⟨_,h⟩:=Xp.isApp_iff.1 h;unfold Xp.fn Xp.arg;generalize x.kids=l at h ⊢
 match l,h with
 | [a,b],_=>rfl
theorem Xp.fn_mem{x:Xp}(h:x.isApp=true):x.fn∈x.kids:=by rw[Xp.app_kids h];simp
theorem Xp.arg_mem{x:Xp}(h:x.isApp=true):x.arg∈x.kids:=by rw[Xp.app_kids h];simp
def zdc:Nat->Xp->Xp×List Xp
 | 0,e=>(e,[])
 |d+1,e=>if e.isApp=true then ((zdc d e.fn).1,(zdc d e.fn).2++[e.arg])else (e,[])
def z8(e:Xp):Xp×List Xp:=zdc e.depth e
theorem zk1:∀ (d:Nat) (e:Xp),e.depth<=d->zdc d e=zdc (d+1) e:=by
 intro d
 induction d with
 |zero=>intro e h;rw[Xp.depth_eq]at h;omega
 | succ d ih =>
   intro e h;by_cases ha:e.isApp=true
   . have:=Xp.kid_depth (Xp.fn_mem ha);rw[zdc,if_pos ha,zdc,if_pos ha,<- ih _ (by omega)]
   . rw[zdc,if_neg ha,zdc,if_neg ha]
theorem zny{d:Nat}{e:Xp}(h:e.depth<=d):zdc d e=z8 e:=by
 obtain⟨k,rfl⟩:=Nat.le.dest h
 induction k with
 |zero=>rfl
 |succ k ih=>rw[<- Nat.add_assoc,<- zk1 _ _ (by omega),ih (by omega)]
theorem zci{e:Xp}(h:e.isApp=true):z8 e=((z8 e.fn).1,(z8 e.fn).2++[e.arg]):=by
 have hd:=Xp.kid_depth (Xp.fn_mem h);obtain⟨d,hd2⟩:∃ d,e.depth=d+1:=⟨e.depth-1,by omega⟩;rw[z8,hd2,zdc,if_pos h,zny (by omega)]
theorem zbp{e:Xp}(h:¬ e.isApp=true):z8 e=(e,[]):=by
 rw[z8,Xp.depth_eq,Nat.add_comm,zdc,if_neg h]
theorem zbq(e:Xp):(z8 e).1.depth<=e.depth/\(∀ a∈(z8 e).2,a.depth<e.depth)/\(z8 e).2.length<e.depth:=by
 generalize hd:e.depth=d
 induction d using Nat.strongRecOn generalizing e with
 | _ d ih =>
   by_cases h:e.isApp=true
   . have h1:=Xp.kid_depth (Xp.fn_mem h);have h2:=Xp.kid_depth (Xp.arg_mem h);obtain⟨i1,i2,i3⟩:=ih _ (by omega) e.fn rfl;rw[zci h];refine⟨by show (z8 e.fn).1.depth<=d;omega,fun a ha=>?_,by simp;omega⟩;rcases List.mem_append.1 ha with ha|ha
     . have:=i2 a ha;omega
     . rw[List.mem_singleton]at ha;subst ha;omega
   . rw[zbp h];have:=Xp.depth_eq e;exact⟨by show e.depth<=d;omega,fun a ha=>by simp at ha,by simp;omega⟩
theorem zk2{B:Nat}{e:Xp}(hw:e.wide B=true):(z8 e).1.wide B=true/\∀ a∈(z8 e).2,a.wide B=true:=by
 generalize hd:e.depth=d
 induction d using Nat.strongRecOn generalizing e with
 | _ d ih =>
   by_cases h:e.isApp=true
   . have h1:=Xp.kid_depth (Xp.fn_mem h);have hp:=(Xp.wide_parts hw).2.2.1;obtain⟨i1,i2⟩:=ih _ (by omega) (hp _ (Xp.fn_mem h)) rfl;rw[zci h];refine⟨i1,fun a ha=>?_⟩;rcases List.mem_append.1 ha with ha|ha
     . exact i2 a ha
     . rw[List.mem_singleton]at ha;subst ha;exact hp _ (Xp.arg_mem h)
   . rw[zbp h];exact⟨hw,fun a ha=>by simp at ha⟩
mutual
def Xp.wf:Xp->Bool
 |.mk k _ _ _ ks as _=>(if k=5 then decide (ks.length=2)else if k=4\/k=8 then decide (ks.length=1)else true)&&Xp.wfs ks&&Am.wfs as
def Xp.wfs:List Xp->Bool
 | []=>true
 |x::l=>x.wf&&Xp.wfs l
def Am.wfs:List Am->Bool
 | []=>true
 |.mk _ _ _ b::l=>b.wf&&Am.wfs l
end
theorem Xp.wf_eq(x:Xp):x.wf=((if x.kind=5 then decide (x.kids.length=2)else if x.kind=4\/x.kind=8 then decide (x.kids.length=1)else true)&&Xp.wfs x.kids&&Am.wfs x.arms):=by cases x;rw[Xp.wf];rfl
theorem Xp.wfs_mem{l:List Xp}(hl:Xp.wfs l=true){x:Xp}(h:x∈l):x.wf=true:=by
 induction l with
 |nil=>cases h
 | cons y l ih =>
   rw[Xp.wfs,Bool.and_eq_true]at hl;rcases List.mem_cons.1 h with rfl|h
   . exact hl.1
   . exact ih hl.2 h
theorem Am.wfs_mem{l:List Am}(hl:Am.wfs l=true){a:Am}(h:a∈l):a.body.wf=true:=by
 induction l with
 |nil=>cases h
 | cons y l ih =>
   obtain⟨p,c,v,b⟩:=y;rw[Am.wfs,Bool.and_eq_true]at hl;rcases List.mem_cons.1 h with rfl|h
   . exact hl.1
   . exact ih hl.2 h
theorem Xp.wf_parts{x:Xp}(h:x.wf=true):(x.kind=5->x.kids.length=2)/\(x.kind=4\/x.kind=8->x.kids.length=1)/\(∀ k∈x.kids,k.wf=true)/\∀ a∈x.arms,a.body.wf=true:=by
 rw[Xp.wf_eq,Bool.and_eq_true,Bool.and_eq_true]at h;refine⟨fun h5=>?_,fun h4=>?_,fun k hk=>Xp.wfs_mem h.1.2 hk,fun a ha=>Am.wfs_mem h.2 ha⟩
 . have:=h.1.1;rw[if_pos h5,decide_eq_true_eq]at this;exact this
 . have:=h.1.1;rw[if_neg (by omega),if_pos h4,decide_eq_true_eq]at this;exact this
theorem Xp.wf_app{x:Xp}(h:x.wf=true)(h5:x.kind=5):x.isApp=true:=Xp.isApp_iff.2 ⟨h5,(Xp.wf_parts h).1 h5⟩
theorem znz{e:Xp}(hw:e.wf=true):(z8 e).1.wf=true/\(∀ a∈(z8 e).2,a.wf=true)/\(z8 e).1.kind≠5:=by
 generalize hd:e.depth=d
 induction d using Nat.strongRecOn generalizing e with
 | _ d ih =>
   by_cases h:e.isApp=true
   . have h1:=Xp.kid_depth (Xp.fn_mem h);have hp:=(Xp.wf_parts hw).2.2.1;obtain⟨i1,i2,i3⟩:=ih _ (by omega) (hp _ (Xp.fn_mem h)) rfl;rw[zci h];refine⟨i1,fun a ha=>?_,i3⟩;rcases List.mem_append.1 ha with ha|ha
     . exact i2 a ha
     . rw[List.mem_singleton]at ha;subst ha;exact hp _ (Xp.arg_mem h)
   . rw[zbp h];exact⟨hw,fun a ha=>by simp at ha,fun h5=>h (Xp.wf_app hw h5)⟩
def zdW:Nat->Xp->Bool
 | 0,_=>false
 | d+1,e =>
   if e.kind=1\/e.kind=2 then true
   else if e.kind=4 then decide (e.kids.length=1)&&zdW d e.fn
   else if e.kind=8 then decide (e.kids.length=1)&&decide (e.fn.kind=1)&&e.arms.all fun a=>zdW d a.body
   else if e.kind=5 then decide ((z8 e).1.kind=1\/(z8 e).1.kind=2)&&(z8 e).2.all (zdW d)
   else false
def zR(e:Xp):Bool:=zdW e.depth e
theorem zdP{α:Type}{f g:α->Bool}{l:List α}(h:∀ x∈l,f x=g x):l.all f=l.all g:=by
 induction l with
 |nil=>rfl
 |cons a l ih=>rw[List.all_cons,List.all_cons,h a List.mem_cons_self,ih fun x hx=>h x (List.mem_cons_of_mem _ hx)]
theorem Xp.fn_depth{e:Xp}(h:e.kids≠[]):e.fn.depth<e.depth:=by
 refine Xp.kid_depth ?_;unfold Xp.fn
 cases hk:e.kids with
 |nil=>exact absurd hk h
 |cons a l=>simp
theorem zk4:∀ (d:Nat) (e:Xp),e.depth<=d->zdW d e=zdW (d+1) e:=by
 intro d
 induction d with
 |zero=>intro e h;rw[Xp.depth_eq]at h;omega
 | succ d ih =>
   intro e h;rw[zdW,zdW];split
   . rfl
   . split
     . by_cases hk:e.kids.length=1
       . have:=Xp.fn_depth (e:=e) (fun h0=>by rw[h0]at hk;cases hk);rw[ih _ (by omega)]
       . simp[hk]
     . split
       . congr 1
         refine zdP fun a ha=>?_
         have:=Xp.arm_depth ha;exact ih _ (by omega)
       . split
         . congr 1
           refine zdP fun a ha=>?_
           have:=(zbq e).2.1 a ha;exact ih _ (by omega)
         . rfl
theorem zfU{d:Nat}{e:Xp}(h:e.depth<=d):zdW d e=zR e:=by
 obtain⟨k,rfl⟩:=Nat.le.dest h
 induction k with
 |zero=>rfl
 |succ k ih=>rw[<- Nat.add_assoc,<- zk4 _ _ (by omega),ih (by omega)]
theorem zcp (e:Xp):zR e=if e.kind=1\/e.kind=2 then true
 else if e.kind=4 then decide (e.kids.length=1)&&zR e.fn
 else if e.kind=8 then decide (e.kids.length=1)&&decide (e.fn.kind=1)&&e.arms.all fun a=>zR a.body
 else if e.kind=5 then decide ((z8 e).1.kind=1\/(z8 e).1.kind=2)&&(z8 e).2.all zR
 else false:=by
 obtain⟨d,hd⟩:∃ d,e.depth=d+1:=⟨e.depth-1,by have:=Xp.depth_eq e;omega⟩;rw[zR,hd,zdW];split
 . rfl
 . split
   . by_cases hk:e.kids.length=1
     . have:=Xp.fn_depth (e:=e) (fun h0=>by rw[h0]at hk;cases hk);rw[zfU (by omega)]
     . simp[hk]
   . split
     . congr 1
       refine zdP fun a ha=>?_
       have:=Xp.arm_depth ha;exact zfU (by omega)
     . split
       . congr 1
         refine zdP fun a ha=>?_
         have:=(zbq e).2.1 a ha;exact zfU (by omega)
       . rfl
theorem Xp.one_kid{e:Xp}(h:e.kids.length=1):e.kids=[e.fn]:=by
 unfold Xp.fn;generalize e.kids=l at h ⊢
 match l,h with
 | [a],_=>rfl
theorem zrq{α:Type}(f:α->Bool)(l:List α):(l.any fun x=>!f x)=!l.all f:=by
 induction l with
 |nil=>rfl
 |cons a l ih=>rw[List.any_cons,List.all_cons,ih,Bool.not_and]
theorem zhS{α:Type}{f g:α->Bool}{l:List α}(h:∀ x∈l,f x=g x):l.any f=l.any g:=by
 induction l with
 |nil=>rfl
 |cons a l ih=>rw[List.any_cons,List.any_cons,h a List.mem_cons_self,ih fun x hx=>h x (List.mem_cons_of_mem _ hx)]
def Xp.fit(d:Nat)(e:Xp):Prop:=e.depth<=d/\e.depth<=1000/\e.wide 100000=true
instance (d:Nat)(e:Xp):Decidable (e.fit d):=inferInstanceAs (Decidable (_/\_/\_))
theorem Xp.fit.kid{d:Nat}{e k:Xp}(h:e.fit (d+1))(hk:k∈e.kids):k.fit d:=by
 have:=Xp.kid_depth hk;exact⟨by have:=h.1;omega,by have:=h.2.1;omega,(Xp.wide_parts h.2.2).2.2.1 k hk⟩
theorem Xp.fit.arm{d:Nat}{e:Xp}{a:Am}(h:e.fit (d+1))(hk:a∈e.arms):a.body.fit d:=by
 have:=Xp.arm_depth hk;exact⟨by have:=h.1;omega,by have:=h.2.1;omega,(Xp.wide_parts h.2.2).2.2.2 a hk⟩
theorem Xp.fit.arg{d:Nat}{e a:Xp}(h:e.fit (d+1))(ha:a∈(z8 e).2):a.fit d:=by
 have:=(zbq e).2.1 a ha;exact⟨by have:=h.1;omega,by have:=h.2.1;omega,(zk2 h.2.2).2 a ha⟩
end Go.J
/- What the laws of chapter 28 are about: a context,a goal,and a term. -/
namespace Go.J
open Enc (enc)
def zdx(codes:List Int)(D:List Decl):List Entry×Ty×Xp×Tp :=
 let c:=zb7 ⟨codes,0⟩ D
 let r:=zau 3 c.1 D (c.2.1.map (·.name))
 (c.2.1,c.2.2,r.2,r.1)
theorem zla{D:List Decl}{t:Tp}(h:t.ok):(zb7 t D).1.ok/\(zb7 t D).2.1.length<=3:=by
 have h1:=zn h 4;have h2:=zcs t 4;have h3:=zc8 t (n:=4) (by omega);have h4:=zkX (D:=D) h1 (t.next 4).2.toNat;unfold zb7;exact⟨(zdJ _ _ h4.1).1,by show (z01 D (t.next 4).1 (t.next 4).2.toNat).2.length<=3;omega⟩
theorem zqX{D:List Decl}(hD:z1a D):∀ (t:Tp) (Lv:List Ty),(∀ l∈Lv,l.ok=true/\l.size<=1)->(typeM 2 t D Lv).2.ok=true/\(typeM 2 t D Lv).2.size<=1000:=fun t Lv hl =>
 ⟨zmj hD (fun l h=>(hl l h).1) 2 t,by have:=zmk hD (fun l h=>(hl l h).2) 2 t;omega⟩
end Go.J
/- Expressions that a tape makes,whose names need not be known;their form. -/
namespace Go.J
open Enc (enc)
def zDO(n:Int):Xp:=.mk 3 0 [] n [] [] ty0
def z3s:Xp:=.mk 10 0 [] 0 [] [] ty0
def zDN(k:Int)(n:List Nat)(a b:Xp):Xp:=.mk k 0 n 0 [a,b] [] ty0
def zDP(a:Xp)(t:Ty):Xp:=.mk 9 0 [] 0 [a] [] t
def z3t(a:Xp):Xp:=.mk 11 0 [] 0 [a] [] ty0
def zaJ (k:Int) (t:Tp) (D:List Decl):Tp×Xp :=
 if k<2 then ((t.next 8).1,zgZ (zbS t))
 else if k=2 then ((t.next 4).1,zDO (t.next 4).2)
 else if k=3 then
  (if D≠[]then
    let a:=t.next D.length
    let dd:=zaQ zcY D a.2
    let b:=a.1.next dd.ctors.length
    (b.1,zmg (zaQ zi2 dd.ctors b.2).name)
  else (t,zmg [71,111,110,101]))
 else (t,z3s)
def zaV(t:Tp):Nat->Tp×List (List Nat)
 | 0=>(t,[])
 |n+1=>(((zaV t n).1.next 8).1,(zaV t n).2++[zbS (zaV t n).1])
def zaK (F:Tp->Tp×Xp) (t:Tp) (cs:List Ctor):Nat->Tp×List Am
 | 0=>(t,[])
 | i+1 =>
   let p:=zaK F t cs i
   let c:=(cs[i]?).getD zi2
   let v:=zaV p.1 c.fields.length
   let r:=F v.1
   (r.1,p.2++[.mk 0 c.name v.2 r.2])
def zby:Nat->Tp->List Decl->Tp×Xp
 | 0,t,D=>zaJ ((t.next 14).2 % 5) (t.next 14).1 D
 | d + 1,t,D =>
   let k:=(t.next 14).2
   let t1:=(t.next 14).1
   if k<5 then zaJ k t1 D
   else if k<7 then ((zby d (t1.next 8).1 D).1,znn (zbS t1) (zby d (t1.next 8).1 D).2)
   else if k<10 then ((zby d (zby d t1 D).1 D).1,zno (zby d t1 D).2 (zby d (zby d t1 D).1 D).2)
   else if k<11 then
    let q:=t1.next 2
    let a:=zby d (q.1.next 8).1 D
    let b:=zby d a.1 D
    (b.1,zDN (6+q.2) (zbS q.1) a.2 b.2)
   else if k<12 then ((typeM 2 (zby d t1 D).1 D []).1,zDP (zby d t1 D).2 (typeM 2 (zby d t1 D).1 D []).2)
   else if k<13 then ((zby d t1 D).1,z3t (zby d t1 D).2)
   else if D=[]then zby d t1 D
   else
    let a:=t1.next D.length
    let dd:=zaQ zcY D a.2
    let x:=zby d a.1 D
    let r:=zaK (fun t=>zby d t D) x.1 dd.ctors dd.ctors.length
    (r.1,zdj x.2 r.2)
theorem zeV{t:Tp}(h:t.ok)(n:Nat):(zaV t n).1.ok/\(zaV t n).2.length=n:=by
 induction n with
 |zero=>exact⟨h,rfl⟩
 |succ n ih=>exact⟨zn ih.1 8,by simp[zaV,ih.2]⟩
theorem zhy {k:Int} {t:Tp} (h:t.ok) (D:List Decl):(zaJ k t D).1.ok:=by
 unfold zaJ;split
 . exact zn h _
 . split
   . exact zn h _
   . split
     . split
       . exact zn (zn h _) _
       . exact h
     . exact h
theorem zhz{F:Tp->Tp×Xp}(hF:∀ t,t.ok->(F t).1.ok){t:Tp}(h:t.ok)(cs:List Ctor)(i:Nat):(zaK F t cs i).1.ok/\(zaK F t cs i).2.length=i:=by
 induction i with
 |zero=>exact⟨h,rfl⟩
 |succ i ih=>exact⟨hF _ (zeV ih.1 _).1,by simp[zaK,ih.2]⟩
theorem zef (D:List Decl):∀ (d:Nat) (t:Tp),t.ok->(zby d t D).1.ok:=by
 intro d
 induction d with
 |zero=>intro t h;exact zhy (zn h _) D
 | succ d ih =>
   intro t h;have h1:=zn h 14;rw[zby];dsimp only;split
   . exact zhy h1 D
   . split
     . exact ih _ (zn h1 _)
     . split
       . exact ih _ (ih _ h1)
       . split
         . exact ih _ (ih _ (zn (zn h1 _) _))
         . split
           . exact(zdJ _ _ (ih _ h1)).1
           . split
             . exact ih _ h1
             . split
               . exact ih _ h1
               . exact(zhz ih (ih _ (zn h1 _)) _ _).1
def Form(d:Nat)(e:Xp):Prop:=e.wf=true/\e.depth<=d/\e.wide 100=true
theorem Form.mono{d d':Nat}{e:Xp}(h:Form d e)(hd:d<=d'):Form d' e:=⟨h.1,by have:=h.2.1;omega,h.2.2⟩
theorem zb4{k p m:Int}{n:List Nat}{t:Ty}{d:Nat}(h5:k≠5)(h4:k≠4)(h8:k≠8)(hd:1<=d):Form d (.mk k p n m [] [] t):=by
 refine⟨?_,?_,?_⟩
 . rw[Xp.wf_eq];simp[h5,h4,h8,Xp.wfs,Am.wfs]
 . rw[Xp.depth_eq];simp[Xp.depths,Am.depths];exact hd
 . rw[Xp.wide_eq];simp[Xp.wides,Am.wides]
theorem zfD{k p m:Int}{n:List Nat}{a:Xp}{t:Ty}{d:Nat}(h5:k≠5)(ha:Form d a):Form (d+1) (.mk k p n m [a] [] t):=by
 obtain⟨h1,h2,h3⟩:=ha;refine⟨?_,?_,?_⟩
 . rw[Xp.wf_eq];simp[h5,Xp.wfs,Am.wfs,h1]
 . rw[Xp.depth_eq];simp[Xp.depths,Am.depths];omega
 . rw[Xp.wide_eq];simp[Xp.wides,Am.wides,h3]
theorem ziv{k p m:Int}{n:List Nat}{a b:Xp}{t:Ty}{d:Nat}(h4:k≠4)(h8:k≠8)(ha:Form d a)(hb:Form d b):Form (d+1) (.mk k p n m [a,b] [] t):=by
 obtain⟨h1,h2,h3⟩:=ha;obtain⟨g1,g2,g3⟩:=hb;refine⟨?_,?_,?_⟩
 . rw[Xp.wf_eq];simp[h4,h8,Xp.wfs,Am.wfs,h1,g1]
 . rw[Xp.depth_eq];simp[Xp.depths,Am.depths];omega
 . rw[Xp.wide_eq];simp[Xp.wides,Am.wides,h3,g3]
theorem zot{l:List Am}{d:Nat}(h:∀ a∈l,Form d a.body):Am.wfs l=true/\Am.depths l<=d/\Am.wides 100 l=true:=by
 induction l with
 |nil=>exact⟨rfl,Nat.zero_le _,rfl⟩
 | cons a l ih =>
   obtain⟨h1,h2,h3⟩:=h a List.mem_cons_self;obtain⟨i1,i2,i3⟩:=ih fun x hx=>h x (List.mem_cons_of_mem _ hx)
   obtain⟨p,c,v,b⟩:=a;simp only[Am.body_mk]at h1 h2 h3;refine⟨?_,?_,?_⟩
   . rw[Am.wfs,h1,i1];rfl
   . rw[Am.depths];omega
   . rw[Am.wides,h3,i3];rfl
theorem zj4{x:Xp}{l:List Am}{d:Nat}(hx:Form d x)(hl:∀ a∈l,Form d a.body)(hn:l.length<=100):Form (d+1) (zdj x l):=by
 obtain⟨h1,h2,h3⟩:=hx;obtain⟨g1,g2,g3⟩:=zot hl;refine⟨?_,?_,?_⟩
 . rw[Xp.wf_eq];simp[zdj,Xp.wfs,h1,g1]
 . rw[Xp.depth_eq];simp[zdj,Xp.depths];omega
 . rw[Xp.wide_eq];simp[zdj,Xp.wides,h3,g3,hn]
theorem zja{F:Tp->Tp×Xp}{d:Nat}(hF:∀ t,Form d (F t).2)(t:Tp)(cs:List Ctor)(i:Nat):∀ a∈(zaK F t cs i).2,Form d a.body:=by
 induction i with
 |zero=>intro a ha;cases ha
 | succ i ih =>
   intro a ha;rcases List.mem_append.1 ha with ha|ha
   . exact ih a ha
   . rw[List.mem_singleton]at ha;subst ha;exact hF _
theorem zfo{k:Int}{t:Tp}{D:List Decl}{d:Nat}(hd:1<=d):Form d (zaJ k t D).2:=by
 unfold zaJ;split
 . exact zb4 (by decide) (by decide) (by decide) hd
 . split
   . exact zb4 (by decide) (by decide) (by decide) hd
   . split
     . split<;>exact zb4 (by decide) (by decide) (by decide) hd
     . exact zb4 (by decide) (by decide) (by decide) hd
theorem znI {D:List Decl} (hD:zrx D):∀ (d:Nat) (t:Tp),Form (d+1) (zby d t D).2:=by
 intro d
 induction d with
 |zero=>intro t;exact zfo (Nat.le_refl _)
 | succ d ih =>
   intro t;rw[zby];dsimp only;split
   . exact zfo (by omega)
   . split
     . exact zfD (by decide) (ih _)
     . split
       . exact ziv (by decide) (by decide) (ih _) (ih _)
       . split
         . have h1:=zcs (t.next 14).1 2;have h2:=zc8 (t.next 14).1 (n:=2) (by omega);exact ziv (by omega) (by omega) (ih _) (ih _)
         . split
           . exact zfD (by decide) (ih _)
           . split
             . exact zfD (by decide) (ih _)
             . split
               . exact(ih _).mono (by omega)
               . rename_i hne;refine zj4 (ih _) (zja ih _ _ _) ?_;have h1:=zcs (t.next 14).1 D.length;have h2:=zc8 (t.next 14).1 (n:=(D.length:Int)) (by have:=List.length_pos_iff.2 hne;omega);obtain⟨j,hj⟩:=Int.eq_ofNat_of_zero_le h1;rw[hj];have hjl:j<D.length:=by omega
                 have e:zaQ zcY D (j:Int)=D[j]:=by unfold zaQ;rw[Int.toNat_natCast,List.getElem?_eq_getElem hjl];rfl
                 rw[e]
                 have hl:∀ (F:Tp->Tp×Xp) (t:Tp) (cs:List Ctor) (i:Nat),(zaK F t cs i).2.length=i:=by
                  intro F t cs i
                  induction i with
                  |zero=>rfl
                  |succ i ih=>simp[zaK,ih]
                 rw[hl];exact(hD.2 _ (List.getElem_mem hjl)).2.1
theorem Form.fit {d:Nat} {e:Xp} (h:Form d e) (hd:d<=1000):e.fit 1000:=by
 refine⟨by have:=h.2.1;omega,by have:=h.2.1;omega,?_⟩
 have key:∀ (d:Nat) (e:Xp),e.depth<=d->e.wide 100=true->e.wide 100000=true:=by
  intro d
  induction d with
  |zero=>intro e h;rw[Xp.depth_eq]at h;omega
  | succ d ih =>
    intro e hd hw;obtain⟨w1,w2,w3,w4⟩:=Xp.wide_parts hw
    have hk:∀ l:List Xp,(∀ k∈l,k.wide 100000=true)->Xp.wides 100000 l=true:=by
     intro l
     induction l with
     |nil=>intro _;rfl
     |cons a l ihl=>intro h;rw[Xp.wides,h a List.mem_cons_self,ihl fun x hx=>h x (List.mem_cons_of_mem _ hx)];rfl
    have ha:∀ l:List Am,(∀ k∈l,k.body.wide 100000=true)->Am.wides 100000 l=true:=by
     intro l
     induction l with
     |nil=>intro _;rfl
     | cons a l ihl =>
       intro h;have h1:=h a List.mem_cons_self;obtain⟨p,c,v,b⟩:=a;simp only[Am.body_mk]at h1;rw[Am.wides,h1,ihl fun x hx=>h x (List.mem_cons_of_mem _ hx)];rfl
    rw[Xp.wide_eq,hk _ fun k hk=>ih k (by have:=Xp.kid_depth hk;omega) (w3 k hk),ha _ fun a ha=>ih a.body (by have:=Xp.arm_depth ha;omega) (w4 a ha)];simp;omega
 exact key _ e (Nat.le_refl _) h.2.2
end Go.J
/- Terms of the shape of normal terms that a tape makes do have this shape. -/
namespace Go.J
open Enc (enc)
def HeadT(e:Xp):Prop:=((z8 e).1.kind=1\/(z8 e).1.kind=2)/\(z8 e).2.all zR=true/\(e.kind=1\/e.kind=2\/e.kind=5)
theorem HeadT.shape{e:Xp}(h:HeadT e):zR e=true:=by
 obtain⟨h1,h2,h3⟩:=h;rw[zcp];by_cases k:e.kind=1\/e.kind=2
 . rw[if_pos k]
 . have k5:e.kind=5:=by omega
   rw[if_neg k,if_neg (by omega),if_neg (by omega),if_pos k5,h2];simp[h1]
theorem zdN{k p m:Int}{n:List Nat}{t:Ty}(h:k=1\/k=2):HeadT (.mk k p n m [] [] t):=by
 have hs:z8 (.mk k p n m [] [] t)=(.mk k p n m [] [] t,[]):=zbp (fun h=>by have:=(Xp.isApp_iff.1 h).2;simp at this);unfold HeadT;rw[hs];exact⟨h,rfl,by show k=1\/k=2\/k=5;omega⟩
theorem zop{f a:Xp}(hf:HeadT f)(ha:zR a=true):HeadT (zno f a):=by
 have hap:(zno f a).isApp=true:=rfl;have e1:(zno f a).fn=f:=rfl;have e2:(zno f a).arg=a:=rfl;unfold HeadT;rw[zci hap,e1,e2];refine⟨hf.1,?_,.inr (.inr rfl)⟩;rw[List.all_append,hf.2.1];simp[ha]
theorem zn5{n:List Nat}{b:Xp}(h:zR b=true):zR (znn n b)=true:=by
 have e1:(znn n b).fn=b:=rfl;rw[zcp,if_neg (by simp[znn]),if_pos (show (znn n b).kind=4 from rfl),e1,h];rfl
theorem zmt{x:Xp}{l:List Am}(hx:x.kind=1)(h:∀ a∈l,zR a.body=true):zR (zdj x l)=true:=by
 have e1:(zdj x l).fn=x:=rfl;have e2:(zdj x l).arms=l:=rfl;rw[zcp,if_neg (by simp[zdj]),if_neg (by simp[zdj]),if_pos (show (zdj x l).kind=8 from rfl),e1,e2,List.all_eq_true.2 h];simp[hx,zdj]
section
variable {D:List Decl}
theorem zgT{d:Nat}{P:Xp->Prop}(ih:∀ (t:Tp) (N:List (List Nat)),P (zau d t D N).2)(t:Tp)(N:List (List Nat))(cs:List Ctor)(i:Nat):∀ a∈(zbW d t D N cs i).2,P a.body:=by
 induction i with
 |zero=>intro a ha;rw[zbW]at ha;cases ha
 | succ i ihi =>
   intro a ha;rw[zbW]at ha;rcases List.mem_append.1 ha with ha|ha
   . exact ihi a ha
   . rw[List.mem_singleton]at ha;subst ha;exact ih _ _
theorem zlm{d:Nat}(ih:∀ (t:Tp) (N:List (List Nat)),zR (zau d t D N).2=true)(t:Tp)(N:List (List Nat)){e:Xp}(he:HeadT e)(i:Nat):HeadT (zcy d t D N e i).2:=by
 induction i with
 |zero=>rw[zcy];exact he
 |succ i ihi=>rw[zcy];exact zop ihi (ih _ _)
theorem zne{d n:Nat}(ih:∀ (t:Tp) (N:List (List Nat)),Form n (zau d t D N).2)(hn:1<=n)(t:Tp)(N:List (List Nat)){e:Xp}(he:Form n e)(i:Nat):Form (n+i) (zcy d t D N e i).2:=by
 induction i with
 |zero=>rw[zcy];exact he
 |succ i ihi=>rw[zcy];exact ziv (by decide) (by decide) ihi ((ih _ _).mono (Nat.le_add_right _ _))
theorem zeB{P Q:Xp->Prop}(d:Nat)(hv:∀ n,Q (zgZ n))(hc:∀ n,Q (zmg n))(h0:∀ e,Q e->P e)(hs:∀ d',d=d'+1->∀ t N e i,i<=2->Q e->P (zcy d' t D N e i).2)(t:Tp)(N:List (List Nat)):P (headM d t D N).2:=by
 rw[headM.eq_def];dsimp only
 have h1:Q (if N≠[]then ((t.next N.length).1,zgZ (zaQ [] N (t.next N.length).2))else (t,zgZ [120])).2:=by
  split<;>exact hv _
 generalize (if N≠[]then ((t.next N.length).1,zgZ (zaQ [] N (t.next N.length).2))else (t,zgZ [120]))=p at h1
 have h2:Q (if D≠[]then (if (p.1.next 2).2=0 then ((((p.1.next 2).1.next D.length).1.next (zaQ zcY D ((p.1.next 2).1.next D.length).2).ctors.length).1,zmg (zaQ zi2 (zaQ zcY D ((p.1.next 2).1.next D.length).2).ctors (((p.1.next 2).1.next D.length).1.next (zaQ zcY D ((p.1.next 2).1.next D.length).2).ctors.length).2).name)else ((p.1.next 2).1,p.2))else p).2:=by
  split
  . split
    . exact hc _
    . exact h1
  . exact h1
 generalize (if D≠[]then (if (p.1.next 2).2=0 then ((((p.1.next 2).1.next D.length).1.next (zaQ zcY D ((p.1.next 2).1.next D.length).2).ctors.length).1,zmg (zaQ zi2 (zaQ zcY D ((p.1.next 2).1.next D.length).2).ctors (((p.1.next 2).1.next D.length).1.next (zaQ zcY D ((p.1.next 2).1.next D.length).2).ctors.length).2).name)else ((p.1.next 2).1,p.2))else p)=q at h2
 cases d with
 |zero=>exact h0 _ h2
 | succ d =>
   have a1:=zcs q.1 3;have a2:=zc8 q.1 (n:=3) (by omega);exact hs d rfl _ _ _ _ (by omega) h2
theorem zku:∀ (d:Nat) (t:Tp) (N:List (List Nat)),zR (zau d t D N).2=true:=by
 intro d
 induction d with
 | zero =>
   intro t N;rw[zau];exact zeB (Q:=HeadT) (P:=fun e=>zR e=true) 0 (fun _=>zdN (.inl rfl)) (fun _=>zdN (.inr rfl)) (fun _ h=>h.shape) (fun d' h=>by omega) _ _
 | succ d ih =>
   intro t N;rw[zau];dsimp only;split
   . exact zn5 (ih _ _)
   . split
     . exact zmt rfl (zgT (P:=fun e=>zR e=true) ih _ _ _ _)
     . exact zeB (Q:=HeadT) (P:=fun e=>zR e=true) (d+1) (fun _=>zdN (.inl rfl)) (fun _=>zdN (.inr rfl)) (fun _ h=>h.shape) (fun d' h t N e i _ he=>by cases h;exact(zlm ih t N he i).shape) _ _
theorem zml (hD:zrx D):∀ (d:Nat) (t:Tp) (N:List (List Nat)),Form (2*d+1) (zau d t D N).2:=by
 intro d
 induction d with
 | zero =>
   intro t N;rw[zau];exact zeB (Q:=Form 1) (P:=Form 1) 0 (fun _=>zb4 (by decide) (by decide) (by decide) (Nat.le_refl _)) (fun _=>zb4 (by decide) (by decide) (by decide) (Nat.le_refl _)) (fun _ h=>h) (fun d' h=>by omega) _ _
 | succ d ih =>
   intro t N;rw[zau];dsimp only;split
   . exact(zfD (by decide) (ih _ _)).mono (by omega)
   . split
     . rename_i hne;refine(zj4 (d:=2*d+1) (zb4 (by decide) (by decide) (by decide) (by omega)) (zgT (P:=Form (2*d+1)) ih _ _ _ _) ?_).mono (by omega);have h1:=zcs (t.next 8).1 D.length;have h2:=zc8 (t.next 8).1 (n:=(D.length:Int)) (by have:=List.length_pos_iff.2 hne.2.1;omega);obtain⟨j,hj⟩:=Int.eq_ofNat_of_zero_le h1;rw[hj];have hjl:j<D.length:=by omega
       have e:zaQ zcY D (j:Int)=D[j]:=by unfold zaQ;rw[Int.toNat_natCast,List.getElem?_eq_getElem hjl];rfl
       rw[e]
       have hl:∀ (t:Tp) (cs:List Ctor) (i:Nat),(zbW d t D N cs i).2.length=i:=by
        intro t cs i
        induction i with
        |zero=>rw[zbW];rfl
        |succ i ih=>rw[zbW];simp[ih]
       rw[hl];exact(hD.2 _ (List.getElem_mem hjl)).2.1
     . exact zeB (Q:=Form (2*d+1)) (P:=Form (2*(d+1)+1)) (d+1) (fun _=>zb4 (by decide) (by decide) (by decide) (by omega)) (fun _=>zb4 (by decide) (by decide) (by decide) (by omega)) (fun _ h=>h.mono (by omega)) (fun d' h t N e i hi he=>by cases h;exact(zne ih (by omega) t N he i).mono (by omega)) _ _
end
end Go.J
