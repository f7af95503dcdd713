import Derived.Test.YtpcmebclpindjaaGreatJK
import Derived.Test.YtpcmebclpindjaaGreatJN
set_option linter.all false
noncomputable section
/- A contract for functions that write an appended row in place: slices.Reverse. -/
namespace Go.J
open Enc (enc)
def zKv(id g sz:Nat)(es es':List (List V)):EmbD where
 k:=1
 k':=1
 π:=fun _=>id
 OL:=[(0,.arr sz g es false false true)]
 OL':=[(0,.arr sz g es' false false true)]
 vs0:=[.own 0 g 0 es.length none]
 v0:=.tuple []
def revZ:EmbD where
 k:=0
 k':=0
 π:=fun i=>i
 OL:=[]
 OL':=[]
 vs0:=[.snil]
 v0:=.tuple []
section
variable {α:Type} [Cel α]
def zOf (sz:Nat) (F:List α->Option (List α)) (vs:List V) (hs:HS):Option EmbD:=match vs with
 | [.snil]=>some revZ
 | [.own id g 0 n none]=>ob (hs.H.get id) fun o=>match o with
   |.arr s h es false false true=>gd (et (Nat.beq s sz) (et (Nat.beq h g) (et (Nat.beq n (zC es)) (Nat.blt id hs.n)))) (ob (zN es) fun l=>ob (F l) fun l'=>some (zKv id g sz es (l'.map Cel.cells)))
   |_=>none
 |_=>none
@[simp] theorem zEr {hs:HS}:revZ.val hs=.tuple []:=(rfl)
@[simp] theorem zAs {hs:HS}:revZ.heap hs=hs:=(rfl)
@[simp] theorem zEt {id g sz:Nat} {es es':List (List V)} {hs:HS}:(zKv id g sz es es').val hs=.tuple []:=(rfl)
@[simp] theorem zEs {sz:Nat} {F:List α->Option (List α)} {hs:HS}:zOf sz F [.snil] hs=some revZ:=(rfl)
end
def RevI{α:Type}(l:List α)(i:Nat)(L:List α):Prop:=L.length=l.length/\∀ k,k<l.length->L[k]?=if k<i\/l.length-1-i<k then l[l.length-1-k]? else l[k]?
theorem RevI.done{α:Type}{l L:List α}{i:Nat}(h:RevI l i L)(hi:l.length<=2*i+1):L=l.reverse:=by
 apply List.ext_getElem?;intro k;by_cases hk:k<l.length
 . rw[h.2 k hk,List.getElem?_reverse hk];split
   . rfl
   . congr 1;omega
 . rw[List.getElem?_eq_none (by rw[h.1];omega),List.getElem?_eq_none (by simp;omega)]
theorem RevI.step{α:Type}{l L:List α}{i:Nat}(h:RevI l i L)(hi:2*i+1<l.length)(h1:i<L.length)(h2:l.length-1-i<L.length):RevI l (i+1) ((L.set i L[l.length-1-i]).set (l.length-1-i) L[i]):=by
 have e1:=h.2 i (by omega);have e2:=h.2 (l.length-1-i) (by omega);rw[if_neg (by omega),List.getElem?_eq_getElem h1]at e1;rw[if_neg (by omega),List.getElem?_eq_getElem h2]at e2;refine⟨by simp[h.1],fun k hk=>?_⟩;rw[List.getElem?_set,List.getElem?_set];by_cases k1:l.length-1-i=k
 . subst k1;rw[if_pos rfl,if_pos (by simpa using h2),if_pos (by omega),e1]
   congr 1;omega
 . rw[if_neg k1];by_cases k2:i=k
   . subst k2;rw[if_pos rfl,if_pos h1,if_pos (by omega),e2]
   . rw[if_neg k2,h.2 k hk];by_cases k3:k<i\/l.length-1-i<k
     . rw[if_pos k3,if_pos (by omega)]
     . rw[if_neg k3,if_neg (by omega)]
end Go.J
/- Expressions: depth,spines,the shape of normal terms. -/
namespace Go.J
open Enc (enc)
mutual
def Xp.depth:Xp->Nat
 |.mk _ _ _ _ ks as _=>1+max (Xp.depths ks) (Am.depths as)
def Xp.depths:List Xp->Nat
 | []=>0
 |x::l=>max x.depth (Xp.depths l)
def Am.depths:List Am->Nat
 | []=>0
 |.mk _ _ _ b::l=>max b.depth (Am.depths l)
end
mutual
def Xp.wide(B:Nat):Xp->Bool
 |.mk _ _ _ _ ks as _=>decide (ks.length<=B)&&decide (as.length<=B)&&Xp.wides B ks&&Am.wides B as
def Xp.wides(B:Nat):List Xp->Bool
 | []=>true
 |x::l=>x.wide B&&Xp.wides B l
def Am.wides(B:Nat):List Am->Bool
 | []=>true
 |.mk _ _ _ b::l=>b.wide B&&Am.wides B l
end
theorem Xp.depth_eq(x:Xp):x.depth=1+max (Xp.depths x.kids) (Am.depths x.arms):=by cases x;rw[Xp.depth];rfl
theorem Xp.wide_eq(B:Nat)(x:Xp):x.wide B=(decide (x.kids.length<=B)&&decide (x.arms.length<=B)&&Xp.wides B x.kids&&Am.wides B x.arms):=by cases x;rw[Xp.wide];rfl
theorem Xp.depths_mem{l:List Xp}{x:Xp}(h:x∈l):x.depth<=Xp.depths l:=by
 induction l with
 |nil=>cases h
 | cons y l ih =>
   rw[Xp.depths];rcases List.mem_cons.1 h with rfl|h
   . exact Nat.le_max_left _ _
   . exact Nat.le_trans (ih h) (Nat.le_max_right _ _)
theorem Am.depths_mem{l:List Am}{a:Am}(h:a∈l):a.body.depth<=Am.depths l:=by
 induction l with
 |nil=>cases h
 | cons y l ih =>
   obtain⟨p,c,v,b⟩:=y;rw[Am.depths];rcases List.mem_cons.1 h with rfl|h
   . exact Nat.le_max_left _ _
   . exact Nat.le_trans (ih h) (Nat.le_max_right _ _)
theorem Xp.wides_mem{B:Nat}{l:List Xp}(hl:Xp.wides B l=true){x:Xp}(h:x∈l):x.wide B=true:=by
 induction l with
 |nil=>cases h
 | cons y l ih =>
   rw[Xp.wides,Bool.and_eq_true]at hl;rcases List.mem_cons.1 h with rfl|h
   . exact hl.1
   . exact ih hl.2 h
theorem Am.wides_mem{B:Nat}{l:List Am}(hl:Am.wides B l=true){a:Am}(h:a∈l):a.body.wide B=true:=by
 induction l with
 |nil=>cases h
 | cons y l ih =>
   obtain⟨p,c,v,b⟩:=y;rw[Am.wides,Bool.and_eq_true]at hl;rcases List.mem_cons.1 h with rfl|h
   . exact hl.1
   . exact ih hl.2 h
theorem Xp.kid_depth{x k:Xp}(h:k∈x.kids):k.depth<x.depth:=by
 have:=Xp.depths_mem h;rw[Xp.depth_eq x];omega
theorem Xp.arm_depth{x:Xp}{a:Am}(h:a∈x.arms):a.body.depth<x.depth:=by
 have:=Am.depths_mem h;rw[Xp.depth_eq x];omega
theorem Xp.wide_parts{B:Nat}{x:Xp}(h:x.wide B=true):x.kids.length<=B/\x.arms.length<=B/\(∀ k∈x.kids,k.wide B=true)/\∀ a∈x.arms,a.body.wide B=true:=by
 rw[Xp.wide_eq,Bool.and_eq_true,Bool.and_eq_true,Bool.and_eq_true,decide_eq_true_eq,decide_eq_true_eq]at h;exact⟨h.1.1.1,h.1.1.2,fun k hk=>Xp.wides_mem h.1.2 hk,fun a ha=>Am.wides_mem h.2 ha⟩
def x0:Xp:=.mk 0 0 [] 0 [] [] ty0
def Xp.isApp(x:Xp):Bool:=decide (x.kind=5)&&decide (x.kids.length=2)
def Xp.fn(x:Xp):Xp:=(x.kids[0]?).getD x0
def Xp.arg(x:Xp):Xp:=(x.kids[1]?).getD x0
theorem Xp.isApp_iff{x:Xp}:x.isApp=true↔x.kind=5/\x.kids.length=2:=by simp[Xp.isApp]
theorem Xp.app_kids{x:Xp}(h:x.isApp=true):x.kids=[x.fn,x.arg]:=by
 obtain⟨_,h⟩:=Xp.isApp_iff.1 h;unfold Xp.fn Xp.arg;generalize x.kids=l at h ⊢
 match l,h with
 | [a,b],_=>rfl
theorem Xp.fn_mem{x:Xp}(h:x.isApp=true):x.fn∈x.kids:=by rw[Xp.app_kids h];simp
theorem Xp.arg_mem{x:Xp}(h:x.isApp=true):x.arg∈x.kids:=by rw[Xp.app_kids h];simp
def zd4:Nat->Xp->Xp×List Xp
 | 0,e=>(e,[])
 |d+1,e=>if e.isApp=true then ((zd4 d e.fn).1,(zd4 d e.fn).2++[e.arg])else (e,[])
def zcI(e:Xp):Xp×List Xp:=zd4 e.depth e
theorem zlT:∀ (d:Nat) (e:Xp),e.depth<=d->zd4 d e=zd4 (d+1) e:=by
 intro d
 induction d with
 |zero=>intro e h;rw[Xp.depth_eq]at h;omega
 | succ d ih =>
   intro e h;by_cases ha:e.isApp=true
   . have:=Xp.kid_depth (Xp.fn_mem ha);rw[zd4,if_pos ha,zd4,if_pos ha,<- ih _ (by omega)]
   . rw[zd4,if_neg ha,zd4,if_neg ha]
theorem zqk{d:Nat}{e:Xp}(h:e.depth<=d):zd4 d e=zcI e:=by
 obtain⟨k,rfl⟩:=Nat.le.dest h
 induction k with
 |zero=>rfl
 |succ k ih=>rw[<- Nat.add_assoc,<- zlT _ _ (by omega),ih (by omega)]
theorem zi5{e:Xp}(h:e.isApp=true):zcI e=((zcI e.fn).1,(zcI e.fn).2++[e.arg]):=by
 have hd:=Xp.kid_depth (Xp.fn_mem h);obtain⟨d,hd2⟩:∃ d,e.depth=d+1:=⟨e.depth-1,by omega⟩;rw[zcI,hd2,zd4,if_pos h,zqk (by omega)]
theorem zi4{e:Xp}(h:¬ e.isApp=true):zcI e=(e,[]):=by
 rw[zcI,Xp.depth_eq,Nat.add_comm,zd4,if_neg h]
theorem zkl(e:Xp):(zcI e).1.depth<=e.depth/\(∀ a∈(zcI e).2,a.depth<e.depth)/\(zcI e).2.length<e.depth:=by
 generalize hd:e.depth=d
 induction d using Nat.strongRecOn generalizing e with
 | _ d ih =>
   by_cases h:e.isApp=true
   . have h1:=Xp.kid_depth (Xp.fn_mem h);have h2:=Xp.kid_depth (Xp.arg_mem h);obtain⟨i1,i2,i3⟩:=ih _ (by omega) e.fn rfl;rw[zi5 h];refine⟨by show (zcI e.fn).1.depth<=d;omega,fun a ha=>?_,by simp;omega⟩;rcases List.mem_append.1 ha with ha|ha
     . have:=i2 a ha;omega
     . rw[List.mem_singleton]at ha;subst ha;omega
   . rw[zi4 h];have:=Xp.depth_eq e;exact⟨by show e.depth<=d;omega,fun a ha=>by simp at ha,by simp;omega⟩
theorem zlU{B:Nat}{e:Xp}(hw:e.wide B=true):(zcI e).1.wide B=true/\∀ a∈(zcI e).2,a.wide B=true:=by
 generalize hd:e.depth=d
 induction d using Nat.strongRecOn generalizing e with
 | _ d ih =>
   by_cases h:e.isApp=true
   . have h1:=Xp.kid_depth (Xp.fn_mem h);have hp:=(Xp.wide_parts hw).2.2.1;obtain⟨i1,i2⟩:=ih _ (by omega) (hp _ (Xp.fn_mem h)) rfl;rw[zi5 h];refine⟨i1,fun a ha=>?_⟩;rcases List.mem_append.1 ha with ha|ha
     . exact i2 a ha
     . rw[List.mem_singleton]at ha;subst ha;exact hp _ (Xp.arg_mem h)
   . rw[zi4 h];exact⟨hw,fun a ha=>by simp at ha⟩
mutual
def Xp.wf:Xp->Bool
 |.mk k _ _ _ ks as _=>(if k=5 then decide (ks.length=2)else if k=4\/k=8 then decide (ks.length=1)else true)&&Xp.wfs ks&&Am.wfs as
def Xp.wfs:List Xp->Bool
 | []=>true
 |x::l=>x.wf&&Xp.wfs l
def Am.wfs:List Am->Bool
 | []=>true
 |.mk _ _ _ b::l=>b.wf&&Am.wfs l
end
def Xp.fit(d:Nat)(e:Xp):Prop:=e.depth<=d/\e.depth<=1000/\e.wide 100000=true
instance (d:Nat)(e:Xp):Decidable (e.fit d):=inferInstanceAs (Decidable (_/\_/\_))
theorem Xp.fit.arm{d:Nat}{e:Xp}{a:Am}(h:e.fit (d+1))(hk:a∈e.arms):a.body.fit d:=by
 have:=Xp.arm_depth hk;exact⟨by have:=h.1;omega,by have:=h.2.1;omega,(Xp.wide_parts h.2.2).2.2.2 a hk⟩
theorem Xp.fit.arg{d:Nat}{e a:Xp}(h:e.fit (d+1))(ha:a∈(zcI e).2):a.fit d:=by
 have:=(zkl e).2.1 a ha;exact⟨by have:=h.1;omega,by have:=h.2.1;omega,(zlU h.2.2).2 a ha⟩
end Go.J
/- What the laws of chapter 28 are about: a context,a goal,and a term. -/
namespace Go.J
open Enc (enc)
def zdg(codes:List Int)(D:List Decl):List Entry×Ty×Xp×Tp :=
 let c:=zbG ⟨codes,0⟩ D
 let r:=zaQ 3 c.1 D (c.2.1.map (·.name))
 (c.2.1,c.2.2,r.2,r.1)
theorem zhK{D:List Decl}{t:Tp}(h:t.ok):(zbG t D).1.ok/\(zbG t D).2.1.length<=3:=by
 have h1:=zO h 4;have h2:=zfK t 4;have h3:=zgX t (n:=4) (by omega);have h4:=zm7 (D:=D) h1 (t.next 4).2.toNat;unfold zbG;exact⟨(zgv _ _ h4.1).1,by show (zlI D (t.next 4).1 (t.next 4).2.toNat).2.length<=3;omega⟩
theorem zvc{D:List Decl}(hD:z7g D):∀ (t:Tp) (Lv:List Ty),(∀ l∈Lv,l.ok=true/\l.size<=1)->(typeM 2 t D Lv).2.ok=true/\(typeM 2 t D Lv).2.size<=1000:=fun t Lv hl =>
 ⟨zo7 hD (fun l h=>(hl l h).1) 2 t,by have:=zcU hD (fun l h=>(hl l h).2) 2 t;omega⟩
end Go.J
/- Expressions that a tape makes,whose names need not be known;their form. -/
namespace Go.J
open Enc (enc)
def Form(d:Nat)(e:Xp):Prop:=e.wf=true/\e.depth<=d/\e.wide 100=true
theorem Form.mono{d d':Nat}{e:Xp}(h:Form d e)(hd:d<=d'):Form d' e:=⟨h.1,by have:=h.2.1;omega,h.2.2⟩
theorem Form.fit {d:Nat} {e:Xp} (h:Form d e) (hd:d<=1000):e.fit 1000:=by
 refine⟨by have:=h.2.1;omega,by have:=h.2.1;omega,?_⟩
 have key:∀ (d:Nat) (e:Xp),e.depth<=d->e.wide 100=true->e.wide 100000=true:=by
  intro d
  induction d with
  |zero=>intro e h;rw[Xp.depth_eq]at h;omega
  | succ d ih =>
    intro e hd hw;obtain⟨w1,w2,w3,w4⟩:=Xp.wide_parts hw
    have hk:∀ l:List Xp,(∀ k∈l,k.wide 100000=true)->Xp.wides 100000 l=true:=by
     intro l
     induction l with
     |nil=>intro _;rfl
     |cons a l ihl=>intro h;rw[Xp.wides,h a List.mem_cons_self,ihl fun x hx=>h x (List.mem_cons_of_mem _ hx)];rfl
    have ha:∀ l:List Am,(∀ k∈l,k.body.wide 100000=true)->Am.wides 100000 l=true:=by
     intro l
     induction l with
     |nil=>intro _;rfl
     | cons a l ihl =>
       intro h;have h1:=h a List.mem_cons_self;obtain⟨p,c,v,b⟩:=a;simp only[Am.body_mk]at h1;rw[Am.wides,h1,ihl fun x hx=>h x (List.mem_cons_of_mem _ hx)];rfl
    rw[Xp.wide_eq,hk _ fun k hk=>ih k (by have:=Xp.kid_depth hk;omega) (w3 k hk),ha _ fun a ha=>ih a.body (by have:=Xp.arm_depth ha;omega) (w4 a ha)];simp;omega
 exact key _ e (Nat.le_refl _) h.2.2
end Go.J
