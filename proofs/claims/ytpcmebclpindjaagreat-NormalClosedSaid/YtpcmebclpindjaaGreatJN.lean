import Derived.Test.YtpcmebclpindjaaGreatJL
import Derived.Test.YtpcmebclpindjaaGreatJK
set_option linter.all false
noncomputable section
/- Contexts that a tape makes. -/
namespace Go.J
open Enc (enc)
def mono(t:Ty):Scheme:=⟨0,t⟩
def zmW:List (List Nat):=[[120],[121],[122],[102],[103],[118,49],[118,50],[105,100]]
def zf5(t:Tp):List Nat:=(zmW[(t.next 8).2.toNat]?).getD []
def zcp:List Int->List Int->List Assign->List Assign
 | [],_,s=>s
 |v::l,ids,s=>zcp l ids (if v∈ids then s++[⟨v,zaU s.length⟩]else s)
theorem zpv(l m ids:List Int)(s:List Assign):zcp (l++m) ids s=zcp m ids (zcp l ids s):=by
 induction l generalizing s with
 |nil=>rfl
 |cons v l ih=>simp only[List.cons_append,zcp,ih]
theorem ziZ(l ids:List Int)(s:List Assign):s.length<=(zcp l ids s).length/\(zcp l ids s).length<=s.length+l.length:=by
 induction l generalizing s with
 |nil=>exact⟨Nat.le_refl _,Nat.le_refl _⟩
 | cons v l ih =>
   simp only[zcp,List.length_cons]
   grind
def zdl(t:Ty)(ids:List Int):Scheme :=
 let s:=zcp (zcb [t]) ids []
 ⟨s.length,t.repl s⟩
def za7:List Ty:=[zaq 0 0,zaq 3 1]
def zhI (D:List Decl) (p:Tp×List Entry):Tp×List Entry :=
 let n:=zf5 p.1
 let t1:=(p.1.next 8).1
 let c:=t1.next 4
 if c.2=0 then
  let r:=typeM 2 c.1 D (zcc 2)
  (r.1,p.2++[⟨n,zdl r.2 [0,1]⟩])
 else
  let r:=typeM 2 c.1 D za7
  (r.1,p.2++[⟨n,mono r.2⟩])
def zlI(D:List Decl)(t:Tp):Nat->Tp×List Entry
 | 0=>(t,[])
 |n+1=>zhI D (zlI D t n)
def zbG(t:Tp)(D:List Decl):Tp×(List Entry×Ty) :=
 let c:=t.next 4
 let p:=zlI D c.1 c.2.toNat
 let r:=typeM 2 p.1 D za7
 (r.1,(p.2,r.2))
theorem zm7{D:List Decl}{t:Tp}(h:t.ok)(n:Nat):(zlI D t n).1.ok/\(zlI D t n).2.length=n:=by
 induction n with
 |zero=>exact⟨h,rfl⟩
 | succ n ih =>
   grind [zO,zlI,zhI,zgv]
end Go.J
/- Expressions as values of the evaluator. -/
namespace Go.J
open Enc (enc)
mutual
inductive Xp where
 |mk (kind pos:Int) (name:List Nat) (num:Int) (kids:List Xp) (arms:List Am) (type:Ty)
inductive Am where
 |mk (pos:Int) (con:List Nat) (vars:List (List Nat)) (body:Xp)
end
namespace Xp
def kind:Xp->Int|.mk k _ _ _ _ _ _=>k
def pos:Xp->Int|.mk _ p _ _ _ _ _=>p
def name:Xp->List Nat|.mk _ _ n _ _ _ _=>n
def num:Xp->Int|.mk _ _ _ m _ _ _=>m
def kids:Xp->List Xp|.mk _ _ _ _ l _ _=>l
def arms:Xp->List Am|.mk _ _ _ _ _ l _=>l
def type:Xp->Ty|.mk _ _ _ _ _ _ t=>t
section
variable {k p m:Int}{n:List Nat}{l:List Xp}{a:List Am}{t:Ty}
@[simp] theorem kind_mk:(mk k p n m l a t).kind=k:=(rfl)
@[simp] theorem zAC:(mk k p n m l a t).pos=p:=(rfl)
@[simp] theorem name_mk:(mk k p n m l a t).name=n:=(rfl)
@[simp] theorem zKC:(mk k p n m l a t).num=m:=(rfl)
@[simp] theorem zIe:(mk k p n m l a t).kids=l:=(rfl)
@[simp] theorem zJD:(mk k p n m l a t).arms=a:=(rfl)
@[simp] theorem zHf:(mk k p n m l a t).type=t:=(rfl)
@[simp] theorem eta (x:Xp):mk x.kind x.pos x.name x.num x.kids x.arms x.type=x:=by cases x;rfl
end
end Xp
namespace Am
def pos:Am->Int|.mk p _ _ _=>p
def con:Am->List Nat|.mk _ c _ _=>c
def vars:Am->List (List Nat)|.mk _ _ v _=>v
def body:Am->Xp|.mk _ _ _ b=>b
section
variable {p:Int}{c:List Nat}{v:List (List Nat)}{b:Xp}
@[simp] theorem zAC:(mk p c v b).pos=p:=(rfl)
@[simp] theorem zNo:(mk p c v b).con=c:=(rfl)
@[simp] theorem zGV:(mk p c v b).vars=v:=(rfl)
@[simp] theorem body_mk:(mk p c v b).body=b:=(rfl)
@[simp] theorem eta (x:Am):mk x.pos x.con x.vars x.body=x:=by cases x;rfl
end
end Am
mutual
def zb0:Xp->List V
 |.mk k p n m l a t=>[.int .i64 k,.int .i64 p,.str n,.int .i64 m,.sl (zcm l) false,.sl (zco a) false,.int .i64 t.kind,.str t.name,.int .i64 t.id,.int .i64 t.home,.sl (t.args.map zg) false]
def zcm:List Xp->List (List V)
 | []=>[]
 |x::l=>zb0 x::zcm l
def zck:Am->List V
 |.mk p c v b=>.int .i64 p::.str c::.sl (v.map encS) false::zb0 b
def zco:List Am->List (List V)
 | []=>[]
 |x::l=>zck x::zco l
end
theorem zuT(l:List Xp):zcm l=l.map zb0:=by
 induction l with
 |nil=>simp[zcm]
 |cons t l ih=>simp[zcm,ih]
theorem zuU(l:List Am):zco l=l.map zck:=by
 induction l with
 |nil=>simp[zco]
 |cons t l ih=>simp[zco,ih]
theorem zam(x:Xp):zb0 x=[.int .i64 x.kind,.int .i64 x.pos,.str x.name,.int .i64 x.num,.sl (x.kids.map zb0) false,.sl (x.arms.map zck) false,.int .i64 x.type.kind,.str x.type.name,.int .i64 x.type.id,.int .i64 x.type.home,.sl (x.type.args.map zg) false]:=by
 cases x;simp[zb0,zuT,zuU]
theorem zjG(x:Am):zck x=[.int .i64 x.pos,.str x.con,.sl (x.vars.map encS) false,.int .i64 x.body.kind,.int .i64 x.body.pos,.str x.body.name,.int .i64 x.body.num,.sl (x.body.kids.map zb0) false,.sl (x.body.arms.map zck) false,
 .int .i64 x.body.type.kind,.str x.body.type.name,.int .i64 x.body.type.id,.int .i64 x.body.type.home,.sl (x.body.type.args.map zg) false]:=by
 cases x;simp[zck,zam]
mutual
def zdX:V->Option (List Xp)
 |.sl es false=>zdY es
 |_=>none
def zdY:List (List V)->Option (List Xp)
 | []=>some []
 | e::r=>match zh4 e,zdY r with
   |some t,some l=>some (t::l)
   |_,_=>none
def zh4:List V->Option Xp
 | [.int .i64 k,.int .i64 p,.str n,.int .i64 m,ks,as,.int .i64 tk,.str tn,.int .i64 ti,.int .i64 th,ta]=>match zdX ks,zee as,zd7 ta with
   |some l,some a,some t=>some (.mk k p n m l a (.mk tk tn ti th t))
   |_,_,_=>none
 |_=>none
def zee:V->Option (List Am)
 |.sl es false=>zef es
 |_=>none
def zef:List (List V)->Option (List Am)
 | []=>some []
 | e::r=>match zhE e,zef r with
   |some t,some l=>some (t::l)
   |_,_=>none
def zhE:List V->Option Am
 | [.int .i64 q,.str c,.sl vs false,.int .i64 k,.int .i64 p,.str n,.int .i64 m,ks,as,.int .i64 tk,.str tn,.int .i64 ti,.int .i64 th,ta]=>match (zN vs:Option (List (List Nat))),zdX ks,zee as,zd7 ta with
   |some v,some l,some a,some t=>some (.mk q c v (.mk k p n m l a (.mk tk tn ti th t)))
   |_,_,_,_=>none
 |_=>none
end
theorem ziV(l:List Ty):zd7 (.sl (l.map zg) false)=some l:=by
 unfold zd7;rw[<- zh1];exact zfR l
theorem ziW{v:V}{l:List Ty}(h:zd7 v=some l):v=.sl (l.map zg) false:=by
 rw[ziR v l h,zh1]
mutual
theorem zlq:∀ x:Xp,zh4 (zb0 x)=some x
 |.mk k p n m l a t=>by simp[zb0,zh4,zdX,zee,zfQ l,zfS a,ziV]
theorem zfQ:∀ l:List Xp,zdY (zcm l)=some l
 | []=>by simp[zcm,zdY]
 |t::l=>by simp[zcm,zdY,zlq t,zfQ l]
theorem zls:∀ x:Am,zhE (zck x)=some x
 |.mk p c v (.mk k q n m l a t)=>by simp[zck,zb0,zhE,zdX,zee,zfQ l,zfS a,ziV]
theorem zfS:∀ l:List Am,zef (zco l)=some l
 | []=>by simp[zco,zef]
 |t::l=>by simp[zco,zef,zls t,zfS l]
end
mutual
theorem zhz:∀ (v:V) (l:List Xp),zdX v=some l->v=.sl (zcm l) false
 | v,l,h=>by
   unfold zdX at h;split at h
   . rename_i es;rw[ziP es l h]
   . cases h
theorem ziP:∀ (es:List (List V)) (l:List Xp),zdY es=some l->es=zcm l
 | [],l,h=>by simp[zdY]at h;subst h;simp[zcm]
 | e :: r,l,h=>by
   unfold zdY at h;split at h
   . rename_i t m h1 h2;cases h;rw[zlh e t h1,ziP r m h2];simp[zcm]
   . cases h
theorem zlh:∀ (c:List V) (x:Xp),zh4 c=some x->c=zb0 x
 | c,x,h=>by
   unfold zh4 at h;split at h
   . rename_i k p n m ks as tk tn ti th ta;split at h
     . rename_i l a t h1 h2 h3;cases h;rw[zhz ks l h1,zh0 as a h2,ziW h3];simp[zb0]
     . cases h
   . cases h
theorem zh0:∀ (v:V) (l:List Am),zee v=some l->v=.sl (zco l) false
 | v,l,h=>by
   unfold zee at h;split at h
   . rename_i es;rw[ziS es l h]
   . cases h
theorem ziS:∀ (es:List (List V)) (l:List Am),zef es=some l->es=zco l
 | [],l,h=>by simp[zef]at h;subst h;simp[zco]
 | e :: r,l,h=>by
   unfold zef at h;split at h
   . rename_i t m h1 h2;cases h;rw[zlj e t h1,ziS r m h2];simp[zco]
   . cases h
theorem zlj:∀ (c:List V) (x:Am),zhE c=some x->c=zck x
 | c,x,h=>by
   unfold zhE at h;split at h
   . rename_i q c vs k p n m ks as tk tn ti th ta;split at h
     . rename_i v l a t h0 h1 h2 h3;cases h;rw[zhz ks l h1,zh0 as a h2,ziW h3,zao h0];simp[zck,zb0]
     . cases h
   . cases h
end
mutual
theorem zfJ:∀ x:Xp,zT (zb0 x)=zb0 x
 |.mk k p n m l a t=>by simp[zb0,zT,zac,zeL l,zeM a]
theorem zeL:∀ l:List Xp,zG (zcm l)=zcm l
 | []=>by simp[zcm,zG]
 |t::l=>by simp[zcm,zG,zfJ t,zeL l]
theorem ziH:∀ x:Am,zT (zck x)=zck x
 |.mk p c v (.mk k q n m l a t)=>by simp[zck,zb0,zT,zac,zeL l,zeM a]
theorem zeM:∀ l:List Am,zG (zco l)=zco l
 | []=>by simp[zco,zG]
 |t::l=>by simp[zco,zG,ziH t,zeM l]
end
instance:Cel Xp where
 cells:=zb0
 dec:=zh4
 dec_enc:=zlq
 enc_dec:=zlh
 pure2 t:=by rw[zam];rfl
 norm:=zfJ
instance:Enc Xp:=zcP
instance:Cel Am where
 cells:=zck
 dec:=zhE
 dec_enc:=zls
 enc_dec:=zlj
 pure2 t:=by rw[zjG];rfl
 norm:=ziH
instance:Enc Am:=zcP
theorem zlt:∀ es:List (List V),zdY es=zN es:=by
 intro es
 induction es with
 |nil=>simp[zdY,zN]
 | cons e r ih =>
   simp only[zdY,zN,ih];rw[show (Cel.dec e:Option Xp)=zh4 e from rfl]
   grind
theorem zlz:∀ es:List (List V),zef es=zN es:=by
 intro es
 induction es with
 |nil=>simp[zef,zN]
 | cons e r ih =>
   simp only[zef,zN,ih];rw[show (Cel.dec e:Option Am)=zhE e from rfl]
   grind
theorem z6h{k p m tk ti th:Int}{n tn:List Nat}{ks as ta:List (List V)}:zh4 [.int .i64 k,.int .i64 p,.str n,.int .i64 m,.sl ks false,.sl as false,.int .i64 tk,.str tn,.int .i64 ti,.int .i64 th,.sl ta false] =
 ob (zN ks) fun l=>ob (zN as) fun a=>ob (zN ta) fun t=>some (.mk k p n m l a (.mk tk tn ti th t)):=by
 simp only[zh4,zdX,zee,zd7,zlt,zlz,zh5];cases(zN ks:Option (List Xp))<;>cases(zN as:Option (List Am))<;>cases(zN ta:Option (List Ty))<;>rfl
theorem z6m{q k p m tk ti th:Int}{c n tn:List Nat}{vs ks as ta:List (List V)}:zhE [.int .i64 q,.str c,.sl vs false,.int .i64 k,.int .i64 p,.str n,.int .i64 m,.sl ks false,.sl as false,.int .i64 tk,.str tn,.int .i64 ti,.int .i64 th,.sl ta false] =
 ob (zN vs) fun v=>ob (zN ks) fun l=>ob (zN as) fun a=>ob (zN ta) fun t=>some (.mk q c v (.mk k p n m l a (.mk tk tn ti th t))):=by
 simp only[zhE,zdX,zee,zd7,zlt,zlz,zh5];cases(zN vs:Option (List (List Nat)))<;>cases(zN ks:Option (List Xp))<;>cases(zN as:Option (List Am))<;>cases(zN ta:Option (List Ty))<;>rfl
@[simp] theorem zGn:@Cel.cells Xp _=zb0:=(rfl)
@[simp] theorem zCY:@Cel.dec Xp _=zh4:=(rfl)
@[simp] theorem zNd (a:Xp):enc a=.agg (zb0 a):=(rfl)
@[simp] theorem zNj {c:List V}:Enc.dec (α:=Xp) (.agg c)=zh4 c:=(rfl)
@[simp] theorem zJ0 (l:List Xp):zN (l.map zb0)=some l:=zaw l
@[simp] theorem zHU (l:List Xp):zG (l.map zb0)=l.map zb0:=zR l
@[simp] theorem zwC (l:List Xp):((l.map zb0).all fun e=>e.all V.pure2)=true:=zS l
@[simp] theorem zJm (l:List Xp):enc l=.sl (l.map zb0) false:=(rfl)
@[simp] theorem zJv {es:List (List V)}:Enc.dec (α:=List Xp) (.sl es false)=zN es:=(rfl)
@[simp] theorem zNQ (l:List Xp):sizes 11 (l.map zb0)=true:=by rw[sizes_eq];intro e he;obtain⟨a,_,rfl⟩:=List.mem_map.1 he;rw[zam];rfl
@[simp] theorem zO9 (l:List Xp):zI (l.map zb0)=true:=zA zwC
@[simp] theorem zGq:@Cel.cells Am _=zck:=(rfl)
@[simp] theorem zDb:@Cel.dec Am _=zhE:=(rfl)
@[simp] theorem zNi (a:Am):enc a=.agg (zck a):=(rfl)
@[simp] theorem zNm {c:List V}:Enc.dec (α:=Am) (.agg c)=zhE c:=(rfl)
@[simp] theorem zJ2 (l:List Am):zN (l.map zck)=some l:=zaw l
@[simp] theorem zHW (l:List Am):zG (l.map zck)=l.map zck:=zR l
@[simp] theorem zwF (l:List Am):((l.map zck).all fun e=>e.all V.pure2)=true:=zS l
@[simp] theorem zJp (l:List Am):enc l=.sl (l.map zck) false:=(rfl)
@[simp] theorem zJy {es:List (List V)}:Enc.dec (α:=List Am) (.sl es false)=zN es:=(rfl)
@[simp] theorem zNT (l:List Am):sizes 14 (l.map zck)=true:=by rw[sizes_eq];intro e he;obtain⟨a,_,rfl⟩:=List.mem_map.1 he;rw[zjG];rfl
@[simp] theorem zOC (l:List Am):zI (l.map zck)=true:=zA zwF
attribute [simp] z6h zam z6m zjG
end Go.J
/- Terms of the shape of normal terms that a tape makes. -/
namespace Go.J
open Enc (enc)
def zv6(n:List Nat):Xp:=.mk 1 0 n 0 [] [] ty0
def zDM(n:List Nat):Xp:=.mk 2 0 n 0 [] [] ty0
def zDL(n:List Nat)(b:Xp):Xp:=.mk 4 0 n 0 [b] [] ty0
def zGE(f a:Xp):Xp:=.mk 5 0 [] 0 [f,a] [] ty0
def zvS(e:Xp)(l:List Am):Xp:=.mk 8 0 [] 0 [e] l ty0
def zjO(j:Nat):List Nat:=([[115],[116],[117],[118]][j % 4]?).getD []
def zaR(n:Nat):List (List Nat):=(List.range n).map zjO
theorem zlC(n:Nat):zaR (n+1)=zaR n++[zjO n]:=by simp[zaR,List.range_succ]
@[simp] theorem zhT (n:Nat):(zaR n).length=n:=by simp[zaR]
def zgT{α:Type}(z:α)(l:List α)(i:Int):α:=(l[i.toNat]?).getD z
def zx1:Decl:=⟨0,[],[],[]⟩
def zx5:Ctor:=⟨0,[],[]⟩
mutual
def zaQ:Nat->Tp->List Decl->List (List Nat)->Tp×Xp
 | 0,t,D,N=>headM 0 (t.next 8).1 D N
 | d + 1,t,D,N =>
   let k:=(t.next 8).2
   let t1:=(t.next 8).1
   if k<2 then
    let r:=zaQ d t1 D (N++[[119]])
    (r.1,zDL [119] r.2)
   else if k=2/\D≠[]/\N≠[]then
    let a:=t1.next D.length
    let dd:=zgT zx1 D a.2
    let b:=a.1.next N.length
    let r:=zd1 d b.1 D N dd.ctors dd.ctors.length
    (r.1,zvS (zv6 (zgT [] N b.2)) r.2)
   else headM (d+1) t1 D N
 termination_by d=>(d,2,0)
def zd1 (d:Nat) (t:Tp) (D:List Decl) (N:List (List Nat)) (cs:List Ctor):Nat->Tp×List Am
 | 0=>(t,[])
 | i+1 =>
   let p:=zd1 d t D N cs i
   let c:=(cs[i]?).getD zx5
   let r:=zaQ d p.1 D (N++zaR c.fields.length)
   (r.1,p.2++[.mk 0 c.name (zaR c.fields.length) r.2])
 termination_by i=>(d,3,i)
def headM (d:Nat) (t:Tp) (D:List Decl) (N:List (List Nat)):Tp×Xp :=
 let p:=if N≠[]then ((t.next N.length).1,zv6 (zgT [] N (t.next N.length).2))else (t,zv6 [120])
 let q := if D≠[]then
     (if (p.1.next 2).2=0 then
       let a:=(p.1.next 2).1.next D.length
       let dd:=zgT zx1 D a.2
       let b:=a.1.next dd.ctors.length
       (b.1,zDM (zgT zx5 dd.ctors b.2).name)
     else ((p.1.next 2).1,p.2))
  else p
 match d with
 | 0=>((q.1.next 3).1,q.2)
 |d+1=>zez d (q.1.next 3).1 D N q.2 (q.1.next 3).2.toNat
 termination_by (d,1,0)
def zez (d:Nat) (t:Tp) (D:List Decl) (N:List (List Nat)) (e:Xp):Nat->Tp×Xp
 | 0=>(t,e)
 | i+1 =>
   let p:=zez d t D N e i
   let r:=zaQ d p.1 D N
   (r.1,zGE p.2 r.2)
 termination_by i=>(d,3,i)
end
def z94(D:List Decl):Prop:=DOk D/\∀ d∈D,d.ctors≠[]/\d.ctors.length<=100/\∀ c∈d.ctors,c.fields.length<=100
theorem zhG(bits:Int):z94 (zD bits):=by
 refine⟨zpq bits,fun d hd=>?_⟩;have key:∀ d∈allD,d.ctors≠[]/\d.ctors.length<=100/\∀ c∈d.ctors,c.fields.length<=100:=by decide
 exact key d (zd0 hd)
section
variable {D:List Decl}
theorem zjN{d:Nat}(ih:∀ (t:Tp) (N:List (List Nat)),t.ok->(zaQ d t D N).1.ok){t:Tp}(h:t.ok)(N:List (List Nat))(cs:List Ctor)(i:Nat):(zd1 d t D N cs i).1.ok/\(zd1 d t D N cs i).2.length=i:=by
 induction i with
 |zero=>rw[zd1];exact⟨h,rfl⟩
 | succ i ihi =>
   grind [zd1]
theorem zoz{d:Nat}(ih:∀ (t:Tp) (N:List (List Nat)),t.ok->(zaQ d t D N).1.ok){t:Tp}(h:t.ok)(N:List (List Nat))(e:Xp)(i:Nat):(zez d t D N e i).1.ok:=by
 induction i with
 |zero=>rw[zez];exact h
 |succ i ihi=>rw[zez];exact ih _ _ ihi
theorem zn0{d:Nat}(ih:∀ d',d=d'+1->∀ (t:Tp) (N:List (List Nat)),t.ok->(zaQ d' t D N).1.ok){t:Tp}(h:t.ok)(N:List (List Nat)):(headM d t D N).1.ok:=by
 rw[headM.eq_def]
 grind [zv6,zgT,zO,zx1,zDM,zx5,zoz]
theorem zji:∀ (d:Nat) (t:Tp) (N:List (List Nat)),t.ok->(zaQ d t D N).1.ok:=by
 intro d
 induction d with
 | zero =>
   grind [zaQ,zn0,zO]
 | succ d ih =>
   grind [zaQ,zO,zjN,zn0]
end
end Go.J
/- Types whose leaves are replaced. -/
namespace Go.J
open Enc (enc)
mutual
def Ty.reb(g:Ty->Ty):Ty->Ty
 |.mk k n i h []=>g (.mk k n i h [])
 |.mk k n i h (t::l)=>.mk k n i h (Ty.reb g t::Ty.rebs g l)
def Ty.rebs(g:Ty->Ty):List Ty->List Ty
 | []=>[]
 |t::l=>Ty.reb g t::Ty.rebs g l
end
abbrev zTy:List V:=[.int .i64 0,.str [],.int .i64 0,.int .i64 0,.snil]
def zrm(l:List Ty)(n i:Nat):List (List V):=(l.take i).map zg++List.replicate (n-i) zTy
theorem zkT{l:List Ty}{n i:Nat}{e:List V}(h:e∈zrm l n i):e.length=5/\e.all V.pure2=true:=by
 unfold zrm at h;rcases List.mem_append.1 h with h|h
 . obtain⟨t,_,rfl⟩:=List.mem_map.1 h
   simp_all
 simp_all
@[simp] theorem z8C {l:List Ty} {n i:Nat}:((zrm l n i).all fun e=>e.all V.pure2)=true:=List.all_eq_true.2 fun e he=>(zkT he).2
@[simp] theorem zB4 {l:List Ty} {n i:Nat} {π:Nat->Nat}:((zrm l n i).map fun e=>e.map (V.ren2 π))=zrm l n i:=zhb fun x hx v hv=>V.ren2_pure (List.all_eq_true.1 (zkT hx).2 v hv)
end Go.J
/- Replacing the leaves of a type is replacing its variables. -/
namespace Go.J
open Enc (enc)
mutual
def Ty.leafy:Ty->Bool
 |.mk k _ _ _ l=>(decide (k≠1)||decide (l.length=0))&&Ty.leafys l
def Ty.leafys:List Ty->Bool
 | []=>true
 |t::l=>Ty.leafy t&&Ty.leafys l
end
mutual
theorem zno(s:List Assign):∀ t:Ty,t.leafy=true->t.reb (fun t=>if t.kind=1 then (zP s t.id).getD t else t)=t.repl s
 | .mk k n i h [],_=>by
   rw[Ty.reb,zeI];simp only[Ty.kind_mk,Ty.id_mk,Ty.args_mk,Ty.name_mk,Ty.home_mk,List.map_nil]
 | .mk k n i h (t::l),hl=>by
   rw[Ty.leafy]at hl;simp only[Bool.and_eq_true,Bool.or_eq_true,decide_eq_true_eq]at hl
   have hk:k≠1:=by
    rcases hl.1 with h|h
    . exact h
    . simp at h
   have hl2:=hl.2;rw[Ty.leafys,Bool.and_eq_true]at hl2;rw[Ty.reb,zno s t hl2.1,ziA s l hl2.2,zeI s (.mk k n i h (t::l))];simp only[Ty.kind_mk,if_neg hk,Ty.id_mk,Ty.args_mk,Ty.name_mk,Ty.home_mk,List.map_cons];rw[znn]
theorem ziA(s:List Assign):∀ l:List Ty,Ty.leafys l=true->Ty.rebs (fun t=>if t.kind=1 then (zP s t.id).getD t else t) l=Ty.repls s l
 | [],_=>by rw[Ty.rebs,Ty.repls]
 | t::l,hl=>by
   rw[Ty.leafys,Bool.and_eq_true]at hl;rw[Ty.rebs,Ty.repls,zno s t hl.1,ziA s l hl.2]
end
end Go.J
/- Type variables in the order in which they are met;numbering them. -/
namespace Go.J
open Enc (enc)
def zbr(out:List Int)(t:Ty):List Int:=if t.kind=1/\t.id ∉ out then out++[t.id]else out
mutual
def zhL:Ty->List Int->List Int
 |.mk k n i h l,out=>zcw l (zbr out (.mk k n i h l))
def zcw:List Ty->List Int->List Int
 | [],out=>out
 |t::l,out=>zcw l (zhL t out)
end
theorem z6r(t:Ty)(out:List Int):zhL t out=zcw t.args (zbr out t):=by cases t;rw[zhL];rfl
theorem zmB(out:List Int)(t:Ty):∃ m,zbr out t=out++m/\m.length<=1:=by
 unfold zbr;split
 . exact⟨_,rfl,Nat.le_refl _⟩
 . exact⟨[],by simp,by simp⟩
mutual
theorem zx8:∀ (t:Ty) (out:List Int),∃ m,zhL t out=out++m/\m.length<=t.size
 | .mk k n i h l,out=>by
   obtain⟨a,ha,ha2⟩:=zmB out (.mk k n i h l);obtain⟨b,hb,hb2⟩:=zl1 l (zbr out (.mk k n i h l));have:=Ty.size_eq (.mk k n i h l);exact⟨a++b,by rw[zhL,hb,ha,List.append_assoc],by rw[List.length_append];simp only[Ty.args_mk]at this;omega⟩
theorem zl1:∀ (l:List Ty) (out:List Int),∃ m,zcw l out=out++m/\m.length<=Ty.sizes l
 | [],out=>⟨[],by simp[zcw],by simp⟩
 | t::l,out=>by
   obtain⟨a,ha,ha2⟩:=zx8 t out;obtain⟨b,hb,hb2⟩:=zl1 l (zhL t out);refine⟨a++b,by rw[zcw,hb,ha,List.append_assoc],?_⟩;rw[List.length_append];simp only[Ty.sizes];omega
end
theorem zjI{out:List Int}{t:Ty}(h:out.Nodup):(zbr out t).Nodup:=by
 unfold zbr;split
 . rename_i hh;rw[List.nodup_append];exact⟨h,List.nodup_cons.2 ⟨by simp,List.nodup_nil⟩,fun a ha b hb e=>by rw[List.mem_singleton]at hb;subst hb;subst e;exact hh.2 ha⟩
 . exact h
mutual
theorem zpt:∀ (t:Ty) {out:List Int},out.Nodup->(zhL t out).Nodup
 |.mk k n i h l,out,ho=>by rw[zhL];exact zeS l (zjI ho)
theorem zeS:∀ (l:List Ty) {out:List Int},out.Nodup->(zcw l out).Nodup
 | [],out,ho=>by rw[zcw];exact ho
 |t::l,out,ho=>by rw[zcw];exact zeS l (zpt t ho)
end
theorem zkN{t:Ty}{out:List Ty}(hk:t.kind=1):zcG (if t∈out then out else out++[t])=zbr (zcG out) t:=by
 have hsub:∀ (a:Ty) (o:List Int) (y:Int),y∈o->y∈zen o a:=by
  grind [zen]
 have hself:∀ (a:Ty) (o:List Int),a.id∈zen o a:=by
  grind [zen]
 have key:∀ (l:List Ty) (o:List Int),(∀ y∈o,y∈l.foldl zen o)/\∀ x∈l,x.id∈l.foldl zen o:=by
  intro l
  induction l with
  |nil=>intro o;exact⟨fun y hy=>hy,fun x hx=>by cases hx⟩
  | cons a l ih =>
    grind
 grind [zcG,zbr,ziK,zen]
mutual
theorem zpb:∀ (t:Ty),t.leafy=true->∀ out,zcG (zaj 1 t out)=zhL t (zcG out)
 | .mk k n i h l,hl,out=>by
   rw[Ty.leafy]at hl;simp only[Bool.and_eq_true,Bool.or_eq_true,decide_eq_true_eq]at hl;by_cases hk:k=1
   . have h0:l=[]:=by
      rcases hl.1 with h|h
      . exact absurd hk h
      . exact List.eq_nil_of_length_eq_zero h
     subst h0;rw[zc0,if_pos ⟨hk,rfl⟩,zkN (t:=.mk k n i h []) hk,zhL];rfl
   . rw[zc0,if_neg (fun hh=>hk hh.1),zhL];have:zbr (zcG out) (.mk k n i h l)=zcG out:=if_neg (fun hh=>hk hh.1);rw[this];exact zdS l hl.2 out
theorem zdS:∀ (l:List Ty),Ty.leafys l=true->∀ out,zcG (zx 1 l out)=zcw l (zcG out)
 | [],_,out=>by rw[zx,zcw]
 | t::l,hl,out=>by
   rw[Ty.leafys,Bool.and_eq_true]at hl;rw[zx,zcw,zdS l hl.2,zpb t hl.1]
end
theorem zpM{l:List Ty}(h:Ty.leafys l=true):zcb l=zcw l []:=zdS l h []
end Go.J
/- Numbering type variables twice is numbering them once. Sizes of types that a tape makes. -/
namespace Go.J
open Enc (enc)
mutual
def Ty.vplain:Ty->Bool
 |.mk k n _ h l=>(decide (k≠1)||(decide (n=[])&&decide (h=0)&&decide (l.length=0)))&&Ty.vplains l
def Ty.vplains:List Ty->Bool
 | []=>true
 |t::l=>Ty.vplain t&&Ty.vplains l
end
theorem vplains_iff{l:List Ty}:Ty.vplains l=true↔∀ t∈l,t.vplain=true:=by
 induction l with
 |nil=>simp[Ty.vplains]
 |cons t l ih=>simp[Ty.vplains,ih]
theorem zZ{t:Ty}(h:t.vplain=true)(hk:t.kind=1):t=za0 t.id:=by
 obtain⟨k,n,i,hh,l⟩:=t;rw[Ty.vplain]at h;simp only[Bool.and_eq_true,Bool.or_eq_true,decide_eq_true_eq]at h;simp only[Ty.kind_mk]at hk;subst hk;rcases h.1 with h|h
 . omega
 . obtain⟨⟨rfl,rfl⟩,h3⟩:=h;rw[List.eq_nil_of_length_eq_zero h3];rfl
theorem zad{t:Ty}(h:t.vplain=true):Ty.vplains t.args=true:=by
 obtain⟨k,n,i,hh,l⟩:=t
 simp_all [Ty.vplain,Bool.and_eq_true]
theorem zeF{t:Ty}(hk:t.kind≠1)(h:∀ x∈t.args,x.vplain=true):t.vplain=true:=by
 obtain⟨k,n,i,hh,l⟩:=t
 simp_all [Ty.vplain,Bool.and_eq_true,vplains_iff]
theorem zc3(i:Int):(za0 i).vplain=true:=by simp[za0,Ty.vplain,Ty.vplains]
mutual
theorem zjX:∀ t:Ty,t.vplain=true->t.leafy=true
 | .mk k n i h l,hp=>by
   rw[Ty.vplain]at hp;simp only[Bool.and_eq_true,Bool.or_eq_true,decide_eq_true_eq]at hp;rw[Ty.leafy];simp only[Bool.and_eq_true,Bool.or_eq_true,decide_eq_true_eq];exact⟨hp.1.imp (fun h=>h) (fun h=>h.2),ze1 l hp.2⟩
theorem ze1:∀ l:List Ty,Ty.vplains l=true->Ty.leafys l=true
 | [],_=>by rw[Ty.leafys]
 | t::l,hp=>by
   rw[Ty.vplains,Bool.and_eq_true]at hp;rw[Ty.leafys,zjX t hp.1,ze1 l hp.2];rfl
end
def zy6(n:Nat):List Int:=(List.range n).map fun i=>((i:Nat):Int)
@[simp] theorem z7I (n:Nat):(zy6 n).length=n:=by simp[zy6]
section
variable {ids:List Int}(hn:ids.Nodup)
include hn
end
end Go.J
/- Sizes of types that a tape makes. -/
namespace Go.J
open Enc (enc)
theorem zwx{l:List Ty}{b:Nat}(h:∀ t∈l,t.size<=b):Ty.sizes l<=l.length*b:=by
 induction l with
 |nil=>simp[Ty.sizes]
 | cons t l ih =>
   have h1:=h t (List.mem_cons_self ..);have h2:=ih fun t ht=>h t (List.mem_cons_of_mem _ ht)
   simp only[Ty.sizes,List.length_cons,Nat.succ_mul];omega
def z7g(D:List Decl):Prop:=∀ d∈D,d.params.length<=2
theorem zhF(bits:Int):z7g (zD bits):=by
 intro d hd;have key:∀ d∈allD,d.params.length<=2:=by decide
 exact key d (zd0 hd)
theorem zcU {D:List Decl} {Lv:List Ty} (hD:z7g D) (hl:∀ l∈Lv,l.size<=1):∀ (d:Nat) (t:Tp),(typeM d t D Lv).2.size+1<=2 ^ (d+1):=by
 have hint:tInt.size=1:=by decide
 intro d
 induction d with
 | zero =>
   intro t;rw[typeM]
   grind
 | succ d ih =>
   intro t;have hp:2 ^ (d+1+1)=2*2 ^ (d+1):=by rw[Nat.pow_succ 2 (d+1)];omega
   have hpos:2<=2 ^ (d+1):=by rw[Nat.pow_succ];have:=Nat.two_pow_pos d;omega
   rw[typeM]
   try dsimp only
   split
   . grind
   . split
     . grind
     . split
       . rename_i h;obtain⟨j,hj,_,h2⟩:=zev (t.next 7).1 h.2;rw[h2];have hpar:=hD _ (List.getElem_mem hj);rw[Option.getD_some]
         have hargs:∀ (q:Tp) (n:Nat) (x:Ty),x∈(zch d q D Lv n).2->x.size+1<=2 ^ (d+1):=by
          intro q n
          induction n with
          |zero=>intro x hx;rw[zch]at hx;cases hx
          | succ n ihn =>
            grind [zch,List.mem_singleton]
         have hs:=zwx (l:=(zch d ((t.next 7).1.next (D.length:Int)).1 D Lv D[j].params.length).2) (b:=2 ^ (d+1)-1) fun x hx=>by have:=hargs _ _ x hx;omega
         rw[zf1]at hs;rw[Ty.size_eq];have hm:D[j].params.length*(2 ^ (d+1)-1)<=2*(2 ^ (d+1)-1):=Nat.mul_le_mul_right _ hpar;show Ty.sizes (zch d ((t.next 7).1.next (D.length:Int)).1 D Lv D[j].params.length).2+1+1<=_;omega
       . rw[Ty.size_eq];simp only[zbI,zeU,Ty.args_mk,Ty.sizes]
         grind
theorem zkd{D:List Decl}{Lv:List Ty}(hl:∀ l∈Lv,l.vplain=true)(d:Nat)(t:Tp):(typeM d t D Lv).2.vplain=true :=
 zdI (P:=fun t=>t.vplain=true) hl (by decide) (fun dd _ l _ hx=>zeF (by simp[zeU]) hx)
  (fun a b h1 h2=>zeF (by simp[zbI,zeU]) (fun x hx=>by
    simp only[zbI,zeU,Ty.args_mk,List.mem_cons,List.not_mem_nil,or_false]at hx
    rcases hx with rfl|rfl<;>assumption)) d t
theorem zo7{D:List Decl}{Lv:List Ty}(hD:z7g D)(hl:∀ l∈Lv,l.ok=true)(d:Nat)(t:Tp):(typeM d t D Lv).2.ok=true :=
 zdI (P:=fun t=>t.ok=true) hl (by decide) (fun dd hdd l hlen hx=>Ty.ok_iff.2 ⟨by have:=hD dd hdd;simp[zeU,hlen];omega,hx⟩)
  (fun a b h1 h2=>Ty.ok_iff.2 ⟨by simp[zbI,zeU],fun x hx=>by
    simp only[zbI,zeU,Ty.args_mk,List.mem_cons,List.not_mem_nil,or_false]at hx
    rcases hx with rfl|rfl<;>assumption⟩) d t
end Go.J
/- Closures that collect numbers in a variable of their maker,and functions that are handed such a closure. -/
namespace Go.J
open Enc (enc)
def zNq(out:List Int):List (Nat×Obj):=(0,z6B (oV 1 (out.map encI)))::oH 1 1 (out.map encI)
def z8W(g:Option Nat)(tv:V)(id ro:Nat)(out out':List Int):EmbD where
 k:=match out with | []=>1|_=>2
 k':=match out' with | []=>1|_=>2
 π:=fun i=>if i=0 then id else ro
 OL:=zNq out
 OL':=zNq out'
 vs0:=[tv,zDe g 0]
 v0:=.tuple []
def zOz(g:Option Nat)(F:List Int->Ty->Option (List Int))(vs:List V)(hs:HS):Option EmbD:=match vs with
 | [tv,cv]=>ob (capOf g cv) fun id=>ob (Enc.dec tv:Option Ty) fun t=>ob (hs.H.get id) fun o=>ob (zjK o) fun c=>ob (rowOf 1 hs c) fun oc=>ob (zN oc:Option (List Int)) fun out=>ob (F out t) fun r =>
  gd (et (Nat.blt id hs.n) (et (bi (Nat.beq (zC oc) 0) true (nt (Nat.beq id (zcF c)))) (et (Nat.ble (zC out) (zC r)) (zaz hs hs.n))))
   (some (z8W g tv id (zcF c) out r))
 |_=>none
section
variable {g:Option Nat}{tv:V}{id ro:Nat}{out out':List Int}{x y:Int}{hs:HS}
@[simp] theorem zGl:(z8W g tv id ro out out').val hs=.tuple []:=(rfl)
theorem zmE:(z8W g tv id ro [] []).heap hs={ H:=hs.H.set id (z6B .snil),n:=hs.n,log:=id::hs.log }:=by
 show ({ H:=hs.H.set id _,n:=hs.n+0,log:=_ }:HS)=_;rfl
theorem zmD:(z8W g tv id ro [] (x::out')).heap hs={ H:=(hs.H.set hs.n (oO 1 ((x::out').map encI))).set id (z6B (oV hs.n ((x::out').map encI))),n:=hs.n+1,log:=id::hs.n::hs.log }:=by
 show ({ H:=(hs.H.set (hs.n+0) ((oO 1 ((x::out').map encI)).ren _)).set id _,n:=hs.n+1,log:=_ }:HS)=_;rw[zga (zfs (x::out'))];rfl
theorem zmC:(z8W g tv id ro (y::out) (x::out')).heap hs={ H:=(hs.H.set ro (oO 1 ((x::out').map encI))).set id (z6B (oV ro ((x::out').map encI))),n:=hs.n,log:=id::ro::hs.log }:=by
 show ({ H:=(hs.H.set ro ((oO 1 ((x::out').map encI)).ren _)).set id _,n:=hs.n+0,log:=_ }:HS)=_;rw[zga (zfs (x::out'))];rfl
attribute [simp] zmE zmD zmC
@[simp] theorem zNp {F:List Int→Ty→Option (List Int)} {cv:V}:zOz g F [tv,cv] hs=ob (capOf g cv) fun id=>ob (Enc.dec tv:Option Ty) fun t=>ob (hs.H.get id) fun o=>ob (zjK o) fun c=>ob (rowOf 1 hs c) fun oc=>ob (zN oc:Option (List Int)) fun out=>ob (F out t) fun r =>
      gd (et (Nat.blt id hs.n) (et (bi (Nat.beq (zC oc) 0) true (nt (Nat.beq id (zcF c)))) (et (Nat.ble (zC out) (zC r)) (zaz hs hs.n))))
       (some (z8W g tv id (zcF c) out r)):=(rfl)
end
end Go.J
/- Sizes and resolved forms. -/
namespace Go.J
open Enc (enc)
def szL(rec:Ty->Nat->Nat)(most:Nat):List Ty->Nat->Nat
 | [],n=>n
 |x::l,n=>if n<=most then szL rec most l (n+rec x (most-n))else n
def szM(w:Ty->Ty):Nat->Ty->Nat->Nat
 | 0,_,most=>most+1
 |f+1,t,most=>min (szL (szM w f) most (w t).args 1) (most+1)
def zgJ (rec:Ty->Option Ty):List Ty->Option (List Ty)
 | []=>some []
 | x::l=>match rec x,zgJ rec l with
   |some y,some m=>some (y::m)
   |_,_=>none
def znm (w:Ty->Ty):Nat->Ty->Option Ty
 | 0,_=>none
 | f+1,t=>match zgJ (znm w f) (w t).args with
   |some l=>some (.mk (w t).kind (w t).name (w t).id (w t).home l)
   |none=>none
section
variable {w:Ty->Ty}
theorem zi8{p q:Ty->Option Ty}(h:∀ t r,p t=some r->q t=some r):∀ {l m:List Ty},zgJ p l=some m->zgJ q l=some m:=by
 intro l
 induction l with
 |nil=>intro m h;exact h
 | cons x l ih =>
   grind [zgJ]
theorem zqt:∀ {f:Nat} {t r:Ty},znm w f t=some r->znm w (f+1) t=some r:=by
 intro f
 induction f with
 |zero=>intro t r h;cases h
 | succ f ih =>
   grind [znm,zi8]
theorem zgK{f g:Nat}(hfg:f<=g){t r:Ty}(h:znm w f t=some r):znm w g t=some r:=by
 induction hfg with
 |refl=>exact h
 |step _ ih=>exact zqt ih
def Rz(w:Ty->Ty)(t r:Ty):Prop:=∃ f,znm w f t=some r
theorem Rz.inj{t r r':Ty}(h:Rz w t r)(h':Rz w t r'):r=r':=by
 obtain⟨f,h⟩:=h;obtain⟨g,h'⟩:=h';have h1:=zgK (Nat.le_max_left f g) h
 grind [zgK,Nat.le_max_right,Option.some.inj]
inductive Rzs (w:Ty->Ty):List Ty->List Ty->Prop
 |nil:Rzs w [] []
 |cons {x y:Ty} {l m:List Ty}:Rz w x y->Rzs w l m->Rzs w (x::l) (y::m)
theorem Rzs.of{f:Nat}:∀ {l m:List Ty},zgJ (znm w f) l=some m->Rzs w l m:=by
 intro l
 induction l with
 |nil=>intro m h;cases h;exact .nil
 | cons x l ih =>
   intro m h;unfold zgJ at h;split at h
   . rename_i y m' h1 h2;cases h;exact .cons ⟨f,h1⟩ (ih h2)
   . cases h
theorem Rzs.to{l m:List Ty}(h:Rzs w l m):∃ f,zgJ (znm w f) l=some m:=by
 induction h with
 |nil=>exact⟨0,rfl⟩
 | @cons x y l m h1 h2 ih =>
   obtain⟨f,h1⟩:=h1;obtain⟨g,ih⟩:=ih;refine⟨max f g,?_⟩
   grind [zgJ,zgK,Nat.le_max_left,zi8,Nat.le_max_right]
theorem Rz_iff{t r:Ty}:Rz w t r↔∃ l,Rzs w (w t).args l/\r=.mk (w t).kind (w t).name (w t).id (w t).home l:=by
 constructor
 . rintro ⟨f,h⟩
   cases f with
   |zero=>cases h
   | succ f =>
     rw[znm]at h;split at h
     . rename_i l hl;cases h;exact⟨l,.of hl,rfl⟩
     . cases h
 . rintro ⟨l,h,rfl⟩;obtain⟨f,h⟩:=h.to;exact⟨f+1,by rw[znm,h]⟩
theorem z9Y{rec:Ty->Nat->Nat}{most:Nat}:∀ (l:List Ty) (n:Nat),n<=szL rec most l n:=by
 intro l
 induction l with
 |nil=>intro n;exact Nat.le_refl _
 | cons x l ih =>
   intro n;unfold szL
   grind
theorem znb:∀ (f:Nat) (t:Ty) (most:Nat),most<f->(∀ r,Rz w t r->szM w f t most=min r.size (most+1))/\((¬ ∃ r,Rz w t r)->szM w f t most=most+1):=by
 intro f
 induction f with
 |zero=>intro t most h;omega
 | succ f ih =>
   intro t most hm
   have key1:∀ {l rs:List Ty},Rzs w l rs->∀ n,1<=n->min (szL (szM w f) most l n) (most+1)=min (n+Ty.sizes rs) (most+1):=by
    intro l rs h
    induction h with
    |nil=>intro n _;simp[szL,Ty.sizes]
    | @cons x y l m h1 h2 ih2 =>
      intro n hn;unfold szL;split
      . rw[(ih x (most-n) (by omega)).1 y h1,ih2 _ (by omega)];simp only[Ty.sizes];omega
      omega
   have key2:∀ {l:List Ty},(¬ ∃ rs,Rzs w l rs)->∀ n,1<=n->min (szL (szM w f) most l n) (most+1)=most+1:=by
    intro l
    induction l with
    |nil=>intro h;exact absurd ⟨[],.nil⟩ h
    | cons x l ih2 =>
      intro h n hn;unfold szL;split
      . by_cases hx:∃ y,Rz w x y
        . obtain⟨y,hy⟩:=hx;refine ih2 (fun ⟨rs,hrs⟩=>h ⟨_,.cons hy hrs⟩) _ (by omega)
        . rw[(ih x (most-n) (by omega)).2 hx];have:=z9Y (rec:=szM w f) (most:=most) l (n+(most-n+1));omega
      . omega
   constructor
   . intro r hr;obtain⟨l,hl,rfl⟩:=Rz_iff.1 hr;rw[szM,key1 hl 1 (Nat.le_refl _)];simp only[Ty.size_eq,Ty.args_mk];omega
   . intro h;rw[szM,key2 (fun ⟨l,hl⟩=>h ⟨_,Rz_iff.2 ⟨l,hl,rfl⟩⟩) 1 (Nat.le_refl _)]
theorem zwl{f g:Nat}{t:Ty}{most:Nat}(hf:most<f)(hg:most<g):szM w f t most=szM w g t most:=by
 by_cases h:∃ r,Rz w t r
 . grind [znb]
 simp_all [znb]
def sz(w:Ty->Ty)(t:Ty)(most:Nat):Nat:=szM w (most+1) t most
theorem zHj(t:Ty)(most:Nat):sz w t most=min (szL (sz w) most (w t).args 1) (most+1):=by
 unfold sz;rw[szM]
 congr 1
 have:∀ (l:List Ty) (n:Nat),1<=n->szL (szM w most) most l n=szL (fun t most=>szM w (most+1) t most) most l n:=by
  intro l
  induction l with
  |nil=>intro n _;rfl
  | cons x l ih =>
    grind [szL,zwl]
 exact this _ _ (Nat.le_refl _)
theorem zHi(t:Ty)(most:Nat):sz w t most<=most+1:=by rw[zHj];omega
theorem zqi{t r:Ty}(h:Rz w t r)(most:Nat):sz w t most=min r.size (most+1):=(znb _ t most (Nat.lt_succ_self _)).1 r h
theorem z3X{t:Ty}(h:¬ ∃ r,Rz w t r)(most:Nat):sz w t most=most+1:=(znb _ t most (Nat.lt_succ_self _)).2 h
theorem sz_fits{t:Ty}{most:Nat}:sz w t most<=most↔∃ r,Rz w t r/\r.size<=most:=by
 constructor
 . intro h;by_cases hr:∃ r,Rz w t r
   . obtain⟨r,hr⟩:=hr;rw[zqi hr]at h;exact⟨r,hr,by omega⟩
   . rw[z3X hr]at h;omega
 . rintro ⟨r,hr,h⟩;rw[zqi hr];omega
open Classical in
def full(w:Ty->Ty)(t:Ty):Ty:=if h:∃ r,Rz w t r then Classical.choose h else t
theorem full_of{t r:Ty}(h:Rz w t r):full w t=r:=by
 have hx:∃ r,Rz w t r:=⟨r,h⟩;unfold full;rw[dif_pos hx];exact(Classical.choose_spec hx).inj h
theorem Rzs.map{l m:List Ty}(h:Rzs w l m):m=l.map (full w):=by
 induction h with
 |nil=>rfl
 |cons h1 _ ih=>rw[List.map_cons,full_of h1,<- ih]
theorem Rzs.size_mem{l m:List Ty}(h:Rzs w l m):∀ x∈l,∃ y,Rz w x y/\y.size<=Ty.sizes m:=by
 induction h with
 |nil=>intro x hx;cases hx
 | cons h1 _ ih =>
   intro x hx;rcases List.mem_cons.1 hx with rfl|hx
   . exact⟨_,h1,by simp only[Ty.sizes];omega⟩
   . obtain⟨y,hy,hs⟩:=ih x hx;exact⟨y,hy,by simp only[Ty.sizes];omega⟩
end
namespace Store
def w16(s:Store):Ty->Ty:=s.walkN (s.slots.length+1)
def w(s:Store):Ty->Ty:=s.walkN s.slots.length
def tysOk(s:Store):Prop:=s.slots.length<=1000/\∀ x∈s.slots,x.type.ok=true
instance (s:Store):Decidable s.tysOk:=by unfold tysOk;infer_instance
theorem zHg{s:Store}(h:s.tysOk)(t:Ty):(s.to t).ok=true:=by
 unfold to;split
 . rename_i x hx;obtain⟨i,_,hi,hx⟩:=slot?_some hx;have:=(List.getElem?_eq_some_iff.1 hx).2;exact h.2 x (this ▸ List.getElem_mem hi)
 . rfl
theorem zvW{s:Store}(h:s.tysOk):∀ (n:Nat) {t:Ty},t.ok=true->(s.walkN n t).ok=true:=by
 intro n
 induction n with
 |zero=>intro t ht;exact ht
 | succ n ih =>
   grind [walkN,zHg]
end Store
def zet(w:Ty->Ty)(t:Ty):Ty×Bool:=if sz w t 4000<=4000 then (full w t,true)else (ty0,false)
end Go.J
/- The reference's search for type variables. -/
namespace Go.J
open Enc (enc)
def und:List Slot->List Bool->Nat
 |x::l,b::m=>(if b=true then 0 else x.type.size)+und l m
 |_,_=>0
theorem zqa:∀ {l:List Slot} {m:List Bool} {i:Nat} {x:Slot},l[i]?=some x->m[i]?=some false->und l (m.set i true)+x.type.size=und l m:=by
 intro l
 induction l with
 |nil=>intro m i x h;simp at h
 | cons y l ih =>
   intro m i x h h2
   cases m with
   |nil=>simp at h2
   | cons b m =>
     cases i with
     | zero =>
       grind [und]
     | succ i =>
       grind [und]
def vsM (s:Store):Nat->Ty->List Int×List Bool->List Int×List Bool
 | 0,_,st=>st
 | f + 1,t,st=>if t.kind=1 then
     (if s.bound t=true then (if st.2[t.id.toNat]?=some false then vsM s f (s.to t) (st.1,st.2.set t.id.toNat true)else st)
       else if t.id∈st.1 then st else (st.1++[t.id],st.2))
   else t.args.foldl (fun st x=>vsM s f x st) st
theorem Store.bound_slot{s:Store}{t:Ty}(h:s.bound t=true):t.kind=1/\∃ i:Nat,∃ x,t.id=i/\i<s.slots.length/\s.slots[i]?=some x/\x.bound=true/\s.to t=x.type:=by
 unfold Store.bound at h;split at h
 . rename_i x hk hx;obtain⟨i,hi,hl,hxi⟩:=Store.slot?_some hx;exact⟨by simpa using hk,i,x,hi,hl,hxi,h,by unfold Store.to;rw[hx]⟩
 . cases h
def VsOk(s:Store)(c:Nat)(st st':List Int×List Bool):Prop:=st'.2.length=st.2.length/\st.1.length<=st'.1.length/\und s.slots st'.2<=und s.slots st.2/\st'.1.length+und s.slots st'.2<=st.1.length+und s.slots st.2+c
theorem VsOk.refl{s:Store}{c:Nat}{st:List Int×List Bool}:VsOk s c st st:=⟨rfl,Nat.le_refl _,Nat.le_refl _,by omega⟩
theorem VsOk.trans{s:Store}{c d:Nat}{a b e:List Int×List Bool}(h:VsOk s c a b)(h':VsOk s d b e):VsOk s (c+d) a e:=by
 obtain⟨h1,h2,h3,h4⟩:=h;obtain⟨g1,g2,g3,g4⟩:=h';exact⟨by omega,by omega,by omega,by omega⟩
theorem z9D{s:Store}{f:Nat}(ih:∀ t st,VsOk s t.size st (vsM s f t st)):∀ (l:List Ty) (st:List Int×List Bool),VsOk s (Ty.sizes l) st (l.foldl (fun st x=>vsM s f x st) st):=by
 intro l
 induction l with
 |nil=>intro st;exact .refl
 | cons x l ih2 =>
   intro st;simp only[List.foldl_cons,Ty.sizes];exact(ih x st).trans (ih2 _)
theorem z9C (s:Store):∀ (f:Nat) (t:Ty) (st:List Int×List Bool),VsOk s t.size st (vsM s f t st):=by
 intro f
 induction f with
 |zero=>intro t st;exact .refl
 | succ f ih =>
   intro t st;rw[vsM];split
   . split
     . rename_i hb;split
       . rename_i hd;obtain⟨_,i,x,hi,hl,hx,_,hto⟩:=Store.bound_slot hb;rw[hi,Int.toNat_natCast]at hd ⊢;rw[hto];have h1:=zqa hx hd;obtain⟨k1,k2,k3,k4⟩:=ih x.type (st.1,st.2.set i true);simp only[List.length_set]at k1 k2 k3 k4;exact⟨k1,k2,by omega,by omega⟩
       . exact .refl
     . split
       . exact .refl
       . have:=Ty.size_pos t;exact⟨rfl,by simp,Nat.le_refl _,by simp;omega⟩
   . have h:=z9D ih t.args st;obtain⟨k1,k2,k3,k4⟩:=h;have:=Ty.size_eq t;exact⟨k1,k2,k3,by omega⟩
def zjg(s:Store)(l:List Ty):List Int:=(l.foldl (fun st x=>vsM s 100000 x st) (([]:List Int),List.replicate s.slots.length false)).1
def zpL(s:Store)(l:List Ty):Prop:=s.tysOk/\Ty.oks l=true/\l.length<=10000/\Ty.sizes l+und s.slots (List.replicate s.slots.length false)<=100000
instance (s:Store)(l:List Ty):Decidable (zpL s l):=by unfold zpL;infer_instance
end Go.J
/- The reference's unification. -/
namespace Go.J
open Enc (enc)
namespace Store
def isSlot(s:Store)(t:Ty):Bool:=decide (t.kind=1)&&(s.slot? t.id).isSome
def slotD(s:Store)(i:Int):Slot:=(s.slot? i).getD z4f
def joinL(s:Store)(a b:Int):Slot:={ s.slotD (min a b)with home:=min (s.slotD (min a b)).home (s.slotD (max a b)).home,base:=(s.slotD (min a b)).base||(s.slotD (max a b)).base }
def joinH(s:Store)(a b:Int):Slot:={ s.slotD (max a b)with bound:=true,type:=za0 (min a b) }
def join(s:Store)(a b:Int):Store:=if a=b then s else ((s.set (min a b) (s.joinL a b)).1.set (max a b) (s.joinH a b)).1
def zdw(home:Int)(s:Store)(v:Int):Store:=if v<s.slots.length/\home<(s.slotD v).home then (s.set v { s.slotD v with home:=home }).1 else s
def bindM(s:Store)(id:Int)(t:Ty):Store×Int :=
 if id∈zjg s [t]then (s,12)else
 if (z5t t).c=true/\(s.slotD id).base=true then (s,14)else
 if ∃ x∈z4l [(zet s.w16 t).1],(s.slotD id).home<x.home then (s,13)else
 if ∃ v∈zjg s [t],(s.slots.length:Int)<=v/\(s.slotD id).home<0 then (s,13)else
 ((((zjg s [t]).foldl (zdw (s.slotD id).home) s).set id { s.slotD id with bound:=true,type:=t }).1,0)
end Store
end Go.J
