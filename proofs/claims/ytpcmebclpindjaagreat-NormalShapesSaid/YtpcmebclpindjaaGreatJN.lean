import Derived.Test.YtpcmebclpindjaaGreatJL
import Derived.Test.YtpcmebclpindjaaGreatJK
set_option linter.all false
noncomputable section
/- Contexts that a tape makes. -/
namespace Go.J
open Enc (enc)
def mono(t:Ty):Scheme:=⟨0,t⟩
def zlt:List (List Nat):=[[120],[121],[122],[102],[103],[118,49],[118,50],[105,100]]
def zbS(t:Tp):List Nat:=(zlt[(t.next 8).2.toNat]?).getD []
def zcx:List Int->List Int->List Assign->List Assign
 | [],_,s=>s
 |v::l,ids,s=>zcx l ids (if v∈ids then s++[⟨v,zfk s.length⟩]else s)
theorem zmT(l m ids:List Int)(s:List Assign):zcx (l++m) ids s=zcx m ids (zcx l ids s):=by
 induction l generalizing s with
 |nil=>rfl
 |cons v l ih=>simp only[List.cons_append,zcx,ih]
theorem zhQ(l ids:List Int)(s:List Assign):s.length<=(zcx l ids s).length/\(zcx l ids s).length<=s.length+l.length:=by
 induction l generalizing s with
 |nil=>exact⟨Nat.le_refl _,Nat.le_refl _⟩
 | cons v l ih =>
   simp only[zcx,List.length_cons];by_cases hv:v∈ids
   . rw[if_pos hv];have:=ih (s++[⟨v,zfk s.length⟩]);rw[List.length_append,List.length_singleton]at this;omega
   . rw[if_neg hv];have:=ih s;omega
def zkg(t:Ty)(ids:List Int):Scheme :=
 let s:=zcx (ziG [t]) ids []
 ⟨s.length,t.repl s⟩
def zeH:List Ty:=[zbi 0 0,zbi 3 1]
def zi1 (D:List Decl) (p:Tp×List Entry):Tp×List Entry :=
 let n:=zbS p.1
 let t1:=(p.1.next 8).1
 let c:=t1.next 4
 if c.2=0 then
  let r:=typeM 2 c.1 D (zcR 2)
  (r.1,p.2++[⟨n,zkg r.2 [0,1]⟩])
 else
  let r:=typeM 2 c.1 D zeH
  (r.1,p.2++[⟨n,mono r.2⟩])
def z01(D:List Decl)(t:Tp):Nat->Tp×List Entry
 | 0=>(t,[])
 |n+1=>zi1 D (z01 D t n)
def zb7(t:Tp)(D:List Decl):Tp×(List Entry×Ty) :=
 let c:=t.next 4
 let p:=z01 D c.1 c.2.toNat
 let r:=typeM 2 p.1 D zeH
 (r.1,(p.2,r.2))
theorem zkX{D:List Decl}{t:Tp}(h:t.ok)(n:Nat):(z01 D t n).1.ok/\(z01 D t n).2.length=n:=by
 induction n with
 |zero=>exact⟨h,rfl⟩
 | succ n ih =>
   have h1:=zn (zn ih.1 8) 4;unfold z01 zi1;dsimp only;split
   . exact⟨(zdJ _ _ h1).1,by simp[ih.2]⟩
   . exact⟨(zdJ _ _ h1).1,by simp[ih.2]⟩
end Go.J
/- Expressions as values of the evaluator. -/
namespace Go.J
open Enc (enc)
mutual
inductive Xp where
 |mk (kind pos:Int) (name:List Nat) (num:Int) (kids:List Xp) (arms:List Am) (type:Ty)
inductive Am where
 |mk (pos:Int) (con:List Nat) (vars:List (List Nat)) (body:Xp)
end
namespace Xp
def kind:Xp->Int|.mk k _ _ _ _ _ _=>k
def pos:Xp->Int|.mk _ p _ _ _ _ _=>p
def name:Xp->List Nat|.mk _ _ n _ _ _ _=>n
def num:Xp->Int|.mk _ _ _ m _ _ _=>m
def kids:Xp->List Xp|.mk _ _ _ _ l _ _=>l
def arms:Xp->List Am|.mk _ _ _ _ _ l _=>l
def type:Xp->Ty|.mk _ _ _ _ _ _ t=>t
section
variable {k p m:Int}{n:List Nat}{l:List Xp}{a:List Am}{t:Ty}
@[simp] theorem kind_mk:(mk k p n m l a t).kind=k:=(rfl)
@[simp] theorem z4J:(mk k p n m l a t).pos=p:=(rfl)
@[simp] theorem name_mk:(mk k p n m l a t).name=n:=(rfl)
@[simp] theorem zE3:(mk k p n m l a t).num=m:=(rfl)
@[simp] theorem zBX:(mk k p n m l a t).kids=l:=(rfl)
@[simp] theorem zD4:(mk k p n m l a t).arms=a:=(rfl)
@[simp] theorem zBg:(mk k p n m l a t).type=t:=(rfl)
@[simp] theorem eta (x:Xp):mk x.kind x.pos x.name x.num x.kids x.arms x.type=x:=by cases x;rfl
end
end Xp
namespace Am
def pos:Am->Int|.mk p _ _ _=>p
def con:Am->List Nat|.mk _ c _ _=>c
def vars:Am->List (List Nat)|.mk _ _ v _=>v
def body:Am->Xp|.mk _ _ _ b=>b
section
variable {p:Int}{c:List Nat}{v:List (List Nat)}{b:Xp}
@[simp] theorem z4J:(mk p c v b).pos=p:=(rfl)
@[simp] theorem zHc:(mk p c v b).con=c:=(rfl)
@[simp] theorem zAZ:(mk p c v b).vars=v:=(rfl)
@[simp] theorem body_mk:(mk p c v b).body=b:=(rfl)
@[simp] theorem eta (x:Am):mk x.pos x.con x.vars x.body=x:=by cases x;rfl
end
end Am
mutual
def zI:Xp->List V
 |.mk k p n m l a t=>[.int .i64 k,.int .i64 p,.str n,.int .i64 m,.sl (zbX l) false,.sl (zbZ a) false,.int .i64 t.kind,.str t.name,.int .i64 t.id,.int .i64 t.home,.sl (t.args.map zl) false]
def zbX:List Xp->List (List V)
 | []=>[]
 |x::l=>zI x::zbX l
def zb6:Am->List V
 |.mk p c v b=>.int .i64 p::.str c::.sl (v.map encS) false::zI b
def zbZ:List Am->List (List V)
 | []=>[]
 |x::l=>zb6 x::zbZ l
end
theorem zqO(l:List Xp):zbX l=l.map zI:=by
 induction l with
 |nil=>simp[zbX]
 |cons t l ih=>simp[zbX,ih]
theorem zqP(l:List Am):zbZ l=l.map zb6:=by
 induction l with
 |nil=>simp[zbZ]
 |cons t l ih=>simp[zbZ,ih]
theorem zy(x:Xp):zI x=[.int .i64 x.kind,.int .i64 x.pos,.str x.name,.int .i64 x.num,.sl (x.kids.map zI) false,.sl (x.arms.map zb6) false,.int .i64 x.type.kind,.str x.type.name,.int .i64 x.type.id,.int .i64 x.type.home,.sl (x.type.args.map zl) false]:=by
 cases x;simp[zI,zqO,zqP]
theorem zg4(x:Am):zb6 x=[.int .i64 x.pos,.str x.con,.sl (x.vars.map encS) false,.int .i64 x.body.kind,.int .i64 x.body.pos,.str x.body.name,.int .i64 x.body.num,.sl (x.body.kids.map zI) false,.sl (x.body.arms.map zb6) false,
 .int .i64 x.body.type.kind,.str x.body.type.name,.int .i64 x.body.type.id,.int .i64 x.body.type.home,.sl (x.body.type.args.map zl) false]:=by
 cases x;simp[zb6,zy]
mutual
def zd2:V->Option (List Xp)
 |.sl es false=>zd3 es
 |_=>none
def zd3:List (List V)->Option (List Xp)
 | []=>some []
 | e::r=>match zf6 e,zd3 r with
   |some t,some l=>some (t::l)
   |_,_=>none
def zf6:List V->Option Xp
 | [.int .i64 k,.int .i64 p,.str n,.int .i64 m,ks,as,.int .i64 tk,.str tn,.int .i64 ti,.int .i64 th,ta]=>match zd2 ks,zd9 as,zde ta with
   |some l,some a,some t=>some (.mk k p n m l a (.mk tk tn ti th t))
   |_,_,_=>none
 |_=>none
def zd9:V->Option (List Am)
 |.sl es false=>zdA es
 |_=>none
def zdA:List (List V)->Option (List Am)
 | []=>some []
 | e::r=>match zf8 e,zdA r with
   |some t,some l=>some (t::l)
   |_,_=>none
def zf8:List V->Option Am
 | [.int .i64 q,.str c,.sl vs false,.int .i64 k,.int .i64 p,.str n,.int .i64 m,ks,as,.int .i64 tk,.str tn,.int .i64 ti,.int .i64 th,ta]=>match (zP vs:Option (List (List Nat))),zd2 ks,zd9 as,zde ta with
   |some v,some l,some a,some t=>some (.mk q c v (.mk k p n m l a (.mk tk tn ti th t)))
   |_,_,_,_=>none
 |_=>none
end
theorem zhM(l:List Ty):zde (.sl (l.map zl) false)=some l:=by
 unfold zde;rw[<- zg2];exact zfh l
theorem zhN{v:V}{l:List Ty}(h:zde v=some l):v=.sl (l.map zl) false:=by
 rw[zhI v l h,zg2]
mutual
theorem zjU:∀ x:Xp,zf6 (zI x)=some x
 |.mk k p n m l a t=>by simp[zI,zf6,zd2,zd9,zfg l,zfi a,zhM]
theorem zfg:∀ l:List Xp,zd3 (zbX l)=some l
 | []=>by simp[zbX,zd3]
 |t::l=>by simp[zbX,zd3,zjU t,zfg l]
theorem zjW:∀ x:Am,zf8 (zb6 x)=some x
 |.mk p c v (.mk k q n m l a t)=>by simp[zb6,zI,zf8,zd2,zd9,zfg l,zfi a,zhM]
theorem zfi:∀ l:List Am,zdA (zbZ l)=some l
 | []=>by simp[zbZ,zdA]
 |t::l=>by simp[zbZ,zdA,zjW t,zfi l]
end
mutual
theorem zg0:∀ (v:V) (l:List Xp),zd2 v=some l->v=.sl (zbX l) false
 | v,l,h=>by
   unfold zd2 at h;split at h
   . rename_i es;rw[zhG es l h]
   . cases h
theorem zhG:∀ (es:List (List V)) (l:List Xp),zd3 es=some l->es=zbX l
 | [],l,h=>by simp[zd3]at h;subst h;simp[zbX]
 | e :: r,l,h=>by
   unfold zd3 at h;split at h
   . rename_i t m h1 h2;cases h;rw[zjK e t h1,zhG r m h2];simp[zbX]
   . cases h
theorem zjK:∀ (c:List V) (x:Xp),zf6 c=some x->c=zI x
 | c,x,h=>by
   unfold zf6 at h;split at h
   . rename_i k p n m ks as tk tn ti th ta;split at h
     . rename_i l a t h1 h2 h3;cases h;rw[zg0 ks l h1,zg1 as a h2,zhN h3];simp[zI]
     . cases h
   . cases h
theorem zg1:∀ (v:V) (l:List Am),zd9 v=some l->v=.sl (zbZ l) false
 | v,l,h=>by
   unfold zd9 at h;split at h
   . rename_i es;rw[zhJ es l h]
   . cases h
theorem zhJ:∀ (es:List (List V)) (l:List Am),zdA es=some l->es=zbZ l
 | [],l,h=>by simp[zdA]at h;subst h;simp[zbZ]
 | e :: r,l,h=>by
   unfold zdA at h;split at h
   . rename_i t m h1 h2;cases h;rw[zjM e t h1,zhJ r m h2];simp[zbZ]
   . cases h
theorem zjM:∀ (c:List V) (x:Am),zf8 c=some x->c=zb6 x
 | c,x,h=>by
   unfold zf8 at h;split at h
   . rename_i q c vs k p n m ks as tk tn ti th ta;split at h
     . rename_i v l a t h0 h1 h2 h3;cases h;rw[zg0 ks l h1,zg1 as a h2,zhN h3,zan h0];simp[zb6,zI]
     . cases h
   . cases h
end
mutual
theorem zfc:∀ x:Xp,zV (zI x)=zI x
 |.mk k p n m l a t=>by simp[zI,zV,zaa,zei l,zej a]
theorem zei:∀ l:List Xp,zH (zbX l)=zbX l
 | []=>by simp[zbX,zH]
 |t::l=>by simp[zbX,zH,zfc t,zei l]
theorem zh4:∀ x:Am,zV (zb6 x)=zb6 x
 |.mk p c v (.mk k q n m l a t)=>by simp[zb6,zI,zV,zaa,zei l,zej a]
theorem zej:∀ l:List Am,zH (zbZ l)=zbZ l
 | []=>by simp[zbZ,zH]
 |t::l=>by simp[zbZ,zH,zh4 t,zej l]
end
instance:Cel Xp where
 cells:=zI
 dec:=zf6
 dec_enc:=zjU
 enc_dec:=zjK
 pure2 t:=by rw[zy];rfl
 norm:=zfc
instance:Enc Xp:=zc6
instance:Cel Am where
 cells:=zb6
 dec:=zf8
 dec_enc:=zjW
 enc_dec:=zjM
 pure2 t:=by rw[zg4];rfl
 norm:=zh4
instance:Enc Am:=zc6
theorem zjX:∀ es:List (List V),zd3 es=zP es:=by
 intro es
 induction es with
 |nil=>simp[zd3,zP]
 | cons e r ih =>
   simp only[zd3,zP,ih];rw[show (Cel.dec e:Option Xp)=zf6 e from rfl];cases zf6 e<;>cases(zP r:Option (List Xp))<;>rfl
theorem zkd:∀ es:List (List V),zdA es=zP es:=by
 intro es
 induction es with
 |nil=>simp[zdA,zP]
 | cons e r ih =>
   simp only[zdA,zP,ih];rw[show (Cel.dec e:Option Am)=zf8 e from rfl];cases zf8 e<;>cases(zP r:Option (List Am))<;>rfl
theorem z0v{k p m tk ti th:Int}{n tn:List Nat}{ks as ta:List (List V)}:zf6 [.int .i64 k,.int .i64 p,.str n,.int .i64 m,.sl ks false,.sl as false,.int .i64 tk,.str tn,.int .i64 ti,.int .i64 th,.sl ta false] =
 ob (zP ks) fun l=>ob (zP as) fun a=>ob (zP ta) fun t=>some (.mk k p n m l a (.mk tk tn ti th t)):=by
 simp only[zf6,zd2,zd9,zde,zjX,zkd,zg8];cases(zP ks:Option (List Xp))<;>cases(zP as:Option (List Am))<;>cases(zP ta:Option (List Ty))<;>rfl
theorem z00{q k p m tk ti th:Int}{c n tn:List Nat}{vs ks as ta:List (List V)}:zf8 [.int .i64 q,.str c,.sl vs false,.int .i64 k,.int .i64 p,.str n,.int .i64 m,.sl ks false,.sl as false,.int .i64 tk,.str tn,.int .i64 ti,.int .i64 th,.sl ta false] =
 ob (zP vs) fun v=>ob (zP ks) fun l=>ob (zP as) fun a=>ob (zP ta) fun t=>some (.mk q c v (.mk k p n m l a (.mk tk tn ti th t))):=by
 simp only[zf8,zd2,zd9,zde,zjX,zkd,zg8];cases(zP vs:Option (List (List Nat)))<;>cases(zP ks:Option (List Xp))<;>cases(zP as:Option (List Am))<;>cases(zP ta:Option (List Ty))<;>rfl
@[simp] theorem zAr:@Cel.cells Xp _=zI:=(rfl)
@[simp] theorem z6N:@Cel.dec Xp _=zf6:=(rfl)
@[simp] theorem zGS (a:Xp):enc a=.agg (zI a):=(rfl)
@[simp] theorem zGY {c:List V}:Enc.dec (α:=Xp) (.agg c)=zf6 c:=(rfl)
@[simp] theorem zDs (l:List Xp):zP (l.map zI)=some l:=zam l
@[simp] theorem zzr (l:List Xp):zH (l.map zI)=l.map zI:=zT l
@[simp] theorem zsy (l:List Xp):((l.map zI).all fun e=>e.all V.pure2)=true:=zK l
@[simp] theorem zDf (l:List Xp):enc l=.sl (l.map zI) false:=(rfl)
@[simp] theorem zDn {es:List (List V)}:Enc.dec (α:=List Xp) (.sl es false)=zP es:=(rfl)
@[simp] theorem zHF (l:List Xp):sizes 11 (l.map zI)=true:=by rw[sizes_eq];intro e he;obtain⟨a,_,rfl⟩:=List.mem_map.1 he;rw[zy];rfl
@[simp] theorem zIx (l:List Xp):zL (l.map zI)=true:=zB zsy
@[simp] theorem zAu:@Cel.cells Am _=zb6:=(rfl)
@[simp] theorem z6Q:@Cel.dec Am _=zf8:=(rfl)
@[simp] theorem zGX (a:Am):enc a=.agg (zb6 a):=(rfl)
@[simp] theorem zHb {c:List V}:Enc.dec (α:=Am) (.agg c)=zf8 c:=(rfl)
@[simp] theorem zDu (l:List Am):zP (l.map zb6)=some l:=zam l
@[simp] theorem zBQ (l:List Am):zH (l.map zb6)=l.map zb6:=zT l
@[simp] theorem zs2 (l:List Am):((l.map zb6).all fun e=>e.all V.pure2)=true:=zK l
@[simp] theorem zDi (l:List Am):enc l=.sl (l.map zb6) false:=(rfl)
@[simp] theorem zDq {es:List (List V)}:Enc.dec (α:=List Am) (.sl es false)=zP es:=(rfl)
@[simp] theorem zHI (l:List Am):sizes 14 (l.map zb6)=true:=by rw[sizes_eq];intro e he;obtain⟨a,_,rfl⟩:=List.mem_map.1 he;rw[zg4];rfl
@[simp] theorem zI0 (l:List Am):zL (l.map zb6)=true:=zB zs2
attribute [simp] z0v zy z00 zg4
end Go.J
/- Terms of the shape of normal terms that a tape makes. -/
namespace Go.J
open Enc (enc)
def zgZ(n:List Nat):Xp:=.mk 1 0 n 0 [] [] ty0
def zmg(n:List Nat):Xp:=.mk 2 0 n 0 [] [] ty0
def znn(n:List Nat)(b:Xp):Xp:=.mk 4 0 n 0 [b] [] ty0
def zno(f a:Xp):Xp:=.mk 5 0 [] 0 [f,a] [] ty0
def zdj(e:Xp)(l:List Am):Xp:=.mk 8 0 [] 0 [e] l ty0
def zi7(j:Nat):List Nat:=([[115],[116],[117],[118]][j % 4]?).getD []
def zaR(n:Nat):List (List Nat):=(List.range n).map zi7
theorem zkk(n:Nat):zaR (n+1)=zaR n++[zi7 n]:=by simp[zaR,List.range_succ]
@[simp] theorem zgU (n:Nat):(zaR n).length=n:=by simp[zaR]
def zaQ{α:Type}(z:α)(l:List α)(i:Int):α:=(l[i.toNat]?).getD z
def zcY:Decl:=⟨0,[],[],[]⟩
def zi2:Ctor:=⟨0,[],[]⟩
mutual
def zau:Nat->Tp->List Decl->List (List Nat)->Tp×Xp
 | 0,t,D,N=>headM 0 (t.next 8).1 D N
 | d + 1,t,D,N =>
   let k:=(t.next 8).2
   let t1:=(t.next 8).1
   if k<2 then
    let r:=zau d t1 D (N++[[119]])
    (r.1,znn [119] r.2)
   else if k=2/\D≠[]/\N≠[]then
    let a:=t1.next D.length
    let dd:=zaQ zcY D a.2
    let b:=a.1.next N.length
    let r:=zbW d b.1 D N dd.ctors dd.ctors.length
    (r.1,zdj (zgZ (zaQ [] N b.2)) r.2)
   else headM (d+1) t1 D N
 termination_by d=>(d,2,0)
def zbW (d:Nat) (t:Tp) (D:List Decl) (N:List (List Nat)) (cs:List Ctor):Nat->Tp×List Am
 | 0=>(t,[])
 | i+1 =>
   let p:=zbW d t D N cs i
   let c:=(cs[i]?).getD zi2
   let r:=zau d p.1 D (N++zaR c.fields.length)
   (r.1,p.2++[.mk 0 c.name (zaR c.fields.length) r.2])
 termination_by i=>(d,3,i)
def headM (d:Nat) (t:Tp) (D:List Decl) (N:List (List Nat)):Tp×Xp :=
 let p:=if N≠[]then ((t.next N.length).1,zgZ (zaQ [] N (t.next N.length).2))else (t,zgZ [120])
 let q := if D≠[]then
     (if (p.1.next 2).2=0 then
       let a:=(p.1.next 2).1.next D.length
       let dd:=zaQ zcY D a.2
       let b:=a.1.next dd.ctors.length
       (b.1,zmg (zaQ zi2 dd.ctors b.2).name)
     else ((p.1.next 2).1,p.2))
  else p
 match d with
 | 0=>((q.1.next 3).1,q.2)
 |d+1=>zcy d (q.1.next 3).1 D N q.2 (q.1.next 3).2.toNat
 termination_by (d,1,0)
def zcy (d:Nat) (t:Tp) (D:List Decl) (N:List (List Nat)) (e:Xp):Nat->Tp×Xp
 | 0=>(t,e)
 | i+1 =>
   let p:=zcy d t D N e i
   let r:=zau d p.1 D N
   (r.1,zno p.2 r.2)
 termination_by i=>(d,3,i)
end
def zrx(D:List Decl):Prop:=DOk D/\∀ d∈D,d.ctors≠[]/\d.ctors.length<=100/\∀ c∈d.ctors,c.fields.length<=100
theorem zgH(bits:Int):zrx (zO bits):=by
 refine⟨zmO bits,fun d hd=>?_⟩;have key:∀ d∈allD,d.ctors≠[]/\d.ctors.length<=100/\∀ c∈d.ctors,c.fields.length<=100:=by decide
 exact key d (zel hd)
section
variable {D:List Decl}
theorem zi6{d:Nat}(ih:∀ (t:Tp) (N:List (List Nat)),t.ok->(zau d t D N).1.ok){t:Tp}(h:t.ok)(N:List (List Nat))(cs:List Ctor)(i:Nat):(zbW d t D N cs i).1.ok/\(zbW d t D N cs i).2.length=i:=by
 induction i with
 |zero=>rw[zbW];exact⟨h,rfl⟩
 | succ i ihi =>
   rw[zbW];exact⟨ih _ _ ihi.1,by simp[ihi.2]⟩
theorem zmd{d:Nat}(ih:∀ (t:Tp) (N:List (List Nat)),t.ok->(zau d t D N).1.ok){t:Tp}(h:t.ok)(N:List (List Nat))(e:Xp)(i:Nat):(zcy d t D N e i).1.ok:=by
 induction i with
 |zero=>rw[zcy];exact h
 |succ i ihi=>rw[zcy];exact ih _ _ ihi
theorem zlJ{d:Nat}(ih:∀ d',d=d'+1->∀ (t:Tp) (N:List (List Nat)),t.ok->(zau d' t D N).1.ok){t:Tp}(h:t.ok)(N:List (List Nat)):(headM d t D N).1.ok:=by
 rw[headM.eq_def]
 have h1:(if N≠[]then ((t.next N.length).1,zgZ (zaQ [] N (t.next N.length).2))else (t,zgZ [120])).1.ok:=by
  split
  . exact zn h _
  . exact h
 dsimp only;generalize (if N≠[]then ((t.next N.length).1,zgZ (zaQ [] N (t.next N.length).2))else (t,zgZ [120]))=p at h1
 have h2:(if D≠[]then (if (p.1.next 2).2=0 then ((((p.1.next 2).1.next D.length).1.next (zaQ zcY D ((p.1.next 2).1.next D.length).2).ctors.length).1,zmg (zaQ zi2 (zaQ zcY D ((p.1.next 2).1.next D.length).2).ctors (((p.1.next 2).1.next D.length).1.next (zaQ zcY D ((p.1.next 2).1.next D.length).2).ctors.length).2).name)else ((p.1.next 2).1,p.2))else p).1.ok:=by
  split
  . split
    . exact zn (zn (zn h1 _) _) _
    . exact zn h1 _
  . exact h1
 generalize (if D≠[]then (if (p.1.next 2).2=0 then ((((p.1.next 2).1.next D.length).1.next (zaQ zcY D ((p.1.next 2).1.next D.length).2).ctors.length).1,zmg (zaQ zi2 (zaQ zcY D ((p.1.next 2).1.next D.length).2).ctors (((p.1.next 2).1.next D.length).1.next (zaQ zcY D ((p.1.next 2).1.next D.length).2).ctors.length).2).name)else ((p.1.next 2).1,p.2))else p)=q at h2
 cases d with
 |zero=>exact zn h2 3
 |succ d=>exact zmd (ih d rfl) (zn h2 3) N _ _
theorem zhY:∀ (d:Nat) (t:Tp) (N:List (List Nat)),t.ok->(zau d t D N).1.ok:=by
 intro d
 induction d with
 | zero =>
   intro t N h;rw[zau];exact zlJ (fun d' h=>by omega) (zn h 8) N
 | succ d ih =>
   intro t N h;rw[zau];dsimp only;split
   . exact ih _ _ (zn h 8)
   . split
     . exact(zi6 ih (zn (zn (zn h 8) _) _) N _ _).1
     . exact zlJ (fun d' h=>by cases h;exact ih) (zn h 8) N
end
end Go.J
/- Types whose leaves are replaced. -/
namespace Go.J
open Enc (enc)
mutual
def Ty.reb(g:Ty->Ty):Ty->Ty
 |.mk k n i h []=>g (.mk k n i h [])
 |.mk k n i h (t::l)=>.mk k n i h (Ty.reb g t::Ty.rebs g l)
def Ty.rebs(g:Ty->Ty):List Ty->List Ty
 | []=>[]
 |t::l=>Ty.reb g t::Ty.rebs g l
end
abbrev zTy:List V:=[.int .i64 0,.str [],.int .i64 0,.int .i64 0,.snil]
def zox(l:List Ty)(n i:Nat):List (List V):=(l.take i).map zl++List.replicate (n-i) zTy
theorem zj5{l:List Ty}{n i:Nat}{e:List V}(h:e∈zox l n i):e.length=5/\e.all V.pure2=true:=by
 unfold zox at h;rcases List.mem_append.1 h with h|h
 . obtain⟨t,_,rfl⟩:=List.mem_map.1 h;obtain⟨k,n,i,hh,l⟩:=t;exact⟨by rw[zl];rfl,by rw[zl];rfl⟩
 . obtain⟨_,rfl⟩:=List.mem_replicate.1 h;exact⟨rfl,rfl⟩
@[simp] theorem z2s {l:List Ty} {n i:Nat}:((zox l n i).all fun e=>e.all V.pure2)=true:=List.all_eq_true.2 fun e he=>(zj5 he).2
@[simp] theorem z5I {l:List Ty} {n i:Nat} {π:Nat->Nat}:((zox l n i).map fun e=>e.map (V.ren2 π))=zox l n i:=zgj fun x hx v hv=>V.ren2_pure (List.all_eq_true.1 (zj5 hx).2 v hv)
end Go.J
/- Replacing the leaves of a type is replacing its variables. -/
namespace Go.J
open Enc (enc)
mutual
def Ty.leafy:Ty->Bool
 |.mk k _ _ _ l=>(decide (k≠1)||decide (l.length=0))&&Ty.leafys l
def Ty.leafys:List Ty->Bool
 | []=>true
 |t::l=>Ty.leafy t&&Ty.leafys l
end
mutual
theorem zl7(s:List Assign):∀ t:Ty,t.leafy=true->t.reb (fun t=>if t.kind=1 then (zdQ s t.id).getD t else t)=t.repl s
 | .mk k n i h [],_=>by
   rw[Ty.reb,zk7];simp only[Ty.kind_mk,Ty.id_mk,Ty.args_mk,Ty.name_mk,Ty.home_mk,List.map_nil]
 | .mk k n i h (t::l),hl=>by
   rw[Ty.leafy]at hl;simp only[Bool.and_eq_true,Bool.or_eq_true,decide_eq_true_eq]at hl
   have hk:k≠1:=by
    rcases hl.1 with h|h
    . exact h
    . simp at h
   have hl2:=hl.2;rw[Ty.leafys,Bool.and_eq_true]at hl2;rw[Ty.reb,zl7 s t hl2.1,zhw s l hl2.2,zk7 s (.mk k n i h (t::l))];simp only[Ty.kind_mk,if_neg hk,Ty.id_mk,Ty.args_mk,Ty.name_mk,Ty.home_mk,List.map_cons];rw[zl6]
theorem zhw(s:List Assign):∀ l:List Ty,Ty.leafys l=true->Ty.rebs (fun t=>if t.kind=1 then (zdQ s t.id).getD t else t) l=Ty.repls s l
 | [],_=>by rw[Ty.rebs,Ty.repls]
 | t::l,hl=>by
   rw[Ty.leafys,Bool.and_eq_true]at hl;rw[Ty.rebs,Ty.repls,zl7 s t hl.1,zhw s l hl.2]
end
end Go.J
/- Type variables in the order in which they are met;numbering them. -/
namespace Go.J
open Enc (enc)
def zcZ(out:List Int)(t:Ty):List Int:=if t.kind=1/\t.id ∉ out then out++[t.id]else out
mutual
def ztj:Ty->List Int->List Int
 |.mk k n i h l,out=>zgL l (zcZ out (.mk k n i h l))
def zgL:List Ty->List Int->List Int
 | [],out=>out
 |t::l,out=>zgL l (ztj t out)
end
theorem zlb(out:List Int)(t:Ty):∃ m,zcZ out t=out++m/\m.length<=1:=by
 unfold zcZ;split
 . exact⟨_,rfl,Nat.le_refl _⟩
 . exact⟨[],by simp,by simp⟩
mutual
theorem zti:∀ (t:Ty) (out:List Int),∃ m,ztj t out=out++m/\m.length<=t.size
 | .mk k n i h l,out=>by
   obtain⟨a,ha,ha2⟩:=zlb out (.mk k n i h l);obtain⟨b,hb,hb2⟩:=zke l (zcZ out (.mk k n i h l));have:=Ty.size_eq (.mk k n i h l);exact⟨a++b,by rw[ztj,hb,ha,List.append_assoc],by rw[List.length_append];simp only[Ty.args_mk]at this;omega⟩
theorem zke:∀ (l:List Ty) (out:List Int),∃ m,zgL l out=out++m/\m.length<=Ty.sizes l
 | [],out=>⟨[],by simp[zgL],by simp⟩
 | t::l,out=>by
   obtain⟨a,ha,ha2⟩:=zti t out;obtain⟨b,hb,hb2⟩:=zke l (ztj t out);refine⟨a++b,by rw[zgL,hb,ha,List.append_assoc],?_⟩;rw[List.length_append];simp only[Ty.sizes];omega
end
theorem zi4{out:List Int}{t:Ty}(h:out.Nodup):(zcZ out t).Nodup:=by
 unfold zcZ;split
 . rename_i hh;rw[List.nodup_append];exact⟨h,List.nodup_cons.2 ⟨by simp,List.nodup_nil⟩,fun a ha b hb e=>by rw[List.mem_singleton]at hb;subst hb;subst e;exact hh.2 ha⟩
 . exact h
mutual
theorem zmR:∀ (t:Ty) {out:List Int},out.Nodup->(ztj t out).Nodup
 |.mk k n i h l,out,ho=>by rw[ztj];exact zgK l (zi4 ho)
theorem zgK:∀ (l:List Ty) {out:List Int},out.Nodup->(zgL l out).Nodup
 | [],out,ho=>by rw[zgL];exact ho
 |t::l,out,ho=>by rw[zgL];exact zgK l (zmR t ho)
end
theorem zj0{t:Ty}{out:List Ty}(hk:t.kind=1):zcu (if t∈out then out else out++[t])=zcZ (zcu out) t:=by
 have hsub:∀ (a:Ty) (o:List Int) (y:Int),y∈o->y∈zdm o a:=by
  intro a o y hy;unfold zdm;split
  . exact hy
  . exact List.mem_append.2 (.inl hy)
 have hself:∀ (a:Ty) (o:List Int),a.id∈zdm o a:=by
  intro a o;unfold zdm;split
  . assumption
  . simp
 have key:∀ (l:List Ty) (o:List Int),(∀ y∈o,y∈l.foldl zdm o)/\∀ x∈l,x.id∈l.foldl zdm o:=by
  intro l
  induction l with
  |nil=>intro o;exact⟨fun y hy=>hy,fun x hx=>by cases hx⟩
  | cons a l ih =>
    intro o;obtain⟨h1,h2⟩:=ih (zdm o a);refine⟨fun y hy=>h1 y (hsub a o y hy),fun x hx=>?_⟩;rcases List.mem_cons.1 hx with rfl|hx
    . exact h1 _ (hself x o)
    . exact h2 x hx
 have hmem:∀ l:List Ty,∀ x∈l,x.id∈zcu l:=fun l=>(key l []).2
 unfold zcZ;by_cases ht:t∈out
 . rw[if_pos ht,if_neg (fun h=>h.2 (hmem out t ht))]
 . rw[if_neg ht,zh9];unfold zdm;by_cases hi:t.id∈zcu out
   . rw[if_pos hi,if_neg (fun h=>h.2 hi)]
   . rw[if_neg hi,if_pos ⟨hk,hi⟩]
mutual
theorem zmB:∀ (t:Ty),t.leafy=true->∀ out,zcu (zai 1 t out)=ztj t (zcu out)
 | .mk k n i h l,hl,out=>by
   rw[Ty.leafy]at hl;simp only[Bool.and_eq_true,Bool.or_eq_true,decide_eq_true_eq]at hl;by_cases hk:k=1
   . have h0:l=[]:=by
      rcases hl.1 with h|h
      . exact absurd hk h
      . exact List.eq_nil_of_length_eq_zero h
     subst h0;rw[zck,if_pos ⟨hk,rfl⟩,zj0 (t:=.mk k n i h []) hk,ztj];rfl
   . rw[zck,if_neg (fun hh=>hk hh.1),ztj];have:zcZ (zcu out) (.mk k n i h l)=zcu out:=if_neg (fun hh=>hk hh.1);rw[this];exact zfs l hl.2 out
theorem zfs:∀ (l:List Ty),Ty.leafys l=true->∀ out,zcu (zx 1 l out)=zgL l (zcu out)
 | [],_,out=>by rw[zx,zgL]
 | t::l,hl,out=>by
   rw[Ty.leafys,Bool.and_eq_true]at hl;rw[zx,zgL,zfs l hl.2,zmB t hl.1]
end
end Go.J
/- Numbering type variables twice is numbering them once. Sizes of types that a tape makes. -/
namespace Go.J
open Enc (enc)
mutual
def Ty.vplain:Ty->Bool
 |.mk k n _ h l=>(decide (k≠1)||(decide (n=[])&&decide (h=0)&&decide (l.length=0)))&&Ty.vplains l
def Ty.vplains:List Ty->Bool
 | []=>true
 |t::l=>Ty.vplain t&&Ty.vplains l
end
mutual
theorem ziF:∀ t:Ty,t.vplain=true->t.leafy=true
 | .mk k n i h l,hp=>by
   rw[Ty.vplain]at hp;simp only[Bool.and_eq_true,Bool.or_eq_true,decide_eq_true_eq]at hp;rw[Ty.leafy];simp only[Bool.and_eq_true,Bool.or_eq_true,decide_eq_true_eq];exact⟨hp.1.imp (fun h=>h) (fun h=>h.2),zdS l hp.2⟩
theorem zdS:∀ l:List Ty,Ty.vplains l=true->Ty.leafys l=true
 | [],_=>by rw[Ty.leafys]
 | t::l,hp=>by
   rw[Ty.vplains,Bool.and_eq_true]at hp;rw[Ty.leafys,ziF t hp.1,zdS l hp.2];rfl
end
def ztX(n:Nat):List Int:=(List.range n).map fun i=>((i:Nat):Int)
@[simp] theorem z14 (n:Nat):(ztX n).length=n:=by simp[ztX]
section
variable {ids:List Int}(hn:ids.Nodup)
include hn
end
end Go.J
/- Sizes of types that a tape makes. -/
namespace Go.J
open Enc (enc)
theorem zsh{l:List Ty}{b:Nat}(h:∀ t∈l,t.size<=b):Ty.sizes l<=l.length*b:=by
 induction l with
 |nil=>simp[Ty.sizes]
 | cons t l ih =>
   have h1:=h t (List.mem_cons_self ..);have h2:=ih fun t ht=>h t (List.mem_cons_of_mem _ ht)
   simp only[Ty.sizes,List.length_cons,Nat.succ_mul];omega
def z1a(D:List Decl):Prop:=∀ d∈D,d.params.length<=2
theorem zgG(bits:Int):z1a (zO bits):=by
 intro d hd;have key:∀ d∈allD,d.params.length<=2:=by decide
 exact key d (zel hd)
theorem zmk {D:List Decl} {Lv:List Ty} (hD:z1a D) (hl:∀ l∈Lv,l.size<=1):∀ (d:Nat) (t:Tp),(typeM d t D Lv).2.size+1<=2 ^ (d+1):=by
 have hint:tInt.size=1:=by decide
 intro d
 induction d with
 | zero =>
   intro t;rw[typeM]
   try dsimp only
   split
   . rename_i h;obtain⟨j,hj,_,h2⟩:=zc2 (t.next 7).1 h.2;rw[h2];have:=hl _ (List.getElem_mem hj);rw[Option.getD_some];dsimp only;omega
   . split<;>(rw[hint];exact Nat.le_refl _)
 | succ d ih =>
   intro t;have hp:2 ^ (d+1+1)=2*2 ^ (d+1):=by rw[Nat.pow_succ 2 (d+1)];omega
   have hpos:2<=2 ^ (d+1):=by rw[Nat.pow_succ];have:=Nat.two_pow_pos d;omega
   rw[typeM]
   try dsimp only
   split
   . rename_i h;obtain⟨j,hj,_,h2⟩:=zc2 (t.next 7).1 h.2;rw[h2];have:=hl _ (List.getElem_mem hj);rw[Option.getD_some];dsimp only;omega
   . split
     . rw[hint];omega
     . split
       . rename_i h;obtain⟨j,hj,_,h2⟩:=zc2 (t.next 7).1 h.2;rw[h2];have hpar:=hD _ (List.getElem_mem hj);rw[Option.getD_some]
         have hargs:∀ (q:Tp) (n:Nat) (x:Ty),x∈(zbR d q D Lv n).2->x.size+1<=2 ^ (d+1):=by
          intro q n
          induction n with
          |zero=>intro x hx;rw[zbR]at hx;cases hx
          | succ n ihn =>
            intro x hx;rw[zbR]at hx;rcases List.mem_append.1 hx with hx|hx
            . exact ihn x hx
            . rw[List.mem_singleton.1 hx];exact ih _
         have hs:=zsh (l:=(zbR d ((t.next 7).1.next (D.length:Int)).1 D Lv D[j].params.length).2) (b:=2 ^ (d+1)-1) fun x hx=>by have:=hargs _ _ x hx;omega
         rw[zeN]at hs;rw[Ty.size_eq];have hm:D[j].params.length*(2 ^ (d+1)-1)<=2*(2 ^ (d+1)-1):=Nat.mul_le_mul_right _ hpar;show Ty.sizes (zbR d ((t.next 7).1.next (D.length:Int)).1 D Lv D[j].params.length).2+1+1<=_;omega
       . rw[Ty.size_eq];simp only[zdU,zhZ,Ty.args_mk,Ty.sizes];have h1:=ih (t.next 7).1;have h2:=ih (typeM d (t.next 7).1 D Lv).1;omega
theorem zmj{D:List Decl}{Lv:List Ty}(hD:z1a D)(hl:∀ l∈Lv,l.ok=true)(d:Nat)(t:Tp):(typeM d t D Lv).2.ok=true :=
 znr (P:=fun t=>t.ok=true) hl (by decide) (fun dd hdd l hlen hx=>Ty.ok_iff.2 ⟨by have:=hD dd hdd;simp[zhZ,hlen];omega,hx⟩)
  (fun a b h1 h2=>Ty.ok_iff.2 ⟨by simp[zdU,zhZ],fun x hx=>by
    simp only[zdU,zhZ,Ty.args_mk,List.mem_cons,List.not_mem_nil,or_false]at hx
    rcases hx with rfl|rfl<;>assumption⟩) d t
end Go.J
