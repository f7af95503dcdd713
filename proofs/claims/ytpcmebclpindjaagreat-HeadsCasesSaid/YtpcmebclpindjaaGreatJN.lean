import Derived.Test.YtpcmebclpindjaaGreatJL
import Derived.Test.YtpcmebclpindjaaGreatJK
set_option linter.all false
noncomputable section
/- Contexts that a tape makes. -/
namespace Go.J
open Enc (enc)
def mono(t:Ty):Scheme:=⟨0,t⟩
def zk1:List (List Nat):=[[120],[121],[122],[102],[103],[118,49],[118,50],[105,100]]
def zfp(t:Tp):List Nat:=(zk1[(t.next 8).2.toNat]?).getD []
def zbx:List Int->List Int->List Assign->List Assign
 | [],_,s=>s
 |v::l,ids,s=>zbx l ids (if v∈ids then s++[⟨v,zeK s.length⟩]else s)
theorem zlV(l m ids:List Int)(s:List Assign):zbx (l++m) ids s=zbx m ids (zbx l ids s):=by
 induction l generalizing s with
 |nil=>rfl
 |cons v l ih=>simp only[List.cons_append,zbx,ih]
theorem zhp(l ids:List Int)(s:List Assign):s.length<=(zbx l ids s).length/\(zbx l ids s).length<=s.length+l.length:=by
 induction l generalizing s with
 |nil=>exact⟨Nat.le_refl _,Nat.le_refl _⟩
 | cons v l ih =>
   simp only[zbx,List.length_cons];by_cases hv:v∈ids
   . rw[if_pos hv];have:=ih (s++[⟨v,zeK s.length⟩]);rw[List.length_append,List.length_singleton]at this;omega
   . rw[if_neg hv];have:=ih s;omega
def zlb(t:Ty)(ids:List Int):Scheme :=
 let s:=zbx (zib [t]) ids []
 ⟨s.length,t.repl s⟩
end Go.J
/- Expressions as values of the evaluator. -/
namespace Go.J
open Enc (enc)
mutual
inductive Xp where
 |mk (kind pos:Int) (name:List Nat) (num:Int) (kids:List Xp) (arms:List Am) (type:Ty)
inductive Am where
 |mk (pos:Int) (con:List Nat) (vars:List (List Nat)) (body:Xp)
end
namespace Xp
def kind:Xp->Int|.mk k _ _ _ _ _ _=>k
def pos:Xp->Int|.mk _ p _ _ _ _ _=>p
def name:Xp->List Nat|.mk _ _ n _ _ _ _=>n
def num:Xp->Int|.mk _ _ _ m _ _ _=>m
def kids:Xp->List Xp|.mk _ _ _ _ l _ _=>l
def arms:Xp->List Am|.mk _ _ _ _ _ l _=>l
def type:Xp->Ty|.mk _ _ _ _ _ _ t=>t
section
variable {k p m:Int}{n:List Nat}{l:List Xp}{a:List Am}{t:Ty}
@[simp] theorem kind_mk:(mk k p n m l a t).kind=k:=(rfl)
@[simp] theorem z0Y:(mk k p n m l a t).pos=p:=(rfl)
@[simp] theorem name_mk:(mk k p n m l a t).name=n:=(rfl)
@[simp] theorem zBb:(mk k p n m l a t).num=m:=(rfl)
@[simp] theorem z8H:(mk k p n m l a t).kids=l:=(rfl)
@[simp] theorem zAe:(mk k p n m l a t).arms=a:=(rfl)
@[simp] theorem z7E:(mk k p n m l a t).type=t:=(rfl)
@[simp] theorem eta (x:Xp):mk x.kind x.pos x.name x.num x.kids x.arms x.type=x:=by cases x;rfl
end
end Xp
namespace Am
def pos:Am->Int|.mk p _ _ _=>p
def con:Am->List Nat|.mk _ c _ _=>c
def vars:Am->List (List Nat)|.mk _ _ v _=>v
def body:Am->Xp|.mk _ _ _ b=>b
section
variable {p:Int}{c:List Nat}{v:List (List Nat)}{b:Xp}
@[simp] theorem z0Y:(mk p c v b).pos=p:=(rfl)
@[simp] theorem zDi:(mk p c v b).con=c:=(rfl)
@[simp] theorem z7x:(mk p c v b).vars=v:=(rfl)
@[simp] theorem z9W:(mk p c v b).body=b:=(rfl)
@[simp] theorem eta (x:Am):mk x.pos x.con x.vars x.body=x:=by cases x;rfl
end
end Am
mutual
def zb4:Xp->List V
 |.mk k p n m l a t=>[.int .i64 k,.int .i64 p,.str n,.int .i64 m,.sl (zbM l) false,.sl (zbO a) false,.int .i64 t.kind,.str t.name,.int .i64 t.id,.int .i64 t.home,.sl (t.args.map zh) false]
def zbM:List Xp->List (List V)
 | []=>[]
 |x::l=>zb4 x::zbM l
def zcj:Am->List V
 |.mk p c v b=>.int .i64 p::.str c::.sl (v.map encS) false::zb4 b
def zbO:List Am->List (List V)
 | []=>[]
 |x::l=>zcj x::zbO l
end
theorem zos(l:List Xp):zbM l=l.map zb4:=by
 induction l with
 |nil=>simp[zbM]
 |cons t l ih=>simp[zbM,ih]
theorem zot(l:List Am):zbO l=l.map zcj:=by
 induction l with
 |nil=>simp[zbO]
 |cons t l ih=>simp[zbO,ih]
theorem zhM(x:Xp):zb4 x=[.int .i64 x.kind,.int .i64 x.pos,.str x.name,.int .i64 x.num,.sl (x.kids.map zb4) false,.sl (x.arms.map zcj) false,.int .i64 x.type.kind,.str x.type.name,.int .i64 x.type.id,.int .i64 x.type.home,.sl (x.type.args.map zh) false]:=by
 cases x;simp[zb4,zos,zot]
theorem zka(x:Am):zcj x=[.int .i64 x.pos,.str x.con,.sl (x.vars.map encS) false,.int .i64 x.body.kind,.int .i64 x.body.pos,.str x.body.name,.int .i64 x.body.num,.sl (x.body.kids.map zb4) false,.sl (x.body.arms.map zcj) false,
 .int .i64 x.body.type.kind,.str x.body.type.name,.int .i64 x.body.type.id,.int .i64 x.body.type.home,.sl (x.body.type.args.map zh) false]:=by
 cases x;simp[zcj,zhM]
mutual
def zdn:V->Option (List Xp)
 |.sl es false=>zdo es
 |_=>none
def zdo:List (List V)->Option (List Xp)
 | []=>some []
 | e::r=>match zfd e,zdo r with
   |some t,some l=>some (t::l)
   |_,_=>none
def zfd:List V->Option Xp
 | [.int .i64 k,.int .i64 p,.str n,.int .i64 m,ks,as,.int .i64 tk,.str tn,.int .i64 ti,.int .i64 th,ta]=>match zdn ks,zdu as,zcP ta with
   |some l,some a,some t=>some (.mk k p n m l a (.mk tk tn ti th t))
   |_,_,_=>none
 |_=>none
def zdu:V->Option (List Am)
 |.sl es false=>zdv es
 |_=>none
def zdv:List (List V)->Option (List Am)
 | []=>some []
 | e::r=>match zff e,zdv r with
   |some t,some l=>some (t::l)
   |_,_=>none
def zff:List V->Option Am
 | [.int .i64 q,.str c,.sl vs false,.int .i64 k,.int .i64 p,.str n,.int .i64 m,ks,as,.int .i64 tk,.str tn,.int .i64 ti,.int .i64 th,ta]=>match (zI vs:Option (List (List Nat))),zdn ks,zdu as,zcP ta with
   |some v,some l,some a,some t=>some (.mk q c v (.mk k p n m l a (.mk tk tn ti th t)))
   |_,_,_,_=>none
 |_=>none
end
theorem zhl(l:List Ty):zcP (.sl (l.map zh) false)=some l:=by
 unfold zcP;rw[<- zfY];exact zeG l
theorem zhm{v:V}{l:List Ty}(h:zcP v=some l):v=.sl (l.map zh) false:=by
 rw[zhh v l h,zfY]
mutual
theorem zjl:∀ x:Xp,zfd (zb4 x)=some x
 |.mk k p n m l a t=>by simp[zb4,zfd,zdn,zdu,zeF l,zeH a,zhl]
theorem zeF:∀ l:List Xp,zdo (zbM l)=some l
 | []=>by simp[zbM,zdo]
 |t::l=>by simp[zbM,zdo,zjl t,zeF l]
theorem zjn:∀ x:Am,zff (zcj x)=some x
 |.mk p c v (.mk k q n m l a t)=>by simp[zcj,zb4,zff,zdn,zdu,zeF l,zeH a,zhl]
theorem zeH:∀ l:List Am,zdv (zbO l)=some l
 | []=>by simp[zbO,zdv]
 |t::l=>by simp[zbO,zdv,zjn t,zeH l]
end
mutual
theorem zfW:∀ (v:V) (l:List Xp),zdn v=some l->v=.sl (zbM l) false
 | v,l,h=>by
   unfold zdn at h;split at h
   . rename_i es;rw[zhf es l h]
   . cases h
theorem zhf:∀ (es:List (List V)) (l:List Xp),zdo es=some l->es=zbM l
 | [],l,h=>by simp[zdo]at h;subst h;simp[zbM]
 | e :: r,l,h=>by
   unfold zdo at h;split at h
   . rename_i t m h1 h2;cases h;rw[zja e t h1,zhf r m h2];simp[zbM]
   . cases h
theorem zja:∀ (c:List V) (x:Xp),zfd c=some x->c=zb4 x
 | c,x,h=>by
   unfold zfd at h;split at h
   . rename_i k p n m ks as tk tn ti th ta;split at h
     . rename_i l a t h1 h2 h3;cases h;rw[zfW ks l h1,zfX as a h2,zhm h3];simp[zb4]
     . cases h
   . cases h
theorem zfX:∀ (v:V) (l:List Am),zdu v=some l->v=.sl (zbO l) false
 | v,l,h=>by
   unfold zdu at h;split at h
   . rename_i es;rw[zhi es l h]
   . cases h
theorem zhi:∀ (es:List (List V)) (l:List Am),zdv es=some l->es=zbO l
 | [],l,h=>by simp[zdv]at h;subst h;simp[zbO]
 | e :: r,l,h=>by
   unfold zdv at h;split at h
   . rename_i t m h1 h2;cases h;rw[zjc e t h1,zhi r m h2];simp[zbO]
   . cases h
theorem zjc:∀ (c:List V) (x:Am),zff c=some x->c=zcj x
 | c,x,h=>by
   unfold zff at h;split at h
   . rename_i q c vs k p n m ks as tk tn ti th ta;split at h
     . rename_i v l a t h0 h1 h2 h3;cases h;rw[zfW ks l h1,zfX as a h2,zhm h3,zai h0];simp[zcj,zb4]
     . cases h
   . cases h
end
mutual
theorem zgS:∀ x:Xp,zO (zb4 x)=zb4 x
 |.mk k p n m l a t=>by simp[zb4,zO,zU,zdL l,zdM a]
theorem zdL:∀ l:List Xp,zL (zbM l)=zbM l
 | []=>by simp[zbM,zL]
 |t::l=>by simp[zbM,zL,zgS t,zdL l]
theorem zgU:∀ x:Am,zO (zcj x)=zcj x
 |.mk p c v (.mk k q n m l a t)=>by simp[zcj,zb4,zO,zU,zdL l,zdM a]
theorem zdM:∀ l:List Am,zL (zbO l)=zbO l
 | []=>by simp[zbO,zL]
 |t::l=>by simp[zbO,zL,zgU t,zdM l]
end
instance:Cel Xp where
 cells:=zb4
 dec:=zfd
 dec_enc:=zjl
 enc_dec:=zja
 pure2 t:=by rw[zhM];rfl
 norm:=zgS
instance:Enc Xp:=zcv
instance:Cel Am where
 cells:=zcj
 dec:=zff
 dec_enc:=zjn
 enc_dec:=zjc
 pure2 t:=by rw[zka];rfl
 norm:=zgU
instance:Enc Am:=zcv
theorem zjo:∀ es:List (List V),zdo es=zI es:=by
 intro es
 induction es with
 |nil=>simp[zdo,zI]
 | cons e r ih =>
   simp only[zdo,zI,ih];rw[show (Cel.dec e:Option Xp)=zfd e from rfl];cases zfd e<;>cases(zI r:Option (List Xp))<;>rfl
theorem zjv:∀ es:List (List V),zdv es=zI es:=by
 intro es
 induction es with
 |nil=>simp[zdv,zI]
 | cons e r ih =>
   simp only[zdv,zI,ih];rw[show (Cel.dec e:Option Am)=zff e from rfl];cases zff e<;>cases(zI r:Option (List Am))<;>rfl
theorem zxz{k p m tk ti th:Int}{n tn:List Nat}{ks as ta:List (List V)}:zfd [.int .i64 k,.int .i64 p,.str n,.int .i64 m,.sl ks false,.sl as false,.int .i64 tk,.str tn,.int .i64 ti,.int .i64 th,.sl ta false] =
 ob (zI ks) fun l=>ob (zI as) fun a=>ob (zI ta) fun t=>some (.mk k p n m l a (.mk tk tn ti th t)):=by
 simp only[zfd,zdn,zdu,zcP,zjo,zjv,zgb];cases(zI ks:Option (List Xp))<;>cases(zI as:Option (List Am))<;>cases(zI ta:Option (List Ty))<;>rfl
theorem zx4{q k p m tk ti th:Int}{c n tn:List Nat}{vs ks as ta:List (List V)}:zff [.int .i64 q,.str c,.sl vs false,.int .i64 k,.int .i64 p,.str n,.int .i64 m,.sl ks false,.sl as false,.int .i64 tk,.str tn,.int .i64 ti,.int .i64 th,.sl ta false] =
 ob (zI vs) fun v=>ob (zI ks) fun l=>ob (zI as) fun a=>ob (zI ta) fun t=>some (.mk q c v (.mk k p n m l a (.mk tk tn ti th t))):=by
 simp only[zff,zdn,zdu,zcP,zjo,zjv,zgb];cases(zI vs:Option (List (List Nat)))<;>cases(zI ks:Option (List Xp))<;>cases(zI as:Option (List Am))<;>cases(zI ta:Option (List Ty))<;>rfl
@[simp] theorem z6G:@Cel.cells Xp _=zb4:=(rfl)
@[simp] theorem z2X:@Cel.dec Xp _=zfd:=(rfl)
@[simp] theorem zCY (a:Xp):enc a=.agg (zb4 a):=(rfl)
@[simp] theorem zDe {c:List V}:Enc.dec (α:=Xp) (.agg c)=zfd c:=(rfl)
@[simp] theorem z9R (l:List Xp):zI (l.map zb4)=some l:=zah l
@[simp] theorem z81 (l:List Xp):zL (l.map zb4)=l.map zb4:=zK l
@[simp] theorem zpM (l:List Xp):((l.map zb4).all fun e=>e.all V.pure2)=true:=zN l
@[simp] theorem z9D (l:List Xp):enc l=.sl (l.map zb4) false:=(rfl)
@[simp] theorem z9M {es:List (List V)}:Enc.dec (α:=List Xp) (.sl es false)=zI es:=(rfl)
@[simp] theorem zDC (l:List Xp):sizes 11 (l.map zb4)=true:=by rw[sizes_eq];intro e he;obtain⟨a,_,rfl⟩:=List.mem_map.1 he;rw[zhM];rfl
@[simp] theorem zEo (l:List Xp):zD (l.map zb4)=true:=z8 zpM
@[simp] theorem z6J:@Cel.cells Am _=zcj:=(rfl)
@[simp] theorem z3a:@Cel.dec Am _=zff:=(rfl)
@[simp] theorem zDd (a:Am):enc a=.agg (zcj a):=(rfl)
@[simp] theorem zDh {c:List V}:Enc.dec (α:=Am) (.agg c)=zff c:=(rfl)
@[simp] theorem z9T (l:List Am):zI (l.map zcj)=some l:=zah l
@[simp] theorem z8A (l:List Am):zL (l.map zcj)=l.map zcj:=zK l
@[simp] theorem zpP (l:List Am):((l.map zcj).all fun e=>e.all V.pure2)=true:=zN l
@[simp] theorem z9G (l:List Am):enc l=.sl (l.map zcj) false:=(rfl)
@[simp] theorem z9P {es:List (List V)}:Enc.dec (α:=List Am) (.sl es false)=zI es:=(rfl)
@[simp] theorem zDF (l:List Am):sizes 14 (l.map zcj)=true:=by rw[sizes_eq];intro e he;obtain⟨a,_,rfl⟩:=List.mem_map.1 he;rw[zka];rfl
@[simp] theorem zEr (l:List Am):zD (l.map zcj)=true:=z8 zpP
attribute [simp] zxz zhM zx4 zka
end Go.J
/- Types whose leaves are replaced. -/
namespace Go.J
open Enc (enc)
mutual
def Ty.reb(g:Ty->Ty):Ty->Ty
 |.mk k n i h []=>g (.mk k n i h [])
 |.mk k n i h (t::l)=>.mk k n i h (Ty.reb g t::Ty.rebs g l)
def Ty.rebs(g:Ty->Ty):List Ty->List Ty
 | []=>[]
 |t::l=>Ty.reb g t::Ty.rebs g l
end
abbrev zTy:List V:=[.int .i64 0,.str [],.int .i64 0,.int .i64 0,.snil]
def zng(l:List Ty)(n i:Nat):List (List V):=(l.take i).map zh++List.replicate (n-i) zTy
theorem ziO{l:List Ty}{n i:Nat}{e:List V}(h:e∈zng l n i):e.length=5/\e.all V.pure2=true:=by
 unfold zng at h;rcases List.mem_append.1 h with h|h
 . obtain⟨t,_,rfl⟩:=List.mem_map.1 h;obtain⟨k,n,i,hh,l⟩:=t;exact⟨by rw[zh];rfl,by rw[zh];rfl⟩
 . obtain⟨_,rfl⟩:=List.mem_replicate.1 h;exact⟨rfl,rfl⟩
@[simp] theorem zzn {l:List Ty} {n i:Nat}:((zng l n i).all fun e=>e.all V.pure2)=true:=List.all_eq_true.2 fun e he=>(ziO he).2
@[simp] theorem z1O {l:List Ty} {n i:Nat} {π:Nat->Nat}:((zng l n i).map fun e=>e.map (V.ren2 π))=zng l n i:=zhH fun x hx v hv=>V.ren2_pure (List.all_eq_true.1 (ziO hx).2 v hv)
end Go.J
/- Replacing the leaves of a type is replacing its variables. -/
namespace Go.J
open Enc (enc)
mutual
def Ty.leafy:Ty->Bool
 |.mk k _ _ _ l=>(decide (k≠1)||decide (l.length=0))&&Ty.leafys l
def Ty.leafys:List Ty->Bool
 | []=>true
 |t::l=>Ty.leafy t&&Ty.leafys l
end
mutual
theorem zkE(s:List Assign):∀ t:Ty,t.leafy=true->t.reb (fun t=>if t.kind=1 then (zd6 s t.id).getD t else t)=t.repl s
 | .mk k n i h [],_=>by
   rw[Ty.reb,zjE];simp only[Ty.kind_mk,Ty.id_mk,Ty.args_mk,Ty.name_mk,Ty.home_mk,List.map_nil]
 | .mk k n i h (t::l),hl=>by
   rw[Ty.leafy]at hl;simp only[Bool.and_eq_true,Bool.or_eq_true,decide_eq_true_eq]at hl
   have hk:k≠1:=by
    rcases hl.1 with h|h
    . exact h
    . simp at h
   have hl2:=hl.2;rw[Ty.leafys,Bool.and_eq_true]at hl2;rw[Ty.reb,zkE s t hl2.1,zgL s l hl2.2,zjE s (.mk k n i h (t::l))];simp only[Ty.kind_mk,if_neg hk,Ty.id_mk,Ty.args_mk,Ty.name_mk,Ty.home_mk,List.map_cons];rw[zkD]
theorem zgL(s:List Assign):∀ l:List Ty,Ty.leafys l=true->Ty.rebs (fun t=>if t.kind=1 then (zd6 s t.id).getD t else t) l=Ty.repls s l
 | [],_=>by rw[Ty.rebs,Ty.repls]
 | t::l,hl=>by
   rw[Ty.leafys,Bool.and_eq_true]at hl;rw[Ty.rebs,Ty.repls,zkE s t hl.1,zgL s l hl.2]
end
end Go.J
/- Type variables in the order in which they are met;numbering them. -/
namespace Go.J
open Enc (enc)
def zcK(out:List Int)(t:Ty):List Int:=if t.kind=1/\t.id ∉ out then out++[t.id]else out
mutual
def zqA:Ty->List Int->List Int
 |.mk k n i h l,out=>zgn l (zcK out (.mk k n i h l))
def zgn:List Ty->List Int->List Int
 | [],out=>out
 |t::l,out=>zgn l (zqA t out)
end
theorem zki(out:List Int)(t:Ty):∃ m,zcK out t=out++m/\m.length<=1:=by
 unfold zcK;split
 . exact⟨_,rfl,Nat.le_refl _⟩
 . exact⟨[],by simp,by simp⟩
mutual
theorem zq9:∀ (t:Ty) (out:List Int),∃ m,zqA t out=out++m/\m.length<=t.size
 | .mk k n i h l,out=>by
   obtain⟨a,ha,ha2⟩:=zki out (.mk k n i h l);obtain⟨b,hb,hb2⟩:=zjw l (zcK out (.mk k n i h l));have:=Ty.size_eq (.mk k n i h l);exact⟨a++b,by rw[zqA,hb,ha,List.append_assoc],by rw[List.length_append];simp only[Ty.args_mk]at this;omega⟩
theorem zjw:∀ (l:List Ty) (out:List Int),∃ m,zgn l out=out++m/\m.length<=Ty.sizes l
 | [],out=>⟨[],by simp[zgn],by simp⟩
 | t::l,out=>by
   obtain⟨a,ha,ha2⟩:=zq9 t out;obtain⟨b,hb,hb2⟩:=zjw l (zqA t out);refine⟨a++b,by rw[zgn,hb,ha,List.append_assoc],?_⟩;rw[List.length_append];simp only[Ty.sizes];omega
end
theorem zhQ{out:List Int}{t:Ty}(h:out.Nodup):(zcK out t).Nodup:=by
 unfold zcK;split
 . rename_i hh;rw[List.nodup_append];exact⟨h,List.nodup_cons.2 ⟨by simp,List.nodup_nil⟩,fun a ha b hb e=>by rw[List.mem_singleton]at hb;subst hb;subst e;exact hh.2 ha⟩
 . exact h
mutual
theorem zlT:∀ (t:Ty) {out:List Int},out.Nodup->(zqA t out).Nodup
 |.mk k n i h l,out,ho=>by rw[zqA];exact zgm l (zhQ ho)
theorem zgm:∀ (l:List Ty) {out:List Int},out.Nodup->(zgn l out).Nodup
 | [],out,ho=>by rw[zgn];exact ho
 |t::l,out,ho=>by rw[zgn];exact zgm l (zlT t ho)
end
theorem ziK{t:Ty}{out:List Ty}(hk:t.kind=1):zch (if t∈out then out else out++[t])=zcK (zch out) t:=by
 have hsub:∀ (a:Ty) (o:List Int) (y:Int),y∈o->y∈zcX o a:=by
  intro a o y hy;unfold zcX;split
  . exact hy
  . exact List.mem_append.2 (.inl hy)
 have hself:∀ (a:Ty) (o:List Int),a.id∈zcX o a:=by
  intro a o;unfold zcX;split
  . assumption
  . simp
 have key:∀ (l:List Ty) (o:List Int),(∀ y∈o,y∈l.foldl zcX o)/\∀ x∈l,x.id∈l.foldl zcX o:=by
  intro l
  induction l with
  |nil=>intro o;exact⟨fun y hy=>hy,fun x hx=>by cases hx⟩
  | cons a l ih =>
    intro o;obtain⟨h1,h2⟩:=ih (zcX o a);refine⟨fun y hy=>h1 y (hsub a o y hy),fun x hx=>?_⟩;rcases List.mem_cons.1 hx with rfl|hx
    . exact h1 _ (hself x o)
    . exact h2 x hx
 have hmem:∀ l:List Ty,∀ x∈l,x.id∈zch l:=fun l=>(key l []).2
 unfold zcK;by_cases ht:t∈out
 . rw[if_pos ht,if_neg (fun h=>h.2 (hmem out t ht))]
 . rw[if_neg ht,zha];unfold zcX;by_cases hi:t.id∈zch out
   . rw[if_pos hi,if_neg (fun h=>h.2 hi)]
   . rw[if_neg hi,if_pos ⟨hk,hi⟩]
mutual
theorem zlB:∀ (t:Ty),t.leafy=true->∀ out,zch (zZ 1 t out)=zqA t (zch out)
 | .mk k n i h l,hl,out=>by
   rw[Ty.leafy]at hl;simp only[Bool.and_eq_true,Bool.or_eq_true,decide_eq_true_eq]at hl;by_cases hk:k=1
   . have h0:l=[]:=by
      rcases hl.1 with h|h
      . exact absurd hk h
      . exact List.eq_nil_of_length_eq_zero h
     subst h0;rw[zbZ,if_pos ⟨hk,rfl⟩,ziK (t:=.mk k n i h []) hk,zqA];rfl
   . rw[zbZ,if_neg (fun hh=>hk hh.1),zqA];have:zcK (zch out) (.mk k n i h l)=zch out:=if_neg (fun hh=>hk hh.1);rw[this];exact zeQ l hl.2 out
theorem zeQ:∀ (l:List Ty),Ty.leafys l=true->∀ out,zch (zw 1 l out)=zgn l (zch out)
 | [],_,out=>by rw[zw,zgn]
 | t::l,hl,out=>by
   rw[Ty.leafys,Bool.and_eq_true]at hl;rw[zw,zgn,zeQ l hl.2,zlB t hl.1]
end
end Go.J
/- Numbering type variables twice is numbering them once. Sizes of types that a tape makes. -/
namespace Go.J
open Enc (enc)
mutual
def Ty.vplain:Ty->Bool
 |.mk k n _ h l=>(decide (k≠1)||(decide (n=[])&&decide (h=0)&&decide (l.length=0)))&&Ty.vplains l
def Ty.vplains:List Ty->Bool
 | []=>true
 |t::l=>Ty.vplain t&&Ty.vplains l
end
mutual
theorem zia:∀ t:Ty,t.vplain=true->t.leafy=true
 | .mk k n i h l,hp=>by
   rw[Ty.vplain]at hp;simp only[Bool.and_eq_true,Bool.or_eq_true,decide_eq_true_eq]at hp;rw[Ty.leafy];simp only[Bool.and_eq_true,Bool.or_eq_true,decide_eq_true_eq];exact⟨hp.1.imp (fun h=>h) (fun h=>h.2),zd8 l hp.2⟩
theorem zd8:∀ l:List Ty,Ty.vplains l=true->Ty.leafys l=true
 | [],_=>by rw[Ty.leafys]
 | t::l,hp=>by
   rw[Ty.vplains,Bool.and_eq_true]at hp;rw[Ty.leafys,zia t hp.1,zd8 l hp.2];rfl
end
def zr1(n:Nat):List Int:=(List.range n).map fun i=>((i:Nat):Int)
@[simp] theorem zy2 (n:Nat):(zr1 n).length=n:=by simp[zr1]
section
variable {ids:List Int}(hn:ids.Nodup)
include hn
end
end Go.J
/- Sizes of types that a tape makes. -/
namespace Go.J
open Enc (enc)
theorem zp8{l:List Ty}{b:Nat}(h:∀ t∈l,t.size<=b):Ty.sizes l<=l.length*b:=by
 induction l with
 |nil=>simp[Ty.sizes]
 | cons t l ih =>
   have h1:=h t (List.mem_cons_self ..);have h2:=ih fun t ht=>h t (List.mem_cons_of_mem _ ht)
   simp only[Ty.sizes,List.length_cons,Nat.succ_mul];omega
def z3Q(D:List Decl):Prop:=∀ d∈D,d.params.length<=2
theorem zke(bits:Int):z3Q (zaE bits):=by
 intro d hd;have key:∀ d∈allD,d.params.length<=2:=by decide
 exact key d (zgj hd)
theorem zlm {D:List Decl} {Lv:List Ty} (hD:z3Q D) (hl:∀ l∈Lv,l.size<=1):∀ (d:Nat) (t:Tp),(typeM d t D Lv).2.size+1<=2 ^ (d+1):=by
 have hint:tInt.size=1:=by decide
 intro d
 induction d with
 | zero =>
   intro t;rw[typeM]
   try dsimp only
   split
   . rename_i h;obtain⟨j,hj,_,h2⟩:=zcr (t.next 7).1 h.2;rw[h2];have:=hl _ (List.getElem_mem hj);rw[Option.getD_some];dsimp only;omega
   . split<;>(rw[hint];exact Nat.le_refl _)
 | succ d ih =>
   intro t;have hp:2 ^ (d+1+1)=2*2 ^ (d+1):=by rw[Nat.pow_succ 2 (d+1)];omega
   have hpos:2<=2 ^ (d+1):=by rw[Nat.pow_succ];have:=Nat.two_pow_pos d;omega
   rw[typeM]
   try dsimp only
   split
   . rename_i h;obtain⟨j,hj,_,h2⟩:=zcr (t.next 7).1 h.2;rw[h2];have:=hl _ (List.getElem_mem hj);rw[Option.getD_some];dsimp only;omega
   . split
     . rw[hint];omega
     . split
       . rename_i h;obtain⟨j,hj,_,h2⟩:=zcr (t.next 7).1 h.2;rw[h2];have hpar:=hD _ (List.getElem_mem hj);rw[Option.getD_some]
         have hargs:∀ (q:Tp) (n:Nat) (x:Ty),x∈(zbH d q D Lv n).2->x.size+1<=2 ^ (d+1):=by
          intro q n
          induction n with
          |zero=>intro x hx;rw[zbH]at hx;cases hx
          | succ n ihn =>
            intro x hx;rw[zbH]at hx;rcases List.mem_append.1 hx with hx|hx
            . exact ihn x hx
            . rw[List.mem_singleton.1 hx];exact ih _
         have hs:=zp8 (l:=(zbH d ((t.next 7).1.next (D.length:Int)).1 D Lv D[j].params.length).2) (b:=2 ^ (d+1)-1) fun x hx=>by have:=hargs _ _ x hx;omega
         rw[zez]at hs;rw[Ty.size_eq];have hm:D[j].params.length*(2 ^ (d+1)-1)<=2*(2 ^ (d+1)-1):=Nat.mul_le_mul_right _ hpar;show Ty.sizes (zbH d ((t.next 7).1.next (D.length:Int)).1 D Lv D[j].params.length).2+1+1<=_;omega
       . rw[Ty.size_eq];simp only[zd9,zh0,Ty.args_mk,Ty.sizes];have h1:=ih (t.next 7).1;have h2:=ih (typeM d (t.next 7).1 D Lv).1;omega
theorem zll{D:List Decl}{Lv:List Ty}(hD:z3Q D)(hl:∀ l∈Lv,l.ok=true)(d:Nat)(t:Tp):(typeM d t D Lv).2.ok=true :=
 zmr (P:=fun t=>t.ok=true) hl (by decide) (fun dd hdd l hlen hx=>Ty.ok_iff.2 ⟨by have:=hD dd hdd;simp[zh0,hlen];omega,hx⟩)
  (fun a b h1 h2=>Ty.ok_iff.2 ⟨by simp[zd9,zh0],fun x hx=>by
    simp only[zd9,zh0,Ty.args_mk,List.mem_cons,List.not_mem_nil,or_false]at hx
    rcases hx with rfl|rfl<;>assumption⟩) d t
end Go.J
