import Derived.Test.YtpcmebclpindjaaGreatJN
set_option linter.all false
noncomputable section
/- Contexts with variables: the entries that are not hidden,and the names that can be analyzed. -/
namespace Go.J
open Enc (enc)
def z1J(n:List Nat)(l:List Entry):Bool:=l.any fun x=>decide (x.name=n)
def zcw:List Entry->List Entry
 | []=>[]
 |e::l=>if z1J e.name l=true then zcw l else e::zcw l
theorem zgI(e:Entry)(l:List Entry):zcw (e::l)=if z1J e.name l=true then zcw l else e::zcw l:=rfl
theorem zf2(l:List Entry):(zcw l).length<=l.length:=by
 induction l with
 |nil=>exact Nat.le_refl _
 |cons e l ih=>unfold zcw;split<;>simp<;>omega
def zmS(n:List Nat):List Entry->Option Scheme
 | []=>none
 |e::l=>if e.name=n then some e.scheme else zmS n l
def zg9(l:List Entry)(n:List Nat):Option Scheme:=zmS n l.reverse
theorem zl9(l:List Entry)(e:Entry)(n:List Nat):zg9 (l++[e]) n=if e.name=n then some e.scheme else zg9 l n:=by
 simp[zg9,zmS]
theorem zmR(n:List Nat)(l:List Entry):(zmS n l).isSome=l.any fun x=>decide (x.name=n):=by
 induction l with
 |nil=>rfl
 |cons e l ih=>unfold zmS;split<;>simp_all
theorem zmT(n:List Nat)(l:List Entry):(zg9 l n).isSome=z1J n l:=by
 rw[zg9,zmR,List.any_reverse];rfl
def z7S:Scheme:=⟨0,ty0⟩
def ziD(l:List Entry)(n:List Nat):Scheme×Bool:=((zg9 l n).getD z7S,(zg9 l n).isSome)
def caseT(D:List Decl)(t:Ty):Bool:=D.any fun d=>decide (t.kind=4)&&decide (d.name=t.name)&&decide (d.params.length=t.args.length)||decide (t.kind=1)
def zkl(D:List Decl)(e:Entry):Bool:=decide (e.scheme.count=0)&&caseT D e.scheme.type
def zdF(D:List Decl)(l:List Entry):List (List Nat):=((zcw l).filter (zkl D)).map (·.name)
def zdQ(D:List Decl)(t:Ty)(k:Nat):Bool:=decide (t.kind=1)&&decide (0<D.length)||decide (t.kind=4)&&(D.take k).any fun d=>decide (d.name=t.name)&&decide (d.params.length=t.args.length)
theorem zhq(D:List Decl)(t:Ty):zdQ D t 0=(decide (t.kind=1)&&decide (0<D.length)):=by simp[zdQ]
theorem zhr{D:List Decl}{t:Ty}{k:Nat}(hk:k<D.length)(h4:t.kind=4):zdQ D t (k+1)=(zdQ D t k||decide (D[k].name=t.name)&&decide (D[k].params.length=t.args.length)):=by
 unfold zdQ;rw[List.take_add_one,List.getElem?_eq_getElem hk,Option.toList_some,List.any_append,Bool.or_assoc];simp[h4,Bool.or_assoc]
theorem zo6(D:List Decl)(t:Ty):∃ M:Nat,(((M:Int)<D.length)->¬ t.kind=4)/\(∀ k,k<M->t.kind=4/\k<D.length)/\zdQ D t M=caseT D t:=by
 by_cases h4:t.kind=4
 . refine⟨D.length,fun h=>by omega,fun k hk=>⟨h4,hk⟩,?_⟩;simp[zdQ,caseT,h4]
 . refine⟨0,fun _=>h4,fun k hk=>by omega,?_⟩;cases D<;>simp[zdQ,caseT,h4]
def zfg(D:List Decl)(p:Tp×List Entry):Tp×List Entry :=
 let r:=typeM 2 p.1 D (zcn 3++[zbL 0 0])
 let q:=r.1.next 3
 ((q.1.next 8).1,p.2++[⟨zfp q.1,if q.2=0 then zlb r.2 [0,1]else mono r.2⟩])
def zlj(D:List Decl)(t:Tp):Nat->Tp×List Entry
 | 0=>(t,[])
 |n+1=>zfg D (zlj D t n)
def zhx(t:Tp)(D:List Decl):Tp×List Entry:=zlj D (t.next 5).1 (t.next 5).2.toNat
theorem zk0{D:List Decl}{t:Tp}(h:t.ok)(n:Nat):(zlj D t n).1.ok/\(zlj D t n).2.length=n:=by
 induction n with
 |zero=>exact⟨h,rfl⟩
 |succ n ih=>exact⟨zbc (zbc (zfh _ _ ih.1).1 3) 8,by simp[zlj,zfg,ih.2]⟩
end Go.J
