import Derived.Test.YtfgmnebfhemnpaaGreatJI
set_option linter.all false
noncomputable section
/- Comparing types: a model,and that it says 0 at equal types alone. -/
namespace Go.J
open Enc (enc)
theorem zr7{a b:Nat}{l m:List Nat}:zmx (a::l) (b::m)=(decide (a<b)||(decide (a=b)&&zmx l m)):=by
 show bi (Nat.blt a b) true (et (Nat.beq a b) (zmx l m))=_;rw[Bool.eq_iff_iff];simp only[zav,Bool.or_eq_true,Bool.and_eq_true,decide_eq_true_eq];by_cases h:Nat.blt a b=true
 . simp[h,blt_true.1 h]
 . have h2:¬ a<b:=fun e=>h (blt_true.2 e)
   simp[h,h2,et_true,beq_true]
theorem zx2:∀ l:List Nat,zmx l l=false:=by
 intro l
 induction l with
 |nil=>rfl
 |cons a l ih=>rw[zr7,ih];simp
def zpM(a b:Int):Int:=if a<b then -1 else if a>b then 1 else 0
def zAE(a b:List Nat):Int:=if zmx a b=true then -1 else if a=b then 0 else 1
theorem zvn{a b:Int}:zpM a b=0↔a=b:=by
 unfold zpM;split
 . constructor
   . intro h;cases h
   . omega
 . split
   . constructor
     . intro h;cases h
     . omega
   . constructor
     . intro _;omega
     . intro _;rfl
theorem zvl{a b:List Nat}:zAE a b=0↔a=b:=by
 unfold zAE;constructor
 . intro h;split at h
   . cases h
   . split at h
     . assumption
     . cases h
 . intro h;subst h;rw[zx2];simp
def nzM:List Int->Int
 | []=>0
 |a::l=>if a≠0 then a else nzM l
theorem zxo:∀ {l:List Int},nzM l=0↔∀ a∈l,a=0:=by
 intro l
 induction l with
 |nil=>simp[nzM]
 | cons a l ih =>
   rw[nzM];by_cases h:a=0
   . rw[if_neg (by simpa using h),ih];simp[h]
   . rw[if_pos h];constructor
     . intro e;exact absurd e h
     . intro e;exact e a (List.mem_cons_self ..)
def zkn(a b:Ty):List Int:=[zpM a.kind b.kind,zAE a.name b.name,zpM a.id b.id,zpM a.home b.home,zpM (a.args.length:Int) (b.args.length:Int)]
mutual
def zfG:Ty->Ty->Int
 |.mk k n i h l,b=>if nzM (zkn (.mk k n i h l) b)≠0 then nzM (zkn (.mk k n i h l) b)else zej l b.args
def zej:List Ty->List Ty->Int
 | [],[]=>0
 | [],_::_=>-1
 |_::_,[]=>1
 |a::l,b::m=>if zfG a b≠0 then zfG a b else zej l m
end
theorem zoD(a b:Ty):zfG a b=if nzM (zkn a b)≠0 then nzM (zkn a b)else zej a.args b.args:=by
 cases a;rw[zfG];simp only[Ty.args_mk]
theorem zpL {a:Ty}:∀ {b:Ty},zfG a b=0↔a=b:=by
 induction a using Ty.ind with
 | h a ih =>
   intro b
   have ihl:∀ l:List Ty,(∀ u∈l,u∈a.args)->∀ m,zej l m=0↔l=m:=by
    intro l
    induction l with
    |nil=>intro _ m;cases m<;>simp[zej]
    | cons u l ihl =>
      intro hs m
      cases m with
      |nil=>simp[zej]
      | cons v m =>
        rw[zej];have h1:=ih u (hs u (List.mem_cons_self ..)) (b:=v);have h2:=ihl (fun w hw=>hs w (List.mem_cons_of_mem _ hw)) m;by_cases h:zfG u v=0
        . rw[if_neg (by simpa using h),h2,h1.1 h];simp
        . rw[if_pos h];constructor
          . intro e;exact absurd e h
          . intro e;rw[List.cons.injEq]at e;exact absurd (h1.2 e.1) h
   rw[zoD,Ty.eq_iff]
   have hz:nzM (zkn a b)=0↔a.kind=b.kind/\a.name=b.name/\a.id=b.id/\a.home=b.home/\a.args.length=b.args.length:=by
    rw[zxo];simp only[zkn,List.mem_cons,List.not_mem_nil,or_false,forall_eq_or_imp,forall_eq,zvn,zvl];simp
    intros
    omega
   by_cases h:nzM (zkn a b)=0
   . rw[if_neg (by simpa using h),ihl a.args (fun _ h=>h)];obtain⟨h1,h2,h3,h4,_⟩:=hz.1 h;exact⟨fun e=>⟨h1,h2,h3,h4,e⟩,fun e=>e.2.2.2.2⟩
   . rw[if_pos h];constructor
     . intro e;exact absurd e h
     . rintro ⟨h1,h2,h3,h4,h5⟩;exact absurd (hz.2 ⟨h1,h2,h3,h4,by rw[h5]⟩) h
end Go.J
