import Derived.Test.YtjilhkjgejnmpaaGreatDoorOOV
import Derived.Test.YtjilhkjgejnmpaaGreatDoorJG
set_option linter.all false
noncomputable section
/- Mod,of numbers that are left open. -/
namespace Go.Proofs.YtjilhkjgejnmpaaGreatDoor
open Go.J Go.RowKit
theorem tmod_mod(n m:Int):n % m=n.tmod m % m:=by
 have h:=Int.mul_tdiv_add_tmod n m
 calc n % m=(m*n.tdiv m+n.tmod m) % m:=by rw[h]
  _=n.tmod m % m:=by rw[Int.add_comm,Int.add_mul_emod_self_left]
theorem tmod_neg{n m:Int}(hm:1≤m)(h:n.tmod m<0):n % m=n.tmod m+m:=by
 have h1:=Int.lt_tmod_of_pos n (show 0<m by omega)
 rw[tmod_mod,← Int.add_emod_right,Int.emod_eq_of_lt (by omega) (by omega)]
theorem tmod_pos{n m:Int}(hm:1≤m)(h:0≤n.tmod m):n % m=n.tmod m:=by
 rw[tmod_mod,Int.emod_eq_of_lt h (Int.tmod_lt_of_pos n (by omega))]
theorem mod_any(n m:Int)(w:World)(hm:1≤m)(hm2:m≤1000000) :
 Calls Tryz.prog 6 #[.int .i64 n,.int .i64 m] w fun e w'=>e=.returned (.int .i64 (n % m))∧w=w':=by
 have hm0:¬ m<1:=by omega
 have hmz:m≠0:=by omega
 by_cases hn:n.tmod m<0
 · have h1:=Int.lt_tmod_of_pos n (show 0<m by omega)
   have e:=tmod_neg hm hn
   have H:=Lib.hid e
   clear e
   go_enter Tryz.func6,Tryz.ntmps6
   go_wp2
   go_ret
   exact⟨congrArg (fun z=>Ending.returned (.int .i64 z)) H.out.symm,rfl⟩
 · have e:=tmod_pos hm (show 0≤n.tmod m by omega)
   have H:=Lib.hid e
   clear e
   go_enter Tryz.func6,Tryz.ntmps6
   go_wp2
   go_ret
   exact⟨congrArg (fun z=>Ending.returned (.int .i64 z)) H.out.symm,rfl⟩
def conMod(l:List (Nat×Nat×Nat))(vs:List V)(hs:HS):Option (V×HS) :=
 match vs with
 | [.sym i,.int .i64 (.ofNat m)]=>lr none (fun p _ ih=>bi (et (Nat.beq p.1 i) (Nat.beq p.2.1 m)) (some (.int .i64 (.ofNat p.2.2),hs)) ih) l
 |_=>none
theorem conMod_eq {l:List (Nat×Nat×Nat)} {vs:List V} {hs:HS} {q:V×HS} (h:conMod l vs hs=some q):∃ i m r,(i,m,r)∈l∧vs=[.sym i,.int .i64 (m:Nat)]∧q=(.int .i64 (r:Nat),hs):=by
 unfold conMod at h
 split at h
 · rename_i i m
   induction l with
   |nil=>cases h
   | cons p l ih =>
     replace h:bi (et (Nat.beq p.1 i) (Nat.beq p.2.1 m)) (some (.int .i64 (.ofNat p.2.2),hs)) (lr none (fun (p:Nat×Nat×Nat) _ ih=>bi (et (Nat.beq p.1 i) (Nat.beq p.2.1 m)) (some (V.int .i64 (.ofNat p.2.2),hs)) ih) l)=some q:=h
     rw[bi_eq]at h
     split at h
     · rename_i e
       rw[et_true,J.beq_true,J.beq_true]at e
       cases h
       obtain⟨a,b,c⟩:=p
       obtain⟨rfl,rfl⟩:=e
       exact⟨_,_,_,List.mem_cons_self ..,rfl,rfl⟩
     · obtain⟨a,b,c,h1,h2⟩:=ih h
       exact⟨a,b,c,List.mem_cons_of_mem _ h1,h2⟩
 · cases h
theorem mod_valid{ρ:Nat→Value}{ns:Nat→Int}{l:List (Nat×Nat×Nat)}(hn:∀ p∈l,ρ p.1=.int .i64 (ns p.1))(hl:∀ p∈l,1≤p.2.1∧p.2.1≤1000000∧ns p.1 % (p.2.1:Int)=(p.2.2:Nat)):Valid ρ Tryz.prog 6 (conMod l) where
 fn:=fnOk Tryz.func6 (by kernel_rfl)
 ok:=by
  intro vs hs v hs' h
  obtain⟨i,m,r,hp,rfl,e⟩:=conMod_eq h
  cases e
  obtain⟨h1,h2,h3⟩:=hl _ hp
  refine scal_callOk rfl fun w F μ xs hA=>?_
  obtain⟨x,hx,hxr⟩:=hA.2 0 _ rfl
  obtain⟨y,hy,hyr⟩:=hA.2 1 _ rfl
  have ex:x=.int .i64 (ns i):=by
   cases hxr with|pure h=>cases h;exact hn _ hp
  have ey:=hyr.int_inv
  have e:xs=#[.int .i64 (ns i),.int .i64 m]:=by
   apply Array.ext_getElem?
   intro i
   match i with
   | 0=>rw[hx,ex];rfl
   | 1=>rw[hy,ey];rfl
   |i+2=>rw[Array.getElem?_eq_none (by rw[hA.1];simp)];simp
  rw[e]
  simp only at h1 h2 h3
  refine(mod_any (ns i) m w (by omega) (by omega)).mono fun e w' ⟨h1,h2⟩=>⟨_,h1,?_,h2.symm⟩
  rw[h3];exact .int _ _
 kept:=by
  intro vs hs q h
  obtain⟨_,_,_,_,_,rfl⟩:=conMod_eq h
  exact Kept.refl _
end Go.Proofs.YtjilhkjgejnmpaaGreatDoor
