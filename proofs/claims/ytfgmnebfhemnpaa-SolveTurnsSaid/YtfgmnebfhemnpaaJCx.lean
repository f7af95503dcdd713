import Derived.Test.YtfgmnebfhemnpaaJS
set_option linter.all false
noncomputable section
/- Closures that hold one variable of their maker and only read it,and functions that are handed them. -/
namespace Go.J
open Enc (enc)
def cxD(c:V)(id:Nat)(av:V)(g:Option Nat)(r:V):EmbD where
 k:=1
 k':=1
 π:=fun _=>id
 OL:=[(0,capB c)]
 OL':=[(0,capB c)]
 vs0:=[av,capV g 0]
 v0:=r
@[simp] theorem cxD_v0 {c:V} {id:Nat} {av:V} {g:Option Nat} {r:V}:(cxD c id av g r).v0=r:=(rfl)
def cxM(g:Option Nat)(F:V→V→Option V)(vs:List V)(hs:HS):Option EmbD:=match vs with
 | [av,cv]=>ob (capOf g cv) fun id=>ob (hs.H.get id) fun o=>ob (capB? o) fun c=>ob (F c av) fun r=>gd (et c.pure2 (et av.pure (et r.pure (Nat.blt id hs.n)))) (some (cxD c id av g r))
 |_=>none
@[simp] theorem cxM_n {g:Option Nat} {F:V→V→Option V} {av cv:V} {hs:HS}:cxM g F [av,cv] hs=ob (capOf g cv) fun id=>ob (hs.H.get id) fun o=>ob (capB? o) fun c=>ob (F c av) fun r=>gd (et c.pure2 (et av.pure (et r.pure (Nat.blt id hs.n)))) (some (cxD c id av g r)):=(rfl)
theorem cxM_inv {g:Option Nat} {F:V→V→Option V} {vs:List V} {hs:HS} {D:EmbD} (h:cxM g F vs hs=some D):∃ c id av r,F c av=some r∧D=cxD c id av g r∧r.pure=true∧D.Good∧D.Fits vs hs:=by
 unfold cxM at h
 split at h
 · rename_i av cv
   simp only[ob_eq,gd_eq,et_true,blt_true]at h
   obtain⟨id,hid,o,ho,c,hc,r,hr,⟨k1,k2,k3,k4⟩,h⟩:=h
   cases h
   have e1:=capOf_inv hid
   have e2:=capB_inv hc
   subst e1 e2
   have hin:∀ A:Nat→Bool,(capB c).in A=true:=fun A=>by
    show ([[c]].all fun e=>e.all (V.in2 A))=true
    simp[V.in2_pure2 k1]
   refine⟨c,id,av,r,hr,rfl,k3,⟨rfl,rfl,Nat.le_refl _,?_,?_,V.in3_pure k3,?_⟩,?_,?_,?_,?_,?_⟩
   · intro p hp
     obtain rfl:=List.mem_singleton.1 hp
     exact hin _
   · intro p hp
     obtain rfl:=List.mem_singleton.1 hp
     exact⟨hin _,rfl⟩
   · intro v hv
     simp only[cxD,List.mem_cons,List.not_mem_nil,or_false]at hv
     rcases hv with rfl|rfl
     · exact V.in3_pure k2
     · cases g<;>rfl
   · show ([av,capV g 0]:List V).map (V.ren _)=_
     rw[List.map_cons,List.map_cons,V.ren_none (V.in3_pure k2)]
     cases g<;>rfl
   · intro i j hi hj _
     simp only[cxD]at hi hj
     omega
   · intro p hp
     obtain rfl:=List.mem_singleton.1 hp
     have:(capB c).ren (fun _=>id)=capB c:=by
      show Obj.arr 1 0 [[c.ren2 _]] true false false=_
      rw[V.ren2_pure k1]
     show hs.H.get id=some ((capB c).ren (fun _=>id))
     rw[this];exact ho
   · intro i hi
     simp only[cxD]at hi
     omega
   · intro i _
     exact k4
 · cases h
end Go.J
