import Derived.Test.YtfgmnebfhemnpaaGreatJPy
set_option linter.all false
noncomputable section
/- The law UnifyStores: what the program and the reference make is the same,and valid. -/
set_option maxRecDepth 100000
namespace Go.J
open Enc (enc)
namespace Store
theorem zwO{n S:Nat}{s:Store}(hS:S<=10000)(s6:n<=1000)(s3:Tame n S s)(s5:AllV s)(s4:s.trail.length<=990)(ids:∀ c∈s.trail,0<=c.id/\c.id<s.slots.length):s.fine/\s.valid=true:=by
 have hlen:=s3.len
 have hslot:∀ x∈s.slots,s.slotOk x:=fun x hx=>by
  have h1:=s3.types x hx;have h2:=s5.tys x hx;unfold slotOk;unfold gs at h2;split
  . rename_i hb;rw[if_pos hb]at h1 h2;refine⟨h2,fun v hv=>?_⟩;obtain⟨u,hu,rfl⟩:=zkV h2 hv;have:=h1.vars u hu;omega
  . rename_i hb;rw[if_neg hb]at h1;exact h1
 have hfine:s.fine:=⟨by omega,by omega,fun x hx=>by
  have h1:=s3.types x hx;have h2:=s5.tys x hx;unfold gs at h2;split at h1
  . rename_i hb;rw[if_pos hb]at h2;exact⟨h1.ok,zhh _ h2,by have:=h1.size;omega⟩
  . rw[h1];exact⟨rfl,rfl,by decide⟩⟩
 refine⟨hfine,?_⟩;have hac:=Store.acOk_of hfine hslot;have hcl:=Store.cl_of hac;have hub:=Store.ub_of hslot;unfold Store.valid;rw[decide_eq_true ids,decide_eq_true hslot,decide_eq_true (fun i hi=>?_)]
 . rfl
 . have hil:=List.mem_range.1 hi
   cases hcy:s.cyc i with
   |false=>rfl
   | true =>
     have h1:=(zBi hcl hub hil).1 hcy;have h2:=zAJ s5 hcl hub (s3.fin i (by omega)) (zjk (by omega)) (zas (i:Int)) (.self rfl) (by simp[zas]);exact absurd h1 (zB2 h2)
theorem z9h{s:Store}{a b:Ty}{x:Store}{e:Int}(h:uniF s a b=some (x,e)):Tw (topM s a b).1 x:=by
 obtain⟨_,_,_,r,hr,hq⟩:=uniF_inv h;have h1:=(Prod.mk.inj hq).1;by_cases e0:r.2=0
 . rw[if_pos e0]at h1;rw[h1];exact hr.tw e0
 . rw[if_neg e0]at h1
   have ht:(topM s a b).1=s:=by
    have:(topM s a b).2≠0:=by rw[<- hr.err];exact e0
    unfold topM at this ⊢;split
    . rename_i hh;rw[if_pos hh]at this;exact absurd rfl this
    . rfl
   rw[h1,ht];exact .refl s
theorem M17.stores{n:Nat}{s:Store}{a b:Ty}(h:M17 n s a b):∃ x y e,uniF s a b=some (x,e)/\topF 7 s a b=some (y,e)/\x.slots=y.slots/\x.tysOk/\x.fine/\x.valid=true:=by
 have hh:=h.high;obtain⟨x,h1,h2,h3,h4⟩:=h.uni0;have hw:=z9h h1;have hst:=zkc (n:=n) (S:=7) (by omega) (by omega) (by omega) h.stay.tame h.stay.left h.stay.right;have hr:=Nat.le_trans hst.room h.room;have hU:=h.stay.tame.uall (S:=7) (by omega) (by omega) h.stay.left h.stay.right h.room;have hT:topF 7 s a b=some ((topM s a b).1,(topM s a b).2):=if_pos hU;have hv:=zqV h.stay.val h.stay.lv h.stay.rv;have hxt:=hw.trail;have hv2:AllV x:=⟨by rw[h2];exact hv.len,by rw[h2];exact hv.tys⟩;obtain⟨g1,g2⟩:=zwO (n:=n) (S:=7) (by omega) (by omega) (hw.tame hst.tame) hv2 (by unfold Store.room at hr;omega) h3;exact⟨x,_,_,h1,hT,h2,h4,g1,g2⟩
end Store
end Go.J
