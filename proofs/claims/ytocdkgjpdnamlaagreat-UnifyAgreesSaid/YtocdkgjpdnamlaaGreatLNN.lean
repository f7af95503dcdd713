import Derived.Test.YtocdkgjpdnamlaaGreatLXD
set_option linter.all false
noncomputable section
/- The number of nodes of a type: the fQ. -/
namespace Go.Proofs.YtocdkgjpdnamlaaGreat
open Go.J
open Go.J.Enc (enc)
set_option maxRecDepth 100000
set_option maxHeartbeats 4000000
def xw(d:Nat)(t:Ty):Option Int:=if t.ok=true/\t.size<=d/\d<=4000000000000000000 then some (t.size:Int)else none
section
variable {ρ:Nat->Value}(hρ:J.Good ρ)
include hρ
section
variable {E:Env}(hE:E.P=Tryz.prog)(hcon:aZ ρ E)
include hE hcon
theorem Gb{d:Nat}(hc:E.dS 29=bZ (fO (xw d)))(hd2:d+1<=4000000000000000000){t:Ty}(ht:t.ok=true)(hd:t.size<=d+1)(hs:HS):aA ρ Tryz.prog 29 [enc t] hs (enc (t.size:Int)) hs:=by
 refine fn hρ hE hcon Tryz.func29 zvP rfl (by simp) ?_ hs;have hlen:=Ty.lH ht;have hsz:=Ty.size_eq t;have hargs:=(Ty.ky.1 ht).2;obtain⟨tk,tn,ti,th,tl⟩:=t;simp only[Ty.cZ]at hlen hsz hargs;generalize (Ty.mk tk tn ti th tl).size=Z at hsz hd;simp
 refine DV hρ hE hcon tl.length (nn:=1) (fun i (r:Nat)=>[(1,.ptr 0 0 0),(3,.int .i64 (r:Int)),(4,.int .i64 (i:Int))]) (fun _ _=>[(0,box (ax (.mk tk tn ti th tl)))]) (fun i r=>r+Ty.sizes (tl.drop i)=Z) 1
  (Less.auto (by simp) (by simp) (by first|rfl|simp) (by first|rfl|simp)) (by simp;omega) ?_ ?_
 . intro r h K;rw[List.drop_length,Ty.sizes]at h;have e:r=Z:=by omega
   subst e;simp [R5,hE];refine bq.mk (Less.auto (TL:=[(3,.int .i64 (r:Int))]) (HL:=[]) (n:=0) (by simp) (by simp) (by first|rfl|simp) (by first|rfl|simp)) ?_;simp [hE]
 . intro i r hi h K hK;have hi':(i:Int)<tl.length:=by omega
   have hw2:IntKind.i64.wrap ((i:Int)+1)=((i+1:Nat):Int):=bu (by omega);have zoH:(i*5) / 5=i:=by omega
   have zoG:(i*5) % 5=0:=by omega
   rw[List.drop_eq_getElem_cons hi,Ty.sizes]at h;have hxo:=hargs _ (List.getElem_mem hi);obtain⟨x,hx⟩:∃ x,tl[i]=x:=⟨_,rfl⟩;rw[hx]at h hxo;have hxs:x.size<=d:=by have:=Ty.pF (hx ▸ List.getElem_mem hi:x∈tl);omega
   have hF:xw d x=some (x.size:Int):=if_pos ⟨hxo,hxs,by omega⟩;have hnew:=hK (r+x.size) (by omega);have hadd:IntKind.i64.wrap ((r:Int)+(x.size:Int))=((r+x.size:Nat):Int):=by rw[wrap_i64 (by omega) (by omega)];omega
   clear hK;generalize x.size=z at hF hnew hadd;obtain⟨xk,xn,xi,xh,xl⟩:=x;simp [R5,hE,hi,hi',hx,hc,hF,hadd,hw2,-Int.natCast_add];exact hnew _ _ (Less.auto (by simp[-Int.natCast_add]) (by simp) (by first|rfl|simp) (by first|rfl|simp))
end
theorem zsR(d:Nat):Valid ρ Tryz.prog 29 (bZ (fO (xw d))):=by
 induction d with
 | zero =>
   refine v1 (fo Tryz.func29 zvP) fun a r h hs=>?_
   obtain⟨⟨h1,h2,h3⟩,rfl⟩:=bI h;have:=Ty.size_pos a;omega
 | succ d ih =>
   refine v1 (fo Tryz.func29 zvP) fun a r h hs=>?_
   obtain⟨⟨h1,h2,h3⟩,rfl⟩:=bI h;exact Gb hρ (E:=EL [(29,bZ (fO (xw d)))]) rfl (au (ag ih az)) rfl h3 h1 h2 hs
end
end Go.Proofs.YtocdkgjpdnamlaaGreat
