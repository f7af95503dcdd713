import Derived.Test.YtocdkgjpdnamlaaGreatLU1
set_option linter.all false
noncomputable section
/- The fQ unification of MH 15;which iJ are valid and idempotent,and how one zIy through another. -/
namespace Go.Proofs.YtocdkgjpdnamlaaGreat
open Go.J
open Go.J.Enc (enc)
set_option maxRecDepth 100000
set_option maxHeartbeats 4000000
def zEV(a b:Ty):Option Bool:=if a.ok=true then some (decide (a=b))else none
section
variable {ρ:Nat->Value}(hρ:J.Good ρ)
include hρ
section
variable {E:Env}(hE:E.P=Tryz.prog)(hcon:aZ ρ E)
include hE hcon
theorem EX {f:Nat} (hR:E.dS 31=bZ (bz wW)) (hq:E.dS 40=bZ (bz zEV)) (hA:E.dS 72=bZ (dH zld)) (hc:E.dS 56=bZ (dH (zma f)))
 {V:List Int} {a b:Ty} {s:List Assign} {e:Int} {s':List Assign} (h1:zaT V s) (oa:a.ok=true) (ob:b.ok=true) (pa:a.ay=true) (pb:b.ay=true) (ca:cl V (jq s) a) (cb:cl V (jq s) b) (h:IY (f+1) a b s=some (e,s')) (hs:HS) :
 aA ρ Tryz.prog 56 [enc a,enc b,enc s] hs (enc (s',e)) hs:=by
 refine fn hρ hE hcon Tryz.func56 zvJ rfl (by simp) ?_ hs;have hsl:s.length<=100000:=by have:=h1.len;omega
 have zms:wW a s=some (a.dZ s):=if_pos ⟨oa,hsl⟩;have zmr:wW b s=some (b.dZ s):=if_pos ⟨ob,hsl⟩;have ox:=yA h1.ok a oa;have oy:=yA h1.ok b ob;have ea:=kJ s a pa;have eb:=kJ s b pb;have px:(a.dZ s).ay=true:=by rw[ea];exact dP h1.id.plain a pa
 have py:(b.dZ s).ay=true:=by rw[eb];exact dP h1.id.plain b pb
 have fx:(a.dZ s).app (jq s)=a.dZ s:=by rw[ea];exact h1.id.app a
 have fy:(b.dZ s).app (jq s)=b.dZ s:=by rw[eb];exact h1.id.app b
 have cx:cl V (jq s) (a.dZ s):=fun j hj=>ca j (by rw[fx,ea]at hj;exact hj)
 have cy:cl V (jq s) (b.dZ s):=fun j hj=>cb j (by rw[fy,eb]at hj;exact hj)
 have lx:(aP 1 [a.dZ s] []).length<=10000:=by have:=KC h1.id px cx;rw[fx]at this;have:=h1.sh;omega
 have ly:(aP 1 [b.dZ s] []).length<=10000:=by have:=KC h1.id py cy;rw[fy]at this;have:=h1.sh;omega
 rw[IY,rS]at h;generalize a.dZ s=x at *;generalize b.dZ s=y at *;by_cases hxy:x=y
 . subst hxy;rw[if_pos rfl]at h;cases h;have hE1:zEV x x=some true:=by unfold zEV;rw[if_pos ox,decide_eq_true rfl]
   simp [hE,hR,zms,zmr,hq,hE1]
 rw[if_neg hxy]at h;have hE1:zEV x y=some false:=by unfold zEV;rw[if_pos ox,decide_eq_false hxy]
 clear hxy
 have zvb:∀ {n:Int} {t:Ty},t.ok=true->(aP 1 [t] []).length<=10000->n∈V->jq s n=aM n->Ju n t s=some (e,s')->t.ay=true->zld n t s=some (s',e):=fun {n t} ot lt hn hf hr pt=>by
  unfold zld;rw[if_pos ⟨ot,lt,h1.ok,h1.room hn hf⟩];unfold Ju at hr;by_cases ho:t.lq n=true
  . rw[if_pos ho]at hr;cases hr;rw[if_pos ((Ox pt n).2 ho)]
  . rw[if_neg ho]at hr;cases hr;rw[if_neg fun hh=>ho ((Ox pt n).1 hh),Yj]
 have hfree:∀ {t:Ty},t.kind=1->t.ay=true->t.app (jq s)=t->cl V (jq s) t->t.id∈V/\jq s t.id=aM t.id:=fun {t} hk pt ft ct=>by
  refine⟨ct _ (by rw[ft,jB,if_pos hk];simp),?_⟩;rw[Ca hk]at ft;rw[ft];exact bg pt hk
 obtain⟨xk,xn,xi,xh,xl⟩:=x;obtain⟨yk,yn,yi,yh,yl⟩:=y;simp only[Ty.dx,Ty.gz,Ty.cZ]at h;by_cases hxk:xk=1
 . rw[if_pos hxk]at h;obtain⟨g1,g2⟩:=hfree (t:=Ty.mk xk xn xi xh xl) hxk px fx cx;have hF:=zvb oy ly g1 g2 h py;simp only[Ty.gz]at hF;subst hxk;simp [hE,hR,zms,zmr,hq,hE1,hA,hF]
 rw[if_neg hxk]at h;by_cases hyk:yk=1
 . rw[if_pos hyk]at h;obtain⟨g1,g2⟩:=hfree (t:=Ty.mk yk yn yi yh yl) hyk py fy cy;have hF:=zvb ox lx g1 g2 h px;simp only[Ty.gz]at hF;subst hyk;simp [hE,hR,zms,zmr,hq,hE1,hxk,hA,hF]
 rw[if_neg hyk]at h;have sm:(Ty.mk xk xn xi xh xl).same (Ty.mk yk yn yi yh yl)=true↔xk=yk/\xn=yn/\xi=yi/\xh=yh/\xl.length=yl.length:=same_iff;by_cases q1:xk=yk
 case neg =>
  rw[if_neg fun hh=>q1 (sm.1 hh).1]at h;cases h;simp [hE,hR,zms,zmr,hq,hE1,hxk,hyk,q1]
 subst q1;by_cases q2:xn=yn
 case neg =>
  rw[if_neg fun hh=>q2 (sm.1 hh).2.1]at h;cases h;simp [hE,hR,zms,zmr,hq,hE1,hxk,q2]
 subst q2;by_cases q3:xi=yi
 case neg =>
  rw[if_neg fun hh=>q3 (sm.1 hh).2.2.1]at h;cases h;simp [hE,hR,zms,zmr,hq,hE1,hxk,q3]
 subst q3;by_cases q4:xh=yh
 case neg =>
  rw[if_neg fun hh=>q4 (sm.1 hh).2.2.2.1]at h;cases h;simp [hE,hR,zms,zmr,hq,hE1,hxk,q4]
 subst q4;by_cases q5:xl.length=yl.length
 case neg =>
  have zQ1:¬ (xl.length:Int)=yl.length:=by omega
  rw[if_neg fun hh=>q5 (sm.1 hh).2.2.2.2]at h;cases h;simp [hE,hR,zms,zmr,hq,hE1,hxk,zQ1]
 rw[if_pos (sm.2 ⟨rfl,rfl,rfl,rfl,q5⟩)]at h;have hlx:=Ty.lH ox;simp only[Ty.cZ]at hlx;clear zvb hfree;have cx:=xR (t:=Ty.mk xk xn xi xh xl) hxk cx;have cy:=xR (t:=Ty.mk xk xn xi xh yl) hxk cy;have hox:=(Ty.ky.1 ox).2;have hoy:=(Ty.ky.1 oy).2;have hpx:=bN.1 (bS px);have hpy:=bN.1 (bS py);simp only[Ty.cZ]at cx cy hox hoy hpx hpy;simp [hE,hR,zms,zmr,hq,hE1,hxk,q5];clear hE1 zms zmr fx fy ea eb px py ox oy lx ly
 refine DV hρ hE hcon xl.length (nn:=2) (fun i (s1:List Assign)=>[(2,.sl (s1.map bF) false),(3,.ptr 0 0 0),(4,.ptr 1 0 0),(8,.int .i64 (i:Int))]) (fun i _=>[(0,box (ax (.mk xk xn xi xh xl))),(1,box (ax (.mk xk xn xi xh yl)))])
  (fun i s1=>zaT V s1/\(∀ u∈xl.drop i,cl V (jq s1) u)/\(∀ u∈yl.drop i,cl V (jq s1) u)/\rL (IY f) (xl.drop i) (yl.drop i) s1=some (e,s')) s
  (Less.auto (by simp) (by simp) (by first|rfl|simp) (by first|rfl|simp)) ⟨h1,by simpa using cx,by simpa using cy,by simpa using h⟩ ?_ ?_
 . rintro s1 ⟨_,_,_,g4⟩ K;rw[List.drop_length,rL]at g4
   . cases g4;simp [Mv,hE];refine bq.mk (Less.auto (TL:=[(2,.sl (s'.map bF) false)]) (HL:=[]) (n:=0) (by simp) (by simp) (by first|rfl|simp) (by first|rfl|simp)) ?_;simp [hE]
   . intro _ _ _ _ h;cases h
 . rintro i s1 hi ⟨g1,g2,g3,g4⟩ K hK;have hi':(i:Int)<xl.length:=by omega
   have zq6:i<yl.length:=by omega
   have zC4:(i:Int)<yl.length:=by omega
   have hw2:IntKind.i64.wrap ((i:Int)+1)=((i+1:Nat):Int):=bu (by omega);have zoH:(i*5) / 5=i:=by omega
   have zoG:(i*5) % 5=0:=by omega
   rw[List.drop_eq_getElem_cons hi,List.drop_eq_getElem_cons zq6]at g4;rw[List.drop_eq_getElem_cons hi]at g2;rw[List.drop_eq_getElem_cons zq6]at g3;have mu:=List.getElem_mem hi;have mv:=List.getElem_mem zq6;have ou:=hox _ mu;have ov:=hoy _ mv;have pu:=hpx _ mu;have pv:=hpy _ mv;have cu:=g2 _ (List.mem_cons_self ..);have cv:=g3 _ (List.mem_cons_self ..);rw[rL]at g4;obtain⟨u,hu⟩:∃ u,xl[i]=u:=⟨_,rfl⟩;obtain⟨v,hv⟩:∃ v,yl[i]=v:=⟨_,rfl⟩;rw[hu]at g4 ou pu cu;rw[hv]at g4 ov pv cv
   cases hr:IY f u v s1 with
   |none=>rw[hr]at g4;cases g4
   | some p =>
     obtain⟨e1,s2⟩:=p;rw[hr]at g4;simp only at g4;have hF:=zce g1 ou ov pu pv cu cv hr;by_cases he:e1=0
     . subst he;rw[if_pos rfl]at g4;obtain⟨k1,k2⟩:=g1.next ou ov pu pv cu cv hr;have hnew:=hK s2 ⟨k1,fun u hu=>k2 u (g2 u (List.mem_cons_of_mem _ hu)),fun u hu=>k2 u (g3 u (List.mem_cons_of_mem _ hu)),g4⟩;clear hK hr g4 cu cv pu pv ou ov mu mv;obtain⟨uk,un,ui,uh,ul⟩:=u;obtain⟨vk,vn,vi,vh,vl⟩:=v;simp [Mv,hE,zq6,zC4,hu,hv,hc,hF,hw2,q5,-Int.natCast_add];exact hnew _ _ (Less.auto (by simp[-Int.natCast_add]) (by simp) (by first|rfl|simp) (by first|rfl|simp))
     . rw[if_neg he]at g4;cases g4;clear hK hr cu cv pu pv ou ov mu mv;obtain⟨uk,un,ui,uh,ul⟩:=u;obtain⟨vk,vn,vi,vh,vl⟩:=v;simp [Mv,hE,zq6,zC4,hu,hv,hc,hF,he,q5];refine bq.mk (Less.auto (TL:=[(6,.snil),(7,.int .i64 e)]) (HL:=[]) (n:=0) (by simp) (by simp) (by first|rfl|simp) (by first|rfl|simp)) ?_;simp
theorem EY{f:Nat}(hc:E.dS 56=bZ (dH (zma f))){a b:Ty}{e:Int}{s:List Assign}(hF:zma f a b []=some (s,e))(hs:HS):aA ρ Tryz.prog 30 [enc a,enc b] hs (enc (s,e)) hs:=by
 refine fn hρ hE hcon Tryz.func30 zEC rfl (by simp) ?_ hs;simp [hE,hc,hF]
end
theorem QG:Valid ρ Tryz.prog 31 (bZ (bz wW)):=v2 (fo Tryz.func31 zo1) fun a b r h hs=>by
 obtain⟨⟨h1,h3⟩,rfl⟩:=bI h;exact uI hρ (E:=EL [(31,bZ (bz (Bc a.size)))]) rfl (au (ag (Nn hρ a.size) az)) rfl h1 (by omega) h3 hs
theorem znb:Valid ρ Tryz.prog 111 (bZ (bz MN)):=v2 (fo Tryz.func111 Ye) fun a b r h hs=>by
 obtain⟨⟨h1,h3⟩,rfl⟩:=bI h;exact CU hρ (E:=EL [(31,bZ (bz wW))]) rfl (au (ag (QG hρ) az)) rfl h1 h3 hs
theorem zAK:Valid ρ Tryz.prog 96 (bZ (bz zob)):=v2 (fo Tryz.func96 zEd) fun a b r h hs=>by
 obtain⟨⟨h1,h3⟩,rfl⟩:=bI h;exact CO hρ (E:=EL [(66,sj),(42,SX)]) rfl (au (ag (zm8 hρ) (ag (zsH hρ) az))) rfl rfl h1 h3 hs
theorem QI:Valid ρ Tryz.prog 97 (bZ (bz zIP)):=v2 (fo Tryz.func97 zEc) fun a b r h hs=>by
 obtain⟨⟨h1,h3⟩,rfl⟩:=bI h;exact Bi hρ (E:=EL [(111,bZ (bz MN)),(110,qp)]) rfl (au (ag (znb hρ) (ag (zbn hρ) az))) rfl rfl h1 h3 hs
theorem YR:Valid ρ Tryz.prog 72 (bZ (dH zld)):=v3 (fo Tryz.func72 zEk) fun a b c r h hs=>by
 obtain⟨⟨h1,h2,h3,h4⟩,rfl⟩:=bI h;exact CS hρ (E:=EL [(96,bZ (bz zob)),(97,bZ (bz zIP))]) rfl (au (ag (zAK hρ) (ag (QI hρ) az))) rfl rfl h1 h2 h3 h4 hs
theorem za8(f:Nat):Valid ρ Tryz.prog 56 (bZ (dH (zma f))):=by
 induction f with
 | zero =>
   refine v3 (fo Tryz.func56 zvJ) fun a b c r h hs=>?_
   obtain⟨V,_,_,_,_,_,_,_,h⟩:=TR h;cases h
 | succ f ih =>
   refine v3 (fo Tryz.func56 zvJ) fun a b c r h hs=>?_
   obtain⟨V,h1,h2,h3,h4,h5,h6,h7,h8⟩:=TR h
   exact EX hρ (E:=EL [(31,bZ (bz wW)),(40,equalS),(72,bZ (dH zld)),(56,bZ (dH (zma f)))]) rfl
    (au (ag (QG hρ) (ag (QH hρ) (ag (YR hρ) (ag ih az))))) rfl rfl rfl rfl h1 h2 h3 h4 h5 h6 h7 h8 hs
theorem zbd:Valid ρ Tryz.prog 30 (bZ (bz znM)):=v2 (fo Tryz.func30 zEC) fun a b r h hs=>by
 obtain⟨⟨h1,h2,h3,h4,h5⟩,rfl⟩:=bI h
 have hab:∀ t∈[a,b],t.ay=true:=fun t ht=>by
  rcases List.mem_cons.1 ht with rfl|ht
  . exact h3
  . rw[List.mem_singleton.1 ht];exact h4
 have hl:(ji [a,b]).length<=8000:=by
  have h1:=yK (aP 1 [a,b] []);have h2:=(iK 1 [a,b] []).2;simp only[Ty.sizes,List.length_nil]at h2;unfold ji;omega
 obtain⟨f,hf⟩:=zb8 h3 h4
 have hF:=zce (V:=ji [a,b]) (.nil hl) h1 h2 h3 h4 (by
  rw[tK]
  exact fun j hj=>(rY hab j).2 ⟨a,List.mem_cons_self ..,by rw[Az a h3]at hj;exact hj⟩) (by
  rw[tK]
  exact fun j hj=>(rY hab j).2 ⟨b,List.mem_cons_of_mem _ (List.mem_singleton_self _),by rw[Az b h4]at hj;exact hj⟩) hf
 exact EY hρ (E:=EL [(56,bZ (dH (zma f)))]) rfl (au (ag (za8 hρ f) az)) rfl hF hs
end
end Go.Proofs.YtocdkgjpdnamlaaGreat
