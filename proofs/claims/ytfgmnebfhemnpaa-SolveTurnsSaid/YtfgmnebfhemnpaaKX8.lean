import Derived.Test.YtfgmnebfhemnpaaKX6
import Derived.Test.YtfgmnebfhemnpaaJCx
import Derived.Test.YtfgmnebfhemnpaaJN
import Derived.Test.YtfgmnebfhemnpaaKX7
set_option linter.all false
noncomputable section
/- Whether a substitution solves equations: in the program and in the reference. -/
namespace Go.Proofs.Ytfgmnebfhemnpaa
open Go.J
open Go.J.Enc (enc)
set_option maxRecDepth 100000
set_option maxHeartbeats 1000000
def treN(t:Ty)(s:List Assign):Option Ty:=if t.ok=true∧s.length≤100000 then some (t.reb (leafR s))else none
def sapF(s:List Assign)(t:Ty):Option Ty:=if t.ok=true∧t.vplain=true∧s.length≤100000 then some (t.repl s)else none
def teN(a b:Ty):Option Bool:=if a.ok=true∧b.ok=true then some (decide (a=b))else none
def neB(s:List Assign)(q:Equation):Bool:=!decide (q.left.repl s=q.right.repl s)
def neX(s:List Assign):List Equation→Int→Int
 | [],_=>-1
 |q::l,i=>if neB s q=true then i else neX s l (i+1)
theorem neX_any(s:List Assign):∀ (l:List Equation) (i:Int),0≤i→decide (0≤neX s l i)=l.any (neB s):=by
 intro l
 induction l with
 |nil=>intro i _;rfl
 | cons x l ih =>
   intro i hi
   rw[neX,List.any_cons]
   by_cases h:neB s x=true
   · rw[if_pos h,h,Bool.true_or];exact decide_eq_true hi
   · rw[if_neg h,ih (i+1) (by omega)]
     have:neB s x=false:=by simpa using h
     rw[this,Bool.false_or]
def SdOk(q:Equation):Prop:=(q.left.ok=true∧q.left.vplain=true)∧q.right.ok=true∧q.right.vplain=true
structure UnC(s:List Assign)(l:List Equation):Prop where
 ok:okA s
 sl:s.length≤8000
 sd:∀ q∈l,SdOk q
 ll:l.length≤1000
open Classical in
def un1(c av:V):Option V:=ob (Enc.dec c:Option (List Assign)) fun s=>ob (Enc.dec av:Option Equation) fun q=>if okA s∧s.length≤8000∧SdOk q then some (.bool (neB s q))else none
open Classical in
def un2(c av:V):Option V:=ob (Enc.dec c:Option (List Assign)) fun s=>ob (Enc.dec av:Option (List Equation)) fun l=>if UnC s l then some (.int .i64 (neX s l 0))else none
open Classical in
def un3(c av:V):Option V:=ob (Enc.dec c:Option (List Assign)) fun s=>ob (Enc.dec av:Option (List Equation)) fun l=>if UnC s l then some (.bool (l.any (neB s)))else none
open Classical in
def unF(s:List Assign)(l:List Equation):Option Bool:=if UnC s l then some (!(l.any (neB s)))else none
def un1S:J.Spec:=rdE (cxM none un1)
def un2S:J.Spec:=rdE (cxM (some 27) un2)
def un3S:J.Spec:=rdE (cxM (some 27) un3)
section
variable {ρ:Nat→Value}(hρ:J.Good ρ)
include hρ
section
variable {E:Env}(hE:E.P=Try.prog)(hcon:ConsOk ρ E)
include hE hcon
theorem subst_Apply_frz(hR:E.con 44=fnS (spec2 treN)){s:List Assign}{t:Ty}(ht:t.ok=true)(hp:t.vplain=true)(hl:s.length≤100000)(hs:HS):CallOk ρ Try.prog 29 [enc s,enc t] hs (enc (t.repl s)) hs:=by
 refine fn hρ hE hcon Try.func29 fB29 rfl (by simp) ?_ hs
 have e:t.reb (leafR s)=t.repl s:=reb_repl s t (vplain_leafy t hp)
 have hF:treN t s=some (t.repl s):=by rw[← e];exact if_pos ⟨ht,hl⟩
 generalize t.repl s=r at hF
 obtain⟨tk,tn,ti,th,tl⟩:=t
 obtain⟨rk,rn,ri,rh,rl⟩:=r
 simp[fS29r0,fS29r1,fS29,hE,hR,hF]
theorem solve_Unifies_1_w(hA:E.con 29=fnS (spec2 sapF))(hq:E.con 28=fnS (spec2 teN)){s:List Assign}{q:Equation}(h1:okA s)(h2:s.length≤8000)(h3:SdOk q) :
 Wp ρ E 1 14 fS27 ((PT.leaf.set 0 (enc q)).set 1 (.ptr 0 0 0)) { H:=mkP [(0,capB (enc s))],n:=1,log:=[] } (J.Leaves E.P Try.f27 (GivesL 1 (.bool (neB s q)) [(0,capB (enc s))])):=by
 obtain⟨a,b⟩:=q
 obtain⟨⟨oa,pa⟩,ob,pb⟩:=h3
 simp only at oa pa ob pb
 have f1:sapF s a=some (a.repl s):=if_pos ⟨oa,pa,by omega⟩
 have f2:sapF s b=some (b.repl s):=if_pos ⟨ob,pb,by omega⟩
 have f3:teN (a.repl s) (b.repl s)=some (decide (a.repl s=b.repl s)):=if_pos ⟨repl_ok h1 a oa,repl_ok h1 b ob⟩
 have hne:neB s ⟨a,b⟩=!decide (a.repl s=b.repl s):=rfl
 rw[hne]
 generalize hd:decide (a.repl s=b.repl s)=d at f3
 generalize a.repl s=x at f1 f3
 generalize b.repl s=y at f2 f3
 obtain⟨ak,an,ai,ah,al⟩:=a
 obtain⟨bk,bn,bi,bh,bl⟩:=b
 obtain⟨xk,xn,xi,xh,xl⟩:=x
 obtain⟨yk,yn,yi,yh,yl⟩:=y
 simp[fS27r0,fS27r1,fS27,hE,hA,f1,f2,hq,f3]
 exact GivesL.keep rfl rfl (by simp) (by simp) (by simp)
theorem IndexFunc_eqs_w(h2:E.con 27=un1S){s:List Assign}{l:List Equation}(h:UnC s l) :
 Wp ρ E 1 19 fS42 ((PT.leaf.set 0 (enc l)).set 1 (.func 27 [.ptr 0 0 0])) { H:=mkP [(0,capB (enc s))],n:=1,log:=[] } (J.Leaves E.P Try.f42 (GivesL 1 (.int .i64 (neX s l 0)) [(0,capB (enc s))])):=by
 obtain⟨k1,k2,k3,k4⟩:=h
 generalize hR:neX s l 0=R
 simp[fS42r0,fS42r1,fS42r2,fS42r3,fS42r4,fS42r5,fS42b0,fS42r6,fS42b1,fS42r7,fS42,hE]
 refine lpi hρ hE hcon l.length (nn:=1) (fun i (_:Unit)=>[(0,.sl (l.map encEquation) false),(1,.func 27 [.ptr 0 0 0]),(7,.int .i64 (l.length:Int)),(8,.int .i64 (i:Int))])
  (fun _ _=>[(0,.arr 1 0 [[.sl (s.map encAssign) false]] true false false)]) (fun i _=>neX s (l.drop i) i=R) ()
  (Less.auto (by simp) (by simp) (by first|rfl|simp) (by first|rfl|simp)) (by simpa using hR) ?_ ?_
 · intro _ h K
   rw[List.drop_length,neX]at h
   subst h
   simp[fS42l0,fS42r0,fS42r1,fS42r2,fS42r3,fS42r4,fS42r5,fS42b0,fS42r6,fS42b1,fS42r7,fS42,hE]
   refine LessQ.mk (Less.auto (TL:=[]) (HL:=[(0,.arr 1 0 [[.sl (s.map encAssign) false]] true false false)]) (n:=1) (by simp) (by simp) (by first|rfl|simp) (by first|rfl|simp)) ?_
   simp[fS42r0,fS42r1,fS42r2,fS42r3,fS42r4,fS42r5,fS42b0,fS42r6,fS42b1,fS42r7,fS42,hE]
   exact GivesL.keep rfl rfl (by simp) (by simp) (by simp)
 · intro i _ hi h K hK
   have hi':(i:Int)<l.length:=by omega
   have hw2:IntKind.i64.wrap ((i:Int)+1)=((i+1:Nat):Int):=wrap_succ (by omega)
   have ha0:(i*10) / 10=i:=by omega
   have ha1:(i*10) % 10=0:=by omega
   rw[List.drop_eq_getElem_cons hi,neX]at h
   have hsd:=k3 _ (List.getElem_mem hi)
   obtain⟨q,hx⟩:∃ q,l[i]=q:=⟨_,rfl⟩
   rw[hx]at h hsd
   have hF:un1 (enc s) (enc q)=some (.bool (neB s q)):=by
    unfold un1
    simp only[Enc.dec_enc,J.ob_some]
    exact if_pos ⟨k1,k2,hsd⟩
   by_cases hq:neB s q=true
   · rw[if_pos hq]at h
     rw[hq]at hF
     subst h
     obtain⟨⟨ak,an,ai,ah,al⟩,⟨bk,bn,bi,bh,bl⟩⟩:=q
     simp[encEquation]at hF
     simp[fS42l0,fS42r0,fS42r1,fS42r2,fS42r3,fS42r4,fS42r5,fS42b0,fS42r6,fS42b1,fS42r7,fS42,hE,hi,hi',ha0,ha1,hx,h2,un1S,hF]
     refine LessQ.mk (Less.auto (TL:=[(4,.int .i64 (i:Int))]) (HL:=[(0,.arr 1 0 [[.sl (s.map encAssign) false]] true false false)]) (n:=1) (by simp) (by simp) (by first|rfl|simp) (by first|rfl|simp)) ?_
     simp[fS42r0,fS42r1,fS42r2,fS42r3,fS42r4,fS42r5,fS42b0,fS42r6,fS42b1,fS42r7,fS42,hE]
     exact GivesL.keep rfl rfl (by simp) (by simp) (by simp)
   · rw[if_neg hq]at h
     have hq':neB s q=false:=by simpa using hq
     rw[hq']at hF
     have hnew:=hK () (by rw[← h];congr 1)
     obtain⟨⟨ak,an,ai,ah,al⟩,⟨bk,bn,bi,bh,bl⟩⟩:=q
     simp[encEquation]at hF
     simp[fS42l0,fS42r0,fS42r1,fS42r2,fS42r3,fS42r4,fS42r5,fS42b0,fS42r6,fS42b1,fS42r7,fS42,hE,hi,hi',ha0,ha1,hx,h2,un1S,hF,hw2,-Int.natCast_add]
     exact hnew _ _ (Less.auto (by simp[-Int.natCast_add]) (by simp) (by first|rfl|simp) (by first|rfl|simp))
theorem ContainsFunc_eqs_w(h3:E.con 42=un2S){s:List Assign}{l:List Equation}(h:UnC s l) :
 Wp ρ E 1 9 fS26 ((PT.leaf.set 0 (enc l)).set 1 (.func 27 [.ptr 0 0 0])) { H:=mkP [(0,capB (enc s))],n:=1,log:=[] } (J.Leaves E.P Try.f26 (GivesL 1 (.bool (l.any (neB s))) [(0,capB (enc s))])):=by
 rw[← neX_any s l 0 (Int.le_refl _)]
 have hF:un2 (enc s) (enc l)=some (.int .i64 (neX s l 0)):=by
  unfold un2
  simp only[Enc.dec_enc,J.ob_some]
  exact if_pos h
 generalize neX s l 0=R at hF
 simp at hF
 simp[fS26r0,fS26r1,fS26,hE,h3,un2S,hF]
 exact GivesL.keep rfl rfl (by simp) (by simp) (by simp)
theorem solve_Unifies_run(h3:E.con 26=un3S){s:List Assign}{l:List Equation}(h:UnC s l)(hs:HS):CallOk ρ Try.prog 12 [enc s,enc l] hs (enc (!(l.any (neB s)))) hs:=by
 refine fn hρ hE hcon Try.func12 fB12 rfl (by simp) ?_ hs
 have hF:un3 (enc s) (enc l)=some (.bool (l.any (neB s))):=by
  unfold un3
  simp only[Enc.dec_enc,J.ob_some]
  exact if_pos h
 generalize l.any (neB s)=R at hF
 simp at hF
 simp[fS12r0,fS12r1,fS12,hE,h3,un3S,hF]
end
theorem vSApply:Valid ρ Try.prog 29 (fnS (spec2 sapF)):=v2 (fo Try.func29 fB29) fun a b r h hs=>by
 obtain⟨⟨h1,h2,h3⟩,rfl⟩:=ite_inv h
 exact subst_Apply_frz hρ (E:=EL [(44,replaceS)]) rfl (consOk_list (valid_cons (vTReplace hρ) valid_nil)) rfl h1 h2 h3 hs
theorem vUn1:Valid ρ Try.prog 27 un1S:=Valid.rdE (fo Try.func27 fB27) fun vs hs D h _=>by
 obtain⟨c,id,av,r,hF,rfl,hr,hg,hfit⟩:=cxM_inv h
 unfold un1 at hF
 simp only[ob_eq]at hF
 obtain⟨s,hs1,q,hq,hF⟩:=hF
 split at hF
 · rename_i hh
   cases hF
   have e1:=Enc.enc_dec _ _ hs1
   have e2:=Enc.enc_dec _ _ hq
   subst e1 e2
   have hcn:ConsOk ρ (EL [(29,fnS (spec2 sapF)),(28,tequalS)]):=consOk_list (valid_cons (vSApply hρ) (valid_cons (vTEqual hρ) valid_nil))
   exact rdG_run hρ hcn rfl named Try.func27 fB27 rfl hg rfl hr (solve_Unifies_1_w hρ (E:=EL [(29,fnS (spec2 sapF)),(28,tequalS)]) rfl hcn rfl rfl hh.1 hh.2.1 hh.2.2) hfit
 · cases hF
theorem vUn2:Valid ρ Try.prog 42 un2S:=Valid.rdE (fo Try.func42 fB42) fun vs hs D h _=>by
 obtain⟨c,id,av,r,hF,rfl,hr,hg,hfit⟩:=cxM_inv h
 unfold un2 at hF
 simp only[ob_eq]at hF
 obtain⟨s,hs1,q,hq,hF⟩:=hF
 split at hF
 · rename_i hh
   cases hF
   have e1:=Enc.enc_dec _ _ hs1
   have e2:=Enc.enc_dec _ _ hq
   subst e1 e2
   have hcn:ConsOk ρ (EL [(27,un1S)]):=consOk_list (valid_cons (vUn1 hρ) valid_nil)
   exact rdG_run hρ hcn rfl named Try.func42 fB42 rfl hg rfl hr (IndexFunc_eqs_w hρ (E:=EL [(27,un1S)]) rfl hcn rfl hh) hfit
 · cases hF
theorem vUn3:Valid ρ Try.prog 26 un3S:=Valid.rdE (fo Try.func26 fB26) fun vs hs D h _=>by
 obtain⟨c,id,av,r,hF,rfl,hr,hg,hfit⟩:=cxM_inv h
 unfold un3 at hF
 simp only[ob_eq]at hF
 obtain⟨s,hs1,q,hq,hF⟩:=hF
 split at hF
 · rename_i hh
   cases hF
   have e1:=Enc.enc_dec _ _ hs1
   have e2:=Enc.enc_dec _ _ hq
   subst e1 e2
   have hcn:ConsOk ρ (EL [(42,un2S)]):=consOk_list (valid_cons (vUn2 hρ) valid_nil)
   exact rdG_run hρ hcn rfl named Try.func26 fB26 rfl hg rfl hr (ContainsFunc_eqs_w hρ (E:=EL [(42,un2S)]) rfl hcn rfl hh) hfit
 · cases hF
theorem vUnifies:Valid ρ Try.prog 12 (fnS (spec2 unF)):=v2 (fo Try.func12 fB12) fun a b r h hs=>by
 obtain⟨h1,rfl⟩:=ite_inv h
 exact solve_Unifies_run hρ (E:=EL [(26,un3S)]) rfl (consOk_list (valid_cons (vUn3 hρ) valid_nil)) rfl h1 hs
end
end Go.Proofs.Ytfgmnebfhemnpaa
/- The law SolveAnswers: what its function computes. -/
namespace Go.Proofs.Ytfgmnebfhemnpaa
open Go.J
open Go.J.Enc (enc)
set_option maxRecDepth 100000
set_option maxHeartbeats 1000000
structure SolOk(l:List Equation)(W:List Int)(S:List Assign):Prop where
 el:∀ x∈S,x.id∈W∧(∀ j∈varsM [x.type],j∈W)∧(tVar x.id).valid=true∧x.type.valid=true∧x.type.repl S=x.type∧x.type.size≤200∧x.type.ok=true∧(leavesL 1 [x.type] []).length≤7
 nd:Nd S
 sl:S.length≤7
 un:UnC S l
 so:l.any (neB S)=false
theorem sol_ok{l:List Equation}(h:EqsOk l)(hW:(varsM (sides l)).length≤7)(hr:∀ j∈varsM (sides l),0≤j∧j≤1000000){k:Nat}{σ:Sub}(hs:slA (varsM (sides l)) l 0 tVar=(0,k,σ)){T:List Assign}(hT:Tri T σ):SolOk l (varsM (sides l)) (asgF T σ (varsM (sides l))):=by
 obtain⟨g1,_⟩:=sl_ok l 0 tVar 0 k σ (sinv0 _) h.eq hs
 obtain⟨hI,_,hu,_⟩:=g1 rfl
 have hz:=sl_size l 0 tVar k σ (fun v _=>by simp[tVar,Ty.size,Ty.sizes]) hs
 have hpl:=sides_plain h
 have hel:∀ x∈asgF T σ (varsM (sides l)),x.id∈varsM (sides l)∧(∀ j∈varsM [x.type],j∈varsM (sides l))∧(tVar x.id).valid=true∧x.type.valid=true∧x.type.repl (asgF T σ (varsM (sides l)))=x.type∧x.type.size≤200∧x.type.ok=true∧(leavesL 1 [x.type] []).length≤7:=fun x hx=>by
  obtain⟨k1,e⟩:=asgF_mem hx
  obtain⟨r1,r2⟩:=hr _ k1
  have hv:=hI.val _ r1 r2
  have hp:=hI.idem.plain x.id
  rw[e]
  refine⟨k1,fun j hj=>hI.cl _ k1 j ((occ_vars hp j).1 hj),valid_tVarI r1 r2,hv,asgF_idem hT _,hz _ k1,valid_ok _ hv,?_⟩
  refine Nat.le_trans (leaves_short (V:=varsM (sides l)) (fun t ht=>?_) (fun t ht j hj=>?_)) hW
  · rw[List.mem_singleton.1 ht];exact hp
  · rw[List.mem_singleton.1 ht]at hj;exact hI.cl _ k1 j hj
 have hsl:(asgF T σ (varsM (sides l))).length≤7:=by
  refine Nat.le_trans ?_ hW
  unfold asgF
  rw[List.length_map]
  exact List.length_filter_le ..
 refine⟨hel,asgF_ids (vars_nodup hpl),hsl,⟨fun x hx=>(hel x hx).2.2.2.2.2.2.1,by omega,fun q hq=>⟨⟨h.ok _ (sides_l hq).1,(h.eq q hq).1.1⟩,h.ok _ (sides_l hq).2,(h.eq q hq).2.1⟩,by have:=h.len;omega⟩,?_⟩
 cases hb:l.any (neB (asgF T σ (varsM (sides l))))with
 |false=>rfl
 | true =>
   obtain⟨q,hq,hn⟩:=List.any_eq_true.1 hb
   exfalso
   have e1:=asgF_repl hT (h.eq q hq).1.1 (h.eq q hq).1.2.2
   have e2:=asgF_repl hT (h.eq q hq).2.1 (h.eq q hq).2.2.2
   unfold neB at hn
   rw[e1,e2,hu q hq]at hn
   simp at hn
section
variable {ρ:Nat→Value}(hρ:J.Good ρ){E:Env}(hE:E.P=Try.prog)(hcon:ConsOk ρ E)
include hρ hE hcon
end
end Go.Proofs.Ytfgmnebfhemnpaa
