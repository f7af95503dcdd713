import Derived.Test.YtfgmnebfhemnpaaKX1
import Derived.Test.YtfgmnebfhemnpaaJZ
import Derived.Test.YtfgmnebfhemnpaaJY
import Derived.Test.YtfgmnebfhemnpaaJN
set_option linter.all false
noncomputable section
/- The set of types: following variables. -/
namespace Go.Proofs.Ytfgmnebfhemnpaa
open Go.J
open Go.J.Enc (enc)
set_option maxRecDepth 100000
set_option maxHeartbeats 1000000
def wkV(T:List Assign)(args:List V):Option (V×List Assign):=match args with
 | [tv]=>ob (Enc.dec tv:Option Ty) fun t=>ob (wk T t) fun r=>some (enc r,T)
 |_=>none
@[simp] theorem isSome_s {v:V}:isSomeO (some v)=true:=(rfl)
@[simp] theorem isSome_n:isSomeO (none:Option V)=false:=(rfl)
@[simp] theorem bi_t {α:Type} {x y:α}:bi true x y=x:=(rfl)
theorem zeroTy:zeroJ I31=some (.agg [.int .i64 0,.str [],.int .i64 0,.int .i64 0,.snil]):=by rfl
theorem wk_some{T:List Assign}{t r:Ty}(h:wk T t=some r):∃ n,Wk T t r n:=by
 unfold wk at h
 split at h
 · rename_i hh
   cases h
   exact hh.choose_spec
 · cases h
section
variable {ρ:Nat→Value}(hρ:J.Good ρ)
include hρ
section
variable {E:Env}(hE:E.P=Try.prog)(hcon:ConsOk ρ E)
include hE hcon
theorem triangle_Walk_w {T:List Assign} {t r:Ty} {n:Nat} (hw:Wk T t r n) :
 Wp ρ E 2 24 fS34 ((PT.leaf.set 0 (.ptr 0 0 0)).set 1 (enc t)) { H:=mkP (triOL T),n:=2,log:=[] } (J.Leaves E.P Try.f34 (GivesL 2 (enc r) (triOL T))):=by
 simp[fS34r0,fS34r1,fS34r2,fS34r3,fS34r4,fS34b0,fS34b1,fS34r5,fS34,hE,triOL,triB]
 refine lpi hρ hE hcon n (nn:=4) (fun i (_:Ty)=>[(0,.ptr 0 0 0),(3,.ptr 2 0 0),(4,.ptr 3 0 0)]) (fun i u=>[(0,.arr 2 0 [[.map 1,.nilmap]] true false false),(1,.mp (T.map typP)),(2,box (encTy u)),(3,box [.int .i64 0,.str [],.int .i64 0,.int .i64 0,.snil])]) (fun i u=>Wk T u r (n-i)) t
  (Less.auto (by simp) (by simp) (by simp) (by simp<;>(intro x hx;first|omega|exact⟨.inl hx,by omega⟩))) hw ?_ ?_
 · intro u hu K
   rw[Nat.sub_self]at hu
   cases hu with
   | stop hs =>
     obtain⟨k,nm,i,h,l⟩:=r
     by_cases hk:k=1
     · subst hk
       have hl:lookA T i=none:=hs rfl
       simp[fS34l0,fS34r0,fS34r1,fS34r2,fS34r3,fS34r4,fS34b0,fS34b1,fS34r5,fS34,hE,hl,lookupJ,entriesJ,keyOk,zeroTy]
       refine LessQ.mk (Less.auto (TL:=[(3,.ptr 2 0 0),(4,.ptr 3 0 0)]) (HL:=[(0,.arr 2 0 [[.map 1,.nilmap]] true false false),(1,.mp (T.map typP)),(2,box (encTy (.mk 1 nm i h l))),(3,box [.int .i64 0,.str [],.int .i64 0,.int .i64 0,.snil])]) (n:=4) (by simp) (by simp) (by simp) (by simp<;>(intro x hx;first|omega|exact⟨.inl hx,by omega⟩))) ?_
       simp[fS34r0,fS34r1,fS34r2,fS34r3,fS34r4,fS34b0,fS34b1,fS34r5,fS34,hE]
       exact GivesL.keep rfl rfl (by simp[triOL,triB]) (by simp[triOL,triB]) (by simp[triOL,triB])
     · simp[fS34l0,fS34r0,fS34r1,fS34r2,fS34r3,fS34r4,fS34b0,fS34b1,fS34r5,fS34,hE,hk]
       refine LessQ.mk (Less.auto (TL:=[(3,.ptr 2 0 0),(4,.ptr 3 0 0)]) (HL:=[(0,.arr 2 0 [[.map 1,.nilmap]] true false false),(1,.mp (T.map typP)),(2,box (encTy (.mk k nm i h l))),(3,box [.int .i64 0,.str [],.int .i64 0,.int .i64 0,.snil])]) (n:=4) (by simp) (by simp) (by simp) (by simp<;>(intro x hx;first|omega|exact⟨.inl hx,by omega⟩))) ?_
       simp[fS34r0,fS34r1,fS34r2,fS34r3,fS34r4,fS34b0,fS34b1,fS34r5,fS34,hE]
       exact GivesL.keep rfl rfl (by simp[triOL,triB]) (by simp[triOL,triB]) (by simp[triOL,triB])
 · intro i u hi hu K hK
   obtain⟨m,hm⟩:∃ m,n-i=m+1:=⟨n-i-1,by omega⟩
   rw[hm]at hu
   cases hu with
   | @step u v _ _ hk hl hw2 =>
     have hnew:=hK v (by rw[show n-(i+1)=m by omega];exact hw2)
     clear hK hw
     obtain⟨k,nm,j,h,l⟩:=u
     obtain rfl:k=1:=hk
     have hl:lookA T j=some v:=hl
     obtain⟨vk,vn,vi,vh,vl⟩:=v
     simp[fS34l0,fS34r0,fS34r1,fS34r2,fS34r3,fS34r4,fS34b0,fS34b1,fS34r5,fS34,hE,hl,lookupJ,entriesJ,keyOk,zeroTy]
     exact hnew _ _ (Less.auto (by simp) (by simp) (by simp) (by simp<;>(intro x hx;first|omega|exact⟨.inl hx,by omega⟩)))
end
theorem vTWalk:Valid ρ Try.prog 34 (rdE (triM wkV)):=Valid.rdE (fo Try.func34 fB34) fun vs hs D h _=>by
 obtain⟨args,T,r,T',a,m,hF,rfl,_,hr,hg,hfit⟩:=triM_inv h
 unfold wkV at hF
 split at hF
 · simp only[ob_eq]at hF
   obtain⟨t,ht,r0,hw,hF⟩:=hF
   cases hF
   obtain⟨n,hwk⟩:=wk_some hw
   have e:=Enc.enc_dec _ _ ht
   subst e
   exact rdG_run hρ (E:=EL []) (consOk_list valid_nil) rfl named Try.func34 fB34 rfl hg rfl hr (triangle_Walk_w hρ (E:=EL []) rfl (consOk_list valid_nil) hwk) hfit
 · cases hF
end
end Go.Proofs.Ytfgmnebfhemnpaa
/- The set of types: the search for a variable. -/
namespace Go.Proofs.Ytfgmnebfhemnpaa
open Go.J
open Go.J.Enc (enc)
set_option maxRecDepth 100000
set_option maxHeartbeats 1000000
def tok(T:List Assign):Prop:=∀ a∈T,a.type.ok=true
open Classical in
def ocF(d:Nat)(T:List Assign)(S:List Int)(n:Int)(t:Ty):Option (Bool×List Int):=if tok T∧t.ok=true then ocM T n d t S else none
theorem ocF_inv{d:Nat}{T:List Assign}{S:List Int}{n:Int}{t:Ty}{q:Bool×List Int}(h:ocF d T S n t=some q):tok T∧t.ok=true∧ocM T n d t S=some q:=by
 unfold ocF at h
 split at h
 · rename_i hh;exact⟨hh.1,hh.2,h⟩
 · cases h
section
variable {ρ:Nat→Value}(hρ:J.Good ρ)
include hρ
section
variable {E:Env}(hE:E.P=Try.prog)(hcon:ConsOk ρ E)
include hE hcon
theorem triangle_occurs_w {d:Nat} (hc:E.con 49=embS (trsM (ocF d))) {T:List Assign} {S:List Int} {n:Int} {t:Ty} {b:Bool} {S':List Int} (h:ocF (d+1) T S n t=some (b,S')) :
 Wp ρ E 3 59 fS49 ((((PT.leaf.set 0 (.ptr 0 0 0)).set 1 (.int .i64 n)).set 2 (enc t)).set 3 (.map 2)) { H:=mkP (trsOL T S),n:=3,log:=[] } (J.Leaves E.P Try.f49 (GivesL 3 (.bool b) (trsOL T S'))):=by
 obtain⟨hT,ht,ho⟩:=ocF_inv h
 clear h
 rw[ocM]at ho
 simp only at ho
 have hlen:=Ty.ok_len ht
 have hargs:=(Ty.ok_iff.1 ht).2
 obtain⟨k,nm,i,hh,l⟩:=t
 simp only[Ty.kind_mk,Ty.id_mk,Ty.args_mk]at ho hlen hargs
 have hz:zeroJ I4=some (V.bool false):=by rfl
 by_cases hk:k=1
 · subst hk
   rw[if_pos rfl]at ho
   by_cases h1:i=n
   · rw[if_pos h1]at ho
     cases ho
     simp[fS49r0,fS49r1,fS49r2,fS49r3,fS49r4,fS49r5,fS49r6,fS49r7,fS49r8,fS49r9,fS49r10,fS49r11,fS49r12,fS49r13,fS49b0,fS49r14,fS49b1,fS49r15,fS49,hE,trsOL,triB,h1]
     exact GivesL.keep rfl rfl (by simp) (by simp) (by simp)
   · rw [if_neg h1]at ho
     cases hl:lookA T i with
     | none =>
       rw[hl]at ho
       cases ho
       simp[fS49r0,fS49r1,fS49r2,fS49r3,fS49r4,fS49r5,fS49r6,fS49r7,fS49r8,fS49r9,fS49r10,fS49r11,fS49r12,fS49r13,fS49b0,fS49r14,fS49b1,fS49r15,fS49,hE,trsOL,triB,h1,hl,lookupJ,entriesJ,keyOk,zeroTy,hz]
       exact GivesL.keep rfl rfl (by simp) (by simp) (by simp)
     | some x =>
       rw[hl]at ho
       simp only at ho
       by_cases h2:i∈S
       · rw[if_pos h2]at ho
         cases ho
         obtain⟨xk,xn,xi,xh,xl⟩:=x
         simp[fS49r0,fS49r1,fS49r2,fS49r3,fS49r4,fS49r5,fS49r6,fS49r7,fS49r8,fS49r9,fS49r10,fS49r11,fS49r12,fS49r13,fS49b0,fS49r14,fS49b1,fS49r15,fS49,hE,trsOL,triB,h1,hl,h2,lookupJ,entriesJ,keyOk,zeroTy,hz]
         exact GivesL.keep rfl rfl (by simp) (by simp) (by simp)
       · rw[if_neg h2]at ho
         obtain⟨a,ha,hax⟩:=lookA_mem hl
         have hF:ocF d T (S++[i]) n x=some (b,S'):=by
          unfold ocF
          rw[if_pos ⟨hT,by rw[← hax];exact hT a ha⟩]
          exact ho
         obtain⟨xk,xn,xi,xh,xl⟩:=x
         simp[fS49r0,fS49r1,fS49r2,fS49r3,fS49r4,fS49r5,fS49r6,fS49r7,fS49r8,fS49r9,fS49r10,fS49r11,fS49r12,fS49r13,fS49b0,fS49r14,fS49b1,fS49r15,fS49,hE,trsOL,triB,h1,hl,h2,lookupJ,entriesJ,keyOk,zeroTy,hz,mapUpdateJ,hc,hF]
         exact GivesL.keep rfl rfl (by simp) (by simp) (by simp)
 · rw [if_neg hk]at ho
   simp[fS49r0,fS49r1,fS49r2,fS49r3,fS49r4,fS49r5,fS49r6,fS49r7,fS49r8,fS49r9,fS49r10,fS49r11,fS49r12,fS49r13,fS49b0,fS49r14,fS49b1,fS49r15,fS49,hE,trsOL,triB,hk]
   refine lpi hρ hE hcon l.length (nn:=3) (fun j (_:List Int)=>[(0,.ptr 0 0 0),(1,.int .i64 n),(3,.map 2),(47,.sl (l.map encTy) false),(48,.int .i64 (l.length:Int)),(49,.int .i64 (j:Int))]) (fun j S=>[(0,.arr 2 0 [[.map 1,.nilmap]] true false false),(1,.mp (T.map typP)),(2,.mp (S.map seenP))])
    (fun j S=>ocL (ocM T n d) (l.drop j) S=some (b,S')) S (Less.auto (by simp) (by simp) (by simp) (by simp<;>(intro x hx;first|omega|exact⟨.inl hx,by omega⟩))) (by simpa using ho) ?_ ?_
   · intro S1 hS K
     rw[List.drop_length,ocL]at hS
     cases hS
     simp[fS49l0,fS49r0,fS49r1,fS49r2,fS49r3,fS49r4,fS49r5,fS49r6,fS49r7,fS49r8,fS49r9,fS49r10,fS49r11,fS49r12,fS49r13,fS49b0,fS49r14,fS49b1,fS49r15,fS49,hE]
     refine LessQ.mk (Less.auto (TL:=[]) (HL:=[(0,.arr 2 0 [[.map 1,.nilmap]] true false false),(1,.mp (T.map typP)),(2,.mp (S'.map seenP))]) (n:=3) (by simp) (by simp) (by simp) (by simp<;>(intro x hx;first|omega|exact⟨.inl hx,by omega⟩))) ?_
     simp[fS49r0,fS49r1,fS49r2,fS49r3,fS49r4,fS49r5,fS49r6,fS49r7,fS49r8,fS49r9,fS49r10,fS49r11,fS49r12,fS49r13,fS49b0,fS49r14,fS49b1,fS49r15,fS49,hE]
     exact GivesL.keep rfl rfl (by simp) (by simp) (by simp)
   · intro j S1 hj hS K hK
     have hj':(j:Int)<l.length:=by omega
     have hw2:IntKind.i64.wrap ((j:Int)+1)=((j+1:Nat):Int):=wrap_succ (by omega)
     have hm5:(j*5) / 5=j:=by omega
     have hm6:(j*5) % 5=0:=by omega
     rw[List.drop_eq_getElem_cons hj,ocL]at hS
     have huo:=hargs l[j] (List.getElem_mem hj)
     obtain⟨u,hu⟩:∃ u,l[j]=u:=⟨_,rfl⟩
     rw[hu]at hS huo
     cases hq:ocM T n d u S1 with
     |none=>rw[hq]at hS;cases hS
     | some q =>
       obtain⟨b1,S2⟩:=q
       rw[hq]at hS
       simp only at hS
       have hF:ocF d T S1 n u=some (b1,S2):=by
        unfold ocF
        rw[if_pos ⟨hT,huo⟩]
        exact hq
       obtain⟨uk,un,ui,uh,ul⟩:=u
       cases b1 with
       | true =>
         rw[if_pos rfl]at hS
         cases hS
         simp[fS49l0,fS49r0,fS49r1,fS49r2,fS49r3,fS49r4,fS49r5,fS49r6,fS49r7,fS49r8,fS49r9,fS49r10,fS49r11,fS49r12,fS49r13,fS49b0,fS49r14,fS49b1,fS49r15,fS49,hE,hj,hj',hm5,hm6,hu,hc,hF,triB]
         refine LessQ.mk (Less.auto (TL:=[(8,.bool true)]) (HL:=[(0,.arr 2 0 [[.map 1,.nilmap]] true false false),(1,.mp (T.map typP)),(2,.mp (S'.map seenP))]) (n:=3) (by simp) (by simp) (by simp) (by simp<;>(intro x hx;first|omega|exact⟨.inl hx,by omega⟩))) ?_
         simp[fS49r0,fS49r1,fS49r2,fS49r3,fS49r4,fS49r5,fS49r6,fS49r7,fS49r8,fS49r9,fS49r10,fS49r11,fS49r12,fS49r13,fS49b0,fS49r14,fS49b1,fS49r15,fS49,hE]
         exact GivesL.keep rfl rfl (by simp) (by simp) (by simp)
       | false =>
         rw[if_neg (by decide)]at hS
         have hnew:=hK S2 hS
         simp[fS49l0,fS49r0,fS49r1,fS49r2,fS49r3,fS49r4,fS49r5,fS49r6,fS49r7,fS49r8,fS49r9,fS49r10,fS49r11,fS49r12,fS49r13,fS49b0,fS49r14,fS49b1,fS49r15,fS49,hE,hj,hj',hm5,hm6,hu,hc,hF,hw2,triB,-Int.natCast_add]
         exact hnew _ _ (Less.auto (by simp[-Int.natCast_add]) (by simp) (by simp) (by simp<;>(intro x hx;first|omega|exact⟨.inl hx,by omega⟩)))
end
theorem vOccurs(d:Nat):Valid ρ Try.prog 49 (embS (trsM (ocF d))):=by
 induction d with
 | zero =>
   refine Valid.emb (fo Try.func49 fB49) fun vs hs D h=>?_
   obtain⟨T,S,n,t,b,S',a,m,c,hF,rfl,hg,hfit⟩:=trsM_inv h
   obtain⟨_,_,h3⟩:=ocF_inv hF
   cases h3
 | succ d ih =>
   refine Valid.emb (fo Try.func49 fB49) fun vs hs D h=>?_
   obtain⟨T,S,n,t,b,S',a,m,c,hF,rfl,hg,hfit⟩:=trsM_inv h
   have hEE:(EL [(49,embS (trsM (ocF d)))]).P=Try.prog:=rfl
   have hcn:ConsOk ρ (EL [(49,embS (trsM (ocF d)))]):=consOk_list (valid_cons ih valid_nil)
   exact em hρ hEE hcn Try.func49 fB49 rfl hg (triangle_occurs_w hρ hEE hcn rfl hF) hfit
end
end Go.Proofs.Ytfgmnebfhemnpaa
/- The set of types: binding a variable. -/
namespace Go.Proofs.Ytfgmnebfhemnpaa
open Go.J
open Go.J.Enc (enc)
set_option maxRecDepth 100000
set_option maxHeartbeats 1000000
@[simp] theorem seenOf_e:seenOf []=some []:=(rfl)
open Classical in
def bnV(d:Nat)(T:List Assign)(args:List V):Option (V×List Assign):=match args with
 | [.int .i64 n,tv]=>ob (Enc.dec tv:Option Ty) fun t=>if tok T∧t.ok=true∧lookA T n=none then ob (bnM d T n t) fun r=>some (.int .i64 r.1,r.2)else none
 |_=>none
theorem bnV_inv{d:Nat}{T:List Assign}{args:List V}{q:V×List Assign}(h:bnV d T args=some q):∃ n t e T',args=[.int .i64 n,enc t]∧tok T∧t.ok=true∧lookA T n=none∧bnM d T n t=some (e,T')∧q=(.int .i64 e,T'):=by
 unfold bnV at h
 split at h
 · simp only[ob_eq]at h
   obtain⟨t,ht,h⟩:=h
   split at h
   · rename_i hh
     simp only[ob_eq]at h
     obtain⟨⟨e,T'⟩,hb,h⟩:=h
     cases h
     exact⟨_,t,e,T',by rw[Enc.enc_dec _ _ ht],hh.1,hh.2.1,hh.2.2,hb,rfl⟩
   · cases h
 · cases h
section
variable {ρ:Nat→Value}(hρ:J.Good ρ)
include hρ
section
variable {E:Env}(hE:E.P=Try.prog)(hcon:ConsOk ρ E)
include hE hcon
theorem triangle_bind_w{d:Nat}(hc:E.con 49=embS (trsM (ocF d))){T:List Assign}{n:Int}{t:Ty}{e:Int}{T':List Assign}(hT:tok T)(ht:t.ok=true)(hl:lookA T n=none)(h:bnM d T n t=some (e,T')) :
 Wp ρ E 2 18 fS35 (((PT.leaf.set 0 (.ptr 0 0 0)).set 1 (.int .i64 n)).set 2 (enc t)) { H:=mkP (triOL T),n:=2,log:=[] } (J.Leaves E.P Try.f35 (GivesL 2 (.int .i64 e) (triOL T'))):=by
 unfold bnM at h
 cases hq:ocM T n d t []with
 |none=>rw[hq]at h;cases h
 | some q =>
   obtain⟨b,S'⟩:=q
   rw[hq]at h
   have hF:ocF d T [] n t=some (b,S'):=by unfold ocF;rw[if_pos ⟨hT,ht⟩];exact hq
   have hput:=put_typ (t:=t) hl
   obtain⟨k,nm,i,hh,l⟩:=t
   simp at hput
   cases b with
   | true =>
     cases h
     simp[fS35r0,fS35r1,fS35r2,fS35r3,fS35r4,fS35,hE,triOL,triB,hc,hF]
     exact GivesL.keep rfl rfl (by simp) (by simp) (by simp)
   | false =>
     cases h
     simp[fS35r0,fS35r1,fS35r2,fS35r3,fS35r4,fS35,hE,triOL,triB,hc,hF,mapUpdateJ,keyOk,hput]
     exact GivesL.keep rfl rfl (by simp) (by simp) (by simp)
end
theorem vBind(d:Nat):Valid ρ Try.prog 35 (embS (triM (bnV d))):=by
 refine Valid.emb (fo Try.func35 fB35) fun vs hs D h=>?_
 obtain⟨args,T,r,T',a,m,hF,rfl,_,hr,hg,hfit⟩:=triM_inv h
 obtain⟨n,t,e,T2,rfl,h1,h2,h3,h4,h5⟩:=bnV_inv hF
 cases h5
 have hEE:(EL [(49,embS (trsM (ocF d)))]).P=Try.prog:=rfl
 have hcn:ConsOk ρ (EL [(49,embS (trsM (ocF d)))]):=consOk_list (valid_cons (vOccurs hρ d) valid_nil)
 exact em hρ hEE hcn Try.func35 fB35 rfl hg (triangle_bind_w hρ hEE hcn rfl h1 h2 h3 h4) hfit
end
end Go.Proofs.Ytfgmnebfhemnpaa
/- The set of types: unification. -/
namespace Go.Proofs.Ytfgmnebfhemnpaa
open Go.J
open Go.J.Enc (enc)
set_option maxRecDepth 100000
set_option maxHeartbeats 1000000
theorem wk_ok{T:List Assign}(hT:tok T){t r:Ty}{n:Nat}(h:Wk T t r n):t.ok=true→r.ok=true:=by
 induction h with
 |stop _=>exact id
 | step _ hl _ ih =>
   obtain⟨a,ha,e⟩:=lookA_mem hl
   exact fun _=>ih (e ▸ hT a ha)
theorem wk_free{T:List Assign}{t r:Ty}{n:Nat}(h:Wk T t r n):r.kind=1→lookA T r.id=none:=by
 induction h with
 |stop h=>exact h
 |step _ _ _ ih=>exact ih
theorem bn_tok{d:Nat}{T:List Assign}(hT:tok T){x:Int}{t:Ty}(ht:t.ok=true){e:Int}{T':List Assign}(h:bnM d T x t=some (e,T')):tok T':=by
 unfold bnM at h
 cases hq:ocM T x d t []with
 |none=>rw[hq]at h;cases h
 | some q =>
   rw[hq]at h
   obtain⟨b,S⟩:=q
   simp only[Option.some.injEq]at h
   cases b with
   |true=>cases h;exact hT
   | false =>
     cases h
     intro a ha
     rcases List.mem_append.1 ha with ha|ha
     · exact hT a ha
     · rw[List.mem_singleton.1 ha];exact ht
theorem tL_tok {rec:List Assign→Ty→Ty→Option (Int×List Assign)} (hrec:∀ T a b e T',tok T→a.ok=true→b.ok=true→rec T a b=some (e,T')→tok T') :
 ∀ (l m:List Ty) (T:List Assign) (e:Int) (T':List Assign),tok T→(∀ u∈l,u.ok=true)→(∀ u∈m,u.ok=true)→tL rec l m T=some (e,T')→tok T':=by
 intro l
 induction l with
 |nil=>intro m T e T' h _ _ hr;cases hr;exact h
 | cons x l ih =>
   intro m T e T' h hl hm hr
   cases m with
   |nil=>cases hr;exact h
   | cons y m =>
     rw[tL]at hr
     cases hq:rec T x y with
     |none=>rw[hq]at hr;cases hr
     | some p =>
       obtain⟨e1,T1⟩:=p
       rw[hq]at hr
       have h1:=hrec T x y e1 T1 h (hl x (List.mem_cons_self ..)) (hm y (List.mem_cons_self ..)) hq
       simp only at hr
       split at hr
       · exact ih m T1 e T' h1 (fun u hu=>hl u (List.mem_cons_of_mem _ hu)) (fun u hu=>hm u (List.mem_cons_of_mem _ hu)) hr
       · cases hr;exact h1
theorem tu_tok:∀ (d:Nat) (T:List Assign) (a b:Ty) (e:Int) (T':List Assign),tok T→a.ok=true→b.ok=true→tuM d T a b=some (e,T')→tok T':=by
 intro d
 induction d with
 |zero=>intro T a b e T' _ _ _ h;cases h
 | succ d ih =>
   intro T a b e T' hT ha hb h
   rw[tuM]at h
   simp only at h
   cases h1:wk T a with
   |none=>rw[h1]at h;cases h
   | some x =>
     cases h2:wk T b with
     |none=>rw[h1,h2]at h;cases h
     | some y =>
       rw[h1,h2]at h
       obtain⟨n,w1⟩:=wk_some h1
       obtain⟨m,w2⟩:=wk_some h2
       have hx:=wk_ok hT w1 ha
       have hy:=wk_ok hT w2 hb
       simp only at h
       unfold tS at h
       split at h
       · cases h;exact hT
       split at h
       · exact bn_tok hT hy h
       split at h
       · exact bn_tok hT hx h
       split at h
       · exact tL_tok ih _ _ _ _ _ hT (Ty.ok_iff.1 hx).2 (Ty.ok_iff.1 hy).2 h
       · cases h;exact hT
open Classical in
def tuV(d:Nat)(T:List Assign)(args:List V):Option (V×List Assign):=match args with
 | [av,bv]=>ob (Enc.dec av:Option Ty) fun a=>ob (Enc.dec bv:Option Ty) fun b=>if tok T∧a.ok=true∧b.ok=true then ob (tuM d T a b) fun r=>some (.int .i64 r.1,r.2)else none
 |_=>none
theorem tuV_inv{d:Nat}{T:List Assign}{args:List V}{q:V×List Assign}(h:tuV d T args=some q):∃ a b e T',args=[enc a,enc b]∧tok T∧a.ok=true∧b.ok=true∧tuM d T a b=some (e,T')∧q=(.int .i64 e,T'):=by
 unfold tuV at h
 split at h
 · simp only[ob_eq]at h
   obtain⟨a,ha,b,hb,h⟩:=h
   split at h
   · rename_i hh
     simp only[ob_eq]at h
     obtain⟨⟨e,T'⟩,ht,h⟩:=h
     cases h
     exact⟨a,b,e,T',by rw[Enc.enc_dec _ _ ha,Enc.enc_dec _ _ hb],hh.1,hh.2.1,hh.2.2,ht,rfl⟩
   · cases h
 · cases h
end Go.Proofs.Ytfgmnebfhemnpaa
/- The set of types: unification's run. -/
namespace Go.Proofs.Ytfgmnebfhemnpaa
open Go.J
open Go.J.Enc (enc)
set_option maxRecDepth 100000
set_option maxHeartbeats 1000000
@[simp] theorem triD_v0 {args:List V} {T T':List Assign} {r:V} {a m:Nat}:(triD args T T' r a m).v0=r:=(rfl)
@[simp] theorem triD_valI {args:List V} {T T':List Assign} {e:Int} {a m:Nat} {hs:HS}:(triD args T T' (.int .i64 e) a m).val hs=.int .i64 e:=(rfl)
section
variable {ρ:Nat→Value}(hρ:J.Good ρ)
include hρ
section
variable {E:Env}(hE:E.P=Try.prog)(hcon:ConsOk ρ E)
include hE hcon
theorem triangle_Unify_w {d:Nat} (hW:E.con 34=rdE (triM wkV)) (hB:E.con 35=embS (triM (bnV d))) (hU:E.con 19=embS (triM (tuV d))) {T:List Assign} {a b:Ty} {e:Int} {T':List Assign} (hT:tok T) (ha:a.ok=true) (hb:b.ok=true) (h:tuM (d+1) T a b=some (e,T')) :
 Wp ρ E 2 110 fS19 (((PT.leaf.set 0 (.ptr 0 0 0)).set 1 (enc a)).set 2 (enc b)) { H:=mkP (triOL T),n:=2,log:=[] } (J.Leaves E.P Try.f19 (GivesL 2 (.int .i64 e) (triOL T'))):=by
 rw[tuM]at h
 simp only at h
 cases h1:wk T a with
 |none=>rw[h1]at h;cases h
 | some x =>
   cases h2:wk T b with
   |none=>rw[h1,h2]at h;cases h
   | some y =>
     rw[h1,h2]at h
     simp only at h
     obtain⟨n,w1⟩:=wk_some h1
     obtain⟨m,w2⟩:=wk_some h2
     have hx:=wk_ok hT w1 ha
     have hy:=wk_ok hT w2 hb
     have fx:=wk_free w1
     have fy:=wk_free w2
     obtain⟨ak,an,ai,ah,al⟩:=a
     obtain⟨bk,bn,bi,bh,bl⟩:=b
     obtain⟨xk,xn,xi,xh,xl⟩:=x
     obtain⟨yk,yn,yi,yh,yl⟩:=y
     simp only[Ty.kind_mk,Ty.id_mk]at fx fy
     unfold tS at h
     simp only[Ty.kind_mk,Ty.id_mk,Ty.args_mk]at h
     have bnF:∀ {n:Int} {t:Ty} {e:Int} {T':List Assign},t.ok=true→lookA T n=none→bnM d T n t=some (e,T')→bnV d T [.int .i64 n,enc t]=some (.int .i64 e,T'):=fun {n t e T'} ht hl hb=>by
      unfold bnV
      simp only[Enc.dec_enc,J.ob_some,if_pos (And.intro hT (And.intro ht hl)),hb]
     by_cases hxk:xk=1
     · subst hxk
       have fx:=fx rfl
       by_cases hyk:yk=1∧xi=yi
       · obtain⟨rfl,rfl⟩:=hyk
         rw[if_pos ⟨rfl,rfl,rfl⟩]at h
         cases h
         simp[fS19r0,fS19r1,fS19r2,fS19r3,fS19r4,fS19r5,fS19r6,fS19r7,fS19r8,fS19r9,fS19r10,fS19b0,fS19r11,fS19r12,fS19r13,fS19r14,fS19r15,fS19r16,fS19b1,fS19r17,fS19b2,fS19r18,fS19,hE,triOL,triB,hW,wkV,h1,h2]
         exact GivesL.keep rfl rfl (by simp) (by simp) (by simp)
       · rw[if_neg fun hh=>hyk ⟨hh.2.1,hh.2.2⟩,if_pos rfl]at h
         have hF:=bnF hy fx h
         simp only[encTy_n,enc_Ty,Ty.kind_mk,Ty.name_mk,Ty.id_mk,Ty.home_mk,Ty.args_mk]at hF
         by_cases hy1:yk=1
         · subst hy1
           have hne:¬ xi=yi:=fun e=>hyk ⟨rfl,e⟩
           simp[fS19r0,fS19r1,fS19r2,fS19r3,fS19r4,fS19r5,fS19r6,fS19r7,fS19r8,fS19r9,fS19r10,fS19b0,fS19r11,fS19r12,fS19r13,fS19r14,fS19r15,fS19r16,fS19b1,fS19r17,fS19b2,fS19r18,fS19,hE,triOL,triB,hW,wkV,h1,h2,hne,hB,hF]
           exact GivesL.keep rfl rfl (by simp) (by simp) (by simp)
         · simp[fS19r0,fS19r1,fS19r2,fS19r3,fS19r4,fS19r5,fS19r6,fS19r7,fS19r8,fS19r9,fS19r10,fS19b0,fS19r11,fS19r12,fS19r13,fS19r14,fS19r15,fS19r16,fS19b1,fS19r17,fS19b2,fS19r18,fS19,hE,triOL,triB,hW,wkV,h1,h2,hy1,hB,hF]
           exact GivesL.keep rfl rfl (by simp) (by simp) (by simp)
     · rw [if_neg fun hh=>hxk hh.1,if_neg hxk]at h
       by_cases hyk:yk=1
       · subst hyk
         rw[if_pos rfl]at h
         have hF:=bnF hx (fy rfl) h
         simp only[encTy_n,enc_Ty,Ty.kind_mk,Ty.name_mk,Ty.id_mk,Ty.home_mk,Ty.args_mk]at hF
         simp[fS19r0,fS19r1,fS19r2,fS19r3,fS19r4,fS19r5,fS19r6,fS19r7,fS19r8,fS19r9,fS19r10,fS19b0,fS19r11,fS19r12,fS19r13,fS19r14,fS19r15,fS19r16,fS19b1,fS19r17,fS19b2,fS19r18,fS19,hE,triOL,triB,hW,wkV,h1,h2,hxk,hB,hF]
         exact GivesL.keep rfl rfl (by simp) (by simp) (by simp)
       · rw [if_neg hyk]at h
         have hlx:=Ty.ok_len hx
         have hly:=Ty.ok_len hy
         have hax:=(Ty.ok_iff.1 hx).2
         have hay:=(Ty.ok_iff.1 hy).2
         simp only[Ty.args_mk]at hlx hly hax hay
         have sm:(Ty.mk xk xn xi xh xl).same (Ty.mk yk yn yi yh yl)=true↔xk=yk∧xn=yn∧xi=yi∧xh=yh∧xl.length=yl.length:=same_iff
         by_cases q1:xk=yk
         case neg =>
          rw[if_neg fun hh=>q1 (sm.1 hh).1]at h
          cases h
          simp[fS19r0,fS19r1,fS19r2,fS19r3,fS19r4,fS19r5,fS19r6,fS19r7,fS19r8,fS19r9,fS19r10,fS19b0,fS19r11,fS19r12,fS19r13,fS19r14,fS19r15,fS19r16,fS19b1,fS19r17,fS19b2,fS19r18,fS19,hE,triOL,triB,hW,wkV,h1,h2,hxk,hyk,q1]
          exact GivesL.keep rfl rfl (by simp) (by simp) (by simp)
         subst q1
         by_cases q2:xn=yn
         case neg =>
          rw[if_neg fun hh=>q2 (sm.1 hh).2.1]at h
          cases h
          simp[fS19r0,fS19r1,fS19r2,fS19r3,fS19r4,fS19r5,fS19r6,fS19r7,fS19r8,fS19r9,fS19r10,fS19b0,fS19r11,fS19r12,fS19r13,fS19r14,fS19r15,fS19r16,fS19b1,fS19r17,fS19b2,fS19r18,fS19,hE,triOL,triB,hW,wkV,h1,h2,hxk,q2]
          exact GivesL.keep rfl rfl (by simp) (by simp) (by simp)
         subst q2
         by_cases q3:xi=yi
         case neg =>
          rw[if_neg fun hh=>q3 (sm.1 hh).2.2.1]at h
          cases h
          simp[fS19r0,fS19r1,fS19r2,fS19r3,fS19r4,fS19r5,fS19r6,fS19r7,fS19r8,fS19r9,fS19r10,fS19b0,fS19r11,fS19r12,fS19r13,fS19r14,fS19r15,fS19r16,fS19b1,fS19r17,fS19b2,fS19r18,fS19,hE,triOL,triB,hW,wkV,h1,h2,hxk,q3]
          exact GivesL.keep rfl rfl (by simp) (by simp) (by simp)
         subst q3
         by_cases q4:xh=yh
         case neg =>
          rw[if_neg fun hh=>q4 (sm.1 hh).2.2.2.1]at h
          cases h
          simp[fS19r0,fS19r1,fS19r2,fS19r3,fS19r4,fS19r5,fS19r6,fS19r7,fS19r8,fS19r9,fS19r10,fS19b0,fS19r11,fS19r12,fS19r13,fS19r14,fS19r15,fS19r16,fS19b1,fS19r17,fS19b2,fS19r18,fS19,hE,triOL,triB,hW,wkV,h1,h2,hxk,q4]
          exact GivesL.keep rfl rfl (by simp) (by simp) (by simp)
         subst q4
         by_cases q5:xl.length=yl.length
         case neg =>
          have q5':¬ (xl.length:Int)=yl.length:=by omega
          rw[if_neg fun hh=>q5 (sm.1 hh).2.2.2.2]at h
          cases h
          simp[fS19r0,fS19r1,fS19r2,fS19r3,fS19r4,fS19r5,fS19r6,fS19r7,fS19r8,fS19r9,fS19r10,fS19b0,fS19r11,fS19r12,fS19r13,fS19r14,fS19r15,fS19r16,fS19b1,fS19r17,fS19b2,fS19r18,fS19,hE,triOL,triB,hW,wkV,h1,h2,hxk,q5,q5']
          exact GivesL.keep rfl rfl (by simp) (by simp) (by simp)
         rw[if_pos (sm.2 ⟨rfl,rfl,rfl,rfl,q5⟩)]at h
         simp[fS19r0,fS19r1,fS19r2,fS19r3,fS19r4,fS19r5,fS19r6,fS19r7,fS19r8,fS19r9,fS19r10,fS19b0,fS19r11,fS19r12,fS19r13,fS19r14,fS19r15,fS19r16,fS19b1,fS19r17,fS19b2,fS19r18,fS19,hE,triOL,triB,hW,wkV,h1,h2,hxk,q5]
         refine lpi hρ hE hcon yl.length (nn:=4) (fun j (_:List Assign)=>[(0,.ptr 0 0 0),(4,.ptr 2 0 0),(5,.ptr 3 0 0),(90,.int .i64 (yl.length:Int)),(91,.int .i64 (j:Int))])
          (fun j T1=>[(0,.arr 2 0 [[.map 1,.nilmap]] true false false),(1,.mp (T1.map typP)),(2,box (encTy (.mk xk xn xi xh xl))),(3,box (encTy (.mk xk xn xi xh yl)))]) (fun j T1=>tok T1∧tL (tuM d) (xl.drop j) (yl.drop j) T1=some (e,T')) T
          (Less.auto (by simp) (by simp) (by simp) (by simp<;>(intro x hx;first|omega|exact⟨.inl hx,by omega⟩))) ⟨hT,by simpa using h⟩ ?_ ?_
         · rintro T1 ⟨_,hL⟩ K
           rw[List.drop_eq_nil_of_le (by omega),tL]at hL
           · cases hL
             simp[fS19l0,fS19r0,fS19r1,fS19r2,fS19r3,fS19r4,fS19r5,fS19r6,fS19r7,fS19r8,fS19r9,fS19r10,fS19b0,fS19r11,fS19r12,fS19r13,fS19r14,fS19r15,fS19r16,fS19b1,fS19r17,fS19b2,fS19r18,fS19,hE]
             refine LessQ.mk (Less.auto (TL:=[]) (HL:=[(0,.arr 2 0 [[.map 1,.nilmap]] true false false),(1,.mp (T'.map typP))]) (n:=2) (by simp) (by simp) (by simp) (by simp<;>(intro x hx;first|omega|exact⟨.inl hx,by omega⟩))) ?_
             simp[fS19r0,fS19r1,fS19r2,fS19r3,fS19r4,fS19r5,fS19r6,fS19r7,fS19r8,fS19r9,fS19r10,fS19b0,fS19r11,fS19r12,fS19r13,fS19r14,fS19r15,fS19r16,fS19b1,fS19r17,fS19b2,fS19r18,fS19,hE]
             exact GivesL.keep rfl rfl (by simp) (by simp) (by simp)
           · intro _ _ _ _ h;cases h
         · rintro j T1 hj ⟨hT1,hL⟩ K hK
           have hj':(j:Int)<yl.length:=by omega
           have hjx:j<xl.length:=by omega
           have hw2:IntKind.i64.wrap ((j:Int)+1)=((j+1:Nat):Int):=wrap_succ (by omega)
           have hm5:(j*5) / 5=j:=by omega
           have hm6:(j*5) % 5=0:=by omega
           rw[List.drop_eq_getElem_cons hjx,List.drop_eq_getElem_cons hj,tL]at hL
           have hu:=hax xl[j] (List.getElem_mem hjx)
           have hv:=hay yl[j] (List.getElem_mem hj)
           obtain⟨u,eu⟩:∃ u,xl[j]=u:=⟨_,rfl⟩
           obtain⟨v,ev⟩:∃ v,yl[j]=v:=⟨_,rfl⟩
           rw[eu]at hL hu
           rw[ev]at hL hv
           cases hq:tuM d T1 u v with
           |none=>rw[hq]at hL;cases hL
           | some p =>
             obtain⟨e1,T2⟩:=p
             rw[hq]at hL
             simp only at hL
             have hT2:=tu_tok d T1 u v e1 T2 hT1 hu hv hq
             have hF:tuV d T1 [enc u,enc v]=some (.int .i64 e1,T2):=by
              unfold tuV
              simp only[Enc.dec_enc,J.ob_some,if_pos (And.intro hT1 (And.intro hu hv)),hq]
             obtain⟨uk,un,ui,uh,ul⟩:=u
             obtain⟨vk,vn,vi,vh,vl⟩:=v
             simp only[encTy_n,enc_Ty,Ty.kind_mk,Ty.name_mk,Ty.id_mk,Ty.home_mk,Ty.args_mk]at hF
             by_cases he:e1=0
             · subst he
               rw[if_pos rfl]at hL
               have hnew:=hK T2 ⟨hT2,hL⟩
               simp[fS19l0,fS19r0,fS19r1,fS19r2,fS19r3,fS19r4,fS19r5,fS19r6,fS19r7,fS19r8,fS19r9,fS19r10,fS19b0,fS19r11,fS19r12,fS19r13,fS19r14,fS19r15,fS19r16,fS19b1,fS19r17,fS19b2,fS19r18,fS19,hE,hj,hj',hjx,hm5,hm6,eu,ev,q5,hU,hF,hw2,triB,-Int.natCast_add]
               exact hnew _ _ (Less.auto (by simp[-Int.natCast_add]) (by simp) (by simp) (by simp<;>(intro x hx;first|omega|exact⟨.inl hx,by omega⟩)))
             · rw[if_neg he]at hL
               cases hL
               simp[fS19l0,fS19r0,fS19r1,fS19r2,fS19r3,fS19r4,fS19r5,fS19r6,fS19r7,fS19r8,fS19r9,fS19r10,fS19b0,fS19r11,fS19r12,fS19r13,fS19r14,fS19r15,fS19r16,fS19b1,fS19r17,fS19b2,fS19r18,fS19,hE,hj,hj',hjx,hm5,hm6,eu,ev,q5,hU,hF,he,triB]
               refine LessQ.mk (Less.auto (TL:=[(6,.int .i64 e)]) (HL:=[(0,.arr 2 0 [[.map 1,.nilmap]] true false false),(1,.mp (T'.map typP))]) (n:=2) (by simp) (by simp) (by simp) (by simp<;>(intro x hx;first|omega|exact⟨.inl hx,by omega⟩))) ?_
               simp[fS19r0,fS19r1,fS19r2,fS19r3,fS19r4,fS19r5,fS19r6,fS19r7,fS19r8,fS19r9,fS19r10,fS19b0,fS19r11,fS19r12,fS19r13,fS19r14,fS19r15,fS19r16,fS19b1,fS19r17,fS19b2,fS19r18,fS19,hE]
               exact GivesL.keep rfl rfl (by simp) (by simp) (by simp)
end
theorem vTUnify(d:Nat):Valid ρ Try.prog 19 (embS (triM (tuV d))):=by
 induction d with
 | zero =>
   refine Valid.emb (fo Try.func19 fB19) fun vs hs D h=>?_
   obtain⟨args,T,r,T',a,m,hF,rfl,_,hr,hg,hfit⟩:=triM_inv h
   obtain⟨_,_,_,_,_,_,_,_,h4,_⟩:=tuV_inv hF
   cases h4
 | succ d ih =>
   refine Valid.emb (fo Try.func19 fB19) fun vs hs D h=>?_
   obtain⟨args,T,r,T',a,m,hF,rfl,_,hr,hg,hfit⟩:=triM_inv h
   obtain⟨x,y,e,T2,rfl,h1,h2,h3,h4,h5⟩:=tuV_inv hF
   cases h5
   have hEE:(EL [(34,rdE (triM wkV)),(35,embS (triM (bnV d))),(19,embS (triM (tuV d)))]).P=Try.prog:=rfl
   have hcn:ConsOk ρ (EL [(34,rdE (triM wkV)),(35,embS (triM (bnV d))),(19,embS (triM (tuV d)))]):=consOk_list (valid_cons (vTWalk hρ) (valid_cons (vBind hρ d) (valid_cons ih valid_nil)))
   exact em hρ hEE hcn Try.func19 fB19 rfl hg (triangle_Unify_w hρ hEE hcn rfl rfl rfl h1 h2 h3 h4) hfit
end
end Go.Proofs.Ytfgmnebfhemnpaa
/- The set of types: a new one;resolving. -/
namespace Go.Proofs.Ytfgmnebfhemnpaa
open Go.J
open Go.J.Enc (enc)
set_option maxRecDepth 100000
set_option maxHeartbeats 1000000
def rsV(d:Nat)(T:List Assign)(D:Option (List Assign))(args:List V):Option (V×Option (List Assign)):=open Classical in match args with
 | [tv]=>ob (Enc.dec tv:Option Ty) fun t=>if (∃ σ,Tri T σ∧DOkT σ (D.getD []))∧tok T∧t.ok=true∧t.vplain=true then ob (rsM T d t (D.getD [])) fun r=>some (enc r.1,some r.2)else none
 |_=>none
theorem rsV_inv{d:Nat}{T:List Assign}{D:Option (List Assign)}{args:List V}{q:V×Option (List Assign)}(h:rsV d T D args=some q) :
 ∃ t r D' σ,args=[enc t]∧Tri T σ∧DOkT σ (D.getD [])∧tok T∧t.ok=true∧t.vplain=true∧rsM T d t (D.getD [])=some (r,D')∧q=(enc r,some D'):=by
 unfold rsV at h
 split at h
 · simp only[ob_eq]at h
   obtain⟨t,ht,h⟩:=h
   split at h
   · rename_i hh
     simp only[ob_eq]at h
     obtain⟨⟨r,D'⟩,hr,h⟩:=h
     cases h
     obtain⟨⟨σ,h1,h2⟩,h3,h4,h5⟩:=hh
     exact⟨t,r,D',σ,by rw[Enc.enc_dec _ _ ht],h1,h2,h3,h4,h5,hr,rfl⟩
   · cases h
 · cases h
theorem rsV_mk{d:Nat}{T:List Assign}{D:Option (List Assign)}{t r:Ty}{D':List Assign}{σ:Sub}(h1:Tri T σ)(h2:DOkT σ (D.getD []))(h3:tok T)(h4:t.ok=true)(h5:t.vplain=true)(h:rsM T d t (D.getD [])=some (r,D')):rsV d T D [enc t]=some (enc r,some D'):=by
 unfold rsV
 simp only[Enc.dec_enc,J.ob_some,if_pos (And.intro (⟨σ,h1,h2⟩:∃ σ,Tri T σ∧DOkT σ (D.getD [])) (And.intro h3 (And.intro h4 h5))),h]
theorem rsL_cons{rec:Ty→List Assign→Option (Ty×List Assign)}{u:Ty}{l:List Ty}{D:List Assign}{q:List Ty×List Assign}(h:rsL rec (u::l) D=some q):∃ r D2 m,rec u D=some (r,D2)∧rsL rec l D2=some (m,q.2)∧q.1=r::m:=by
 rw[rsL]at h
 cases h1:rec u D with
 |none=>rw[h1]at h;cases h
 | some p =>
   rw[h1]at h
   obtain⟨r,D2⟩:=p
   simp only at h
   cases h2:rsL rec l D2 with
   |none=>rw[h2]at h;cases h
   | some p2 =>
     rw[h2]at h
     cases h
     exact⟨r,D2,p2.1,rfl,h2,rfl⟩
theorem rsL_len{rec:Ty→List Assign→Option (Ty×List Assign)}:∀ {l:List Ty} {D:List Assign} {q:List Ty×List Assign},rsL rec l D=some q→q.1.length=l.length:=by
 intro l
 induction l with
 |nil=>intro D q h;cases h;rfl
 | cons u l ih =>
   intro D q h
   obtain⟨r,D2,m,h1,h2,h3⟩:=rsL_cons h
   rw[h3]
   simpa using ih h2
section
variable {ρ:Nat→Value}(hρ:J.Good ρ)
include hρ
section
variable {E:Env}(hE:E.P=Try.prog)(hcon:ConsOk ρ E)
include hE hcon
theorem emf{f:FuncId}{fn:Func}{sc:SC}{T:PT V}{D:EmbD}(hf:Try.prog.funcs[f]?=some fn)(hb:fn.body.bind stripC=some sc)(he:enterJ fn.ntmps D.vs0 0 .leaf=some T)(hg:D.Good)
 (h:Wp ρ E D.k fn.ntmps sc T { H:=mkP D.OL,n:=D.k,log:=[] } (J.Leaves E.P fn (GLF D.k D.v0 D.OL'))) {vs:List V} {hs:HS} (hfit:D.Fits vs hs) :
 CallOk ρ Try.prog f vs hs (D.v0.ren (news hs.n D.k D.π)) (embH hs D.k D.k' D.π D.OL'):=by
 rw[← hE]
 exact em_runLF hρ hcon (by rw[hE];exact follows) (by rw[hE];exact named) (by rw[hE];exact hf) hb he hg h hfit
theorem triangle_New_w:Wp ρ E 0 4 fS16 PT.leaf { H:=mkP [],n:=0,log:=[] } (J.Leaves E.P Try.f16 (GivesL 0 (.ptr 0 0 0) (triOL []))):=by
 simp[fS16r0,fS16r1,fS16,hE,triOL,triB]
 exact GivesL.litX (fun k=>if k=0 then 3 else k) rfl rfl ⟨rfl,rfl⟩ (by simp)
theorem triangle_Resolve_loop{d k:Nat}(hk:k=2∨k=3)(hc:E.con 37=embS (reM (rsV d))){T:List Assign}{σ:Sub}{t:Ty}(hT:Tri T σ)(htk:tok T)(ht:t.ok=true)(hp:t.vplain=true)
 {L L':List Assign} {m:List Ty} (hD:DOkT σ L) (hr:rsL (rsM T d) t.args L=some (m,L')) {Q:Ex→PT V→HS→Prop} {T0:PT V} {hs:HS}
 (hQ:Q (.exit 0) (mkP [(3,.ptr 3 0 0),(4,.ptr 4 0 0),(10,.own 5 0 0 t.args.length (some t.args.length))]) { H:=mkP [(0,.arr 2 0 [[.map 1,.map 2]] true false false),(1,.mp (T.map typP)),(2,.mp (L'.map typP)),(3,box (encTy t)),(4,box zTy),(5,.arr 5 0 (m.map encTy) true false true)],n:=6,log:=[] })
 (h0:Less k T0 hs (mkP [(0,.ptr 0 0 0),(3,.ptr 3 0 0),(4,.ptr 4 0 0),(10,.own 5 0 0 t.args.length (some t.args.length)),(70,.sl (t.args.map encTy) false),(71,.int .i64 (t.args.length:Int)),(72,.int .i64 ((0:Nat):Int))])
   { H:=mkP [(0,.arr 2 0 [[.map 1,.map 2]] true false false),(1,.mp (T.map typP)),(2,.mp (L.map typP)),(3,box (encTy t)),(4,box zTy),(5,.arr 5 0 (fillR m t.args.length 0) true false true)],n:=6,log:=[] }) :
 Ls ρ E k 87 (.loop fS37l0) T0 hs Q:=by
 have hlen:=Ty.ok_len ht
 have hml:m.length=t.args.length:=rsL_len hr
 have hvp:=vplains_iff.1 (vplain_args hp)
 refine lpi hρ hE hcon t.args.length (nn:=6) (fun i (_:List Assign)=>[(0,.ptr 0 0 0),(3,.ptr 3 0 0),(4,.ptr 4 0 0),(10,.own 5 0 0 t.args.length (some t.args.length)),(70,.sl (t.args.map encTy) false),(71,.int .i64 (t.args.length:Int)),(72,.int .i64 (i:Int))])
  (fun i D=>[(0,.arr 2 0 [[.map 1,.map 2]] true false false),(1,.mp (T.map typP)),(2,.mp (D.map typP)),(3,box (encTy t)),(4,box zTy),(5,.arr 5 0 (fillR m t.args.length i) true false true)]) (fun i D=>DOkT σ D∧rsL (rsM T d) (t.args.drop i) D=some (m.drop i,L')) L h0 ⟨hD,by simpa using hr⟩ ?_ ?_
 · rintro D ⟨h1,h2⟩ K
   rw[List.drop_length,rsL,List.drop_eq_nil_of_le (Nat.le_of_eq hml)]at h2
   cases h2
   rw[fillR_full hml]
   rcases hk with rfl|rfl
   all_goals
    simp[fS37l0,fS37r0,fS37r1,fS37r2,fS37r3,fS37r4,fS37r5,fS37r6,fS37r7,fS37r8,fS37r9,fS37r10,fS37r11,fS37r12,fS37r13,fS37r14,fS37r15,fS37r16,fS37r17,fS37r18,fS37b0,fS37r19,fS37b1,fS37r20,fS37r21,fS37,hE]
    exact LessQ.mk (Less.auto (n:=6) (by simp) (by simp) (by first|rfl|simp) (by simp<;>(intro x hx;first|omega|exact⟨.inl hx,by omega⟩))) hQ
 · rintro i D hi ⟨h1,h2⟩ K hK
   have hi':(i:Int)<t.args.length:=by omega
   have hw2:IntKind.i64.wrap ((i:Int)+1)=((i+1:Nat):Int):=wrap_succ (by omega)
   have him:i<m.length:=by omega
   rw[List.drop_eq_getElem_cons hi]at h2
   obtain⟨r,D2,m2,q1,q2,q3⟩:=rsL_cons h2
   simp only at q2 q3
   rw[List.drop_eq_getElem_cons him]at q3
   obtain⟨q4,q5⟩:=List.cons.inj q3
   rw[← q5]at q2
   have hmem:=List.getElem_mem hi
   have hdt:=rs_det hT (hvp _ hmem) h1 q1
   have hF:=rsV_mk (D:=some D) hT h1 htk (Ty.ok_arg ht hmem) (hvp _ hmem) q1
   have hiR:i<(fillR m t.args.length i).length:=by rw[fillR_len hml (Nat.le_of_lt hi)];exact hi
   have hov:=fillR_over hml hi hiR
   rw[q4]at hov
   have hnew:=hK D2 ⟨hdt.2.1,q2⟩
   clear hK hdt h0 hQ
   have hm5:(i*5) / 5=i:=by omega
   have hm6:(i*5) % 5=0:=by omega
   simp[encTy_n]at hov
   generalize hu:t.args[i]=u at hF
   obtain⟨uk,un,ui,uh,ul⟩:=u
   simp only[encTy_n,enc_Ty,Ty.kind_mk,Ty.name_mk,Ty.id_mk,Ty.home_mk,Ty.args_mk]at hF
   rcases hk with rfl|rfl
   all_goals
    simp[fS37l0,fS37r0,fS37r1,fS37r2,fS37r3,fS37r4,fS37r5,fS37r6,fS37r7,fS37r8,fS37r9,fS37r10,fS37r11,fS37r12,fS37r13,fS37r14,fS37r15,fS37r16,fS37r17,fS37r18,fS37b0,fS37r19,fS37b1,fS37r20,fS37r21,fS37,hE,hi,hi',hu,hc,hF,hw2,hiR,hm5,hm6,hov,-Int.natCast_add]
    exact hnew _ _ (Less.auto (by simp[-Int.natCast_add]) (by simp) (by first|rfl|simp) (by simp<;>(intro x hx;first|omega|exact⟨.inl hx,by omega⟩)))
theorem triangle_Resolve_w {d:Nat} (hc:E.con 37=embS (reM (rsV d))) {T:List Assign} {D:Option (List Assign)} {t r:Ty} {D':List Assign} {σ:Sub} (hT:Tri T σ) (htk:tok T) (ht:t.ok=true) (hp:t.vplain=true) (hD:DOkT σ (D.getD [])) (h:rsM T (d+1) t (D.getD [])=some (r,D')) :
 Wp ρ E (reK D) 87 fS37 ((PT.leaf.set 0 (.ptr 0 0 0)).set 1 (enc t)) { H:=mkP (reOL T D),n:=reK D,log:=[] } (J.Leaves E.P Try.f37 (GLF (reK D) (enc r) (reOL T (some D')))):=by
 rw[rsM]at h
 simp only at h
 have hlen:=Ty.ok_len ht
 by_cases hk:t.kind=1
 · rw [if_pos hk]at h
   obtain⟨k,nm,i,hh,l⟩:=t
   simp only[Ty.kind_mk,Ty.id_mk]at hk h
   subst hk
   cases hl:lookA T i with
   | none =>
     rw[hl]at h
     cases h
     rcases D with _|L
     · simp[fS37r0,fS37r1,fS37r2,fS37r3,fS37r4,fS37r5,fS37r6,fS37r7,fS37r8,fS37r9,fS37r10,fS37r11,fS37r12,fS37r13,fS37r14,fS37r15,fS37r16,fS37r17,fS37r18,fS37b0,fS37r19,fS37b1,fS37r20,fS37r21,fS37,hE,reOL,reK,hl,lookupJ,entriesJ,keyOk,zeroTy]
       exact .inl (GivesL.litX (fun k=>if k=2 then 10 else k) rfl rfl ⟨by simp,by simp⟩ (by simp))
     · simp[fS37r0,fS37r1,fS37r2,fS37r3,fS37r4,fS37r5,fS37r6,fS37r7,fS37r8,fS37r9,fS37r10,fS37r11,fS37r12,fS37r13,fS37r14,fS37r15,fS37r16,fS37r17,fS37r18,fS37b0,fS37r19,fS37b1,fS37r20,fS37r21,fS37,hE,reOL,reK,hl,lookupJ,entriesJ,keyOk,zeroTy]
       exact .inl (GivesL.keep rfl rfl (by simp) (by simp) (by simp))
   | some x =>
     rw[hl]at h
     simp only at h
     obtain⟨a,ha,hax⟩:=lookA_mem hl
     have hxo:x.ok=true:=hax ▸ htk a ha
     have hxp:=(hT.props.res _ _ hl).1
     cases hd:lookA (D.getD []) i with
     | some y =>
       rw[hd]at h
       cases h
       rcases D with _|L
       · cases hd
       · simp only[Option.getD_some]at hd
         simp[fS37r0,fS37r1,fS37r2,fS37r3,fS37r4,fS37r5,fS37r6,fS37r7,fS37r8,fS37r9,fS37r10,fS37r11,fS37r12,fS37r13,fS37r14,fS37r15,fS37r16,fS37r17,fS37r18,fS37b0,fS37r19,fS37b1,fS37r20,fS37r21,fS37,hE,reOL,reK,hl,hd,lookupJ,entriesJ,keyOk,zeroTy]
         exact .inl (GivesL.keep rfl rfl (by simp) (by simp) (by simp))
     | none =>
       rw[hd]at h
       simp only at h
       cases hr:rsM T d x (D.getD [])with
       |none=>rw[hr]at h;cases h
       | some p =>
         obtain⟨r1,D1⟩:=p
         rw[hr]at h
         cases h
         have hdt:=rs_det hT hxp hD hr
         have hnl:=rs_new hT hl hd hdt.2.2
         have hput:=put_typ (t:=r) hnl
         have hF:=rsV_mk (D:=some (D.getD [])) hT hD htk hxo hxp hr
         clear hdt hr
         obtain⟨xk,xn,xi,xh,xl⟩:=x
         obtain⟨rk,rn,ri,rh,rl⟩:=r
         simp only[encTy_n,enc_Ty,Ty.kind_mk,Ty.name_mk,Ty.id_mk,Ty.home_mk,Ty.args_mk]at hF
         simp at hput
         rcases D with _|L
         · simp only[Option.getD_none]at hF hd
           simp[fS37r0,fS37r1,fS37r2,fS37r3,fS37r4,fS37r5,fS37r6,fS37r7,fS37r8,fS37r9,fS37r10,fS37r11,fS37r12,fS37r13,fS37r14,fS37r15,fS37r16,fS37r17,fS37r18,fS37b0,fS37r19,fS37b1,fS37r20,fS37r21,fS37,hE,reOL,reK,hl,lookA,lookupJ,entriesJ,keyOk,zeroTy,hc,hF,mapUpdateJ,hput]
           exact .inl (GivesL.litX (fun k=>if k=2 then 10 else k) rfl rfl ⟨by simp,by simp⟩ (by simp))
         · simp only[Option.getD_some]at hF hd
           simp[fS37r0,fS37r1,fS37r2,fS37r3,fS37r4,fS37r5,fS37r6,fS37r7,fS37r8,fS37r9,fS37r10,fS37r11,fS37r12,fS37r13,fS37r14,fS37r15,fS37r16,fS37r17,fS37r18,fS37b0,fS37r19,fS37b1,fS37r20,fS37r21,fS37,hE,reOL,reK,hl,hd,lookupJ,entriesJ,keyOk,zeroTy,hc,hF,mapUpdateJ,hput]
           exact .inl (GivesL.keep rfl rfl (by simp) (by simp) (by simp))
 · rw [if_neg hk]at h
   cases hr:rsL (rsM T d) t.args (D.getD [])with
   |none=>rw[hr]at h;cases h
   | some p =>
     obtain⟨m,D1⟩:=p
     rw[hr]at h
     cases h
     have hml:m.length=t.args.length:=rsL_len hr
     by_cases h0:t.args=[]
     · rw[h0]at hr
       cases hr
       obtain⟨k,nm,i,hh,l⟩:=t
       simp only[Ty.args_mk,Ty.kind_mk]at h0 hk
       subst h0
       rcases D with _|L
       · simp[fS37r0,fS37r1,fS37r2,fS37r3,fS37r4,fS37r5,fS37r6,fS37r7,fS37r8,fS37r9,fS37r10,fS37r11,fS37r12,fS37r13,fS37r14,fS37r15,fS37r16,fS37r17,fS37r18,fS37b0,fS37r19,fS37b1,fS37r20,fS37r21,fS37,hE,reOL,reK,hk]
         exact .inl (GivesL.litX (fun k=>if k=2 then 10 else k) rfl rfl ⟨by simp,by simp⟩ (by simp))
       · simp[fS37r0,fS37r1,fS37r2,fS37r3,fS37r4,fS37r5,fS37r6,fS37r7,fS37r8,fS37r9,fS37r10,fS37r11,fS37r12,fS37r13,fS37r14,fS37r15,fS37r16,fS37r17,fS37r18,fS37b0,fS37r19,fS37b1,fS37r20,fS37r21,fS37,hE,reOL,reK,hk]
         exact .inl (GivesL.keep rfl rfl (by simp) (by simp) (by simp))
     · have hpos:0<t.args.length:=List.length_pos_iff.2 h0
       have hpos':(0:Int)<t.args.length:=by omega
       have k1:t.args.length*64≤1048576:=Nat.le_trans (Nat.mul_le_mul_right 64 hlen) (by decide)
       have k2:t.args.length*5≤1048576:=Nat.le_trans (Nat.mul_le_mul_right 5 hlen) (by decide)
       have hnn:normLL (List.take t.args.length (m.map encTy))=m.map encTy:=by
        rw[List.take_of_length_le (by simp[hml])]
        simp[-List.map_map]
       rcases D with _|L
       · have lo:=fun (Q) (T0) (hs)=>triangle_Resolve_loop hρ hE hcon (k:=2) (.inl rfl) hc hT htk ht hp hD hr (Q:=Q) (T0:=T0) (hs:=hs)
         simp[fS37r0,fS37r1,fS37r2,fS37r3,fS37r4,fS37r5,fS37r6,fS37r7,fS37r8,fS37r9,fS37r10,fS37r11,fS37r12,fS37r13,fS37r14,fS37r15,fS37r16,fS37r17,fS37r18,fS37b0,fS37r19,fS37b1,fS37r20,fS37r21,fS37,hE,reOL,reK,hk,h0,hpos,hpos']
         refine⟨⟨k1,k2⟩,?_⟩
         refine lo _ _ _ ?_ (Less.auto (by simp) (by simp[fillR_zero]) (by first|rfl|simp) (by simp<;>(intro x hx;first|omega|exact⟨.inl hx,by omega⟩)))
         simp[fS37r0,fS37r1,fS37r2,fS37r3,fS37r4,fS37r5,fS37r6,fS37r7,fS37r8,fS37r9,fS37r10,fS37r11,fS37r12,fS37r13,fS37r14,fS37r15,fS37r16,fS37r17,fS37r18,fS37b0,fS37r19,fS37b1,fS37r20,fS37r21,fS37,hE]
         exact .inr (GivesF.keep rfl rfl (by simp[still2,hnn,hml]) (by simp[ownB]))
       · have lo:=fun (Q) (T0) (hs)=>triangle_Resolve_loop hρ hE hcon (k:=3) (.inr rfl) hc hT htk ht hp hD hr (Q:=Q) (T0:=T0) (hs:=hs)
         simp[fS37r0,fS37r1,fS37r2,fS37r3,fS37r4,fS37r5,fS37r6,fS37r7,fS37r8,fS37r9,fS37r10,fS37r11,fS37r12,fS37r13,fS37r14,fS37r15,fS37r16,fS37r17,fS37r18,fS37b0,fS37r19,fS37b1,fS37r20,fS37r21,fS37,hE,reOL,reK,hk,h0,hpos,hpos']
         refine⟨⟨k1,k2⟩,?_⟩
         refine lo _ _ _ ?_ (Less.auto (by simp) (by simp[fillR_zero]) (by first|rfl|simp) (by simp<;>(intro x hx;first|omega|exact⟨.inl hx,by omega⟩)))
         simp[fS37r0,fS37r1,fS37r2,fS37r3,fS37r4,fS37r5,fS37r6,fS37r7,fS37r8,fS37r9,fS37r10,fS37r11,fS37r12,fS37r13,fS37r14,fS37r15,fS37r16,fS37r17,fS37r18,fS37b0,fS37r19,fS37b1,fS37r20,fS37r21,fS37,hE]
         exact .inr (GivesF.keep rfl rfl (by simp[still2,hnn,hml]) (by simp[ownB]))
end
theorem vTNew:Valid ρ Try.prog 16 (embS newM):=Valid.emb (fo Try.func16 fB16) fun vs hs D h=>by
 obtain⟨rfl,hfit⟩:=newM_inv h
 exact em hρ (E:=EL []) rfl (consOk_list valid_nil) Try.func16 fB16 rfl newD_good (triangle_New_w hρ (E:=EL []) rfl (consOk_list valid_nil)) hfit
theorem vResolve'(d:Nat):Valid ρ Try.prog 37 (embS (reM (rsV d))):=by
 induction d with
 | zero =>
   refine Valid.emb (fo Try.func37 fB37) fun vs hs D h=>?_
   obtain⟨args,T,D0,r,D1,a,m,c,hF,rfl,_,hr,hg,hfit⟩:=reM_inv h
   obtain⟨_,_,_,_,_,_,_,_,_,_,h4,_⟩:=rsV_inv hF
   cases h4
 | succ d ih =>
   refine Valid.emb (fo Try.func37 fB37) fun vs hs D h=>?_
   obtain⟨args,T,D0,r,D1,a,m,c,hF,rfl,_,hr,hg,hfit⟩:=reM_inv h
   obtain⟨t,r1,D',σ,rfl,h1,h2,h3,h4,h5,h6,h7⟩:=rsV_inv hF
   cases h7
   have hEE:(EL [(37,embS (reM (rsV d)))]).P=Try.prog:=rfl
   have hcn:ConsOk ρ (EL [(37,embS (reM (rsV d)))]):=consOk_list (valid_cons ih valid_nil)
   exact emf hρ hEE hcn Try.func37 fB37 rfl hg (triangle_Resolve_w hρ hEE hcn rfl h1 h3 h4 h5 h2 h6) hfit
end
end Go.Proofs.Ytfgmnebfhemnpaa
