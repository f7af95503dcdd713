import Derived.Test.YtpcmebclpindjaaGreatZSZ
import Derived.Test.YtpcmebclpindjaaGreatJL
import Derived.Test.YtpcmebclpindjaaGreatZT
import Derived.Test.YtpcmebclpindjaaGreatZC
import Derived.Test.YtpcmebclpindjaaGreatJK
set_option linter.all false
noncomputable section
/- How the contracts of the seat's functions are shown. -/
namespace Go.Proofs.YtpcmebclpindjaaGreat
open Go.J
open Go.J.Enc (enc)
@[simp] theorem zEY {hs:HS} {l:List Nat}:(J.part hs l).log=[]:=(rfl)
section
variable {ρ:Nat->Value}(hρ:J.Good ρ){E:Env}(hE:E.P=Tryz.prog)(hcon:ConsOk ρ E)
include hρ hE hcon
theorem fn{f:FuncId}{fn:Func}{sc:SC}{vs:List V}{T:PT V}{r:V}(hf:Tryz.prog.funcs[f]?=some fn)(hb:fn.body.bind zh=some sc)(he:zb3 fn.ntmps vs 0 .leaf=some T)(hp:zu vs=true)
 (h:Wp ρ E 0 fn.ntmps sc T { H:=.leaf,n:=0,log:=[] } (J.Leaves E.P fn (zeq r))) (hs:HS):CallOk ρ Tryz.prog f vs hs r hs:=by
 rw[<- hE];exact zrj hρ hcon (by rw[hE];exact follows) (by rw[hE];exact named) (by rw[hE];exact hf) hb he hp h hs
theorem lp{k sz:Nat}{s:SC}{T:PT V}{hs:HS}{Q:Ex->PT V->HS->Prop}{n:Nat}(h:∀ K:PT V->HS->Prop,(∀ T hs,LsN ρ E k sz s Q n T hs->K T hs)->Wp ρ E k sz s T hs (Ex.then K Q)):LsN ρ E k sz s Q (n+1) T hs :=
 zjS hρ hcon (by rw[hE];exact follows) (by rw[hE];exact named) h
theorem st{f:FuncId}{fn:Func}{sc:SC}{vs:List V}{T:PT V}{r:V}{c c':List V}(hf:Tryz.prog.funcs[f]?=some fn)(hb:fn.body.bind zh=some sc)(he:zb3 fn.ntmps (.ptr 0 0 0::vs) 0 .leaf=some T)(hp:zu vs=true)
 (hc:c.all V.pure2=true) (hc':c'.all V.pure2=true) (hr:r.in3 (fun _=>false)=true)
 (h:Wp ρ E 1 fn.ntmps sc T { H:=mkP [(0,box c)],n:=1,log:=[] } (J.Leaves E.P fn (GivesL 1 r [(0,box c')]))) {hs:HS} {id:Nat} (hid:id<hs.n) (hg:hs.H.get id=some (box c)):CallOk ρ Tryz.prog f (.ptr id 0 0::vs) hs r (hs.wr id (box c')):=by
 rw[<- hE];exact zAg hρ hcon (by rw[hE];exact follows) (by rw[hE];exact named) (by rw[hE];exact hf) hb he hp hc hc' hr h hid hg
theorem row{f:FuncId}{fn:Func}{sc:SC}{vs:List V}{T:PT V}{es:List (List V)}{sz:Nat}(hf:Tryz.prog.funcs[f]?=some fn)(hb:fn.body.bind zh=some sc)(he:zb3 fn.ntmps vs 0 .leaf=some T)(hp:zu vs=true)
 (hes:(es.all fun e=>e.all V.pure2)=true)
 (h:Wp ρ E 0 fn.ntmps sc T { H:=mkP [],n:=0,log:=[] } (J.Leaves E.P fn (GivesL 0 (oV 0 es) (oH 0 sz es)))) {hs:HS} (hv:hs.H.get hs.n=none) :
 CallOk ρ Tryz.prog f vs hs (oV hs.n es) (bi (Nat.beq (zC es) 0) hs { H:=hs.H.set hs.n (oO sz es),n:=hs.n+1,log:=hs.n::hs.log }):=by
 rw[<- hE];exact z4j hρ hcon (by rw[hE];exact follows) (by rw[hE];exact named) (by rw[hE];exact hf) hb he hp hes h hv
theorem em{f:FuncId}{fn:Func}{sc:SC}{T:PT V}{D:EmbD}(hf:Tryz.prog.funcs[f]?=some fn)(hb:fn.body.bind zh=some sc)(he:zb3 fn.ntmps D.vs0 0 .leaf=some T)(hg:D.Good)
 (h:Wp ρ E D.k fn.ntmps sc T { H:=mkP D.OL,n:=D.k,log:=[] } (J.Leaves E.P fn (GivesL D.k D.v0 D.OL'))) {vs:List V} {hs:HS} (hfit:D.Fits vs hs) :
 CallOk ρ Tryz.prog f vs hs (D.v0.ren (news hs.n D.k D.π)) (zg1 hs D.k D.k' D.π D.OL'):=by
 rw[<- hE];exact zC7 hρ hcon (by rw[hE];exact follows) (by rw[hE];exact named) (by rw[hE];exact hf) hb he hg h hfit
theorem io{f:FuncId}{fn:Func}{sc:SC}{vs:List V}{T:PT V}{es es':List (List V)}{rs:List V}{sz:Nat}{K:V->List V->V}(hK:K=zgs\/K=zKL)(hf:Tryz.prog.funcs[f]?=some fn)(hb:fn.body.bind zh=some sc)(he:zb3 fn.ntmps (oV 0 es::vs) 0 .leaf=some T)(hp:zu vs=true)
 (h0:(es.all fun e=>e.all V.pure2)=true) (h1:(es'.all fun e=>e.all V.pure2)=true) (hrs:(rs.all fun v=>v.in2 (fun _=>false))=true) (hle:es.length<=es'.length)
 (h:Wp ρ E (if es=[]then 0 else 1) fn.ntmps sc T { H:=mkP (oH 0 sz es),n:=if es=[]then 0 else 1,log:=[] } (J.Leaves E.P fn (GivesL (if es=[]then 0 else 1) (K (oV 0 es') rs) (oH 0 sz es'))))
 {hs:HS} {v:V} (hv:rowOf sz hs v=some es) (hvac:hs.H.get hs.n=none):CallOk ρ Tryz.prog f (v::vs) hs (K (zbA sz v es es' hs).1 rs) (zbA sz v es es' hs).2:=by
 rw[<- hE];exact zBt hρ hcon (by rw[hE];exact follows) (by rw[hE];exact named) hK (by rw[hE];exact hf) hb he hp h0 h1 hrs hle h hv hvac
theorem lpi{St:Type}{k sz:Nat}{s:SC}{Q:Ex->PT V->HS->Prop}{nn:Nat}(N:Nat)(TL:Nat->St->List (Nat×V))(HL:Nat->St->List (Nat×J.Obj))(Inv:Nat->St->Prop){T:PT V}{hs:HS}(st0:St)
 (h0:Less k T hs (mkP (TL 0 st0)) { H:=mkP (HL 0 st0),n:=nn,log:=[] }) (hi:Inv 0 st0)
 (fin:∀ st,Inv N st->∀ K,Wp ρ E k sz s (mkP (TL N st)) { H:=mkP (HL N st),n:=nn,log:=[] } (Ex.then K (LessQ k Q)))
 (step:∀ i st,i<N->Inv i st->∀ K:PT V->HS->Prop,(∀ st',Inv (i+1) st'->∀ T hs,Less k T hs (mkP (TL (i+1) st')) { H:=mkP (HL (i+1) st'),n:=nn,log:=[] }->K T hs) ->
   Wp ρ E k sz s (mkP (TL i st)) { H:=mkP (HL i st),n:=nn,log:=[] } (Ex.then K (LessQ k Q))):Ls ρ E k sz (.loop s) T hs Q:=by
 have key:∀ m i st,i+m=N->Inv i st->LsN ρ E k sz s (LessQ k Q) (m+1) (mkP (TL i st)) { H:=mkP (HL i st),n:=nn,log:=[] }:=by
  intro m
  induction m with
  | zero =>
    intro i st hi hinv;obtain rfl:i=N:=by omega
    exact lp hρ hE hcon fun K _=>fin st hinv K
  | succ m ih =>
    intro i st hi hinv;exact lp hρ hE hcon fun K hK=>step i st (by omega) hinv K fun st' h' T hs hl=>hK T hs (z8 hl (ih (i+1) st' (by omega) h'))
 exact zbx (zbH (z8 h0 (key N 0 st0 (by omega) hi)))
end
section
variable {ρ:Nat->Value}{α β γ δ ε σ:Type} [Enc α] [Enc β] [Enc γ] [Enc δ] [Enc ε] [Cel σ]{f:Nat}
theorem v0{b:α}(hf:zeT Tryz.prog f)(h:∀ hs,CallOk ρ Tryz.prog f [] hs (enc b) hs):Valid ρ Tryz.prog f (fnS (zex b)) :=
 Valid.fnS hf fun vs v hv=>by obtain⟨rfl,rfl⟩:=zqm hv;exact h
theorem v1{F:α->Option β}(hf:zeT Tryz.prog f)(h:∀ a r,F a=some r->∀ hs,CallOk ρ Tryz.prog f [enc a] hs (enc r) hs):Valid ρ Tryz.prog f (fnS (zy F)) :=
 Valid.fnS hf fun vs v hv=>by obtain⟨a,r,rfl,h1,rfl⟩:=zgG hv;exact h _ _ h1
theorem v2{F:α->β->Option γ}(hf:zeT Tryz.prog f)(h:∀ a b r,F a b=some r->∀ hs,CallOk ρ Tryz.prog f [enc a,enc b] hs (enc r) hs):Valid ρ Tryz.prog f (fnS (zH F)) :=
 Valid.fnS hf fun vs v hv=>by obtain⟨a,b,r,rfl,h1,rfl⟩:=zkn hv;exact h _ _ _ h1
theorem v3{F:α->β->γ->Option δ}(hf:zeT Tryz.prog f)(h:∀ a b c r,F a b c=some r->∀ hs,CallOk ρ Tryz.prog f [enc a,enc b,enc c] hs (enc r) hs):Valid ρ Tryz.prog f (fnS (zjk F)) :=
 Valid.fnS hf fun vs v hv=>by obtain⟨a,b,c,r,rfl,h1,rfl⟩:=zkm hv;exact h _ _ _ _ h1
theorem v4{F:α->β->γ->δ->Option ε}(hf:zeT Tryz.prog f)(h:∀ a b c d r,F a b c d=some r->∀ hs,CallOk ρ Tryz.prog f [enc a,enc b,enc c,enc d] hs (enc r) hs):Valid ρ Tryz.prog f (fnS (zwv F)) :=
 Valid.fnS hf fun vs v hv=>by obtain⟨a,b,c,d,r,rfl,h1,rfl⟩:=zql hv;exact h _ _ _ _ _ h1
theorem c1{F:α->Option β}(hf:zeT Tryz.prog f)(h:∀ a r,F a=some r->∀ hs,CallOk ρ Tryz.prog f [enc a] hs (enc r) hs):Valid ρ Tryz.prog f (fnC (zy F)) :=
 Valid.fnC hf fun vs v hv=>by obtain⟨a,r,rfl,h1,rfl⟩:=zgG hv;exact h _ _ h1
theorem c2{F:α->β->Option γ}(hf:zeT Tryz.prog f)(h:∀ a b r,F a b=some r->∀ hs,CallOk ρ Tryz.prog f [enc a,enc b] hs (enc r) hs):Valid ρ Tryz.prog f (fnC (zH F)) :=
 Valid.fnC hf fun vs v hv=>by obtain⟨a,b,r,rfl,h1,rfl⟩:=zkn hv;exact h _ _ _ h1
theorem c3{F:α->β->γ->Option δ}(hf:zeT Tryz.prog f)(h:∀ a b c r,F a b c=some r->∀ hs,CallOk ρ Tryz.prog f [enc a,enc b,enc c] hs (enc r) hs):Valid ρ Tryz.prog f (fnC (zjk F)) :=
 Valid.fnC hf fun vs v hv=>by obtain⟨a,b,c,r,rfl,h1,rfl⟩:=zkm hv;exact h _ _ _ _ h1
theorem s1{F:σ->α->Option (σ×β)}(hf:zeT Tryz.prog f)(h:∀ s a q,F s a=some q->∀ (hs:HS) (id:Nat),id<hs.n->hs.H.get id=some (box (Cel.cells s))->CallOk ρ Tryz.prog f [.ptr id 0 0,enc a] hs (enc q.2) (hs.wr id (box (Cel.cells q.1)))):Valid ρ Tryz.prog f (stS (zkk F)) :=
 Valid.st hf fun s vs r _ hv=>by obtain⟨a,q,rfl,h1,rfl⟩:=zwt hv;exact h _ _ _ h1
theorem s2{F:σ->α->β->Option (σ×γ)}(hf:zeT Tryz.prog f)(h:∀ s a b q,F s a b=some q->∀ (hs:HS) (id:Nat),id<hs.n->hs.H.get id=some (box (Cel.cells s))->CallOk ρ Tryz.prog f [.ptr id 0 0,enc a,enc b] hs (enc q.2) (hs.wr id (box (Cel.cells q.1)))):Valid ρ Tryz.prog f (stS (zEk F)) :=
 Valid.st hf fun s vs r _ hv=>by obtain⟨a,b,q,rfl,h1,rfl⟩:=zws hv;exact h _ _ _ _ h1
theorem s3{F:σ->α->β->γ->Option (σ×δ)}(hf:zeT Tryz.prog f)(h:∀ s a b c q,F s a b c=some q->∀ (hs:HS) (id:Nat),id<hs.n->hs.H.get id=some (box (Cel.cells s))->CallOk ρ Tryz.prog f [.ptr id 0 0,enc a,enc b,enc c] hs (enc q.2) (hs.wr id (box (Cel.cells q.1)))):Valid ρ Tryz.prog f (stS (zjj F)) :=
 Valid.st hf fun s vs r _ hv=>by obtain⟨a,b,c,q,rfl,h1,rfl⟩:=zwr hv;exact h _ _ _ _ _ h1
end
end Go.Proofs.YtpcmebclpindjaaGreat
