import Derived.Test.YthfcfmkdeheicaaGreatGX5
import Derived.Test.YthfcfmkdeheicaaGreatJY
import Derived.Test.YthfcfmkdeheicaaGreatGX6
import Derived.Test.YthfcfmkdeheicaaGreatJCx
import Derived.Test.YthfcfmkdeheicaaGreatJN
import Derived.Test.YthfcfmkdeheicaaGreatGX8
set_option linter.all false
noncomputable section
/- The reference's solving of equations,joined;equations that tapes make. -/
namespace Go.Proofs.YthfcfmkdeheicaaGreat
open Go.J
open Go.J.Enc (enc)
set_option maxRecDepth 100000
set_option maxHeartbeats 1000000
def eqnsM (t:Tp) (D:List Decl):Nat→Tp×List Equation
 | 0=>(t,[])
 | i+1 =>
   let p:=eqnsM t D i
   let a:=typeM 2 p.1 D (za0 4)
   let b:=typeM 2 a.1 D (za0 4++[zc3 0 0])
   (b.1,p.2++[⟨a.2,b.2⟩])
theorem sizes_mul{B:Nat}:∀ {l:List Ty},(∀ u∈l,u.size≤B)→Ty.sizes l≤l.length*B:=by
 intro l
 induction l with
 |nil=>intro _;simp[Ty.sizes]
 | cons u l ih =>
   intro h
   have h1:=h u (List.mem_cons_self ..)
   have h2:=ih fun w hw=>h w (List.mem_cons_of_mem _ hw)
   simp only[Ty.sizes,List.length_cons,Nat.add_mul]
   omega
def made18D(bits:Int)(codes:List Int)(n:Int):EmbD where
 k:=0
 k':=1
 π:=fun i=>i
 OL:=[]
 OL':=[(0,box (Cel.cells (eqnsM ⟨codes,0⟩ (zaI bits) (modI n 6).toNat).1))]
 vs0:=[enc bits,enc codes,enc n]
 v0:=.tuple [enc (eqnsM ⟨codes,0⟩ (zaI bits) (modI n 6).toNat).2,.ptr 0 0 0]
def made18M(vs:List V)(hs:HS):Option EmbD:=match vs with
 | [bv,cv,nv]=>ob (Enc.dec bv:Option Int) fun bits=>ob (Enc.dec cv:Option (List Int)) fun codes=>ob (Enc.dec nv:Option Int) fun n=>gd (et (Nat.ble (zC codes) 60) (zR hs hs.n)) (some (made18D bits codes n))
 |_=>none
@[simp] theorem made18M_n {bv cv nv:V} {hs:HS}:made18M [bv,cv,nv] hs=ob (Enc.dec bv:Option Int) fun bits=>ob (Enc.dec cv:Option (List Int)) fun codes=>ob (Enc.dec nv:Option Int) fun n=>gd (et (Nat.ble (zC codes) 60) (zR hs hs.n)) (some (made18D bits codes n)):=(rfl)
section
variable {ρ:Nat→Value}(hρ:J.Good ρ)
include hρ
section
variable {E:Env}(hE:E.P=Tryz.prog)(hcon:ConsOk ρ E)
include hE hcon
end
end
end Go.Proofs.YthfcfmkdeheicaaGreat
/- Whether a substitution solves equations: in the program and in the reference. -/
namespace Go.Proofs.YthfcfmkdeheicaaGreat
open Go.J
open Go.J.Enc (enc)
set_option maxRecDepth 100000
set_option maxHeartbeats 1000000
def treN(t:Ty)(s:List Assign):Option Ty:=if t.ok=true∧s.length≤100000 then some (t.reb (zeG s))else none
def sapF(s:List Assign)(t:Ty):Option Ty:=if t.ok=true∧t.vplain=true∧s.length≤100000 then some (t.repl s)else none
def teN(a b:Ty):Option Bool:=if a.ok=true∧b.ok=true then some (decide (a=b))else none
def neB(s:List Assign)(q:Equation):Bool:=!decide (q.left.repl s=q.right.repl s)
def neX(s:List Assign):List Equation→Int→Int
 | [],_=>-1
 |q::l,i=>if neB s q=true then i else neX s l (i+1)
theorem neX_any(s:List Assign):∀ (l:List Equation) (i:Int),0≤i→decide (0≤neX s l i)=l.any (neB s):=by
 intro l
 induction l with
 |nil=>intro i _;rfl
 | cons x l ih =>
   intro i hi
   rw[neX,List.any_cons]
   by_cases h:neB s x=true
   · rw[if_pos h,h,Bool.true_or];exact decide_eq_true hi
   · rw[if_neg h,ih (i+1) (by omega)]
     have:neB s x=false:=by simpa using h
     rw[this,Bool.false_or]
def SdOk(q:Equation):Prop:=(q.left.ok=true∧q.left.vplain=true)∧q.right.ok=true∧q.right.vplain=true
structure UnC(s:List Assign)(l:List Equation):Prop where
 ok:okA s
 sl:s.length≤8000
 sd:∀ q∈l,SdOk q
 ll:l.length≤1000
open Classical in
def un1(c av:V):Option V:=ob (Enc.dec c:Option (List Assign)) fun s=>ob (Enc.dec av:Option Equation) fun q=>if okA s∧s.length≤8000∧SdOk q then some (.bool (neB s q))else none
open Classical in
def un2(c av:V):Option V:=ob (Enc.dec c:Option (List Assign)) fun s=>ob (Enc.dec av:Option (List Equation)) fun l=>if UnC s l then some (.int .i64 (neX s l 0))else none
open Classical in
def un3(c av:V):Option V:=ob (Enc.dec c:Option (List Assign)) fun s=>ob (Enc.dec av:Option (List Equation)) fun l=>if UnC s l then some (.bool (l.any (neB s)))else none
open Classical in
def unF(s:List Assign)(l:List Equation):Option Bool:=if UnC s l then some (!(l.any (neB s)))else none
def un1S:J.Spec:=rdE (cxM none un1)
def un2S:J.Spec:=rdE (cxM (some 94) un2)
def un3S:J.Spec:=rdE (cxM (some 94) un3)
section
variable {ρ:Nat→Value}(hρ:J.Good ρ)
include hρ
section
variable {E:Env}(hE:E.P=Tryz.prog)(hcon:ConsOk ρ E)
include hE hcon
theorem zop(hR:E.con 130=fnS (zD treN)){s:List Assign}{t:Ty}(ht:t.ok=true)(hp:t.vplain=true)(hl:s.length≤100000)(hs:HS):CallOk ρ Tryz.prog 95 [enc s,enc t] hs (enc (t.repl s)) hs:=by
 refine fn hρ hE hcon Tryz.func95 fB95 rfl (by simp) ?_ hs
 have e:t.reb (zeG s)=t.repl s:=reb_repl s t (zmK t hp)
 have hF:treN t s=some (t.repl s):=by rw[← e];exact if_pos ⟨ht,hl⟩
 generalize t.repl s=r at hF
 obtain⟨tk,tn,ti,th,tl⟩:=t
 obtain⟨rk,rn,ri,rh,rl⟩:=r
 simp[fS95r0,fS95r1,fS95,hE,hR,hF]
theorem zmp(hA:E.con 88=fnS (zD zlU))(hq:E.con 23=fnS (zD eqN)){s:List Assign}{l:List Equation}(h:UnC s l)(hs:HS):CallOk ρ Tryz.prog 37 [enc s,enc l] hs (enc (!(l.any (neB s)))) hs:=by
 refine fn hρ hE hcon Tryz.func37 fB37 rfl (by simp) ?_ hs
 obtain⟨h1,h2,h3,h4⟩:=h
 generalize hB:l.any (neB s)=B
 simp[zpj,zpi,zph,zpg,zpf,zpl,zpe,zpk,zpd,fS37,hE]
 refine lpi hρ hE hcon l.length (nn:=0) (fun i (_:Unit)=>[(0,.sl (s.map zf) false),(1,.sl (l.map zz) false),(5,.int .i64 (i:Int))]) (fun _ _=>[]) (fun i _=>(l.drop i).any (neB s)=B) ()
  (Less.auto (by simp) (by simp) (by simp) (by simp)) (by simpa using hB) ?_ ?_
 · intro _ h K
   rw[List.drop_length]at h
   have h:false=B:=h
   subst h
   simp[fS37l0,zpj,zpi,zph,zpg,zpf,zpl,zpe,zpk,zpd,fS37,hE]
   refine LessQ.mk (Less.auto (TL:=[]) (HL:=[]) (n:=0) (by simp) (by simp) (by simp) (by simp)) ?_
   simp[zpj,zpi,zph,zpg,zpf,zpl,zpe,zpk,zpd,fS37,hE]
 · intro i _ hi h K hK
   have hi':(i:Int)<l.length:=by omega
   have hw2:IntKind.i64.wrap ((i:Int)+1)=((i+1:Nat):Int):=zq (by omega)
   have ha0:(i*10) / 10=i:=by omega
   have ha1:(i*10) % 10=0:=by omega
   have ha2:(i*10+5) / 10=i:=by omega
   have ha3:(i*10+5) % 10=5:=by omega
   rw[List.drop_eq_getElem_cons hi,List.any_cons]at h
   obtain⟨⟨oa,pa⟩,ob,pb⟩:=h3 _ (List.getElem_mem hi)
   obtain⟨q,hx⟩:∃ q,l[i]=q:=⟨_,rfl⟩
   rw[hx]at h oa pa ob pb
   obtain⟨a,b⟩:=q
   simp only at oa pa ob pb
   have f1:zlU s a=some (a.repl s):=if_pos ⟨oa,by omega⟩
   have f2:zlU s b=some (b.repl s):=if_pos ⟨ob,by omega⟩
   have f3:eqN (a.repl s) (b.repl s)=some (decide (a.repl s=b.repl s)):=if_pos (zhh h1 a oa)
   have hne:neB s ⟨a,b⟩=!decide (a.repl s=b.repl s):=rfl
   rw[hne]at h
   generalize hd:decide (a.repl s=b.repl s)=d at f3 h
   generalize a.repl s=x at f1 f3
   generalize b.repl s=y at f2 f3
   obtain⟨ak,an,ai,ah,al⟩:=a
   obtain⟨bk,bn,bi,bh,bl⟩:=b
   obtain⟨xk,xn,xi,xh,xl⟩:=x
   obtain⟨yk,yn,yi,yh,yl⟩:=y
   cases d with
   | false =>
     have h:true=B:=h
     subst h
     simp[fS37l0,zpj,zpi,zph,zpg,zpf,zpl,zpe,zpk,zpd,fS37,hE,hi,hi',ha0,ha1,ha2,ha3,hx,hA,f1,f2,hq,f3]
     refine LessQ.mk (Less.auto (TL:=[(4,.bool false)]) (HL:=[]) (n:=0) (by simp) (by simp) (by simp) (by simp)) ?_
     simp[zpj,zpi,zph,zpg,zpf,zpl,zpe,zpk,zpd,fS37,hE]
   | true =>
     have hnew:=hK () h
     simp[fS37l0,zpj,zpi,zph,zpg,zpf,zpl,zpe,zpk,zpd,fS37,hE,hi,hi',ha0,ha1,ha2,ha3,hx,hA,f1,f2,hq,f3,hw2,-Int.natCast_add]
     exact hnew _ _ (Less.auto (by simp[-Int.natCast_add]) (by simp) (by simp) (by simp))
theorem zmm(hA:E.con 95=fnS (zD sapF))(hq:E.con 63=fnS (zD teN)){s:List Assign}{q:Equation}(h1:okA s)(h2:s.length≤8000)(h3:SdOk q) :
 Wp ρ E 1 14 fS94 ((PT.leaf.set 0 (enc q)).set 1 (.ptr 0 0 0)) { H:=mkP [(0,zfX (enc s))],n:=1,log:=[] } (J.Leaves E.P Tryz.f94 (GivesL 1 (.bool (neB s q)) [(0,zfX (enc s))])):=by
 obtain⟨a,b⟩:=q
 obtain⟨⟨oa,pa⟩,ob,pb⟩:=h3
 simp only at oa pa ob pb
 have f1:sapF s a=some (a.repl s):=if_pos ⟨oa,pa,by omega⟩
 have f2:sapF s b=some (b.repl s):=if_pos ⟨ob,pb,by omega⟩
 have f3:teN (a.repl s) (b.repl s)=some (decide (a.repl s=b.repl s)):=if_pos ⟨zhh h1 a oa,zhh h1 b ob⟩
 have hne:neB s ⟨a,b⟩=!decide (a.repl s=b.repl s):=rfl
 rw[hne]
 generalize hd:decide (a.repl s=b.repl s)=d at f3
 generalize a.repl s=x at f1 f3
 generalize b.repl s=y at f2 f3
 obtain⟨ak,an,ai,ah,al⟩:=a
 obtain⟨bk,bn,bi,bh,bl⟩:=b
 obtain⟨xk,xn,xi,xh,xl⟩:=x
 obtain⟨yk,yn,yi,yh,yl⟩:=y
 simp[fS94r0,fS94r1,fS94,hE,hA,f1,f2,hq,f3]
 exact GivesL.keep rfl rfl (by simp) (by simp) (by simp)
theorem IndexFunc_eqs_w(h2:E.con 94=un1S){s:List Assign}{l:List Equation}(h:UnC s l) :
 Wp ρ E 1 19 fS129 ((PT.leaf.set 0 (enc l)).set 1 (.func 94 [.ptr 0 0 0])) { H:=mkP [(0,zfX (enc s))],n:=1,log:=[] } (J.Leaves E.P Tryz.f129 (GivesL 1 (.int .i64 (neX s l 0)) [(0,zfX (enc s))])):=by
 obtain⟨k1,k2,k3,k4⟩:=h
 generalize hR:neX s l 0=R
 simp[zkA,zk9,zk8,zk7,zk6,zk5,zkC,zk4,zkB,zk3,fS129,hE]
 refine lpi hρ hE hcon l.length (nn:=1) (fun i (_:Unit)=>[(0,.sl (l.map zz) false),(1,.func 94 [.ptr 0 0 0]),(7,.int .i64 (l.length:Int)),(8,.int .i64 (i:Int))])
  (fun _ _=>[(0,.arr 1 0 [[.sl (s.map zf) false]] true false false)]) (fun i _=>neX s (l.drop i) i=R) ()
  (Less.auto (by simp) (by simp) (by first|rfl|simp) (by first|rfl|simp)) (by simpa using hR) ?_ ?_
 · intro _ h K
   rw[List.drop_length,neX]at h
   subst h
   simp[fS129l0,zkA,zk9,zk8,zk7,zk6,zk5,zkC,zk4,zkB,zk3,fS129,hE]
   refine LessQ.mk (Less.auto (TL:=[]) (HL:=[(0,.arr 1 0 [[.sl (s.map zf) false]] true false false)]) (n:=1) (by simp) (by simp) (by first|rfl|simp) (by first|rfl|simp)) ?_
   simp[zkA,zk9,zk8,zk7,zk6,zk5,zkC,zk4,zkB,zk3,fS129,hE]
   exact GivesL.keep rfl rfl (by simp) (by simp) (by simp)
 · intro i _ hi h K hK
   have hi':(i:Int)<l.length:=by omega
   have hw2:IntKind.i64.wrap ((i:Int)+1)=((i+1:Nat):Int):=zq (by omega)
   have ha0:(i*10) / 10=i:=by omega
   have ha1:(i*10) % 10=0:=by omega
   rw[List.drop_eq_getElem_cons hi,neX]at h
   have hsd:=k3 _ (List.getElem_mem hi)
   obtain⟨q,hx⟩:∃ q,l[i]=q:=⟨_,rfl⟩
   rw[hx]at h hsd
   have hF:un1 (enc s) (enc q)=some (.bool (neB s q)):=by
    unfold un1
    simp only[Enc.dec_enc,J.ob_some]
    exact if_pos ⟨k1,k2,hsd⟩
   by_cases hq:neB s q=true
   · rw[if_pos hq]at h
     rw[hq]at hF
     subst h
     obtain⟨⟨ak,an,ai,ah,al⟩,⟨bk,bn,bi,bh,bl⟩⟩:=q
     simp[zz]at hF
     simp[fS129l0,zkA,zk9,zk8,zk7,zk6,zk5,zkC,zk4,zkB,zk3,fS129,hE,hi,hi',ha0,ha1,hx,h2,un1S,hF]
     refine LessQ.mk (Less.auto (TL:=[(4,.int .i64 (i:Int))]) (HL:=[(0,.arr 1 0 [[.sl (s.map zf) false]] true false false)]) (n:=1) (by simp) (by simp) (by first|rfl|simp) (by first|rfl|simp)) ?_
     simp[zkA,zk9,zk8,zk7,zk6,zk5,zkC,zk4,zkB,zk3,fS129,hE]
     exact GivesL.keep rfl rfl (by simp) (by simp) (by simp)
   · rw[if_neg hq]at h
     have hq':neB s q=false:=by simpa using hq
     rw[hq']at hF
     have hnew:=hK () (by rw[← h];congr 1)
     obtain⟨⟨ak,an,ai,ah,al⟩,⟨bk,bn,bi,bh,bl⟩⟩:=q
     simp[zz]at hF
     simp[fS129l0,zkA,zk9,zk8,zk7,zk6,zk5,zkC,zk4,zkB,zk3,fS129,hE,hi,hi',ha0,ha1,hx,h2,un1S,hF,hw2,-Int.natCast_add]
     exact hnew _ _ (Less.auto (by simp[-Int.natCast_add]) (by simp) (by first|rfl|simp) (by first|rfl|simp))
theorem zmb(h3:E.con 129=un2S){s:List Assign}{l:List Equation}(h:UnC s l) :
 Wp ρ E 1 9 fS93 ((PT.leaf.set 0 (enc l)).set 1 (.func 94 [.ptr 0 0 0])) { H:=mkP [(0,zfX (enc s))],n:=1,log:=[] } (J.Leaves E.P Tryz.f93 (GivesL 1 (.bool (l.any (neB s))) [(0,zfX (enc s))])):=by
 rw[← neX_any s l 0 (Int.le_refl _)]
 have hF:un2 (enc s) (enc l)=some (.int .i64 (neX s l 0)):=by
  unfold un2
  simp only[Enc.dec_enc,J.ob_some]
  exact if_pos h
 generalize neX s l 0=R at hF
 simp at hF
 simp[fS93r0,fS93r1,fS93,hE,h3,un2S,hF]
 exact GivesL.keep rfl rfl (by simp) (by simp) (by simp)
theorem zml(h3:E.con 93=un3S){s:List Assign}{l:List Equation}(h:UnC s l)(hs:HS):CallOk ρ Tryz.prog 38 [enc s,enc l] hs (enc (!(l.any (neB s)))) hs:=by
 refine fn hρ hE hcon Tryz.func38 fB38 rfl (by simp) ?_ hs
 have hF:un3 (enc s) (enc l)=some (.bool (l.any (neB s))):=by
  unfold un3
  simp only[Enc.dec_enc,J.ob_some]
  exact if_pos h
 generalize l.any (neB s)=R at hF
 simp at hF
 simp[fS38r0,fS38r1,fS38,hE,h3,un3S,hF]
end
theorem vSApply:Valid ρ Tryz.prog 95 (fnS (zD sapF)):=v2 (fo Tryz.func95 fB95) fun a b r h hs=>by
 obtain⟨⟨h1,h2,h3⟩,rfl⟩:=z8 h
 exact zop hρ (E:=EL [(130,replaceS)]) rfl (zg (za (vTReplace hρ) valid_nil)) rfl h1 h2 h3 hs
theorem vUnifies18:Valid ρ Tryz.prog 37 (fnS (zD unF)):=v2 (fo Tryz.func37 fB37) fun a b r h hs=>by
 obtain⟨h1,rfl⟩:=z8 h
 exact zmp hρ (E:=EL [(88,fnS (zD zlU)),(23,zp3)]) rfl (zg (za (vApplyU hρ) (za (vEqual hρ) valid_nil))) rfl rfl h1 hs
theorem vUn1:Valid ρ Tryz.prog 94 un1S:=Valid.rdE (fo Tryz.func94 fB94) fun vs hs D h _=>by
 obtain⟨c,id,av,r,hF,rfl,hr,hg,hfit⟩:=cxM_inv h
 unfold un1 at hF
 simp only[zb]at hF
 obtain⟨s,hs1,q,hq,hF⟩:=hF
 split at hF
 · rename_i hh
   cases hF
   have e1:=Enc.enc_dec _ _ hs1
   have e2:=Enc.enc_dec _ _ hq
   subst e1 e2
   have hcn:ConsOk ρ (EL [(95,fnS (zD sapF)),(63,ziA)]):=zg (za (vSApply hρ) (za (vTEqual hρ) valid_nil))
   exact zii hρ hcn rfl named Tryz.func94 fB94 rfl hg rfl hr (zmm hρ (E:=EL [(95,fnS (zD sapF)),(63,ziA)]) rfl hcn rfl rfl hh.1 hh.2.1 hh.2.2) hfit
 · cases hF
theorem vUn2:Valid ρ Tryz.prog 129 un2S:=Valid.rdE (fo Tryz.func129 fB129) fun vs hs D h _=>by
 obtain⟨c,id,av,r,hF,rfl,hr,hg,hfit⟩:=cxM_inv h
 unfold un2 at hF
 simp only[zb]at hF
 obtain⟨s,hs1,q,hq,hF⟩:=hF
 split at hF
 · rename_i hh
   cases hF
   have e1:=Enc.enc_dec _ _ hs1
   have e2:=Enc.enc_dec _ _ hq
   subst e1 e2
   have hcn:ConsOk ρ (EL [(94,un1S)]):=zg (za (vUn1 hρ) valid_nil)
   exact zii hρ hcn rfl named Tryz.func129 fB129 rfl hg rfl hr (IndexFunc_eqs_w hρ (E:=EL [(94,un1S)]) rfl hcn rfl hh) hfit
 · cases hF
theorem vUn3:Valid ρ Tryz.prog 93 un3S:=Valid.rdE (fo Tryz.func93 fB93) fun vs hs D h _=>by
 obtain⟨c,id,av,r,hF,rfl,hr,hg,hfit⟩:=cxM_inv h
 unfold un3 at hF
 simp only[zb]at hF
 obtain⟨s,hs1,q,hq,hF⟩:=hF
 split at hF
 · rename_i hh
   cases hF
   have e1:=Enc.enc_dec _ _ hs1
   have e2:=Enc.enc_dec _ _ hq
   subst e1 e2
   have hcn:ConsOk ρ (EL [(129,un2S)]):=zg (za (vUn2 hρ) valid_nil)
   exact zii hρ hcn rfl named Tryz.func93 fB93 rfl hg rfl hr (zmb hρ (E:=EL [(129,un2S)]) rfl hcn rfl hh) hfit
 · cases hF
theorem vUnifies:Valid ρ Tryz.prog 38 (fnS (zD unF)):=v2 (fo Tryz.func38 fB38) fun a b r h hs=>by
 obtain⟨h1,rfl⟩:=z8 h
 exact zml hρ (E:=EL [(93,un3S)]) rfl (zg (za (vUn3 hρ) valid_nil)) rfl h1 hs
end
end Go.Proofs.YthfcfmkdeheicaaGreat
