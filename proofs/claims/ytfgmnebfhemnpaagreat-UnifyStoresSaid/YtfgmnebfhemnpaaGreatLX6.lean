import Derived.Test.YtfgmnebfhemnpaaGreatLX5
import Derived.Test.YtfgmnebfhemnpaaGreatLAL
import Derived.Test.YtfgmnebfhemnpaaGreatJP
set_option linter.all false
noncomputable section
/- Tapes: the contracts joined. -/
namespace Go.Proofs.YtfgmnebfhemnpaaGreat
open Go.J
open Go.J.Enc (enc)
set_option maxRecDepth 100000
set_option maxHeartbeats 4000000
section
variable {ρ:Nat->Value}(hρ:J.Good ρ)
include hρ
theorem zlg(d:Nat)(hd:d<=1000){S:J.Spec}(hv:Valid ρ Tryz.prog 24 S){t:Tp}{D:List Decl}{Lv:List Ty}{n:Int}(hS:0<n->S=stS (zrb (zg8 d)))(h1:t.ok)(h2:DOk D)(h3:Lv.length<=100000)(h4:n<=d+1)(hs:HS)(id:Nat)(hid:id<hs.n)(hg:hs.H.get id=some (box (Cel.cells t))) :
 CallOk ρ Tryz.prog 24 [.ptr id 0 0,enc D,enc Lv,enc n] hs (enc (typeM n.toNat t D Lv).2) (hs.wr id (box (Cel.cells (typeM n.toNat t D Lv).1))) :=
 zf3 hρ (E:=EL [(23,stS (zq2 zk2)),(53,zKV),(52,fnS (zfp tInt)),(54,fnS (zV fun a b:Ty=>some (zcy a b))),(24,S)]) rfl
  (zt (zo (zEq hρ) (zo (zLL hρ) (zo (zTr hρ) (zo (zEw hρ) (zo hv valid_nil)))))) rfl rfl rfl rfl hS h1 h2 h3 h4 hd hs id hid hg
def noS:J.Spec:=fun _ _=>none
omit hρ in
theorem zLI{f:Nat}(hf:zeA Tryz.prog f):Valid ρ Tryz.prog f noS where
 fn:=hf
 ok:=fun {_ _ _ _} h=>by cases h
 kept:=fun {_ _ _} h=>by cases h
theorem zEm(d:Nat)(hd:d<=1000):Valid ρ Tryz.prog 24 (stS (zrb (zg8 d))):=by
 induction d with
 | zero =>
   refine s3 (fo Tryz.func24 zK4) fun s a b c q h hs id hid hg=>?_
   obtain⟨⟨h1,h2,h3,h4⟩,rfl⟩:=zT h;exact zlg hρ 0 hd (zLI (fo Tryz.func24 zK4)) (fun h=>by omega) h1 h2 h3 (by omega) hs id hid hg
 | succ d ih =>
   refine s3 (fo Tryz.func24 zK4) fun s a b c q h hs id hid hg=>?_
   obtain⟨⟨h1,h2,h3,h4⟩,rfl⟩:=zT h;exact zlg hρ d (by omega) (ih (by omega)) (fun _=>rfl) h1 h2 h3 (by omega) hs id hid hg
omit hρ in
theorem zvZ{f:Nat}{vs:List V}{hs hs':HS}{v r:V}(h:CallOk ρ Tryz.prog f vs hs v hs')(e:zau v=r):CallOk ρ Tryz.prog f vs hs r hs':=by
 intro X w F μ xs hR hD hO hA;refine CallsIn.mono (h X w F μ xs hR hD hO hA) fun e' w' he=>?_
 cases e' with
 | returned x =>
   obtain⟨F1,μ1,g1,g2,g3⟩:=he;exact⟨F1,μ1,g1,by rw[<- e];exact g2.norm,g3⟩
 |panicked c=>exact he
 |outgrown=>exact he
theorem zTu:Valid ρ Tryz.prog 50 (fnS (zfp allD)):=v0 (zKw Tryz.func50 (by kernel_rfl)) fun hs=>zvZ
 (zeQ hρ (E:=EL [(90,zl4 zx2)]) (zt (zo (zp8 hρ) valid_nil)) follows named zB0 rfl) (by kernel_rfl)
theorem zEu:Valid ρ Tryz.prog 20 (fnS (zW fun bits:Int=>some (zaG bits))):=v1 (fo Tryz.func20 zS8) fun a r h hs=>by
 cases h;exact zja hρ (E:=EL [(50,fnS (zfp allD))]) rfl (zt (zo (zTu hρ) valid_nil)) rfl hs
def zeS:J.Spec:=z92 5 (fun vs=>ob (zW (fun n:Int=>if 0<=n/\n<=10000 then some (zaL n.toNat)else none) vs) fun v=>match v with|.sl es _=>some es|_=>none)
theorem zqK:Valid ρ Tryz.prog 25 zeS:=Valid.row (fo Tryz.func25 zS4) fun vs es _ h hs hv=>by
 rw[zq]at h;obtain⟨v,h1,h2⟩:=h;obtain⟨n,r,rfl,h3,rfl⟩:=zhz h1;obtain⟨⟨h4,h5⟩,rfl⟩:=zT h3;obtain⟨m,rfl⟩:=Int.eq_ofNat_of_zero_le h4;cases h2;exact zk4 hρ (E:=EL [(29,fnS (zW fun i:Int=>some (zas i)))]) rfl (zt (zo (zIC hρ) valid_nil)) rfl (by omega) hv
end
end Go.Proofs.YtfgmnebfhemnpaaGreat
/- The contracts of unification in a store,joined. -/
namespace Go.Proofs.YtfgmnebfhemnpaaGreat
open Go.J
open Go.J.Enc (enc)
set_option maxRecDepth 100000
set_option maxHeartbeats 1000000
section
variable {ρ:Nat->Value}(hρ:J.Good ρ)
include hρ
theorem zEr:Valid ρ Tryz.prog 21 (fnS (zfp (⟨[],[]⟩:Store))):=v0 (fo Tryz.func21 zS7) fun hs=>zko hρ (E:=EL []) rfl (zt valid_nil) hs
def z0j:J.Spec:=fnS (zaM fun (s:Store) (h:Int) (b:Bool)=>if s.small then some (s.fresh h b)else none)
theorem zwV:Valid ρ Tryz.prog 22 z0j:=v3 (fo Tryz.func22 zS6) fun a b c r h hs=>by
 obtain⟨h1,rfl⟩:=zT h;exact zhB hρ (E:=EL [(29,fnS (zW fun i:Int=>some (zas i)))]) rfl (zt (zo (zIC hρ) valid_nil)) rfl h1 hs
def zMh:J.Spec:=fnS (zaM fun (s:Store) (i:Int) (x:Slot)=>if s.small then some (s.set i x)else none)
theorem zzy:Valid ρ Tryz.prog 78 zMh:=v3 (fo Tryz.func78 zSc) fun a b c r h hs=>by
 obtain⟨h1,rfl⟩:=zT h;exact zkn hρ (E:=EL []) rfl (zt valid_nil) h1 hs
theorem zoi:Valid ρ Tryz.prog 77 (fnS (zV fun (s:Store) (t:Ty)=>some (s.bound t))):=v2 (fo Tryz.func77 zSd) fun a b r h hs=>by
 cases h;exact zh7 hρ (E:=EL []) rfl (zt valid_nil) hs
def zjT:J.Spec:=fnS (zV fun (s:Store) (t:Ty)=>if s.slots.length<=1000000 then some (s.w16 t)else none)
theorem zmY:Valid ρ Tryz.prog 59 zjT:=v2 (fo Tryz.func59 zSo) fun a b r h hs=>by
 obtain⟨h1,rfl⟩:=zT h;exact ziU hρ (E:=EL [(77,fnS (zV fun (s:Store) (t:Ty)=>some (s.bound t)))]) rfl (zt (zo (zoi hρ) valid_nil)) rfl h1 hs
theorem zLB(d:Nat)(hd:d<=1000000):Valid ρ Tryz.prog 47 (fnS (zaM (szF d))):=by
 induction d with
 | zero =>
   refine v3 (fo Tryz.func47 zNX) fun a b c r h hs=>?_
   obtain⟨⟨_,_,h1,h2⟩,rfl⟩:=zT h;omega
 | succ d ih =>
   refine v3 (fo Tryz.func47 zNX) fun a b c r h hs=>?_
   obtain⟨⟨h1,h2,h3,h4⟩,rfl⟩:=zT h;obtain⟨m,rfl⟩:=Int.eq_ofNat_of_zero_le h3;exact ziT hρ (E:=EL [(47,fnS (zaM (szF d))),(59,zjT)]) rfl (zt (zo (ih (by omega)) (zo (zmY hρ) valid_nil))) rfl (by omega) rfl h1 h2 (by omega) hs
def znn:J.Spec:=fnS (zaM fun (s:Store) (t:Ty) (m:Int)=>if s.tysOk/\t.ok=true/\m<1000000 then some ((sz s.w16 t (max m 0).toNat:Nat):Int)else none)
theorem zqF:Valid ρ Tryz.prog 17 znn:=v3 (fo Tryz.func17 zSA) fun a b c r h hs=>by
 obtain⟨⟨h1,h2,h3⟩,rfl⟩:=zT h;exact ziW hρ (E:=EL [(47,fnS (zaM (szF 1000000)))]) rfl (zt (zo (zLB hρ 1000000 (by omega)) valid_nil)) rfl h1 h2 h3 hs
theorem zEc(d:Nat)(hd:d<=10000):Valid ρ Tryz.prog 48 (fnS (zV (zq3 d))):=by
 induction d with
 | zero =>
   refine v2 (fo Tryz.func48 zNW) fun a b r h hs=>?_
   obtain⟨⟨_,_,h1⟩,rfl⟩:=zT h;obtain⟨q,_,hq⟩:=sz_fits.1 h1;have:=Ty.size_pos q;omega
 | succ d ih =>
   exact v2 (fo Tryz.func48 zNW) fun a b r h hs =>
    zfZ hρ (E:=EL [(48,fnS (zV (zq3 d))),(59,zjT)]) rfl (zt (zo (ih (by omega)) (zo (zmY hρ) valid_nil))) rfl (by omega) rfl h hs
def zdr:J.Spec:=fnS (zV fun (s:Store) (t:Ty)=>if s.tysOk/\t.ok=true then some (zaa s.w16 t)else none)
theorem zjl:Valid ρ Tryz.prog 18 zdr:=v2 (fo Tryz.func18 zS9) fun a b r h hs=>by
 obtain⟨⟨h1,h2⟩,rfl⟩:=zT h;exact zgf hρ (E:=EL [(17,znn),(48,fnS (zV (zq3 4000)))]) rfl (zt (zo (zqF hρ) (zo (zEc hρ 4000 (by omega)) valid_nil))) rfl rfl h1 h2 hs
theorem zEb(d:Nat):Valid ρ Tryz.prog 105 (zaS (zw1 (zmS d))):=by
 induction d with
 | zero =>
   refine Valid.emb (fo Tryz.func105 zAP) fun vs hs D h=>?_
   obtain⟨s,out,done,t,R,id,rd,ro,hR,rfl,_,_,_,hfit⟩:=zoh h;obtain⟨⟨_,_,_,_,h1⟩,_⟩:=zT hR;have:=Ty.size_pos t;omega
 | succ d ih =>
   refine Valid.emb (fo Tryz.func105 zAP) fun vs hs D h=>?_
   obtain⟨s,out,done,t,R,id,rd,ro,hR,rfl,_,_,_,hfit⟩:=zoh h;exact zdQ hρ (E:=EL [(105,zaS (zw1 (zmS d))),(77,fnS (zV fun (s:Store) (t:Ty)=>some (s.bound t))),(66,zj7)]) rfl (zt (zo ih (zo (zoi hρ) (zo (zLJ hρ) valid_nil)))) rfl rfl rfl hR hfit
def zqD:J.Spec:=fnS (zV fun (s:Store) (l:List Ty)=>if zbv s l then some (varsS s l)else none)
theorem z8O:Valid ρ Tryz.prog 79 zqD:=v2 (fo Tryz.func79 zSb) fun a b r h hs=>by
 obtain⟨h1,rfl⟩:=zT h;exact ziV hρ (E:=EL [(105,zaS (zw1 (zmS 100000)))]) rfl (zt (zo (zEb hρ 100000) valid_nil)) rfl h1 hs
theorem zwU:Valid ρ Tryz.prog 30 (fnS (zW fun t:Ty=>some (zaF t))):=v1 (fo Tryz.func30 zS2) fun a r h hs=>by
 cases h;exact zgE hρ (E:=EL []) rfl (zt valid_nil) hs
def zru:J.Spec:=fnS (zW fun l:List Ty=>if Ty.oks l=true/\l.length<=10000/\Ty.sizes l<=10000 then some (zbj l)else none)
theorem z8W:Valid ρ Tryz.prog 31 zru:=v1 (fo Tryz.func31 zS1) fun a r h hs=>by
 obtain⟨⟨h1,h2,h3⟩,rfl⟩:=zT h;exact zh3 hρ (E:=EL [(56,ioS 5 (zpT (zb9 10000)) zk7)]) rfl (zt (zo (zqL hρ 10000) valid_nil)) rfl h1 h2 h3 (by omega) hs
theorem z8R:Valid ρ Tryz.prog 60 (fnS (zV fun (s:Store) (t:Ty)=>some (s.isSlot t))):=v2 (fo Tryz.func60 zSn) fun a b r h hs=>by
 cases h;exact ziQ hρ (E:=EL []) rfl (zt valid_nil) hs
def zsa:J.Spec:=fnS (zaM fun (s:Store) (x y:Ty)=>if s.slots.length<=1000/\s.trail.length<=990/\s.isSlot x=true/\s.isSlot y=true then some (s.join x.id y.id)else none)
theorem z9b:Valid ρ Tryz.prog 61 zsa:=v3 (fo Tryz.func61 zSm) fun a b c r h hs=>by
 obtain⟨⟨h1,h2,h3,h4⟩,rfl⟩:=zT h;exact ziR hρ (E:=EL [(78,zMh),(29,fnS (zW fun i:Int=>some (zas i)))]) rfl (zt (zo (zzy hρ) (zo (zIC hρ) valid_nil))) rfl rfl ⟨h1,h2⟩ h3 h4 hs
theorem z9c:Valid ρ Tryz.prog 62 (fnS (zaM Store.bindF)):=v3 (fo Tryz.func62 zSl) fun a b c r h hs=>by
 obtain⟨⟨h1,h2,⟨h3,h4,h5,h6⟩,h7⟩,rfl⟩:=zT h
 exact ziS hρ (E:=EL [(78,zMh),(79,zqD),(66,zj7),(30,fnS (zW fun t:Ty=>some (zaF t))),(18,zdr),(31,zru)]) rfl
  (zt (zo (zzy hρ) (zo (z8O hρ) (zo (zLJ hρ) (zo (zwU hρ) (zo (zjl hρ) (zo (z8W hρ) valid_nil))))))) rfl rfl rfl rfl rfl rfl h1 h2 h3 h4 h5 h7 h6 hs
theorem zwM(S d:Nat)(hS:1<=S):Valid ρ Tryz.prog 39 (fnS (zaM (Store.uF S d))):=by
 induction d with
 | zero =>
   refine v3 (fo Tryz.func39 zNZ) fun a b c r h hs=>?_
   obtain⟨⟨_,_,_,h1⟩,_⟩:=zT h;omega
 | succ d ih =>
   refine v3 (fo Tryz.func39 zNZ) fun a b c r h hs=>?_
   obtain⟨rfl,h1,h2,h3⟩:=Store.uF_run hS h
   exact zh4 hρ (E:=EL [(39,fnS (zaM (Store.uF S d))),(17,znn),(59,zjT),(60,fnS (zV fun (s:Store) (t:Ty)=>some (s.isSlot t))),(61,zsa),(62,fnS (zaM Store.bindF))]) rfl
    (zt (zo ih (zo (zqF hρ) (zo (zmY hρ) (zo (z8R hρ) (zo (z9b hρ) (zo (z9c hρ) valid_nil))))))) rfl rfl rfl rfl rfl rfl h3.tys h3.trail h1 h2 h3.left h3.right (fun a _ _ _=>h3.calls a) hs
end
end Go.Proofs.YtfgmnebfhemnpaaGreat
/- The reference's Unify;the stores that tapes make. -/
namespace Go.Proofs.YtfgmnebfhemnpaaGreat
open Go.J
open Go.J.Enc (enc)
set_option maxRecDepth 100000
set_option maxHeartbeats 4000000
def zor(t:Tp)(D:List Decl):Option (Tp×Store):=by
 classical exact if t.ok/\DOk D/\zwz D then some (Store.storeM t D)else none
section
variable {ρ:Nat->Value}(hρ:J.Good ρ){E:Env}(hE:E.P=Tryz.prog)(hcon:ConsOk ρ E)
include hρ hE hcon
theorem zh5{S:Nat}(hc:E.con 39=fnS (zaM (Store.uF S 300000))){s:Store}{a b:Ty}(h:Store.UAll S s a b)(hs:HS) :
 CallOk ρ Tryz.prog 12 [enc s,enc a,enc b] hs (enc (Store.topM s a b)) hs:=by
 refine fn hρ hE hcon Tryz.func12 zSD rfl (by simp) ?_ hs;have hF:=h.run;unfold Store.topM;generalize Store.unifT s a b=r at hF;obtain⟨r1,r2⟩:=r;by_cases h0:r2=0
 . subst h0;simp [hE,hc,hF]
 . simp [hE,hc,hF,h0]
theorem zeV (h1:E.con 21=fnS (zfp (⟨[],[]⟩:Store))) (h2:E.con 23=stS (zq2 zk2)) (h3:E.con 22=fnS (zaM fun (s:Store) (h:Int) (b:Bool)=>if s.small then some (s.fresh h b)else none))
 (h4:E.con 25=zeS) (h5:E.con 24=stS (zrb (zg8 1))) (h6:E.con 32=fnS (zV fun h i:Int=>some (zaw h i))) (h7:E.con 12=fnS (zaM (Store.topF 7)))
 {t:Tp} {D:List Decl} (ht:t.ok) (hD:DOk D) (hD3:zwz D) (hs:HS) (id:Nat) (hid:id<hs.n) (hg:hs.H.get id=some (box (Cel.cells t))) :
 CallOk ρ Tryz.prog 33 [.ptr id 0 0,enc D] hs (enc (Store.storeM t D).2) (hs.wr id (box (Cel.cells (Store.storeM t D).1))):=by
 refine st hρ hE hcon Tryz.func33 zSz rfl (by simp) (by simp) (by simp) (by simp) ?_ hid hg;have hnx:∀ (t:Tp) (m:Int),t.ok->-1000000<=m->m<=1000000->zk2 t m=some (t.next m):=fun t m h a b=>if_pos ⟨h,a,b⟩
 have hn:=Store.storeN_le t;have hN5:=zhL t 5;have hL5:=zk1 t (n:=5) (by omega);have ht1:=zaZ ht 5;have hx1:=hnx t 5 ht (by omega) (by omega);unfold Store.storeM;have hne:((Store.storeN t:Nat):Int)=1+(t.next 5).2:=by unfold Store.storeN;omega
 generalize hnn:Store.storeN t=n at hn hne;rcases hq:t.next 5 with⟨t1,k1⟩;simp only[hq]at hx1 ht1 hne hN5 hL5;have hw1:IntKind.i64.wrap (1+k1)=(n:Int):=by rw[<- hne];exact wrap_i64 (by omega) (by omega)
 simp [hE,h1,h2,hx1,hw1];have hfo:=Store.frM_ok ht1
 refine lpi hρ hE hcon n (nn:=4) (fun i (p:Tp×Store)=>[(0,.ptr 0 0 0),(1,.sl (D.map zaq) false),(4,.ptr 1 0 0),(5,.ptr 3 0 0),(6,.int .i64 (n:Int)),(7,.int .i64 (i:Int))])
  (fun i p=>[(0,box (Cel.cells p.1)),(1,box [.snil,.snil]),(3,box (z8 p.2))]) (fun i p=>p=Store.frM t1 i) (t1,⟨[],[]⟩)
  (Less.auto (by simp) (by simp) (by simp) (by simp)) rfl ?_ ?_
 . rintro p hp K;have hf:=hfo n;rw[<- hp]at hf ⊢;obtain⟨t2,s⟩:=p;simp only at hf;obtain⟨ht2,_,hfr⟩:=hf;have hx4:=hnx t2 4 ht2 (by omega) (by omega);have ht3:=zaZ ht2 4;have hN4:=zhL t2 4;have hL4:=zk1 t2 (n:=4) (by omega);rcases hq4:t2.next 4 with⟨t3,k4⟩;simp only[hq4]at hx4 ht3 hN4 hL4;obtain⟨m,rfl⟩:=Int.eq_ofNat_of_zero_le hN4;simp [zoN,hE];refine LessQ.mk (Less.auto (TL:=[(0,.ptr 0 0 0),(1,.sl (D.map zaq) false),(4,.ptr 1 0 0),(5,.ptr 3 0 0),(6,.int .i64 (n:Int))]) (HL:=[(0,box (Cel.cells t2)),(1,box [.snil,.snil]),(3,box (z8 s))]) (n:=4) (by simp) (by simp) (by simp) (by simp)) ?_;simp [hE,h2,hx4];have hT:=hfr.tame (S:=7);have hr:=hfr.room (S:=7)
   have hr':Store.room n 7 s<=990:=by
    have:(n*7+7+2)*n<=44*5:=Nat.mul_le_mul (by omega) hn.2;omega
   have huo:=Store.unM_ok (D:=D) hD3 ht3 (by omega) (by omega) hT hr';have hua:=Store.unM_all (D:=D) hD3 ht3 (by omega) (by omega) hT hr';have hF1:∀ (t:Tp) (L:List Ty),t.ok->L.length<=100000->zg8 1 t D L 1=some (typeM 1 t D L):=fun t L ht hl=>if_pos ⟨ht,hD,hl,by decide⟩
   refine lpi hρ hE hcon m (nn:=4) (fun i (p:Tp×Store)=>[(0,.ptr 0 0 0),(1,.sl (D.map zaq) false),(4,.ptr 1 0 0),(5,.ptr 3 0 0),(6,.int .i64 (n:Int)),(8,.int .i64 (m:Int)),(9,.int .i64 (i:Int))])
    (fun i p=>[(0,box (Cel.cells p.1)),(1,box [.snil,.snil]),(3,box (z8 p.2))]) (fun i p=>p=Store.unM D n t3 s i) (t3,s)
    (Less.auto (by simp) (by simp) (by simp) (by simp)) rfl ?_ ?_
   . rintro p hp K;rw[<- hp];obtain⟨t4,s4⟩:=p;simp [ztI,hE];refine LessQ.mk (Less.auto (TL:=[(0,.ptr 0 0 0),(4,.ptr 1 0 0),(5,.ptr 3 0 0)]) (HL:=[(0,box (Cel.cells t4)),(1,box [.snil,.snil]),(3,box (z8 s4))]) (n:=4) (by simp) (by simp) (by simp) (by simp)) ?_;simp [hE];exact GivesL.keep rfl rfl (by simp) (by simp) (by simp)
   . rintro i p hi hp K hK;have ho:=huo i;have ha:=hua i;have hnew:=hK _ (show _=Store.unM D n t3 s (i+1) from rfl);rw[Store.unM]at hnew;rw[<- hp]at ho ha hnew;obtain⟨t4,s4⟩:=p;simp only at ho ha hnew;have hy1:=hF1 t4 (zaL n) ho.1 (by simp;omega);have ho1:=(zex (D:=D) (Lv:=zaL n) 1 t4 ho.1).1;rcases hq1:typeM 1 t4 D (zaL n)with⟨t5,a⟩;simp only[hq1]at hy1 ho1 ha hnew;have hy2:=hF1 t5 (zaL n++[zaw 1 0]) ho1 (by simp;omega);rcases hq2:typeM 1 t5 D (zaL n++[zaw 1 0])with⟨t6,b⟩;simp only[hq2]at hy2 ha hnew;have hF:Store.topF 7 s4 a b=some (Store.topM s4 a b):=if_pos ha;rcases hq3:Store.topM s4 a b with⟨s5,e5⟩;rw[hq3]at hF;simp only[hq3]at hnew;have hi':(i:Int)<m:=by omega
     have hn0:n<=10000:=by omega
     have hnI:((n:Nat):Int)<=10000:=by omega
     have hlv:=zkX n;have hw2:IntKind.i64.wrap ((i:Int)+1)=((i+1:Nat):Int):=zH (by omega);generalize hV:zaL n=L at hy1 hy2 hlv;rcases L with _|⟨v,L⟩
     . simp at hlv;omega
     . have h64:(L.length+1+1)*64<=1048576:=by simp at hlv;omega
       rw[List.cons_append]at hy2;simp [ztI,hE,hi',h4,zeS,h5,h6,h7,hn0,hnI,hV,hy1,hy2,hF,h64,Nat.not_succ_le_self,hw2,-Int.natCast_add];exact hnew _ _ (Less.auto (by simp[-Int.natCast_add]) (by simp) (by simp) (by simp))
 . rintro i p hi hp K hK;have hf:=hfo i;rw[<- hp]at hf;have hnew:=hK ((((p.1.next 3).1.next 5).1,(p.2.fresh (p.1.next 3).2 (decide (((p.1.next 3).1.next 5).2=0))).1)) (by rw[Store.frM,<- hp]);obtain⟨t2,s⟩:=p;simp only at hf hnew;obtain⟨ht2,_,hfr⟩:=hf;have hx3:=hnx t2 3 ht2 (by omega) (by omega);have ht3:=zaZ ht2 3;rcases hq3:t2.next 3 with⟨t3,k3⟩;simp only[hq3]at hx3 ht3 hnew;have hx5:=hnx t3 5 ht3 (by omega) (by omega);rcases hq5:t3.next 5 with⟨t4,k5⟩;simp only[hq5]at hx5 hnew;have hsm:s.small:=⟨by rw[hfr.1];omega,by rw[hfr.2.1];omega⟩;have hi':(i:Int)<n:=by omega
   have hw2:IntKind.i64.wrap ((i:Int)+1)=((i+1:Nat):Int):=zH (by omega);by_cases h5:k5=0
   . subst h5;simp only[decide_true]at hnew;rcases hq6:s.fresh k3 true with⟨s2,x2⟩;simp only[hq6]at hnew;simp [zoN,hE,hi',hx3,hx5,h2,h3,hsm,hq6,hw2,-Int.natCast_add];exact hnew _ _ (Less.auto (by simp[-Int.natCast_add]) (by simp) (by simp) (by simp))
   . simp only[decide_eq_false h5]at hnew;rcases hq6:s.fresh k3 false with⟨s2,x2⟩;simp only[hq6]at hnew;simp [zoN,hE,hi',hx3,hx5,h2,h3,hsm,h5,hq6,hw2,-Int.natCast_add];exact hnew _ _ (Less.auto (by simp[-Int.natCast_add]) (by simp) (by simp) (by simp))
end
end Go.Proofs.YtfgmnebfhemnpaaGreat
/- Types made valid;the law StoreOperations: what its function computes. -/
namespace Go.Proofs.YtfgmnebfhemnpaaGreat
open Go.J
open Go.J.Enc (enc)
set_option maxRecDepth 100000
set_option maxHeartbeats 4000000
def zDR:J.Spec:=fnS (zfp true)
section
variable {ρ:Nat->Value}(hρ:J.Good ρ){E:Env}(hE:E.P=Tryz.prog)(hcon:ConsOk ρ E)
include hρ hE hcon
end
end Go.Proofs.YtfgmnebfhemnpaaGreat
/- The contracts that the laws on stores use,joined. -/
namespace Go.Proofs.YtfgmnebfhemnpaaGreat
open Go.J
open Go.J.Enc (enc)
set_option maxRecDepth 100000
set_option maxHeartbeats 1000000
section
variable {ρ:Nat->Value}(hρ:J.Good ρ)
include hρ
theorem zzx(S:Nat)(hS:1<=S):Valid ρ Tryz.prog 12 (fnS (zaM (Store.topF S))):=v3 (fo Tryz.func12 zSD) fun a b c r h hs=>by
 obtain⟨h1,rfl⟩:=zT h;exact zh5 hρ (E:=EL [(39,fnS (zaM (Store.uF S 300000)))]) rfl (zt (zo (zwM hρ S 300000 hS) valid_nil)) rfl h1 hs
theorem zpr:Valid ρ Tryz.prog 33 (stS (zq2 zor)):=s1 (fo Tryz.func33 zSz) fun s a q h hs id hid hg=>by
 obtain⟨⟨h1,h2,h3⟩,rfl⟩:=zT h
 exact zeV hρ (E:=EL [(21,fnS (zfp (⟨[],[]⟩:Store))),(23,stS (zq2 zk2)),(22,z0j),(25,zeS),(24,stS (zrb (zg8 1))),(32,fnS (zV fun h i:Int=>some (zaw h i))),(12,fnS (zaM (Store.topF 7)))]) rfl
  (zt (zo (zEr hρ) (zo (zEq hρ) (zo (zwV hρ) (zo (zqK hρ) (zo (zEm hρ 1 (by omega)) (zo (zzz hρ) (zo (zzx hρ 7 (by omega)) valid_nil)))))))) rfl rfl rfl rfl rfl rfl rfl h1 h2 h3 hs id hid hg
theorem zLG:Valid ρ Tryz.prog 104 (fnS (zW fun i:Int=>some (zas i))):=v1 (fo Tryz.func104 zGO) fun a r h hs=>by
 cases h;exact zkb hρ (E:=EL []) rfl (zt valid_nil) hs
theorem zEp:Valid ρ Tryz.prog 107 (fnS (zV fun (s:Store) (i:Int)=>some (s.slot? i).isSome)):=v2 (fo Tryz.func107 zGM) fun a b r h hs=>by
 cases h;exact zkd hρ (E:=EL []) rfl (zt valid_nil) hs
end
end Go.Proofs.YtfgmnebfhemnpaaGreat
/- Walking,measuring and resolving in a store: the contracts joined. -/
namespace Go.Proofs.YtfgmnebfhemnpaaGreat
open Go.J
open Go.J.Enc (enc)
set_option maxRecDepth 100000
set_option maxHeartbeats 1000000
section
variable {ρ:Nat->Value}(hρ:J.Good ρ)
include hρ
theorem zqG:Valid ρ Tryz.prog 84 (fnS (zV fun (s:Store) (t:Ty)=>some (s.bound t))):=v2 (fo Tryz.func84 zNT) fun a b r h hs=>by
 cases h;exact zdV hρ (E:=EL [(107,fnS (zV fun (s:Store) (i:Int)=>some (s.slot? i).isSome))]) rfl (zt (zo (zEp hρ) valid_nil)) rfl hs
def zDZ:J.Spec:=fnS (zV fun (s:Store) (t:Ty)=>if s.slots.length<=1000000 then some (s.w t)else none)
theorem zEn:Valid ρ Tryz.prog 67 zDZ:=v2 (fo Tryz.func67 zK0) fun a b r h hs=>by
 obtain⟨h1,rfl⟩:=zT h;exact ziD hρ (E:=EL [(84,fnS (zV fun (s:Store) (t:Ty)=>some (s.bound t)))]) rfl (zt (zo (zqG hρ) valid_nil)) rfl h1 hs
theorem zlq{d:Nat}(hd:d<=1000000){S:J.Spec}(hv:Valid ρ Tryz.prog 44 S)(hS:S=fnS (zaM (szG d))){s:Store}{t:Ty}{m:Int}(h1:s.tysOk)(h2:t.ok=true)(h3:m<d+1)(hs:HS) :
 CallOk ρ Tryz.prog 44 [enc s,enc t,enc m] hs (enc ((sz s.w t (max m 0).toNat:Nat):Int)) hs:=by
 subst hS;exact ziE hρ (E:=EL [(44,fnS (zaM (szG d))),(67,zDZ)]) rfl (zt (zo hv (zo (zEn hρ) valid_nil))) rfl hd rfl h1 h2 h3 hs
theorem zEo(d:Nat)(hd:d<=1000000):Valid ρ Tryz.prog 44 (fnS (zaM (szG d))):=by
 induction d with
 | zero =>
   refine v3 (fo Tryz.func44 zK1) fun a b c r h hs=>?_
   obtain⟨⟨h1,h2,h3,h4⟩,rfl⟩:=zT h;omega
 | succ d ih =>
   refine v3 (fo Tryz.func44 zK1) fun a b c r h hs=>?_
   obtain⟨⟨h1,h2,h3,h4⟩,rfl⟩:=zT h;exact zlq hρ (by omega) (ih (by omega)) rfl h1 h2 (by omega) hs
end
def zsc:List Int->Int->Int->Int
 | [],_,_=>-1
 |y::l,x,i=>if x=y then i else zsc l x (i+1)
theorem zA4:∀ (l:List Int) (x i:Int),0<=i->(decide (zsc l x i ≥ 0))=decide (x∈l):=by
 intro l
 induction l with
 |nil=>intro x i h;simp[zsc]
 | cons y l ih =>
   intro x i h;rw[zsc];split
   . rename_i e;simp[e,h]
   . rename_i e;rw[ih x (i+1) (by omega)];simp[e]
section
variable {ρ:Nat->Value}(hρ:J.Good ρ)
include hρ
section
variable {E:Env}(hE:E.P=Tryz.prog)(hcon:ConsOk ρ E)
include hE hcon
theorem zgC{l:List Int}{x:Int}(hl:l.length<=1000000)(hs:HS):CallOk ρ Tryz.prog 126 [enc l,enc x] hs (enc (zsc l x 0)) hs:=by
 refine fn hρ hE hcon Tryz.func126 zGL rfl (by simp) ?_ hs;generalize hr:zsc l x 0=r;simp [hE]
 refine lpi hρ hE hcon l.length (nn:=0) (fun i (_:Unit)=>[(0,.sl (l.map encI) false),(1,.int .i64 x),(7,.int .i64 (l.length:Int)),(8,.int .i64 (i:Int))]) (fun i _=>[]) (fun i _=>zsc (l.drop i) x i=r) ()
  (Less.auto (by simp) (by simp) (by simp) (by simp)) (by simpa using hr) ?_ ?_
 . intro _ h K;rw[List.drop_length,zsc]at h;simp [zk9,hE];refine LessQ.mk (Less.auto (TL:=[]) (HL:=[]) (n:=0) (by simp) (by simp) (by simp) (by simp)) ?_;simp [hE,h]
 . intro i _ hi h K hK;have hi':(i:Int)<l.length:=by omega
   have hw2:IntKind.i64.wrap ((i:Int)+1)=((i+1:Nat):Int):=zH (by omega);rw[List.drop_eq_getElem_cons hi,zsc]at h;by_cases he:x=l[i]
   . rw[if_pos he]at h;simp [zk9,hE,hi,hi',<- he];refine LessQ.mk (Less.auto (TL:=[(4,.int .i64 (i:Int))]) (HL:=[]) (n:=0) (by simp) (by simp) (by simp) (by simp)) ?_;simp [hE,h]
   . rw[if_neg he]at h;have hnew:=hK () (by simpa using h);simp [zk9,hE,hi,hi',he,hw2,-Int.natCast_add];exact hnew _ _ (Less.auto (by simp[-Int.natCast_add]) (by simp) (by simp) (by simp))
theorem zeN(hI:E.con 126=fnC (zV fun (l:List Int) (x:Int)=>if l.length<=1000000 then some (zsc l x 0)else none)){l:List Int}{x:Int}(hl:l.length<=1000000)(hs:HS):CallOk ρ Tryz.prog 102 [enc l,enc x] hs (enc (decide (x∈l))) hs:=by
 refine fn hρ hE hcon Tryz.func102 zGP rfl (by simp) ?_ hs;rw[<- zA4 l x 0 (by omega)];simp [hE,hI,hl]
end
def z0a:J.Spec:=fnC (zV fun (l:List Int) (x:Int)=>if l.length<=1000000 then some (zsc l x 0)else none)
theorem zEs:Valid ρ Tryz.prog 126 z0a:=c2 (fo Tryz.func126 zGL) fun a b r h hs=>by
 obtain⟨h1,rfl⟩:=zT h;exact zgC hρ (E:=EL []) rfl (zt valid_nil) h1 hs
theorem zqN:Valid ρ Tryz.prog 102 zj7:=c2 (fo Tryz.func102 zGP) fun a b r h hs=>by
 obtain⟨h1,rfl⟩:=zT h;exact zeN hρ (E:=EL [(126,z0a)]) rfl (zt (zo (zEs hρ) valid_nil)) rfl h1 hs
end
end Go.Proofs.YtfgmnebfhemnpaaGreat
