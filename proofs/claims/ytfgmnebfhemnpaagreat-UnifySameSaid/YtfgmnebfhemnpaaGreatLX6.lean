import Derived.Test.YtfgmnebfhemnpaaGreatLX5
import Derived.Test.YtfgmnebfhemnpaaGreatLAL
import Derived.Test.YtfgmnebfhemnpaaGreatJP
set_option linter.all false
noncomputable section
/- Tapes: the contracts joined. -/
namespace Go.Proofs.YtfgmnebfhemnpaaGreat
open Go.J
open Go.J.Enc (enc)
set_option maxRecDepth 100000
set_option maxHeartbeats 4000000
section
variable {ρ:Nat->Value}(hρ:J.Good ρ)
include hρ
theorem zkL(d:Nat)(hd:d<=1000){S:J.Spec}(hv:Valid ρ Tryz.prog 24 S){t:Tp}{D:List Decl}{Lv:List Ty}{n:Int}(hS:0<n->S=stS (zqE (zg7 d)))(h1:t.ok)(h2:DOk D)(h3:Lv.length<=100000)(h4:n<=d+1)(hs:HS)(id:Nat)(hid:id<hs.n)(hg:hs.H.get id=some (box (Cel.cells t))) :
 CallOk ρ Tryz.prog 24 [.ptr id 0 0,enc D,enc Lv,enc n] hs (enc (typeM n.toNat t D Lv).2) (hs.wr id (box (Cel.cells (typeM n.toNat t D Lv).1))) :=
 zf2 hρ (E:=EL [(23,stS (zqd zkg)),(53,zK2),(52,fnS (zfo tInt)),(54,fnS (zV fun a b:Ty=>some (zcw a b))),(24,S)]) rfl
  (zt (zq (zDI hρ) (zq (zLu hρ) (zq (zSW hρ) (zq (zDO hρ) (zq hv valid_nil)))))) rfl rfl rfl rfl hS h1 h2 h3 h4 hd hs id hid hg
def noS:J.Spec:=fun _ _=>none
omit hρ in
theorem zLr{f:Nat}(hf:zeI Tryz.prog f):Valid ρ Tryz.prog f noS where
 fn:=hf
 ok:=fun {_ _ _ _} h=>by cases h
 kept:=fun {_ _ _} h=>by cases h
theorem zDE(d:Nat)(hd:d<=1000):Valid ρ Tryz.prog 24 (stS (zqE (zg7 d))):=by
 induction d with
 | zero =>
   refine s3 (fo Tryz.func24 zKb) fun s a b c q h hs id hid hg=>?_
   obtain⟨⟨h1,h2,h3,h4⟩,rfl⟩:=zT h;exact zkL hρ 0 hd (zLr (fo Tryz.func24 zKb)) (fun h=>by omega) h1 h2 h3 (by omega) hs id hid hg
 | succ d ih =>
   refine s3 (fo Tryz.func24 zKb) fun s a b c q h hs id hid hg=>?_
   obtain⟨⟨h1,h2,h3,h4⟩,rfl⟩:=zT h;exact zkL hρ d (by omega) (ih (by omega)) (fun _=>rfl) h1 h2 h3 (by omega) hs id hid hg
omit hρ in
theorem zvu{f:Nat}{vs:List V}{hs hs':HS}{v r:V}(h:CallOk ρ Tryz.prog f vs hs v hs')(e:zas v=r):CallOk ρ Tryz.prog f vs hs r hs':=by
 intro X w F μ xs hR hD hO hA;refine CallsIn.mono (h X w F μ xs hR hD hO hA) fun e' w' he=>?_
 cases e' with
 | returned x =>
   obtain⟨F1,μ1,g1,g2,g3⟩:=he;exact⟨F1,μ1,g1,by rw[<- e];exact g2.norm,g3⟩
 |panicked c=>exact he
 |outgrown=>exact he
theorem zSY:Valid ρ Tryz.prog 50 (fnS (zfo allD)):=v0 (zJV Tryz.func50 (by kernel_rfl)) fun hs=>zvu
 (zeO hρ (E:=EL [(90,zli zwP)]) (zt (zq (zpi hρ) valid_nil)) follows named zAV rfl) (by kernel_rfl)
theorem zDM:Valid ρ Tryz.prog 20 (fnS (zaE fun bits:Int=>some (zaH bits))):=v1 (fo Tryz.func20 zSl) fun a r h hs=>by
 cases h;exact ziF hρ (E:=EL [(50,fnS (zfo allD))]) rfl (zt (zq (zSY hρ) valid_nil)) rfl hs
def zeQ:J.Spec:=z8S 5 (fun vs=>ob (zaE (fun n:Int=>if 0<=n/\n<=10000 then some (zaN n.toNat)else none) vs) fun v=>match v with|.sl es _=>some es|_=>none)
theorem zqu:Valid ρ Tryz.prog 25 zeQ:=Valid.row (fo Tryz.func25 zSh) fun vs es _ h hs hv=>by
 rw[zu]at h;obtain⟨v,h1,h2⟩:=h;obtain⟨n,r,rfl,h3,rfl⟩:=zhs h1;obtain⟨⟨h4,h5⟩,rfl⟩:=zT h3;obtain⟨m,rfl⟩:=Int.eq_ofNat_of_zero_le h4;cases h2;exact zkk hρ (E:=EL [(29,fnS (zaE fun i:Int=>some (zac i)))]) rfl (zt (zq (zIl hρ) valid_nil)) rfl (by omega) hv
end
end Go.Proofs.YtfgmnebfhemnpaaGreat
/- The contracts of unification in a store,joined. -/
namespace Go.Proofs.YtfgmnebfhemnpaaGreat
open Go.J
open Go.J.Enc (enc)
set_option maxRecDepth 100000
set_option maxHeartbeats 1000000
section
variable {ρ:Nat->Value}(hρ:J.Good ρ)
include hρ
theorem zDJ:Valid ρ Tryz.prog 21 (fnS (zfo (⟨[],[]⟩:Store))):=v0 (fo Tryz.func21 zSk) fun hs=>zjT hρ (E:=EL []) rfl (zt valid_nil) hs
def zz7:J.Spec:=fnS (zaK fun (s:Store) (h:Int) (b:Bool)=>if s.small then some (s.fresh h b)else none)
theorem zwp:Valid ρ Tryz.prog 22 zz7:=v3 (fo Tryz.func22 zSj) fun a b c r h hs=>by
 obtain⟨h1,rfl⟩:=zT h;exact zh2 hρ (E:=EL [(29,fnS (zaE fun i:Int=>some (zac i)))]) rfl (zt (zq (zIl hρ) valid_nil)) rfl h1 hs
def zLI:J.Spec:=fnS (zaK fun (s:Store) (i:Int) (x:Slot)=>if s.small then some (s.set i x)else none)
theorem zyO:Valid ρ Tryz.prog 78 zLI:=v3 (fo Tryz.func78 zRG) fun a b c r h hs=>by
 obtain⟨h1,rfl⟩:=zT h;exact zjS hρ (E:=EL []) rfl (zt valid_nil) h1 hs
theorem znD:Valid ρ Tryz.prog 77 (fnS (zV fun (s:Store) (t:Ty)=>some (s.bound t))):=v2 (fo Tryz.func77 zRH) fun a b r h hs=>by
 cases h;exact zhz hρ (E:=EL []) rfl (zt valid_nil) hs
def zj5:J.Spec:=fnS (zV fun (s:Store) (t:Ty)=>if s.slots.length<=1000000 then some (s.w16 t)else none)
theorem zm8:Valid ρ Tryz.prog 59 zj5:=v2 (fo Tryz.func59 zRQ) fun a b r h hs=>by
 obtain⟨h1,rfl⟩:=zT h;exact zi9 hρ (E:=EL [(77,fnS (zV fun (s:Store) (t:Ty)=>some (s.bound t)))]) rfl (zt (zq (znD hρ) valid_nil)) rfl h1 hs
theorem zLi(d:Nat)(hd:d<=1000000):Valid ρ Tryz.prog 47 (fnS (zaK (szF d))):=by
 induction d with
 | zero =>
   refine v3 (fo Tryz.func47 zNA) fun a b c r h hs=>?_
   obtain⟨⟨_,_,h1,h2⟩,rfl⟩:=zT h;omega
 | succ d ih =>
   refine v3 (fo Tryz.func47 zNA) fun a b c r h hs=>?_
   obtain⟨⟨h1,h2,h3,h4⟩,rfl⟩:=zT h;obtain⟨m,rfl⟩:=Int.eq_ofNat_of_zero_le h3;exact zi8 hρ (E:=EL [(47,fnS (zaK (szF d))),(59,zj5)]) rfl (zt (zq (ih (by omega)) (zq (zm8 hρ) valid_nil))) rfl (by omega) rfl h1 h2 (by omega) hs
def zcG:J.Spec:=fnS (zaK fun (s:Store) (t:Ty) (m:Int)=>if s.tysOk/\t.ok=true/\m<1000000 then some ((sz s.w16 t (max m 0).toNat:Nat):Int)else none)
theorem zj7:Valid ρ Tryz.prog 17 zcG:=v3 (fo Tryz.func17 zSn) fun a b c r h hs=>by
 obtain⟨⟨h1,h2,h3⟩,rfl⟩:=zT h;exact ziB hρ (E:=EL [(47,fnS (zaK (szF 1000000)))]) rfl (zt (zq (zLi hρ 1000000 (by omega)) valid_nil)) rfl h1 h2 h3 hs
theorem zD5(d:Nat)(hd:d<=10000):Valid ρ Tryz.prog 48 (fnS (zV (zqf d))):=by
 induction d with
 | zero =>
   refine v2 (fo Tryz.func48 zN9) fun a b r h hs=>?_
   obtain⟨⟨_,_,h1⟩,rfl⟩:=zT h;obtain⟨q,_,hq⟩:=sz_fits.1 h1;have:=Ty.size_pos q;omega
 | succ d ih =>
   exact v2 (fo Tryz.func48 zN9) fun a b r h hs =>
    zgd hρ (E:=EL [(48,fnS (zV (zqf d))),(59,zj5)]) rfl (zt (zq (ih (by omega)) (zq (zm8 hρ) valid_nil))) rfl (by omega) rfl h hs
def zbF:J.Spec:=fnS (zV fun (s:Store) (t:Ty)=>if s.tysOk/\t.ok=true then some (zR s.w16 t)else none)
theorem zfS:Valid ρ Tryz.prog 18 zbF:=v2 (fo Tryz.func18 zSm) fun a b r h hs=>by
 obtain⟨⟨h1,h2⟩,rfl⟩:=zT h;exact zge hρ (E:=EL [(17,zcG),(48,fnS (zV (zqf 4000)))]) rfl (zt (zq (zj7 hρ) (zq (zD5 hρ 4000 (by omega)) valid_nil))) rfl rfl h1 h2 hs
theorem zD4(d:Nat):Valid ρ Tryz.prog 105 (zaT (zvM (zm0 d))):=by
 induction d with
 | zero =>
   refine Valid.emb (fo Tryz.func105 zAt) fun vs hs D h=>?_
   obtain⟨s,out,done,t,R,id,rd,ro,hR,rfl,_,_,_,hfit⟩:=znC h;obtain⟨⟨_,_,_,_,h1⟩,_⟩:=zT hR;have:=Ty.size_pos t;omega
 | succ d ih =>
   refine Valid.emb (fo Tryz.func105 zAt) fun vs hs D h=>?_
   obtain⟨s,out,done,t,R,id,rd,ro,hR,rfl,_,_,_,hfit⟩:=znC h;exact zdN hρ (E:=EL [(105,zaT (zvM (zm0 d))),(77,fnS (zV fun (s:Store) (t:Ty)=>some (s.bound t))),(66,zko)]) rfl (zt (zq ih (zq (znD hρ) (zq (zO9 hρ) valid_nil)))) rfl rfl rfl hR hfit
def zqp:J.Spec:=fnS (zV fun (s:Store) (l:List Ty)=>if zbv s l then some (varsS s l)else none)
theorem z8c:Valid ρ Tryz.prog 79 zqp:=v2 (fo Tryz.func79 zRF) fun a b r h hs=>by
 obtain⟨h1,rfl⟩:=zT h;exact ziA hρ (E:=EL [(105,zaT (zvM (zm0 100000)))]) rfl (zt (zq (zD4 hρ 100000) valid_nil)) rfl h1 hs
theorem zwo:Valid ρ Tryz.prog 30 (fnS (zaE fun t:Ty=>some (zaG t))):=v1 (fo Tryz.func30 zSf) fun a r h hs=>by
 cases h;exact zgD hρ (E:=EL []) rfl (zt valid_nil) hs
def zqY:J.Spec:=fnS (zaE fun l:List Ty=>if Ty.oks l=true/\l.length<=10000/\Ty.sizes l<=10000 then some (zbk l)else none)
theorem z8m:Valid ρ Tryz.prog 31 zqY:=v1 (fo Tryz.func31 zSe) fun a r h hs=>by
 obtain⟨⟨h1,h2,h3⟩,rfl⟩:=zT h;exact zhv hρ (E:=EL [(56,ioS 5 (zvW (zcL 10000)) zof)]) rfl (zt (zq (z8o hρ 10000) valid_nil)) rfl h1 h2 h3 (by omega) hs
theorem z8g:Valid ρ Tryz.prog 60 (fnS (zV fun (s:Store) (t:Ty)=>some (s.isSlot t))):=v2 (fo Tryz.func60 zRP) fun a b r h hs=>by
 cases h;exact zi4 hρ (E:=EL []) rfl (zt valid_nil) hs
def zrF:J.Spec:=fnS (zaK fun (s:Store) (x y:Ty)=>if s.slots.length<=1000/\s.trail.length<=990/\s.isSlot x=true/\s.isSlot y=true then some (s.join x.id y.id)else none)
theorem z8p:Valid ρ Tryz.prog 61 zrF:=v3 (fo Tryz.func61 zRO) fun a b c r h hs=>by
 obtain⟨⟨h1,h2,h3,h4⟩,rfl⟩:=zT h;exact zi5 hρ (E:=EL [(78,zLI),(29,fnS (zaE fun i:Int=>some (zac i)))]) rfl (zt (zq (zyO hρ) (zq (zIl hρ) valid_nil))) rfl rfl ⟨h1,h2⟩ h3 h4 hs
theorem z8q:Valid ρ Tryz.prog 62 (fnS (zaK Store.bindF)):=v3 (fo Tryz.func62 zRN) fun a b c r h hs=>by
 obtain⟨⟨h1,h2,⟨h3,h4,h5,h6⟩,h7⟩,rfl⟩:=zT h
 exact zi6 hρ (E:=EL [(78,zLI),(79,zqp),(66,zko),(30,fnS (zaE fun t:Ty=>some (zaG t))),(18,zbF),(31,zqY)]) rfl
  (zt (zq (zyO hρ) (zq (z8c hρ) (zq (zO9 hρ) (zq (zwo hρ) (zq (zfS hρ) (zq (z8m hρ) valid_nil))))))) rfl rfl rfl rfl rfl rfl h1 h2 h3 h4 h5 h7 h6 hs
theorem zwj(S d:Nat)(hS:1<=S):Valid ρ Tryz.prog 39 (fnS (zaK (Store.uF S d))):=by
 induction d with
 | zero =>
   refine v3 (fo Tryz.func39 zNB) fun a b c r h hs=>?_
   obtain⟨⟨_,_,_,h1⟩,_⟩:=zT h;omega
 | succ d ih =>
   refine v3 (fo Tryz.func39 zNB) fun a b c r h hs=>?_
   obtain⟨rfl,h1,h2,h3⟩:=Store.uF_run hS h
   exact zhw hρ (E:=EL [(39,fnS (zaK (Store.uF S d))),(17,zcG),(59,zj5),(60,fnS (zV fun (s:Store) (t:Ty)=>some (s.isSlot t))),(61,zrF),(62,fnS (zaK Store.bindF))]) rfl
    (zt (zq ih (zq (zj7 hρ) (zq (zm8 hρ) (zq (z8g hρ) (zq (z8p hρ) (zq (z8q hρ) valid_nil))))))) rfl rfl rfl rfl rfl rfl h3.tys h3.trail h1 h2 h3.left h3.right (fun a _ _ _=>h3.calls a) hs
end
end Go.Proofs.YtfgmnebfhemnpaaGreat
/- The reference's Unify;the stores that tapes make. -/
namespace Go.Proofs.YtfgmnebfhemnpaaGreat
open Go.J
open Go.J.Enc (enc)
set_option maxRecDepth 100000
set_option maxHeartbeats 4000000
def znL(t:Tp)(D:List Decl):Option (Tp×Store):=by
 classical exact if t.ok/\DOk D/\zvK D then some (Store.storeM t D)else none
section
variable {ρ:Nat->Value}(hρ:J.Good ρ){E:Env}(hE:E.P=Tryz.prog)(hcon:ConsOk ρ E)
include hρ hE hcon
theorem zhx{S:Nat}(hc:E.con 39=fnS (zaK (Store.uF S 300000))){s:Store}{a b:Ty}(h:Store.UAll S s a b)(hs:HS) :
 CallOk ρ Tryz.prog 12 [enc s,enc a,enc b] hs (enc (Store.topM s a b)) hs:=by
 refine fn hρ hE hcon Tryz.func12 zSr rfl (by simp) ?_ hs;have hF:=h.run;unfold Store.topM;generalize Store.unifT s a b=r at hF;obtain⟨r1,r2⟩:=r;by_cases h0:r2=0
 . subst h0;simp [hE,hc,hF]
 . simp [hE,hc,hF,h0]
theorem zeS (h1:E.con 21=fnS (zfo (⟨[],[]⟩:Store))) (h2:E.con 23=stS (zqd zkg)) (h3:E.con 22=fnS (zaK fun (s:Store) (h:Int) (b:Bool)=>if s.small then some (s.fresh h b)else none))
 (h4:E.con 25=zeQ) (h5:E.con 24=stS (zqE (zg7 1))) (h6:E.con 32=fnS (zV fun h i:Int=>some (zax h i))) (h7:E.con 12=fnS (zaK (Store.topF 7)))
 {t:Tp} {D:List Decl} (ht:t.ok) (hD:DOk D) (hD3:zvK D) (hs:HS) (id:Nat) (hid:id<hs.n) (hg:hs.H.get id=some (box (Cel.cells t))) :
 CallOk ρ Tryz.prog 33 [.ptr id 0 0,enc D] hs (enc (Store.storeM t D).2) (hs.wr id (box (Cel.cells (Store.storeM t D).1))):=by
 refine st hρ hE hcon Tryz.func33 zSc rfl (by simp) (by simp) (by simp) (by simp) ?_ hid hg;have hnx:∀ (t:Tp) (m:Int),t.ok->-1000000<=m->m<=1000000->zkg t m=some (t.next m):=fun t m h a b=>if_pos ⟨h,a,b⟩
 have hn:=Store.storeN_le t;have hN5:=zhC t 5;have hL5:=zkf t (n:=5) (by omega);have ht1:=zaZ ht 5;have hx1:=hnx t 5 ht (by omega) (by omega);unfold Store.storeM;have hne:((Store.storeN t:Nat):Int)=1+(t.next 5).2:=by unfold Store.storeN;omega
 generalize hnn:Store.storeN t=n at hn hne;rcases hq:t.next 5 with⟨t1,k1⟩;simp only[hq]at hx1 ht1 hne hN5 hL5;have hw1:IntKind.i64.wrap (1+k1)=(n:Int):=by rw[<- hne];exact wrap_i64 (by omega) (by omega)
 simp [hE,h1,h2,hx1,hw1];have hfo:=Store.frM_ok ht1
 refine lpi hρ hE hcon n (nn:=4) (fun i (p:Tp×Store)=>[(0,.ptr 0 0 0),(1,.sl (D.map zan) false),(4,.ptr 1 0 0),(5,.ptr 3 0 0),(6,.int .i64 (n:Int)),(7,.int .i64 (i:Int))])
  (fun i p=>[(0,box (Cel.cells p.1)),(1,box [.snil,.snil]),(3,box (zH p.2))]) (fun i p=>p=Store.frM t1 i) (t1,⟨[],[]⟩)
  (Less.auto (by simp) (by simp) (by simp) (by simp)) rfl ?_ ?_
 . rintro p hp K;have hf:=hfo n;rw[<- hp]at hf ⊢;obtain⟨t2,s⟩:=p;simp only at hf;obtain⟨ht2,_,hfr⟩:=hf;have hx4:=hnx t2 4 ht2 (by omega) (by omega);have ht3:=zaZ ht2 4;have hN4:=zhC t2 4;have hL4:=zkf t2 (n:=4) (by omega);rcases hq4:t2.next 4 with⟨t3,k4⟩;simp only[hq4]at hx4 ht3 hN4 hL4;obtain⟨m,rfl⟩:=Int.eq_ofNat_of_zero_le hN4;simp [zov,hE];refine LessQ.mk (Less.auto (TL:=[(0,.ptr 0 0 0),(1,.sl (D.map zan) false),(4,.ptr 1 0 0),(5,.ptr 3 0 0),(6,.int .i64 (n:Int))]) (HL:=[(0,box (Cel.cells t2)),(1,box [.snil,.snil]),(3,box (zH s))]) (n:=4) (by simp) (by simp) (by simp) (by simp)) ?_;simp [hE,h2,hx4];have hT:=hfr.tame (S:=7);have hr:=hfr.room (S:=7)
   have hr':Store.room n 7 s<=990:=by
    have:(n*7+7+2)*n<=44*5:=Nat.mul_le_mul (by omega) hn.2;omega
   have huo:=Store.unM_ok (D:=D) hD3 ht3 (by omega) (by omega) hT hr';have hua:=Store.unM_all (D:=D) hD3 ht3 (by omega) (by omega) hT hr';have hF1:∀ (t:Tp) (L:List Ty),t.ok->L.length<=100000->zg7 1 t D L 1=some (typeM 1 t D L):=fun t L ht hl=>if_pos ⟨ht,hD,hl,by decide⟩
   refine lpi hρ hE hcon m (nn:=4) (fun i (p:Tp×Store)=>[(0,.ptr 0 0 0),(1,.sl (D.map zan) false),(4,.ptr 1 0 0),(5,.ptr 3 0 0),(6,.int .i64 (n:Int)),(8,.int .i64 (m:Int)),(9,.int .i64 (i:Int))])
    (fun i p=>[(0,box (Cel.cells p.1)),(1,box [.snil,.snil]),(3,box (zH p.2))]) (fun i p=>p=Store.unM D n t3 s i) (t3,s)
    (Less.auto (by simp) (by simp) (by simp) (by simp)) rfl ?_ ?_
   . rintro p hp K;rw[<- hp];obtain⟨t4,s4⟩:=p;simp [ztq,hE];refine LessQ.mk (Less.auto (TL:=[(0,.ptr 0 0 0),(4,.ptr 1 0 0),(5,.ptr 3 0 0)]) (HL:=[(0,box (Cel.cells t4)),(1,box [.snil,.snil]),(3,box (zH s4))]) (n:=4) (by simp) (by simp) (by simp) (by simp)) ?_;simp [hE];exact GivesL.keep rfl rfl (by simp) (by simp) (by simp)
   . rintro i p hi hp K hK;have ho:=huo i;have ha:=hua i;have hnew:=hK _ (show _=Store.unM D n t3 s (i+1) from rfl);rw[Store.unM]at hnew;rw[<- hp]at ho ha hnew;obtain⟨t4,s4⟩:=p;simp only at ho ha hnew;have hy1:=hF1 t4 (zaN n) ho.1 (by simp;omega);have ho1:=(zeu (D:=D) (Lv:=zaN n) 1 t4 ho.1).1;rcases hq1:typeM 1 t4 D (zaN n)with⟨t5,a⟩;simp only[hq1]at hy1 ho1 ha hnew;have hy2:=hF1 t5 (zaN n++[zax 1 0]) ho1 (by simp;omega);rcases hq2:typeM 1 t5 D (zaN n++[zax 1 0])with⟨t6,b⟩;simp only[hq2]at hy2 ha hnew;have hF:Store.topF 7 s4 a b=some (Store.topM s4 a b):=if_pos ha;rcases hq3:Store.topM s4 a b with⟨s5,e5⟩;rw[hq3]at hF;simp only[hq3]at hnew;have hi':(i:Int)<m:=by omega
     have hn0:n<=10000:=by omega
     have hnI:((n:Nat):Int)<=10000:=by omega
     have hlv:=zkC n;have hw2:IntKind.i64.wrap ((i:Int)+1)=((i+1:Nat):Int):=zK (by omega);generalize hV:zaN n=L at hy1 hy2 hlv;rcases L with _|⟨v,L⟩
     . simp at hlv;omega
     . have h64:(L.length+1+1)*64<=1048576:=by simp at hlv;omega
       rw[List.cons_append]at hy2;simp [ztq,hE,hi',h4,zeQ,h5,h6,h7,hn0,hnI,hV,hy1,hy2,hF,h64,Nat.not_succ_le_self,hw2,-Int.natCast_add];exact hnew _ _ (Less.auto (by simp[-Int.natCast_add]) (by simp) (by simp) (by simp))
 . rintro i p hi hp K hK;have hf:=hfo i;rw[<- hp]at hf;have hnew:=hK ((((p.1.next 3).1.next 5).1,(p.2.fresh (p.1.next 3).2 (decide (((p.1.next 3).1.next 5).2=0))).1)) (by rw[Store.frM,<- hp]);obtain⟨t2,s⟩:=p;simp only at hf hnew;obtain⟨ht2,_,hfr⟩:=hf;have hx3:=hnx t2 3 ht2 (by omega) (by omega);have ht3:=zaZ ht2 3;rcases hq3:t2.next 3 with⟨t3,k3⟩;simp only[hq3]at hx3 ht3 hnew;have hx5:=hnx t3 5 ht3 (by omega) (by omega);rcases hq5:t3.next 5 with⟨t4,k5⟩;simp only[hq5]at hx5 hnew;have hsm:s.small:=⟨by rw[hfr.1];omega,by rw[hfr.2.1];omega⟩;have hi':(i:Int)<n:=by omega
   have hw2:IntKind.i64.wrap ((i:Int)+1)=((i+1:Nat):Int):=zK (by omega);by_cases h5:k5=0
   . subst h5;simp only[decide_true]at hnew;rcases hq6:s.fresh k3 true with⟨s2,x2⟩;simp only[hq6]at hnew;simp [zov,hE,hi',hx3,hx5,h2,h3,hsm,hq6,hw2,-Int.natCast_add];exact hnew _ _ (Less.auto (by simp[-Int.natCast_add]) (by simp) (by simp) (by simp))
   . simp only[decide_eq_false h5]at hnew;rcases hq6:s.fresh k3 false with⟨s2,x2⟩;simp only[hq6]at hnew;simp [zov,hE,hi',hx3,hx5,h2,h3,hsm,h5,hq6,hw2,-Int.natCast_add];exact hnew _ _ (Less.auto (by simp[-Int.natCast_add]) (by simp) (by simp) (by simp))
end
end Go.Proofs.YtfgmnebfhemnpaaGreat
/- Types made valid;the law StoreOperations: what its function computes. -/
namespace Go.Proofs.YtfgmnebfhemnpaaGreat
open Go.J
open Go.J.Enc (enc)
set_option maxRecDepth 100000
set_option maxHeartbeats 4000000
def z7S:J.Spec:=fnS (zfo true)
section
variable {ρ:Nat->Value}(hρ:J.Good ρ){E:Env}(hE:E.P=Tryz.prog)(hcon:ConsOk ρ E)
include hρ hE hcon
end
end Go.Proofs.YtfgmnebfhemnpaaGreat
/- The contracts that the laws on stores use,joined. -/
namespace Go.Proofs.YtfgmnebfhemnpaaGreat
open Go.J
open Go.J.Enc (enc)
set_option maxRecDepth 100000
set_option maxHeartbeats 1000000
section
variable {ρ:Nat->Value}(hρ:J.Good ρ)
include hρ
theorem zDF(S:Nat)(hS:1<=S):Valid ρ Tryz.prog 12 (fnS (zaK (Store.topF S))):=v3 (fo Tryz.func12 zSr) fun a b c r h hs=>by
 obtain⟨h1,rfl⟩:=zT h;exact zhx hρ (E:=EL [(39,fnS (zaK (Store.uF S 300000)))]) rfl (zt (zq (zwj hρ S 300000 hS) valid_nil)) rfl h1 hs
theorem zoR:Valid ρ Tryz.prog 33 (stS (zqd znL)):=s1 (fo Tryz.func33 zSc) fun s a q h hs id hid hg=>by
 obtain⟨⟨h1,h2,h3⟩,rfl⟩:=zT h
 exact zeS hρ (E:=EL [(21,fnS (zfo (⟨[],[]⟩:Store))),(23,stS (zqd zkg)),(22,zz7),(25,zeQ),(24,stS (zqE (zg7 1))),(32,fnS (zV fun h i:Int=>some (zax h i))),(12,fnS (zaK (Store.topF 7)))]) rfl
  (zt (zq (zDJ hρ) (zq (zDI hρ) (zq (zwp hρ) (zq (zqu hρ) (zq (zDE hρ 1 (by omega)) (zq (zyQ hρ) (zq (zDF hρ 7 (by omega)) valid_nil)))))))) rfl rfl rfl rfl rfl rfl rfl h1 h2 h3 hs id hid hg
theorem zLn:Valid ρ Tryz.prog 104 (fnS (zaE fun i:Int=>some (zac i))):=v1 (fo Tryz.func104 zGw) fun a r h hs=>by
 cases h;exact zjE hρ (E:=EL []) rfl (zt valid_nil) hs
theorem zDH:Valid ρ Tryz.prog 107 (fnS (zV fun (s:Store) (i:Int)=>some (s.slot? i).isSome)):=v2 (fo Tryz.func107 zGv) fun a b r h hs=>by
 cases h;exact zjI hρ (E:=EL []) rfl (zt valid_nil) hs
end
end Go.Proofs.YtfgmnebfhemnpaaGreat
/- Walking,measuring and resolving in a store: the contracts joined. -/
namespace Go.Proofs.YtfgmnebfhemnpaaGreat
open Go.J
open Go.J.Enc (enc)
set_option maxRecDepth 100000
set_option maxHeartbeats 1000000
section
variable {ρ:Nat->Value}(hρ:J.Good ρ)
include hρ
theorem zqt:Valid ρ Tryz.prog 84 (fnS (zV fun (s:Store) (t:Ty)=>some (s.bound t))):=v2 (fo Tryz.func84 zN4) fun a b r h hs=>by
 cases h;exact zdT hρ (E:=EL [(107,fnS (zV fun (s:Store) (i:Int)=>some (s.slot? i).isSome))]) rfl (zt (zq (zDH hρ) valid_nil)) rfl hs
def z7Y:J.Spec:=fnS (zV fun (s:Store) (t:Ty)=>if s.slots.length<=1000000 then some (s.w t)else none)
theorem zyP:Valid ρ Tryz.prog 67 z7Y:=v2 (fo Tryz.func67 zJZ) fun a b r h hs=>by
 obtain⟨h1,rfl⟩:=zT h;exact ziz hρ (E:=EL [(84,fnS (zV fun (s:Store) (t:Ty)=>some (s.bound t)))]) rfl (zt (zq (zqt hρ) valid_nil)) rfl h1 hs
theorem zht{d:Nat}(hd:d<=1000000){S:J.Spec}(hv:Valid ρ Tryz.prog 44 S)(hS:S=fnS (zaK (szG d))){s:Store}{t:Ty}{m:Int}(h1:s.tysOk)(h2:t.ok=true)(h3:m<d+1)(hs:HS) :
 CallOk ρ Tryz.prog 44 [enc s,enc t,enc m] hs (enc ((sz s.w t (max m 0).toNat:Nat):Int)) hs:=by
 subst hS;exact zi0 hρ (E:=EL [(44,fnS (zaK (szG d))),(67,z7Y)]) rfl (zt (zq hv (zq (zyP hρ) valid_nil))) rfl hd rfl h1 h2 h3 hs
theorem zqr(d:Nat)(hd:d<=1000000):Valid ρ Tryz.prog 44 (fnS (zaK (szG d))):=by
 induction d with
 | zero =>
   refine v3 (fo Tryz.func44 zGo) fun a b c r h hs=>?_
   obtain⟨⟨h1,h2,h3,h4⟩,rfl⟩:=zT h;omega
 | succ d ih =>
   refine v3 (fo Tryz.func44 zGo) fun a b c r h hs=>?_
   obtain⟨⟨h1,h2,h3,h4⟩,rfl⟩:=zT h;exact zht hρ (by omega) (ih (by omega)) rfl h1 h2 (by omega) hs
def zwG:J.Spec:=fnS (zaK fun (s:Store) (t:Ty) (m:Int)=>if s.tysOk/\t.ok=true/\m<1000000 then some ((sz s.w t (max m 0).toNat:Nat):Int)else none)
theorem z8l:Valid ρ Tryz.prog 44 zwG:=v3 (fo Tryz.func44 zGo) fun a b c r h hs=>by
 obtain⟨⟨h1,h2,h3⟩,rfl⟩:=zT h;exact zht hρ (Nat.le_refl _) (zqr hρ 1000000 (Nat.le_refl _)) rfl h1 h2 (by omega) hs
theorem zLo(d:Nat)(hd:d<=10000):Valid ρ Tryz.prog 68 (fnS (zV (zqe d))):=by
 induction d with
 | zero =>
   refine v2 (fo Tryz.func68 zN6) fun a b r h hs=>?_
   obtain⟨⟨_,_,h1⟩,rfl⟩:=zT h;obtain⟨q,_,hq⟩:=sz_fits.1 h1;have:=Ty.size_pos q;omega
 | succ d ih =>
   exact v2 (fo Tryz.func68 zN6) fun a b r h hs =>
    zfY hρ (E:=EL [(68,fnS (zV (zqe d))),(67,z7Y)]) rfl (zt (zq (ih (by omega)) (zq (zyP hρ) valid_nil))) rfl (by omega) rfl h hs
def zgK:J.Spec:=fnS (zV fun (s:Store) (t:Ty)=>if s.tysOk/\t.ok=true then some (zR s.w t)else none)
theorem zqs:Valid ρ Tryz.prog 45 zgK:=v2 (fo Tryz.func45 zRX) fun a b r h hs=>by
 obtain⟨⟨h1,h2⟩,rfl⟩:=zT h;exact zfZ hρ (E:=EL [(44,fnS (zaK (szG 1000000))),(68,fnS (zV (zqe 4000)))]) rfl (zt (zq (zqr hρ 1000000 (Nat.le_refl _)) (zq (zLo hρ 4000 (by omega)) valid_nil))) rfl rfl h1 h2 hs
end
def zrH:List Int->Int->Int->Int
 | [],_,_=>-1
 |y::l,x,i=>if x=y then i else zrH l x (i+1)
theorem z9V:∀ (l:List Int) (x i:Int),0<=i->(decide (zrH l x i ≥ 0))=decide (x∈l):=by
 intro l
 induction l with
 |nil=>intro x i h;simp[zrH]
 | cons y l ih =>
   intro x i h;rw[zrH];split
   . rename_i e;simp[e,h]
   . rename_i e;rw[ih x (i+1) (by omega)];simp[e]
section
variable {ρ:Nat->Value}(hρ:J.Good ρ)
include hρ
section
variable {E:Env}(hE:E.P=Tryz.prog)(hcon:ConsOk ρ E)
include hE hcon
theorem zgB{l:List Int}{x:Int}(hl:l.length<=1000000)(hs:HS):CallOk ρ Tryz.prog 126 [enc l,enc x] hs (enc (zrH l x 0)) hs:=by
 refine fn hρ hE hcon Tryz.func126 zGs rfl (by simp) ?_ hs;generalize hr:zrH l x 0=r;simp [hE]
 refine lpi hρ hE hcon l.length (nn:=0) (fun i (_:Unit)=>[(0,.sl (l.map encI) false),(1,.int .i64 x),(7,.int .i64 (l.length:Int)),(8,.int .i64 (i:Int))]) (fun i _=>[]) (fun i _=>zrH (l.drop i) x i=r) ()
  (Less.auto (by simp) (by simp) (by simp) (by simp)) (by simpa using hr) ?_ ?_
 . intro _ h K;rw[List.drop_length,zrH]at h;simp [zkq,hE];refine LessQ.mk (Less.auto (TL:=[]) (HL:=[]) (n:=0) (by simp) (by simp) (by simp) (by simp)) ?_;simp [hE,h]
 . intro i _ hi h K hK;have hi':(i:Int)<l.length:=by omega
   have hw2:IntKind.i64.wrap ((i:Int)+1)=((i+1:Nat):Int):=zK (by omega);rw[List.drop_eq_getElem_cons hi,zrH]at h;by_cases he:x=l[i]
   . rw[if_pos he]at h;simp [zkq,hE,hi,hi',<- he];refine LessQ.mk (Less.auto (TL:=[(4,.int .i64 (i:Int))]) (HL:=[]) (n:=0) (by simp) (by simp) (by simp) (by simp)) ?_;simp [hE,h]
   . rw[if_neg he]at h;have hnew:=hK () (by simpa using h);simp [zkq,hE,hi,hi',he,hw2,-Int.natCast_add];exact hnew _ _ (Less.auto (by simp[-Int.natCast_add]) (by simp) (by simp) (by simp))
theorem zeL(hI:E.con 126=fnC (zV fun (l:List Int) (x:Int)=>if l.length<=1000000 then some (zrH l x 0)else none)){l:List Int}{x:Int}(hl:l.length<=1000000)(hs:HS):CallOk ρ Tryz.prog 102 [enc l,enc x] hs (enc (decide (x∈l))) hs:=by
 refine fn hρ hE hcon Tryz.func102 zGx rfl (by simp) ?_ hs;rw[<- z9V l x 0 (by omega)];simp [hE,hI,hl]
end
def zzy:J.Spec:=fnC (zV fun (l:List Int) (x:Int)=>if l.length<=1000000 then some (zrH l x 0)else none)
theorem zDK:Valid ρ Tryz.prog 126 zzy:=c2 (fo Tryz.func126 zGs) fun a b r h hs=>by
 obtain⟨h1,rfl⟩:=zT h;exact zgB hρ (E:=EL []) rfl (zt valid_nil) h1 hs
theorem zqw:Valid ρ Tryz.prog 102 zko:=c2 (fo Tryz.func102 zGx) fun a b r h hs=>by
 obtain⟨h1,rfl⟩:=zT h;exact zeL hρ (E:=EL [(126,zzy)]) rfl (zt (zq (zDK hρ) valid_nil)) rfl h1 hs
end
end Go.Proofs.YtfgmnebfhemnpaaGreat
