import Derived.Test.YtfgmnebfhemnpaaGreatLX5
import Derived.Test.YtfgmnebfhemnpaaGreatLAL
import Derived.Test.YtfgmnebfhemnpaaGreatJP
set_option linter.all false
noncomputable section
/- Tapes: the contracts joined. -/
namespace Go.Proofs.YtfgmnebfhemnpaaGreat
open Go.J
open Go.J.Enc (enc)
set_option maxRecDepth 100000
set_option maxHeartbeats 1000000
section
variable {ρ:Nat→Value}(hρ:J.Good ρ)
include hρ
theorem zkz(d:Nat)(hd:d≤1000){S:J.Spec}(hv:Valid ρ Tryz.prog 24 S){t:Tp}{D:List Decl}{Lv:List Ty}{n:Int}(hS:0<n→S=stS (zqo (zgw d)))(h1:t.ok)(h2:DOk D)(h3:Lv.length≤100000)(h4:n≤d+1)(hs:HS)(id:Nat)(hid:id<hs.n)(hg:hs.H.get id=some (box (Cel.cells t))) :
 CallOk ρ Tryz.prog 24 [.ptr id 0 0,enc D,enc Lv,enc n] hs (enc (typeM n.toNat t D Lv).2) (hs.wr id (box (Cel.cells (typeM n.toNat t D Lv).1))) :=
 zfw hρ (E:=EL [(23,stS (zpJ zjN)),(53,zHX),(52,fnS (zfi tInt)),(54,fnS (zU fun a b:Ty=>some (zcx a b))),(24,S)]) rfl
  (zt (zo (zBp hρ) (zo (zIL hρ) (zo (zPZ hρ) (zo (zBw hρ) (zo hv valid_nil)))))) rfl rfl rfl rfl hS h1 h2 h3 h4 hd hs id hid hg
def noS:J.Spec:=fun _ _=>none
omit hρ in
theorem zIK{f:Nat}(hf:zeF Tryz.prog f):Valid ρ Tryz.prog f noS where
 fn:=hf
 ok:=fun {_ _ _ _} h=>by cases h
 kept:=fun {_ _ _} h=>by cases h
theorem zBk(d:Nat)(hd:d≤1000):Valid ρ Tryz.prog 24 (stS (zqo (zgw d))):=by
 induction d with
 | zero =>
   refine s3 (fo Tryz.func24 zH6) fun s a b c q h hs id hid hg=>?_
   obtain⟨⟨h1,h2,h3,h4⟩,rfl⟩:=zY h
   exact zkz hρ 0 hd (zIK (fo Tryz.func24 zH6)) (fun h=>by omega) h1 h2 h3 (by omega) hs id hid hg
 | succ d ih =>
   refine s3 (fo Tryz.func24 zH6) fun s a b c q h hs id hid hg=>?_
   obtain⟨⟨h1,h2,h3,h4⟩,rfl⟩:=zY h
   exact zkz hρ d (by omega) (ih (by omega)) (fun _=>rfl) h1 h2 h3 (by omega) hs id hid hg
omit hρ in
theorem zuy{f:Nat}{vs:List V}{hs hs':HS}{v r:V}(h:CallOk ρ Tryz.prog f vs hs v hs')(e:zas v=r):CallOk ρ Tryz.prog f vs hs r hs':=by
 intro X w F μ xs hR hD hO hA
 refine CallsIn.mono (h X w F μ xs hR hD hO hA) fun e' w' he=>?_
 cases e' with
 | returned x =>
   obtain⟨F1,μ1,g1,g2,g3⟩:=he
   exact⟨F1,μ1,g1,by rw[← e];exact g2.norm,g3⟩
 |panicked c=>exact he
 |outgrown=>exact he
theorem zQb:Valid ρ Tryz.prog 50 (fnS (zfi allD)):=v0 (zHz Tryz.func50 (by kernel_rfl)) fun hs=>zuy
 (zeL hρ (E:=EL [(90,zkP zvO)]) (zt (zo (zoR hρ) valid_nil)) follows named z8q rfl) (by kernel_rfl)
theorem zBu:Valid ρ Tryz.prog 20 (fnS (zaU fun bits:Int=>some (zaH bits))):=v1 (fo Tryz.func20 zPr) fun a r h hs=>by
 cases h
 exact zi0 hρ (E:=EL [(50,fnS (zfi allD))]) rfl (zt (zo (zQb hρ) valid_nil)) rfl hs
def zeN:J.Spec:=z5W 5 (fun vs=>ob (zaU (fun n:Int=>if 0≤n∧n≤10000 then some (zaM n.toNat)else none) vs) fun v=>match v with|.sl es _=>some es|_=>none)
theorem zpZ:Valid ρ Tryz.prog 25 zeN:=Valid.row (fo Tryz.func25 zPn) fun vs es _ h hs hv=>by
 rw[zq]at h
 obtain⟨v,h1,h2⟩:=h
 obtain⟨n,r,rfl,h3,rfl⟩:=zhg h1
 obtain⟨⟨h4,h5⟩,rfl⟩:=zY h3
 obtain⟨m,rfl⟩:=Int.eq_ofNat_of_zero_le h4
 cases h2
 exact zjQ hρ (E:=EL [(29,fnS (zaU fun i:Int=>some (zX i)))]) rfl (zt (zo (zFF hρ) valid_nil)) rfl (by omega) hv
end
end Go.Proofs.YtfgmnebfhemnpaaGreat
/- The contracts of unification in a store,joined. -/
namespace Go.Proofs.YtfgmnebfhemnpaaGreat
open Go.J
open Go.J.Enc (enc)
set_option maxRecDepth 100000
set_option maxHeartbeats 1000000
section
variable {ρ:Nat→Value}(hρ:J.Good ρ)
include hρ
theorem zBq:Valid ρ Tryz.prog 21 (fnS (zfi (⟨[],[]⟩:Store))):=v0 (fo Tryz.func21 zPq) fun hs=>zjA hρ (E:=EL []) rfl (zt valid_nil) hs
def zy4:J.Spec:=fnS (zaT fun (s:Store) (h:Int) (b:Bool)=>if s.small then some (s.fresh h b)else none)
theorem zvs:Valid ρ Tryz.prog 22 zy4:=v3 (fo Tryz.func22 zPp) fun a b c r h hs=>by
 obtain⟨h1,rfl⟩:=zY h
 exact zhp hρ (E:=EL [(29,fnS (zaU fun i:Int=>some (zX i)))]) rfl (zt (zo (zFF hρ) valid_nil)) rfl h1 hs
def zJh:J.Spec:=fnS (zaT fun (s:Store) (i:Int) (x:Slot)=>if s.small then some (s.set i x)else none)
theorem zxM:Valid ρ Tryz.prog 78 zJh:=v3 (fo Tryz.func78 zOO) fun a b c r h hs=>by
 obtain⟨h1,rfl⟩:=zY h
 exact zj9 hρ (E:=EL []) rfl (zt valid_nil) h1 hs
theorem zn0:Valid ρ Tryz.prog 77 (fnS (zU fun (s:Store) (t:Ty)=>some (s.bound t))):=v2 (fo Tryz.func77 zOP) fun a b r h hs=>by
 cases h;exact zhm hρ (E:=EL []) rfl (zt valid_nil) hs
def zjr:J.Spec:=fnS (zU fun (s:Store) (t:Ty)=>if s.slots.length≤1000000 then some (s.w16 t)else none)
theorem zmp:Valid ρ Tryz.prog 59 zjr:=v2 (fo Tryz.func59 zOY) fun a b r h hs=>by
 obtain⟨h1,rfl⟩:=zY h
 exact ziu hρ (E:=EL [(77,fnS (zU fun (s:Store) (t:Ty)=>some (s.bound t)))]) rfl (zt (zo (zn0 hρ) valid_nil)) rfl h1 hs
theorem zID(d:Nat)(hd:d≤1000000):Valid ρ Tryz.prog 47 (fnS (zaT (szF d))):=by
 induction d with
 | zero =>
   refine v3 (fo Tryz.func47 zKX) fun a b c r h hs=>?_
   obtain⟨⟨_,_,h1,h2⟩,rfl⟩:=zY h
   omega
 | succ d ih =>
   refine v3 (fo Tryz.func47 zKX) fun a b c r h hs=>?_
   obtain⟨⟨h1,h2,h3,h4⟩,rfl⟩:=zY h
   obtain⟨m,rfl⟩:=Int.eq_ofNat_of_zero_le h3
   exact zit hρ (E:=EL [(47,fnS (zaT (szF d))),(59,zjr)]) rfl (zt (zo (ih (by omega)) (zo (zmp hρ) valid_nil))) rfl (by omega) rfl h1 h2 (by omega) hs
def zm2:J.Spec:=fnS (zaT fun (s:Store) (t:Ty) (m:Int)=>if s.tysOk∧t.ok=true∧m<1000000 then some ((sz s.w16 t (max m 0).toNat:Nat):Int)else none)
theorem zpW:Valid ρ Tryz.prog 17 zm2:=v3 (fo Tryz.func17 zPt) fun a b c r h hs=>by
 obtain⟨⟨h1,h2,h3⟩,rfl⟩:=zY h
 exact ziw hρ (E:=EL [(47,fnS (zaT (szF 1000000)))]) rfl (zt (zo (zID hρ 1000000 (by omega)) valid_nil)) rfl h1 h2 h3 hs
theorem zBb(d:Nat)(hd:d≤10000):Valid ρ Tryz.prog 48 (fnS (zU (zpK d))):=by
 induction d with
 | zero =>
   refine v2 (fo Tryz.func48 zKW) fun a b r h hs=>?_
   obtain⟨⟨_,_,h1⟩,rfl⟩:=zY h
   obtain⟨q,_,hq⟩:=sz_fits.1 h1
   have:=Ty.size_pos q
   omega
 | succ d ih =>
   exact v2 (fo Tryz.func48 zKW) fun a b r h hs =>
    zfS hρ (E:=EL [(48,fnS (zU (zpK d))),(59,zjr)]) rfl (zt (zo (ih (by omega)) (zo (zmp hρ) valid_nil))) rfl (by omega) rfl h hs
def zat:J.Spec:=fnS (zU fun (s:Store) (t:Ty)=>if s.tysOk∧t.ok=true then some (zT s.w16 t)else none)
theorem ziB:Valid ρ Tryz.prog 18 zat:=v2 (fo Tryz.func18 zPs) fun a b r h hs=>by
 obtain⟨⟨h1,h2⟩,rfl⟩:=zY h
 exact zfT hρ (E:=EL [(17,zm2),(48,fnS (zU (zpK 4000)))]) rfl (zt (zo (zpW hρ) (zo (zBb hρ 4000 (by omega)) valid_nil))) rfl rfl h1 h2 hs
theorem zBa(d:Nat):Valid ρ Tryz.prog 105 (zaS (zuR (zmh d))):=by
 induction d with
 | zero =>
   refine Valid.emb (fo Tryz.func105 z7G) fun vs hs D h=>?_
   obtain⟨s,out,done,t,R,id,rd,ro,hR,rfl,_,_,_,hfit⟩:=zny h
   obtain⟨⟨_,_,_,_,h1⟩,_⟩:=zY hR
   have:=Ty.size_pos t
   omega
 | succ d ih =>
   refine Valid.emb (fo Tryz.func105 z7G) fun vs hs D h=>?_
   obtain⟨s,out,done,t,R,id,rd,ro,hR,rfl,_,_,_,hfit⟩:=zny h
   exact zdL hρ (E:=EL [(105,zaS (zuR (zmh d))),(77,fnS (zU fun (s:Store) (t:Ty)=>some (s.bound t))),(66,zjT)]) rfl (zt (zo ih (zo (zn0 hρ) (zo (zLW hρ) valid_nil)))) rfl rfl rfl hR hfit
def zpU:J.Spec:=fnS (zU fun (s:Store) (l:List Ty)=>if zbx s l then some (varsS s l)else none)
theorem z5n:Valid ρ Tryz.prog 79 zpU:=v2 (fo Tryz.func79 zON) fun a b r h hs=>by
 obtain⟨h1,rfl⟩:=zY h
 exact ziv hρ (E:=EL [(105,zaS (zuR (zmh 100000)))]) rfl (zt (zo (zBa hρ 100000) valid_nil)) rfl h1 hs
theorem znz:Valid ρ Tryz.prog 30 (fnS (zaU fun t:Ty=>some (zac t))):=v1 (fo Tryz.func30 zPl) fun a r h hs=>by
 cases h;exact zg2 hρ (E:=EL []) rfl (zt valid_nil) hs
def zbG:J.Spec:=fnS (zaU fun l:List Ty=>if Ty.oks l=true∧l.length≤10000∧Ty.sizes l≤10000 then some (zaE l)else none)
theorem zpY:Valid ρ Tryz.prog 31 zbG:=v1 (fo Tryz.func31 zPk) fun a r h hs=>by
 obtain⟨⟨h1,h2,h3⟩,rfl⟩:=zY h
 exact zhi hρ (E:=EL [(56,ioS 5 (zvb (zcL 10000)) znT)]) rfl (zt (zo (z5v hρ 10000) valid_nil)) rfl h1 h2 h3 (by omega) hs
theorem z5q:Valid ρ Tryz.prog 60 (fnS (zU fun (s:Store) (t:Ty)=>some (s.isSlot t))):=v2 (fo Tryz.func60 zOX) fun a b r h hs=>by
 cases h;exact ziq hρ (E:=EL []) rfl (zt valid_nil) hs
def zrk:J.Spec:=fnS (zaT fun (s:Store) (x y:Ty)=>if s.slots.length≤1000∧s.trail.length≤990∧s.isSlot x=true∧s.isSlot y=true then some (s.join x.id y.id)else none)
theorem z5w:Valid ρ Tryz.prog 61 zrk:=v3 (fo Tryz.func61 zOW) fun a b c r h hs=>by
 obtain⟨⟨h1,h2,h3,h4⟩,rfl⟩:=zY h
 exact zir hρ (E:=EL [(78,zJh),(29,fnS (zaU fun i:Int=>some (zX i)))]) rfl (zt (zo (zxM hρ) (zo (zFF hρ) valid_nil))) rfl rfl ⟨h1,h2⟩ h3 h4 hs
theorem z5x:Valid ρ Tryz.prog 62 (fnS (zaT Store.bindF)):=v3 (fo Tryz.func62 zOV) fun a b c r h hs=>by
 obtain⟨⟨h1,h2,⟨h3,h4,h5,h6⟩,h7⟩,rfl⟩:=zY h
 exact zis hρ (E:=EL [(78,zJh),(79,zpU),(66,zjT),(30,fnS (zaU fun t:Ty=>some (zac t))),(18,zat),(31,zbG)]) rfl
  (zt (zo (zxM hρ) (zo (z5n hρ) (zo (zLW hρ) (zo (znz hρ) (zo (ziB hρ) (zo (zpY hρ) valid_nil))))))) rfl rfl rfl rfl rfl rfl h1 h2 h3 h4 h5 h7 h6 hs
theorem zvn(S d:Nat)(hS:1≤S):Valid ρ Tryz.prog 39 (fnS (zaT (Store.uF S d))):=by
 induction d with
 | zero =>
   refine v3 (fo Tryz.func39 zKY) fun a b c r h hs=>?_
   obtain⟨⟨_,_,_,h1⟩,_⟩:=zY h
   omega
 | succ d ih =>
   refine v3 (fo Tryz.func39 zKY) fun a b c r h hs=>?_
   obtain⟨rfl,h1,h2,h3⟩:=Store.uF_run hS h
   exact zhj hρ (E:=EL [(39,fnS (zaT (Store.uF S d))),(17,zm2),(59,zjr),(60,fnS (zU fun (s:Store) (t:Ty)=>some (s.isSlot t))),(61,zrk),(62,fnS (zaT Store.bindF))]) rfl
    (zt (zo ih (zo (zpW hρ) (zo (zmp hρ) (zo (z5q hρ) (zo (z5w hρ) (zo (z5x hρ) valid_nil))))))) rfl rfl rfl rfl rfl rfl h3.tys h3.trail h1 h2 h3.left h3.right (fun a _ _ _=>h3.calls a) hs
end
end Go.Proofs.YtfgmnebfhemnpaaGreat
/- The reference's Unify;the stores that tapes make. -/
namespace Go.Proofs.YtfgmnebfhemnpaaGreat
open Go.J
open Go.J.Enc (enc)
set_option maxRecDepth 100000
set_option maxHeartbeats 4000000
def zn8(t:Tp)(D:List Decl):Option (Tp×Store):=by
 classical exact if t.ok∧DOk D∧zuP D then some (Store.storeM t D)else none
section
variable {ρ:Nat→Value}(hρ:J.Good ρ){E:Env}(hE:E.P=Tryz.prog)(hcon:ConsOk ρ E)
include hρ hE hcon
theorem zhk{S:Nat}(hc:E.con 39=fnS (zaT (Store.uF S 300000))){s:Store}{a b:Ty}(h:Store.UAll S s a b)(hs:HS) :
 CallOk ρ Tryz.prog 12 [enc s,enc a,enc b] hs (enc (Store.topM s a b)) hs:=by
 refine fn hρ hE hcon Tryz.func12 zPu rfl (by simp) ?_ hs
 have hF:=h.run
 unfold Store.topM
 generalize Store.unifT s a b=r at hF
 obtain⟨r1,r2⟩:=r
 by_cases h0:r2=0
 · subst h0
   simp [hE,hc,hF]
 · simp [hE,hc,hF,h0]
theorem zeP (h1:E.con 21=fnS (zfi (⟨[],[]⟩:Store))) (h2:E.con 23=stS (zpJ zjN)) (h3:E.con 22=fnS (zaT fun (s:Store) (h:Int) (b:Bool)=>if s.small then some (s.fresh h b)else none))
 (h4:E.con 25=zeN) (h5:E.con 24=stS (zqo (zgw 1))) (h6:E.con 32=fnS (zU fun h i:Int=>some (zaw h i))) (h7:E.con 12=fnS (zaT (Store.topF 7)))
 {t:Tp} {D:List Decl} (ht:t.ok) (hD:DOk D) (hD3:zuP D) (hs:HS) (id:Nat) (hid:id<hs.n) (hg:hs.H.get id=some (box (Cel.cells t))) :
 CallOk ρ Tryz.prog 33 [.ptr id 0 0,enc D] hs (enc (Store.storeM t D).2) (hs.wr id (box (Cel.cells (Store.storeM t D).1))):=by
 refine st hρ hE hcon Tryz.func33 zPi rfl (by simp) (by simp) (by simp) (by simp) ?_ hid hg
 have hnx:∀ (t:Tp) (m:Int),t.ok→-1000000≤m→m≤1000000→zjN t m=some (t.next m):=fun t m h a b=>if_pos ⟨h,a,b⟩
 have hn:=Store.storeN_le t
 have hN5:=zhz t 5
 have hL5:=zjM t (n:=5) (by omega)
 have ht1:=zba ht 5
 have hx1:=hnx t 5 ht (by omega) (by omega)
 unfold Store.storeM
 have hne:((Store.storeN t:Nat):Int)=1+(t.next 5).2:=by unfold Store.storeN;omega
 generalize hnn:Store.storeN t=n at hn hne
 rcases hq:t.next 5 with⟨t1,k1⟩
 simp only[hq]at hx1 ht1 hne hN5 hL5
 have hw1:IntKind.i64.wrap (1+k1)=(n:Int):=by rw[← hne];exact wrap_i64 (by omega) (by omega)
 simp [hE,h1,h2,hx1,hw1]
 have hfo:=Store.frM_ok ht1
 refine lpi hρ hE hcon n (nn:=4) (fun i (p:Tp×Store)=>[(0,.ptr 0 0 0),(1,.sl (D.map zan) false),(4,.ptr 1 0 0),(5,.ptr 3 0 0),(6,.int .i64 (n:Int)),(7,.int .i64 (i:Int))])
  (fun i p=>[(0,box (Cel.cells p.1)),(1,box [.snil,.snil]),(3,box (zD p.2))]) (fun i p=>p=Store.frM t1 i) (t1,⟨[],[]⟩)
  (Less.auto (by simp) (by simp) (by simp) (by simp)) rfl ?_ ?_
 · rintro p hp K
   have hf:=hfo n
   rw[← hp]at hf ⊢
   obtain⟨t2,s⟩:=p
   simp only at hf
   obtain⟨ht2,_,hfr⟩:=hf
   have hx4:=hnx t2 4 ht2 (by omega) (by omega)
   have ht3:=zba ht2 4
   have hN4:=zhz t2 4
   have hL4:=zjM t2 (n:=4) (by omega)
   rcases hq4:t2.next 4 with⟨t3,k4⟩
   simp only[hq4]at hx4 ht3 hN4 hL4
   obtain⟨m,rfl⟩:=Int.eq_ofNat_of_zero_le hN4
   simp [zoh,hE]
   refine LessQ.mk (Less.auto (TL:=[(0,.ptr 0 0 0),(1,.sl (D.map zan) false),(4,.ptr 1 0 0),(5,.ptr 3 0 0),(6,.int .i64 (n:Int))]) (HL:=[(0,box (Cel.cells t2)),(1,box [.snil,.snil]),(3,box (zD s))]) (n:=4) (by simp) (by simp) (by simp) (by simp)) ?_
   simp [hE,h2,hx4]
   have hT:=hfr.tame (S:=7)
   have hr:=hfr.room (S:=7)
   have hr':Store.room n 7 s≤990:=by
    have:(n*7+7+2)*n≤44*5:=Nat.mul_le_mul (by omega) hn.2
    omega
   have huo:=Store.unM_ok (D:=D) hD3 ht3 (by omega) (by omega) hT hr'
   have hua:=Store.unM_all (D:=D) hD3 ht3 (by omega) (by omega) hT hr'
   have hF1:∀ (t:Tp) (L:List Ty),t.ok→L.length≤100000→zgw 1 t D L 1=some (typeM 1 t D L):=fun t L ht hl=>if_pos ⟨ht,hD,hl,by decide⟩
   refine lpi hρ hE hcon m (nn:=4) (fun i (p:Tp×Store)=>[(0,.ptr 0 0 0),(1,.sl (D.map zan) false),(4,.ptr 1 0 0),(5,.ptr 3 0 0),(6,.int .i64 (n:Int)),(8,.int .i64 (m:Int)),(9,.int .i64 (i:Int))])
    (fun i p=>[(0,box (Cel.cells p.1)),(1,box [.snil,.snil]),(3,box (zD p.2))]) (fun i p=>p=Store.unM D n t3 s i) (t3,s)
    (Less.auto (by simp) (by simp) (by simp) (by simp)) rfl ?_ ?_
   · rintro p hp K
     rw[← hp]
     obtain⟨t4,s4⟩:=p
     simp [zs7,hE]
     refine LessQ.mk (Less.auto (TL:=[(0,.ptr 0 0 0),(4,.ptr 1 0 0),(5,.ptr 3 0 0)]) (HL:=[(0,box (Cel.cells t4)),(1,box [.snil,.snil]),(3,box (zD s4))]) (n:=4) (by simp) (by simp) (by simp) (by simp)) ?_
     simp [hE]
     exact GivesL.keep rfl rfl (by simp) (by simp) (by simp)
   · rintro i p hi hp K hK
     have ho:=huo i
     have ha:=hua i
     have hnew:=hK _ (show _=Store.unM D n t3 s (i+1) from rfl)
     rw[Store.unM]at hnew
     rw[← hp]at ho ha hnew
     obtain⟨t4,s4⟩:=p
     simp only at ho ha hnew
     have hy1:=hF1 t4 (zaM n) ho.1 (by simp;omega)
     have ho1:=(zet (D:=D) (Lv:=zaM n) 1 t4 ho.1).1
     rcases hq1:typeM 1 t4 D (zaM n)with⟨t5,a⟩
     simp only[hq1]at hy1 ho1 ha hnew
     have hy2:=hF1 t5 (zaM n++[zaw 1 0]) ho1 (by simp;omega)
     rcases hq2:typeM 1 t5 D (zaM n++[zaw 1 0])with⟨t6,b⟩
     simp only[hq2]at hy2 ha hnew
     have hF:Store.topF 7 s4 a b=some (Store.topM s4 a b):=if_pos ha
     rcases hq3:Store.topM s4 a b with⟨s5,e5⟩
     rw[hq3]at hF
     simp only[hq3]at hnew
     have hi':(i:Int)<m:=by omega
     have hn0:n≤10000:=by omega
     have hnI:((n:Nat):Int)≤10000:=by omega
     have hlv:=zkq n
     have hw2:IntKind.i64.wrap ((i:Int)+1)=((i+1:Nat):Int):=zN (by omega)
     generalize hV:zaM n=L at hy1 hy2 hlv
     rcases L with _|⟨v,L⟩
     · simp at hlv;omega
     · have h64:(L.length+1+1)*64≤1048576:=by simp at hlv;omega
       rw[List.cons_append]at hy2
       simp [zs7,hE,hi',h4,zeN,h5,h6,h7,hn0,hnI,hV,hy1,hy2,hF,h64,Nat.not_succ_le_self,hw2,-Int.natCast_add]
       exact hnew _ _ (Less.auto (by simp[-Int.natCast_add]) (by simp) (by simp) (by simp))
 · rintro i p hi hp K hK
   have hf:=hfo i
   rw[← hp]at hf
   have hnew:=hK ((((p.1.next 3).1.next 5).1,(p.2.fresh (p.1.next 3).2 (decide (((p.1.next 3).1.next 5).2=0))).1)) (by rw[Store.frM,← hp])
   obtain⟨t2,s⟩:=p
   simp only at hf hnew
   obtain⟨ht2,_,hfr⟩:=hf
   have hx3:=hnx t2 3 ht2 (by omega) (by omega)
   have ht3:=zba ht2 3
   rcases hq3:t2.next 3 with⟨t3,k3⟩
   simp only[hq3]at hx3 ht3 hnew
   have hx5:=hnx t3 5 ht3 (by omega) (by omega)
   rcases hq5:t3.next 5 with⟨t4,k5⟩
   simp only[hq5]at hx5 hnew
   have hsm:s.small:=⟨by rw[hfr.1];omega,by rw[hfr.2.1];omega⟩
   have hi':(i:Int)<n:=by omega
   have hw2:IntKind.i64.wrap ((i:Int)+1)=((i+1:Nat):Int):=zN (by omega)
   by_cases h5:k5=0
   · subst h5
     simp only[decide_true]at hnew
     rcases hq6:s.fresh k3 true with⟨s2,x2⟩
     simp only[hq6]at hnew
     simp [zoh,hE,hi',hx3,hx5,h2,h3,hsm,hq6,hw2,-Int.natCast_add]
     exact hnew _ _ (Less.auto (by simp[-Int.natCast_add]) (by simp) (by simp) (by simp))
   · simp only[decide_eq_false h5]at hnew
     rcases hq6:s.fresh k3 false with⟨s2,x2⟩
     simp only[hq6]at hnew
     simp [zoh,hE,hi',hx3,hx5,h2,h3,hsm,h5,hq6,hw2,-Int.natCast_add]
     exact hnew _ _ (Less.auto (by simp[-Int.natCast_add]) (by simp) (by simp) (by simp))
end
end Go.Proofs.YtfgmnebfhemnpaaGreat
/- Types made valid;the law StoreOperations: what its function computes. -/
namespace Go.Proofs.YtfgmnebfhemnpaaGreat
open Go.J
open Go.J.Enc (enc)
set_option maxRecDepth 100000
set_option maxHeartbeats 4000000
def zAQ:J.Spec:=fnS (zfi true)
section
variable {ρ:Nat→Value}(hρ:J.Good ρ){E:Env}(hE:E.P=Tryz.prog)(hcon:ConsOk ρ E)
include hρ hE hcon
end
end Go.Proofs.YtfgmnebfhemnpaaGreat
/- The contracts that the laws on stores use,joined. -/
namespace Go.Proofs.YtfgmnebfhemnpaaGreat
open Go.J
open Go.J.Enc (enc)
set_option maxRecDepth 100000
set_option maxHeartbeats 1000000
section
variable {ρ:Nat→Value}(hρ:J.Good ρ)
include hρ
theorem zBl(S:Nat)(hS:1≤S):Valid ρ Tryz.prog 12 (fnS (zaT (Store.topF S))):=v3 (fo Tryz.func12 zPu) fun a b c r h hs=>by
 obtain⟨h1,rfl⟩:=zY h
 exact zhk hρ (E:=EL [(39,fnS (zaT (Store.uF S 300000)))]) rfl (zt (zo (zvn hρ S 300000 hS) valid_nil)) rfl h1 hs
theorem zoA:Valid ρ Tryz.prog 33 (stS (zpJ zn8)):=s1 (fo Tryz.func33 zPi) fun s a q h hs id hid hg=>by
 obtain⟨⟨h1,h2,h3⟩,rfl⟩:=zY h
 exact zeP hρ (E:=EL [(21,fnS (zfi (⟨[],[]⟩:Store))),(23,stS (zpJ zjN)),(22,zy4),(25,zeN),(24,stS (zqo (zgw 1))),(32,fnS (zU fun h i:Int=>some (zaw h i))),(12,fnS (zaT (Store.topF 7)))]) rfl
  (zt (zo (zBq hρ) (zo (zBp hρ) (zo (zvs hρ) (zo (zpZ hρ) (zo (zBk hρ 1 (by omega)) (zo (zxN hρ) (zo (zBl hρ 7 (by omega)) valid_nil)))))))) rfl rfl rfl rfl rfl rfl rfl h1 h2 h3 hs id hid hg
theorem zII:Valid ρ Tryz.prog 104 (fnS (zaU fun i:Int=>some (zX i))):=v1 (fo Tryz.func104 zDQ) fun a r h hs=>by
 cases h;exact zjz hρ (E:=EL []) rfl (zt valid_nil) hs
theorem zBo:Valid ρ Tryz.prog 107 (fnS (zU fun (s:Store) (i:Int)=>some (s.slot? i).isSome)):=v2 (fo Tryz.func107 zDP) fun a b r h hs=>by
 cases h;exact zj2 hρ (E:=EL []) rfl (zt valid_nil) hs
end
end Go.Proofs.YtfgmnebfhemnpaaGreat
/- Walking,measuring and resolving in a store: the contracts joined. -/
namespace Go.Proofs.YtfgmnebfhemnpaaGreat
open Go.J
open Go.J.Enc (enc)
set_option maxRecDepth 100000
set_option maxHeartbeats 1000000
section
variable {ρ:Nat→Value}(hρ:J.Good ρ)
include hρ
theorem zpX:Valid ρ Tryz.prog 84 (fnS (zU fun (s:Store) (t:Ty)=>some (s.bound t))):=v2 (fo Tryz.func84 zKT) fun a b r h hs=>by
 cases h;exact zdQ hρ (E:=EL [(107,fnS (zU fun (s:Store) (i:Int)=>some (s.slot? i).isSome))]) rfl (zt (zo (zBo hρ) valid_nil)) rfl hs
def zAZ:J.Spec:=fnS (zU fun (s:Store) (t:Ty)=>if s.slots.length≤1000000 then some (s.w t)else none)
theorem zBm:Valid ρ Tryz.prog 67 zAZ:=v2 (fo Tryz.func67 zH3) fun a b r h hs=>by
 obtain⟨h1,rfl⟩:=zY h
 exact zik hρ (E:=EL [(84,fnS (zU fun (s:Store) (t:Ty)=>some (s.bound t)))]) rfl (zt (zo (zpX hρ) valid_nil)) rfl h1 hs
theorem zkB{d:Nat}(hd:d≤1000000){S:J.Spec}(hv:Valid ρ Tryz.prog 44 S)(hS:S=fnS (zaT (szG d))){s:Store}{t:Ty}{m:Int}(h1:s.tysOk)(h2:t.ok=true)(h3:m<d+1)(hs:HS) :
 CallOk ρ Tryz.prog 44 [enc s,enc t,enc m] hs (enc ((sz s.w t (max m 0).toNat:Nat):Int)) hs:=by
 subst hS
 exact zil hρ (E:=EL [(44,fnS (zaT (szG d))),(67,zAZ)]) rfl (zt (zo hv (zo (zBm hρ) valid_nil))) rfl hd rfl h1 h2 h3 hs
theorem zBn(d:Nat)(hd:d≤1000000):Valid ρ Tryz.prog 44 (fnS (zaT (szG d))):=by
 induction d with
 | zero =>
   refine v3 (fo Tryz.func44 zH4) fun a b c r h hs=>?_
   obtain⟨⟨h1,h2,h3,h4⟩,rfl⟩:=zY h
   omega
 | succ d ih =>
   refine v3 (fo Tryz.func44 zH4) fun a b c r h hs=>?_
   obtain⟨⟨h1,h2,h3,h4⟩,rfl⟩:=zY h
   exact zkB hρ (by omega) (ih (by omega)) rfl h1 h2 (by omega) hs
end
end Go.Proofs.YtfgmnebfhemnpaaGreat
namespace Go.Proofs.YtfgmnebfhemnpaaGreat
open Go.J
open Go.J.Enc (enc)
set_option maxRecDepth 100000
set_option maxHeartbeats 1000000
def zrm:List Int→Int→Int→Int
 | [],_,_=>-1
 |y::l,x,i=>if x=y then i else zrm l x (i+1)
theorem z7k:∀ (l:List Int) (x i:Int),0≤i→(decide (zrm l x i ≥ 0))=decide (x∈l):=by
 intro l
 induction l with
 |nil=>intro x i h;simp[zrm]
 | cons y l ih =>
   intro x i h
   rw[zrm]
   split
   · rename_i e;simp[e,h]
   · rename_i e
     rw[ih x (i+1) (by omega)]
     simp[e]
section
variable {ρ:Nat→Value}(hρ:J.Good ρ)
include hρ
section
variable {E:Env}(hE:E.P=Tryz.prog)(hcon:ConsOk ρ E)
include hE hcon
theorem zg0{l:List Int}{x:Int}(hl:l.length≤1000000)(hs:HS):CallOk ρ Tryz.prog 126 [enc l,enc x] hs (enc (zrm l x 0)) hs:=by
 refine fn hρ hE hcon Tryz.func126 zDO rfl (by simp) ?_ hs
 generalize hr:zrm l x 0=r
 simp [hE]
 refine lpi hρ hE hcon l.length (nn:=0) (fun i (_:Unit)=>[(0,.sl (l.map encI) false),(1,.int .i64 x),(7,.int .i64 (l.length:Int)),(8,.int .i64 (i:Int))]) (fun i _=>[]) (fun i _=>zrm (l.drop i) x i=r) ()
  (Less.auto (by simp) (by simp) (by simp) (by simp)) (by simpa using hr) ?_ ?_
 · intro _ h K
   rw[List.drop_length,zrm]at h
   simp [zjV,hE]
   refine LessQ.mk (Less.auto (TL:=[]) (HL:=[]) (n:=0) (by simp) (by simp) (by simp) (by simp)) ?_
   simp [hE,h]
 · intro i _ hi h K hK
   have hi':(i:Int)<l.length:=by omega
   have hw2:IntKind.i64.wrap ((i:Int)+1)=((i+1:Nat):Int):=zN (by omega)
   rw[List.drop_eq_getElem_cons hi,zrm]at h
   by_cases he:x=l[i]
   · rw[if_pos he]at h
     simp [zjV,hE,hi,hi',← he]
     refine LessQ.mk (Less.auto (TL:=[(4,.int .i64 (i:Int))]) (HL:=[]) (n:=0) (by simp) (by simp) (by simp) (by simp)) ?_
     simp [hE,h]
   · rw[if_neg he]at h
     have hnew:=hK () (by simpa using h)
     simp [zjV,hE,hi,hi',he,hw2,-Int.natCast_add]
     exact hnew _ _ (Less.auto (by simp[-Int.natCast_add]) (by simp) (by simp) (by simp))
theorem zeI(hI:E.con 126=fnC (zU fun (l:List Int) (x:Int)=>if l.length≤1000000 then some (zrm l x 0)else none)){l:List Int}{x:Int}(hl:l.length≤1000000)(hs:HS):CallOk ρ Tryz.prog 102 [enc l,enc x] hs (enc (decide (x∈l))) hs:=by
 refine fn hρ hE hcon Tryz.func102 zDR rfl (by simp) ?_ hs
 rw[← z7k l x 0 (by omega)]
 simp [hE,hI,hl]
end
def zyv:J.Spec:=fnC (zU fun (l:List Int) (x:Int)=>if l.length≤1000000 then some (zrm l x 0)else none)
theorem zBr:Valid ρ Tryz.prog 126 zyv:=c2 (fo Tryz.func126 zDO) fun a b r h hs=>by
 obtain⟨h1,rfl⟩:=zY h
 exact zg0 hρ (E:=EL []) rfl (zt valid_nil) h1 hs
theorem zqa:Valid ρ Tryz.prog 102 zjT:=c2 (fo Tryz.func102 zDR) fun a b r h hs=>by
 obtain⟨h1,rfl⟩:=zY h
 exact zeI hρ (E:=EL [(126,zyv)]) rfl (zt (zo (zBr hρ) valid_nil)) rfl h1 hs
end
end Go.Proofs.YtfgmnebfhemnpaaGreat
