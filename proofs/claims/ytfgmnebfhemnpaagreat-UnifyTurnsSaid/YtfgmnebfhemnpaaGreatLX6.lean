import Derived.Test.YtfgmnebfhemnpaaGreatLX4
import Derived.Test.YtfgmnebfhemnpaaGreatJP
import Derived.Test.YtfgmnebfhemnpaaGreatLAL
set_option linter.all false
noncomputable section
namespace Go.Proofs.YtfgmnebfhemnpaaGreat
open Go.J
open Go.J.Enc (enc)
set_option maxRecDepth 100000
set_option maxHeartbeats 4000000
section
variable {ρ:Nat->Value}(hρ:J.Good ρ){E:Env}(hE:E.P=Tryz.prog)(hcon:ConsOk ρ E)
include hρ hE hcon
theorem zho {F:Store->Ty->Ty->Option (Store×Int)} {rec:Store->Ty->Ty->Store×Int} (hc:E.con 39=fnS (zaA F))
 (hS:E.con 17=fnS (zaA fun (s:Store) (t:Ty) (m:Int)=>if s.tysOk/\t.ok=true/\m<1000000 then some ((sz s.w16 t (max m 0).toNat:Nat):Int)else none))
 (hw:E.con 59=fnS (zW fun (s:Store) (t:Ty)=>if s.slots.length<=1000000 then some (s.w16 t)else none)) (hsl:E.con 60=fnS (zW fun (s:Store) (t:Ty)=>some (s.isSlot t)))
 (hj:E.con 61=fnS (zaA fun (s:Store) (x y:Ty)=>if s.slots.length<=1000/\s.trail.length<=990/\s.isSlot x=true/\s.isSlot y=true then some (s.join x.id y.id)else none))
 (hb:E.con 62=fnS (zaA Store.bindF)) {s:Store} {a b:Ty} (hs:s.tysOk) (htr:s.trail.length<=990) (ha:a.ok=true) (hbo:b.ok=true)
 (hx:s.isSlot (s.w16 a)=true->s.isSlot (s.w16 b)=false->s.bindPre (s.w16 b)) (hy:s.isSlot (s.w16 b)=true->s.isSlot (s.w16 a)=false->s.bindPre (s.w16 a))
 (hu:¬ (200<sz s.w16 a 200\/200<sz s.w16 b 200)->s.isSlot (s.w16 a)=false->s.isSlot (s.w16 b)=false->¬ Store.clash (s.w16 a) (s.w16 b)->Store.uOk F rec (s.w16 a).args (s.w16 b).args s) (hs0:HS) :
 CallOk ρ Tryz.prog 39 [enc s,enc a,enc b] hs0 (enc (Store.uStep rec s a b)) hs0:=by
 refine fn hρ hE hcon Tryz.func39 zMS rfl (by simp) ?_ hs0;have hn:=hs.1;have hn2:s.slots.length<=1000000:=by omega
 have hxo:(s.w16 a).ok=true:=Store.walkN_ok hs _ ha;have hyo:(s.w16 b).ok=true:=Store.walkN_ok hs _ hbo;have hm1:(max (200:Int) 0).toNat=200:=rfl;unfold Store.uStep;by_cases c1:200<sz s.w16 a 200
 . rw[if_pos (.inl c1)];have i1:¬ ((sz s.w16 a 200:Nat):Int)<=200:=by omega
   have j1:(200:Int)<((sz s.w16 a 200:Nat):Int):=by omega
   simp [hE,hS,hs,ha,hm1,i1,j1]
 by_cases c2:200<sz s.w16 b 200
 . rw[if_pos (.inr c2)];have i1:((sz s.w16 a 200:Nat):Int)<=200:=by omega
   have i2:¬ ((sz s.w16 b 200:Nat):Int)<=200:=by omega
   have j1:¬ (200:Int)<((sz s.w16 a 200:Nat):Int):=by omega
   have j2:(200:Int)<((sz s.w16 b 200:Nat):Int):=by omega
   simp [hE,hS,hs,ha,hbo,hm1,i1,i2,j1,j2]
 rw[if_neg (fun h=>h.elim c1 c2)];have c1':((sz s.w16 a 200:Nat):Int)<=200:=by omega
 have c2':((sz s.w16 b 200:Nat):Int)<=200:=by omega
 have k1:¬ (200:Int)<((sz s.w16 a 200:Nat):Int):=by omega
 have k2:¬ (200:Int)<((sz s.w16 b 200:Nat):Int):=by omega
 replace hu:=hu (fun h=>h.elim c1 c2);generalize hX:s.w16 a=x at hx hy hu hxo;generalize hY:s.w16 b=y at hx hy hu hyo
 cases d1:s.isSlot x with
 | true =>
   have e1:=Store.isSlot_some d1
   cases d2:s.isSlot y with
   | true =>
     simp [hE,hS,hs,ha,hbo,hm1,c1',c2',k1,k2,hw,hn,hn2,hX,hY,hsl,d1,d2,hj,htr]
   | false =>
     have hbf:Store.bindF s x.id y=some (s.bindM x.id y):=if_pos ⟨hs,hyo,hx d1 d2,e1⟩;generalize s.bindM x.id y=r at hbf;obtain⟨r1,r2⟩:=r;simp [hE,hS,hs,ha,hbo,hm1,c1',c2',k1,k2,hw,hn,hn2,hX,hY,hsl,d1,d2,hb,hbf]
 | false =>
   cases d2:s.isSlot y with
   | true =>
     have e2:=Store.isSlot_some d2;have hbf:Store.bindF s y.id x=some (s.bindM y.id x):=if_pos ⟨hs,hxo,hy d2 d1,e2⟩;generalize s.bindM y.id x=r at hbf;obtain⟨r1,r2⟩:=r;simp [hE,hS,hs,ha,hbo,hm1,c1',c2',k1,k2,hw,hn,hn2,hX,hY,hsl,d1,d2,hb,hbf]
   | false =>
     replace hu:=hu d1 d2;by_cases hcl:Store.clash x y
     . rw [if_neg (by simp),if_neg (by simp),if_pos hcl];by_cases q1:x.kind=y.kind
       . have p1 := eq_true q1;by_cases q2:x.name=y.name
         . have p2:=eq_true q2;by_cases q3:x.id=y.id
           . have p3:=eq_true q3;by_cases q4:x.home=y.home
             . have p4:=eq_true q4;by_cases q5:x.args.length=y.args.length
               . exact absurd hcl (by unfold Store.clash;simp[q1,q2,q3,q4,q5])
               . have q5i:¬ (x.args.length:Int)=(y.args.length:Int):=by omega
                 simp [hE,hS,hs,ha,hbo,hm1,c1',c2',k1,k2,hw,hn,hn2,hX,hY,hsl,d1,d2,p1,p2,p3,p4,q5i]
             . simp [hE,hS,hs,ha,hbo,hm1,c1',c2',k1,k2,hw,hn,hn2,hX,hY,hsl,d1,d2,p1,p2,p3,q4]
           . simp [hE,hS,hs,ha,hbo,hm1,c1',c2',k1,k2,hw,hn,hn2,hX,hY,hsl,d1,d2,p1,p2,q3]
         . simp [hE,hS,hs,ha,hbo,hm1,c1',c2',k1,k2,hw,hn,hn2,hX,hY,hsl,d1,d2,p1,q2]
       . simp [hE,hS,hs,ha,hbo,hm1,c1',c2',k1,k2,hw,hn,hn2,hX,hY,hsl,d1,d2,q1]
     . rw [if_neg (by simp),if_neg (by simp),if_neg hcl];replace hu:=hu hcl;unfold Store.clash at hcl;simp only[not_or,Classical.not_not]at hcl;obtain⟨q1,q2,q3,q4,q5⟩:=hcl;have p1:=eq_true q1;have p2:=eq_true q2;have p3:=eq_true q3;have p4:=eq_true q4;have p5:((x.args.length:Int)=(y.args.length:Int))=True:=eq_true (by omega);simp [hE,hS,hs,ha,hbo,hm1,c1',c2',k1,k2,hw,hn,hn2,hX,hY,hsl,d1,d2,p1,p2,p3,p4,p5];generalize hR:Store.uL rec x.args y.args s=R;clear hx hy c1 c2 c1' c2' k1 k2 hX hY htr;have hxl:=Ty.ok_len hxo
       refine lpi hρ hE hcon x.args.length (nn:=4) (fun i (p:Store×Int)=>[(3,.ptr 0 0 0),(6,.ptr 1 0 0),(8,.ptr 2 0 0),(9,.ptr 3 0 0),(10,.int .i64 p.2),(11,.int .i64 (i:Int))])
        (fun i p=>[(0,box (zI p.1)),(1,box [.snil,.snil]),(2,box (zw x)),(3,box (zw y))])
        (fun i p=>(p.2=0->Store.uOk F rec (x.args.drop i) (y.args.drop i) p.1/\Store.uL rec (x.args.drop i) (y.args.drop i) p.1=R)/\(p.2≠0->p=R)) (s,0)
        (Less.auto (by simp) (by simp) (by simp) (by simp)) ⟨fun _=>⟨by simpa using hu,by simpa using hR⟩,fun h=>absurd rfl h⟩ ?_ ?_
       . rintro ⟨s1,e1⟩ ⟨g1,g2⟩ K
         have hfin:(s1,e1)=R:=by
          by_cases he:e1=0
          . have:=(g1 he).2;rw[List.drop_length]at this;rw[<- this,he];rfl
          . exact g2 he
         rw[<- hfin];simp [zox,hE];refine LessQ.mk (Less.auto (TL:=[(3,.ptr 0 0 0),(6,.ptr 1 0 0),(10,.int .i64 e1)]) (HL:=[(0,box (zI s1)),(1,box [.snil,.snil])]) (n:=4) (by simp) (by simp) (by simp) (by simp)) ?_;simp [hE]
       . rintro i ⟨s1,e1⟩ hi ⟨g1,g2⟩ K hK;have hi':(i:Int)<x.args.length:=by omega
         by_cases he:e1=0
         . subst he;obtain⟨g3,g4⟩:=g1 rfl;have hiy:i<y.args.length:=by omega
           rw[List.drop_eq_getElem_cons hi,List.drop_eq_getElem_cons hiy]at g3 g4;simp only[Store.uOk]at g3;rw[Store.uL]at g4;obtain⟨g5,g6⟩:=g3;have hnew:=hK (rec s1 x.args[i] y.args[i]) ⟨fun h=>⟨g6 h,by rw[if_pos h]at g4;exact g4⟩,fun h=>by rw[if_neg h]at g4;exact g4⟩;generalize rec s1 x.args[i] y.args[i]=r at g5 hnew;obtain⟨r1,r2⟩:=r;have hw2:IntKind.i64.wrap ((i:Int)+1)=((i+1:Nat):Int):=zJ (by omega);simp [zox,hE,hi,hi',hiy,hc,g5,hw2,-Int.natCast_add];exact hnew _ _ (Less.auto (by simp[-Int.natCast_add]) (by simp) (by simp) (by simp))
         . rw[<- g2 he];simp [zox,hE,hi',he];refine LessQ.mk (Less.auto (TL:=[(3,.ptr 0 0 0),(6,.ptr 1 0 0),(10,.int .i64 e1)]) (HL:=[(0,box (zI s1)),(1,box [.snil,.snil])]) (n:=4) (by simp) (by simp) (by simp) (by simp)) ?_;simp [hE]
end
end Go.Proofs.YtfgmnebfhemnpaaGreat
/- Tapes: the contracts joined. -/
namespace Go.Proofs.YtfgmnebfhemnpaaGreat
open Go.J
open Go.J.Enc (enc)
set_option maxRecDepth 100000
set_option maxHeartbeats 1000000
section
variable {ρ:Nat->Value}(hρ:J.Good ρ)
include hρ
theorem zkG(d:Nat)(hd:d<=1000){S:J.Spec}(hv:Valid ρ Tryz.prog 24 S){t:Tp}{D:List Decl}{Lv:List Ty}{n:Int}(hS:0<n->S=stS (zqF (zg1 d)))(h1:t.ok)(h2:DOk D)(h3:Lv.length<=100000)(h4:n<=d+1)(hs:HS)(id:Nat)(hid:id<hs.n)(hg:hs.H.get id=some (box (Cel.cells t))) :
 CallOk ρ Tryz.prog 24 [.ptr id 0 0,enc D,enc Lv,enc n] hs (enc (typeM n.toNat t D Lv).2) (hs.wr id (box (Cel.cells (typeM n.toNat t D Lv).1))) :=
 zf0 hρ (E:=EL [(23,stS (zqf zkc)),(53,zJO),(52,fnS (zfm tInt)),(54,fnS (zW fun a b:Ty=>some (zcx a b))),(24,S)]) rfl
  (zu (zq (zCR hρ) (zq (zKE hρ) (zq (zSe hρ) (zq (zCZ hρ) (zq hv valid_nil)))))) rfl rfl rfl rfl hS h1 h2 h3 h4 hd hs id hid hg
def noS:J.Spec:=fun _ _=>none
omit hρ in
theorem zKD{f:Nat}(hf:zeH Tryz.prog f):Valid ρ Tryz.prog f noS where
 fn:=hf
 ok:=fun {_ _ _ _} h=>by cases h
 kept:=fun {_ _ _} h=>by cases h
theorem zCM(d:Nat)(hd:d<=1000):Valid ρ Tryz.prog 24 (stS (zqF (zg1 d))):=by
 induction d with
 | zero =>
   refine s3 (fo Tryz.func24 zJx) fun s a b c q h hs id hid hg=>?_
   obtain⟨⟨h1,h2,h3,h4⟩,rfl⟩:=zV h;exact zkG hρ 0 hd (zKD (fo Tryz.func24 zJx)) (fun h=>by omega) h1 h2 h3 (by omega) hs id hid hg
 | succ d ih =>
   refine s3 (fo Tryz.func24 zJx) fun s a b c q h hs id hid hg=>?_
   obtain⟨⟨h1,h2,h3,h4⟩,rfl⟩:=zV h;exact zkG hρ d (by omega) (ih (by omega)) (fun _=>rfl) h1 h2 h3 (by omega) hs id hid hg
omit hρ in
theorem zvs{f:Nat}{vs:List V}{hs hs':HS}{v r:V}(h:CallOk ρ Tryz.prog f vs hs v hs')(e:zat v=r):CallOk ρ Tryz.prog f vs hs r hs':=by
 intro X w F μ xs hR hD hO hA;refine CallsIn.mono (h X w F μ xs hR hD hO hA) fun e' w' he=>?_
 cases e' with
 | returned x =>
   obtain⟨F1,μ1,g1,g2,g3⟩:=he;exact⟨F1,μ1,g1,by rw[<- e];exact g2.norm,g3⟩
 |panicked c=>exact he
 |outgrown=>exact he
theorem zSg:Valid ρ Tryz.prog 50 (fnS (zfm allD)):=v0 (zJq Tryz.func50 (by kernel_rfl)) fun hs=>zvs
 (zeP hρ (E:=EL [(90,zlf zwR)]) (zu (zq (zpn hρ) valid_nil)) follows named zAa rfl) (by kernel_rfl)
theorem zCX:Valid ρ Tryz.prog 20 (fnS (zbq fun bits:Int=>some (zaI bits))):=v1 (fo Tryz.func20 zRt) fun a r h hs=>by
 cases h;exact zi9 hρ (E:=EL [(50,fnS (zfm allD))]) rfl (zu (zq (zSg hρ) valid_nil)) rfl hs
def zeR:J.Spec:=z7P 5 (fun vs=>ob (zbq (fun n:Int=>if 0<=n/\n<=10000 then some (zaO n.toNat)else none) vs) fun v=>match v with|.sl es _=>some es|_=>none)
theorem zqv:Valid ρ Tryz.prog 25 zeR:=Valid.row (fo Tryz.func25 zRp) fun vs es _ h hs hv=>by
 rw[zt]at h;obtain⟨v,h1,h2⟩:=h;obtain⟨n,r,rfl,h3,rfl⟩:=zhk h1;obtain⟨⟨h4,h5⟩,rfl⟩:=zV h3;obtain⟨m,rfl⟩:=Int.eq_ofNat_of_zero_le h4;cases h2;exact zkg hρ (E:=EL [(29,fnS (zbq fun i:Int=>some (zad i)))]) rfl (zu (zq (zKA hρ) valid_nil)) rfl (by omega) hv
end
end Go.Proofs.YtfgmnebfhemnpaaGreat
/- The contracts of unification in a store,joined. -/
namespace Go.Proofs.YtfgmnebfhemnpaaGreat
open Go.J
open Go.J.Enc (enc)
set_option maxRecDepth 100000
set_option maxHeartbeats 1000000
section
variable {ρ:Nat->Value}(hρ:J.Good ρ)
include hρ
theorem zCS:Valid ρ Tryz.prog 21 (fnS (zfm (⟨[],[]⟩:Store))):=v0 (fo Tryz.func21 zRs) fun hs=>zjN hρ (E:=EL []) rfl (zu valid_nil) hs
def zzE:J.Spec:=fnS (zaA fun (s:Store) (h:Int) (b:Bool)=>if s.small then some (s.fresh h b)else none)
theorem zwt:Valid ρ Tryz.prog 22 zzE:=v3 (fo Tryz.func22 zRr) fun a b c r h hs=>by
 obtain⟨h1,rfl⟩:=zV h;exact zhu hρ (E:=EL [(29,fnS (zbq fun i:Int=>some (zad i)))]) rfl (zu (zq (zKA hρ) valid_nil)) rfl h1 hs
def zLa:J.Spec:=fnS (zaA fun (s:Store) (i:Int) (x:Slot)=>if s.small then some (s.set i x)else none)
theorem zyU:Valid ρ Tryz.prog 78 zLa:=v3 (fo Tryz.func78 zQO) fun a b c r h hs=>by
 obtain⟨h1,rfl⟩:=zV h;exact zjM hρ (E:=EL []) rfl (zu valid_nil) h1 hs
theorem znG:Valid ρ Tryz.prog 77 (fnS (zW fun (s:Store) (t:Ty)=>some (s.bound t))):=v2 (fo Tryz.func77 zQP) fun a b r h hs=>by
 cases h;exact zhr hρ (E:=EL []) rfl (zu valid_nil) hs
def zj2:J.Spec:=fnS (zW fun (s:Store) (t:Ty)=>if s.slots.length<=1000000 then some (s.w16 t)else none)
theorem zm6:Valid ρ Tryz.prog 59 zj2:=v2 (fo Tryz.func59 zQZ) fun a b r h hs=>by
 obtain⟨h1,rfl⟩:=zV h;exact zi3 hρ (E:=EL [(77,fnS (zW fun (s:Store) (t:Ty)=>some (s.bound t)))]) rfl (zu (zq (znG hρ) valid_nil)) rfl h1 hs
theorem zK5(d:Nat)(hd:d<=1000000):Valid ρ Tryz.prog 47 (fnS (zaA (szF d))):=by
 induction d with
 | zero =>
   refine v3 (fo Tryz.func47 zMR) fun a b c r h hs=>?_
   obtain⟨⟨_,_,h1,h2⟩,rfl⟩:=zV h;omega
 | succ d ih =>
   refine v3 (fo Tryz.func47 zMR) fun a b c r h hs=>?_
   obtain⟨⟨h1,h2,h3,h4⟩,rfl⟩:=zV h;obtain⟨m,rfl⟩:=Int.eq_ofNat_of_zero_le h3;exact zi2 hρ (E:=EL [(47,fnS (zaA (szF d))),(59,zj2)]) rfl (zu (zq (ih (by omega)) (zq (zm6 hρ) valid_nil))) rfl (by omega) rfl h1 h2 (by omega) hs
def zmJ:J.Spec:=fnS (zaA fun (s:Store) (t:Ty) (m:Int)=>if s.tysOk/\t.ok=true/\m<1000000 then some ((sz s.w16 t (max m 0).toNat:Nat):Int)else none)
theorem zqt:Valid ρ Tryz.prog 17 zmJ:=v3 (fo Tryz.func17 zRw) fun a b c r h hs=>by
 obtain⟨⟨h1,h2,h3⟩,rfl⟩:=zV h;exact zi5 hρ (E:=EL [(47,fnS (zaA (szF 1000000)))]) rfl (zu (zq (zK5 hρ 1000000 (by omega)) valid_nil)) rfl h1 h2 h3 hs
theorem zCD(d:Nat)(hd:d<=10000):Valid ρ Tryz.prog 48 (fnS (zW (zqg d))):=by
 induction d with
 | zero =>
   refine v2 (fo Tryz.func48 zMQ) fun a b r h hs=>?_
   obtain⟨⟨_,_,h1⟩,rfl⟩:=zV h;obtain⟨q,_,hq⟩:=sz_fits.1 h1;have:=Ty.size_pos q;omega
 | succ d ih =>
   exact v2 (fo Tryz.func48 zMQ) fun a b r h hs =>
    zfX hρ (E:=EL [(48,fnS (zW (zqg d))),(59,zj2)]) rfl (zu (zq (ih (by omega)) (zq (zm6 hρ) valid_nil))) rfl (by omega) rfl h hs
def zdo:J.Spec:=fnS (zW fun (s:Store) (t:Ty)=>if s.tysOk/\t.ok=true then some (zT s.w16 t)else none)
theorem ziK:Valid ρ Tryz.prog 18 zdo:=v2 (fo Tryz.func18 zRv) fun a b r h hs=>by
 obtain⟨⟨h1,h2⟩,rfl⟩:=zV h;exact zfY hρ (E:=EL [(17,zmJ),(48,fnS (zW (zqg 4000)))]) rfl (zu (zq (zqt hρ) (zq (zCD hρ 4000 (by omega)) valid_nil))) rfl rfl h1 h2 hs
theorem zCC(d:Nat):Valid ρ Tryz.prog 105 (zaT (zvL (zmy d))):=by
 induction d with
 | zero =>
   refine Valid.emb (fo Tryz.func105 z9x) fun vs hs D h=>?_
   obtain⟨s,out,done,t,R,id,rd,ro,hR,rfl,_,_,_,hfit⟩:=znF h;obtain⟨⟨_,_,_,_,h1⟩,_⟩:=zV hR;have:=Ty.size_pos t;omega
 | succ d ih =>
   refine Valid.emb (fo Tryz.func105 z9x) fun vs hs D h=>?_
   obtain⟨s,out,done,t,R,id,rd,ro,hR,rfl,_,_,_,hfit⟩:=znF h;exact zdN hρ (E:=EL [(105,zaT (zvL (zmy d))),(77,fnS (zW fun (s:Store) (t:Ty)=>some (s.bound t))),(66,zkj)]) rfl (zu (zq ih (zq (znG hρ) (zq (zNR hρ) valid_nil)))) rfl rfl rfl hR hfit
def zqr:J.Spec:=fnS (zW fun (s:Store) (l:List Ty)=>if zbw s l then some (varsS s l)else none)
theorem z7b:Valid ρ Tryz.prog 79 zqr:=v2 (fo Tryz.func79 zQN) fun a b r h hs=>by
 obtain⟨h1,rfl⟩:=zV h;exact zi4 hρ (E:=EL [(105,zaT (zvL (zmy 100000)))]) rfl (zu (zq (zCC hρ 100000) valid_nil)) rfl h1 hs
theorem zws:Valid ρ Tryz.prog 30 (fnS (zbq fun t:Ty=>some (zaH t))):=v1 (fo Tryz.func30 zRn) fun a r h hs=>by
 cases h;exact zg8 hρ (E:=EL []) rfl (zu valid_nil) hs
def zqZ:J.Spec:=fnS (zbq fun l:List Ty=>if Ty.oks l=true/\l.length<=10000/\Ty.sizes l<=10000 then some (zbl l)else none)
theorem z7i:Valid ρ Tryz.prog 31 zqZ:=v1 (fo Tryz.func31 zRm) fun a r h hs=>by
 obtain⟨⟨h1,h2,h3⟩,rfl⟩:=zV h;exact zhn hρ (E:=EL [(56,ioS 5 (zvW (zcN 10000)) zok)]) rfl (zu (zq (z7k hρ 10000) valid_nil)) rfl h1 h2 h3 (by omega) hs
theorem z7e:Valid ρ Tryz.prog 60 (fnS (zW fun (s:Store) (t:Ty)=>some (s.isSlot t))):=v2 (fo Tryz.func60 zQY) fun a b r h hs=>by
 cases h;exact ziz hρ (E:=EL []) rfl (zu valid_nil) hs
def zrG:J.Spec:=fnS (zaA fun (s:Store) (x y:Ty)=>if s.slots.length<=1000/\s.trail.length<=990/\s.isSlot x=true/\s.isSlot y=true then some (s.join x.id y.id)else none)
theorem z7l:Valid ρ Tryz.prog 61 zrG:=v3 (fo Tryz.func61 zQX) fun a b c r h hs=>by
 obtain⟨⟨h1,h2,h3,h4⟩,rfl⟩:=zV h;exact zi0 hρ (E:=EL [(78,zLa),(29,fnS (zbq fun i:Int=>some (zad i)))]) rfl (zu (zq (zyU hρ) (zq (zKA hρ) valid_nil))) rfl rfl ⟨h1,h2⟩ h3 h4 hs
theorem z7m:Valid ρ Tryz.prog 62 (fnS (zaA Store.bindF)):=v3 (fo Tryz.func62 zQW) fun a b c r h hs=>by
 obtain⟨⟨h1,h2,⟨h3,h4,h5,h6⟩,h7⟩,rfl⟩:=zV h
 exact zi1 hρ (E:=EL [(78,zLa),(79,zqr),(66,zkj),(30,fnS (zbq fun t:Ty=>some (zaH t))),(18,zdo),(31,zqZ)]) rfl
  (zu (zq (zyU hρ) (zq (z7b hρ) (zq (zNR hρ) (zq (zws hρ) (zq (ziK hρ) (zq (z7i hρ) valid_nil))))))) rfl rfl rfl rfl rfl rfl h1 h2 h3 h4 h5 h7 h6 hs
theorem zwj(S d:Nat)(hS:1<=S):Valid ρ Tryz.prog 39 (fnS (zaA (Store.uF S d))):=by
 induction d with
 | zero =>
   refine v3 (fo Tryz.func39 zMS) fun a b c r h hs=>?_
   obtain⟨⟨_,_,_,h1⟩,_⟩:=zV h;omega
 | succ d ih =>
   refine v3 (fo Tryz.func39 zMS) fun a b c r h hs=>?_
   obtain⟨rfl,h1,h2,h3⟩:=Store.uF_run hS h
   exact zho hρ (E:=EL [(39,fnS (zaA (Store.uF S d))),(17,zmJ),(59,zj2),(60,fnS (zW fun (s:Store) (t:Ty)=>some (s.isSlot t))),(61,zrG),(62,fnS (zaA Store.bindF))]) rfl
    (zu (zq ih (zq (zqt hρ) (zq (zm6 hρ) (zq (z7e hρ) (zq (z7l hρ) (zq (z7m hρ) valid_nil))))))) rfl rfl rfl rfl rfl rfl h3.tys h3.trail h1 h2 h3.left h3.right (fun a _ _ _=>h3.calls a) hs
end
end Go.Proofs.YtfgmnebfhemnpaaGreat
/- The reference's Unify;the stores that tapes make. -/
namespace Go.Proofs.YtfgmnebfhemnpaaGreat
open Go.J
open Go.J.Enc (enc)
set_option maxRecDepth 100000
set_option maxHeartbeats 4000000
def znO(t:Tp)(D:List Decl):Option (Tp×Store):=by
 classical exact if t.ok/\DOk D/\zvJ D then some (Store.storeM t D)else none
section
variable {ρ:Nat->Value}(hρ:J.Good ρ){E:Env}(hE:E.P=Tryz.prog)(hcon:ConsOk ρ E)
include hρ hE hcon
theorem zhp{S:Nat}(hc:E.con 39=fnS (zaA (Store.uF S 300000))){s:Store}{a b:Ty}(h:Store.UAll S s a b)(hs:HS) :
 CallOk ρ Tryz.prog 12 [enc s,enc a,enc b] hs (enc (Store.topM s a b)) hs:=by
 refine fn hρ hE hcon Tryz.func12 zRx rfl (by simp) ?_ hs;have hF:=h.run;unfold Store.topM;generalize Store.unifT s a b=r at hF;obtain⟨r1,r2⟩:=r;by_cases h0:r2=0
 . subst h0;simp [hE,hc,hF]
 . simp [hE,hc,hF,h0]
theorem zeT (h1:E.con 21=fnS (zfm (⟨[],[]⟩:Store))) (h2:E.con 23=stS (zqf zkc)) (h3:E.con 22=fnS (zaA fun (s:Store) (h:Int) (b:Bool)=>if s.small then some (s.fresh h b)else none))
 (h4:E.con 25=zeR) (h5:E.con 24=stS (zqF (zg1 1))) (h6:E.con 32=fnS (zW fun h i:Int=>some (zax h i))) (h7:E.con 12=fnS (zaA (Store.topF 7)))
 {t:Tp} {D:List Decl} (ht:t.ok) (hD:DOk D) (hD3:zvJ D) (hs:HS) (id:Nat) (hid:id<hs.n) (hg:hs.H.get id=some (box (Cel.cells t))) :
 CallOk ρ Tryz.prog 33 [.ptr id 0 0,enc D] hs (enc (Store.storeM t D).2) (hs.wr id (box (Cel.cells (Store.storeM t D).1))):=by
 refine st hρ hE hcon Tryz.func33 zRk rfl (by simp) (by simp) (by simp) (by simp) ?_ hid hg;have hnx:∀ (t:Tp) (m:Int),t.ok->-1000000<=m->m<=1000000->zkc t m=some (t.next m):=fun t m h a b=>if_pos ⟨h,a,b⟩
 have hn:=Store.storeN_le t;have hN5:=zh7 t 5;have hL5:=zkb t (n:=5) (by omega);have ht1:=zbb ht 5;have hx1:=hnx t 5 ht (by omega) (by omega);unfold Store.storeM;have hne:((Store.storeN t:Nat):Int)=1+(t.next 5).2:=by unfold Store.storeN;omega
 generalize hnn:Store.storeN t=n at hn hne;rcases hq:t.next 5 with⟨t1,k1⟩;simp only[hq]at hx1 ht1 hne hN5 hL5;have hw1:IntKind.i64.wrap (1+k1)=(n:Int):=by rw[<- hne];exact wrap_i64 (by omega) (by omega)
 simp [hE,h1,h2,hx1,hw1];have hfo:=Store.frM_ok ht1
 refine lpi hρ hE hcon n (nn:=4) (fun i (p:Tp×Store)=>[(0,.ptr 0 0 0),(1,.sl (D.map zao) false),(4,.ptr 1 0 0),(5,.ptr 3 0 0),(6,.int .i64 (n:Int)),(7,.int .i64 (i:Int))])
  (fun i p=>[(0,box (Cel.cells p.1)),(1,box [.snil,.snil]),(3,box (zI p.2))]) (fun i p=>p=Store.frM t1 i) (t1,⟨[],[]⟩)
  (Less.auto (by simp) (by simp) (by simp) (by simp)) rfl ?_ ?_
 . rintro p hp K;have hf:=hfo n;rw[<- hp]at hf ⊢;obtain⟨t2,s⟩:=p;simp only at hf;obtain⟨ht2,_,hfr⟩:=hf;have hx4:=hnx t2 4 ht2 (by omega) (by omega);have ht3:=zbb ht2 4;have hN4:=zh7 t2 4;have hL4:=zkb t2 (n:=4) (by omega);rcases hq4:t2.next 4 with⟨t3,k4⟩;simp only[hq4]at hx4 ht3 hN4 hL4;obtain⟨m,rfl⟩:=Int.eq_ofNat_of_zero_le hN4;simp [zoy,hE];refine LessQ.mk (Less.auto (TL:=[(0,.ptr 0 0 0),(1,.sl (D.map zao) false),(4,.ptr 1 0 0),(5,.ptr 3 0 0),(6,.int .i64 (n:Int))]) (HL:=[(0,box (Cel.cells t2)),(1,box [.snil,.snil]),(3,box (zI s))]) (n:=4) (by simp) (by simp) (by simp) (by simp)) ?_;simp [hE,h2,hx4];have hT:=hfr.tame (S:=7);have hr:=hfr.room (S:=7)
   have hr':Store.room n 7 s<=990:=by
    have:(n*7+7+2)*n<=44*5:=Nat.mul_le_mul (by omega) hn.2;omega
   have huo:=Store.unM_ok (D:=D) hD3 ht3 (by omega) (by omega) hT hr';have hua:=Store.unM_all (D:=D) hD3 ht3 (by omega) (by omega) hT hr';have hF1:∀ (t:Tp) (L:List Ty),t.ok->L.length<=100000->zg1 1 t D L 1=some (typeM 1 t D L):=fun t L ht hl=>if_pos ⟨ht,hD,hl,by decide⟩
   refine lpi hρ hE hcon m (nn:=4) (fun i (p:Tp×Store)=>[(0,.ptr 0 0 0),(1,.sl (D.map zao) false),(4,.ptr 1 0 0),(5,.ptr 3 0 0),(6,.int .i64 (n:Int)),(8,.int .i64 (m:Int)),(9,.int .i64 (i:Int))])
    (fun i p=>[(0,box (Cel.cells p.1)),(1,box [.snil,.snil]),(3,box (zI p.2))]) (fun i p=>p=Store.unM D n t3 s i) (t3,s)
    (Less.auto (by simp) (by simp) (by simp) (by simp)) rfl ?_ ?_
   . rintro p hp K;rw[<- hp];obtain⟨t4,s4⟩:=p;simp [ztl,hE];refine LessQ.mk (Less.auto (TL:=[(0,.ptr 0 0 0),(4,.ptr 1 0 0),(5,.ptr 3 0 0)]) (HL:=[(0,box (Cel.cells t4)),(1,box [.snil,.snil]),(3,box (zI s4))]) (n:=4) (by simp) (by simp) (by simp) (by simp)) ?_;simp [hE];exact GivesL.keep rfl rfl (by simp) (by simp) (by simp)
   . rintro i p hi hp K hK;have ho:=huo i;have ha:=hua i;have hnew:=hK _ (show _=Store.unM D n t3 s (i+1) from rfl);rw[Store.unM]at hnew;rw[<- hp]at ho ha hnew;obtain⟨t4,s4⟩:=p;simp only at ho ha hnew;have hy1:=hF1 t4 (zaO n) ho.1 (by simp;omega);have ho1:=(zeu (D:=D) (Lv:=zaO n) 1 t4 ho.1).1;rcases hq1:typeM 1 t4 D (zaO n)with⟨t5,a⟩;simp only[hq1]at hy1 ho1 ha hnew;have hy2:=hF1 t5 (zaO n++[zax 1 0]) ho1 (by simp;omega);rcases hq2:typeM 1 t5 D (zaO n++[zax 1 0])with⟨t6,b⟩;simp only[hq2]at hy2 ha hnew;have hF:Store.topF 7 s4 a b=some (Store.topM s4 a b):=if_pos ha;rcases hq3:Store.topM s4 a b with⟨s5,e5⟩;rw[hq3]at hF;simp only[hq3]at hnew;have hi':(i:Int)<m:=by omega
     have hn0:n<=10000:=by omega
     have hnI:((n:Nat):Int)<=10000:=by omega
     have hlv:=zk7 n;have hw2:IntKind.i64.wrap ((i:Int)+1)=((i+1:Nat):Int):=zJ (by omega);generalize hV:zaO n=L at hy1 hy2 hlv;rcases L with _|⟨v,L⟩
     . simp at hlv;omega
     . have h64:(L.length+1+1)*64<=1048576:=by simp at hlv;omega
       rw[List.cons_append]at hy2;simp [ztl,hE,hi',h4,zeR,h5,h6,h7,hn0,hnI,hV,hy1,hy2,hF,h64,Nat.not_succ_le_self,hw2,-Int.natCast_add];exact hnew _ _ (Less.auto (by simp[-Int.natCast_add]) (by simp) (by simp) (by simp))
 . rintro i p hi hp K hK;have hf:=hfo i;rw[<- hp]at hf;have hnew:=hK ((((p.1.next 3).1.next 5).1,(p.2.fresh (p.1.next 3).2 (decide (((p.1.next 3).1.next 5).2=0))).1)) (by rw[Store.frM,<- hp]);obtain⟨t2,s⟩:=p;simp only at hf hnew;obtain⟨ht2,_,hfr⟩:=hf;have hx3:=hnx t2 3 ht2 (by omega) (by omega);have ht3:=zbb ht2 3;rcases hq3:t2.next 3 with⟨t3,k3⟩;simp only[hq3]at hx3 ht3 hnew;have hx5:=hnx t3 5 ht3 (by omega) (by omega);rcases hq5:t3.next 5 with⟨t4,k5⟩;simp only[hq5]at hx5 hnew;have hsm:s.small:=⟨by rw[hfr.1];omega,by rw[hfr.2.1];omega⟩;have hi':(i:Int)<n:=by omega
   have hw2:IntKind.i64.wrap ((i:Int)+1)=((i+1:Nat):Int):=zJ (by omega);by_cases h5:k5=0
   . subst h5;simp only[decide_true]at hnew;rcases hq6:s.fresh k3 true with⟨s2,x2⟩;simp only[hq6]at hnew;simp [zoy,hE,hi',hx3,hx5,h2,h3,hsm,hq6,hw2,-Int.natCast_add];exact hnew _ _ (Less.auto (by simp[-Int.natCast_add]) (by simp) (by simp) (by simp))
   . simp only[decide_eq_false h5]at hnew;rcases hq6:s.fresh k3 false with⟨s2,x2⟩;simp only[hq6]at hnew;simp [zoy,hE,hi',hx3,hx5,h2,h3,hsm,h5,hq6,hw2,-Int.natCast_add];exact hnew _ _ (Less.auto (by simp[-Int.natCast_add]) (by simp) (by simp) (by simp))
end
end Go.Proofs.YtfgmnebfhemnpaaGreat
/- Types made valid;the law StoreOperations: what its function computes. -/
namespace Go.Proofs.YtfgmnebfhemnpaaGreat
open Go.J
open Go.J.Enc (enc)
set_option maxRecDepth 100000
set_option maxHeartbeats 4000000
def zC2:J.Spec:=fnS (zfm true)
section
variable {ρ:Nat->Value}(hρ:J.Good ρ){E:Env}(hE:E.P=Tryz.prog)(hcon:ConsOk ρ E)
include hρ hE hcon
end
end Go.Proofs.YtfgmnebfhemnpaaGreat
/- The contracts that the laws on stores use,joined. -/
namespace Go.Proofs.YtfgmnebfhemnpaaGreat
open Go.J
open Go.J.Enc (enc)
set_option maxRecDepth 100000
set_option maxHeartbeats 1000000
section
variable {ρ:Nat->Value}(hρ:J.Good ρ)
include hρ
theorem zCN(S:Nat)(hS:1<=S):Valid ρ Tryz.prog 12 (fnS (zaA (Store.topF S))):=v3 (fo Tryz.func12 zRx) fun a b c r h hs=>by
 obtain⟨h1,rfl⟩:=zV h;exact zhp hρ (E:=EL [(39,fnS (zaA (Store.uF S 300000)))]) rfl (zu (zq (zwj hρ S 300000 hS) valid_nil)) rfl h1 hs
theorem zoV:Valid ρ Tryz.prog 33 (stS (zqf znO)):=s1 (fo Tryz.func33 zRk) fun s a q h hs id hid hg=>by
 obtain⟨⟨h1,h2,h3⟩,rfl⟩:=zV h
 exact zeT hρ (E:=EL [(21,fnS (zfm (⟨[],[]⟩:Store))),(23,stS (zqf zkc)),(22,zzE),(25,zeR),(24,stS (zqF (zg1 1))),(32,fnS (zW fun h i:Int=>some (zax h i))),(12,fnS (zaA (Store.topF 7)))]) rfl
  (zu (zq (zCS hρ) (zq (zCR hρ) (zq (zwt hρ) (zq (zqv hρ) (zq (zCM hρ 1 (by omega)) (zq (zyV hρ) (zq (zCN hρ 7 (by omega)) valid_nil)))))))) rfl rfl rfl rfl rfl rfl rfl h1 h2 h3 hs id hid hg
theorem zKB:Valid ρ Tryz.prog 104 (fnS (zbq fun i:Int=>some (zad i))):=v1 (fo Tryz.func104 zFE) fun a r h hs=>by
 cases h;exact zjA hρ (E:=EL []) rfl (zu valid_nil) hs
theorem zCQ:Valid ρ Tryz.prog 107 (fnS (zW fun (s:Store) (i:Int)=>some (s.slot? i).isSome)):=v2 (fo Tryz.func107 zFD) fun a b r h hs=>by
 cases h;exact zjD hρ (E:=EL []) rfl (zu valid_nil) hs
end
end Go.Proofs.YtfgmnebfhemnpaaGreat
/- Walking,measuring and resolving in a store: the contracts joined. -/
namespace Go.Proofs.YtfgmnebfhemnpaaGreat
open Go.J
open Go.J.Enc (enc)
set_option maxRecDepth 100000
set_option maxHeartbeats 1000000
section
variable {ρ:Nat->Value}(hρ:J.Good ρ)
include hρ
theorem zqu:Valid ρ Tryz.prog 84 (fnS (zW fun (s:Store) (t:Ty)=>some (s.bound t))):=v2 (fo Tryz.func84 zMN) fun a b r h hs=>by
 cases h;exact zdS hρ (E:=EL [(107,fnS (zW fun (s:Store) (i:Int)=>some (s.slot? i).isSome))]) rfl (zu (zq (zCQ hρ) valid_nil)) rfl hs
def zCB:J.Spec:=fnS (zW fun (s:Store) (t:Ty)=>if s.slots.length<=1000000 then some (s.w t)else none)
theorem zCO:Valid ρ Tryz.prog 67 zCB:=v2 (fo Tryz.func67 zJu) fun a b r h hs=>by
 obtain⟨h1,rfl⟩:=zV h;exact ziu hρ (E:=EL [(84,fnS (zW fun (s:Store) (t:Ty)=>some (s.bound t)))]) rfl (zu (zq (zqu hρ) valid_nil)) rfl h1 hs
theorem zkQ{d:Nat}(hd:d<=1000000){S:J.Spec}(hv:Valid ρ Tryz.prog 44 S)(hS:S=fnS (zaA (szG d))){s:Store}{t:Ty}{m:Int}(h1:s.tysOk)(h2:t.ok=true)(h3:m<d+1)(hs:HS) :
 CallOk ρ Tryz.prog 44 [enc s,enc t,enc m] hs (enc ((sz s.w t (max m 0).toNat:Nat):Int)) hs:=by
 subst hS;exact ziv hρ (E:=EL [(44,fnS (zaA (szG d))),(67,zCB)]) rfl (zu (zq hv (zq (zCO hρ) valid_nil))) rfl hd rfl h1 h2 h3 hs
theorem zCP(d:Nat)(hd:d<=1000000):Valid ρ Tryz.prog 44 (fnS (zaA (szG d))):=by
 induction d with
 | zero =>
   refine v3 (fo Tryz.func44 zJv) fun a b c r h hs=>?_
   obtain⟨⟨h1,h2,h3,h4⟩,rfl⟩:=zV h;omega
 | succ d ih =>
   refine v3 (fo Tryz.func44 zJv) fun a b c r h hs=>?_
   obtain⟨⟨h1,h2,h3,h4⟩,rfl⟩:=zV h;exact zkQ hρ (by omega) (ih (by omega)) rfl h1 h2 (by omega) hs
end
end Go.Proofs.YtfgmnebfhemnpaaGreat
