import Derived.Test.YtocdkgjpdnamlaaGreatLX4
import Derived.Test.YtocdkgjpdnamlaaGreatJP
import Derived.Test.YtocdkgjpdnamlaaGreatLAL
set_option linter.all false
noncomputable section
namespace Go.Proofs.YtocdkgjpdnamlaaGreat
open Go.J
open Go.J.Enc (enc)
set_option maxRecDepth 100000
set_option maxHeartbeats 4000000
section
variable {ρ:Nat->Value}(hρ:J.Good ρ){E:Env}(hE:E.P=Tryz.prog)(hcon:aZ ρ E)
include hρ hE hcon
theorem EO {F:Store->Ty->Ty->Option (Store×Int)} {rec:Store->Ty->Ty->Store×Int} (hc:E.dS 39=bZ (dH F))
 (hS:E.dS 21=bZ (dH fun (s:Store) (t:Ty) (m:Int)=>if s.dF/\t.ok=true/\m<1000000 then some ((sz s.w16 t (max m 0).toNat:Nat):Int)else none))
 (hw:E.dS 59=bZ (bz fun (s:Store) (t:Ty)=>if s.slots.length<=1000000 then some (s.w16 t)else none)) (hsl:E.dS 60=bZ (bz fun (s:Store) (t:Ty)=>some (s.bG t)))
 (hj:E.dS 61=bZ (dH fun (s:Store) (x y:Ty)=>if s.slots.length<=1000/\s.trail.length<=990/\s.bG x=true/\s.bG y=true then some (s.join x.id y.id)else none))
 (hb:E.dS 62=bZ (dH Store.Qe)) {s:Store} {a b:Ty} (hs:s.dF) (htr:s.trail.length<=990) (ha:a.ok=true) (mM:b.ok=true)
 (hx:s.bG (s.w16 a)=true->s.bG (s.w16 b)=false->s.qX (s.w16 b)) (hy:s.bG (s.w16 b)=true->s.bG (s.w16 a)=false->s.qX (s.w16 a))
 (hu:¬ (200<sz s.w16 a 200\/200<sz s.w16 b 200)->s.bG (s.w16 a)=false->s.bG (s.w16 b)=false->¬ Store.clash (s.w16 a) (s.w16 b)->Store.zxe F rec (s.w16 a).args (s.w16 b).args s) (hs0:HS) :
 aA ρ Tryz.prog 39 [enc s,enc a,enc b] hs0 (enc (Store.rM rec s a b)) hs0:=by
 refine fn hρ hE hcon Tryz.func39 zvN rfl (by simp) ?_ hs0;have hn:=hs.1;have hn2:s.slots.length<=1000000:=by omega
 have hxo:(s.w16 a).ok=true:=Store.lL hs _ ha;have zyG:(s.w16 b).ok=true:=Store.lL hs _ mM;have hm1:(max (200:Int) 0).toNat=200:=rfl;unfold Store.rM;by_cases c1:200<sz s.w16 a 200
 . rw[if_pos (.inl c1)];have i1:¬ ((sz s.w16 a 200:Nat):Int)<=200:=by omega
   have j1:(200:Int)<((sz s.w16 a 200:Nat):Int):=by omega
   simp [hE,hS,hs,ha,hm1,j1]
 by_cases c2:200<sz s.w16 b 200
 . rw[if_pos (.inr c2)];have i1:((sz s.w16 a 200:Nat):Int)<=200:=by omega
   have i2:¬ ((sz s.w16 b 200:Nat):Int)<=200:=by omega
   have j1:¬ (200:Int)<((sz s.w16 a 200:Nat):Int):=by omega
   have j2:(200:Int)<((sz s.w16 b 200:Nat):Int):=by omega
   simp [hE,hS,hs,ha,mM,hm1,j1,j2]
 rw[if_neg (fun h=>h.elim c1 c2)];have c1':((sz s.w16 a 200:Nat):Int)<=200:=by omega
 have c2':((sz s.w16 b 200:Nat):Int)<=200:=by omega
 have k1:¬ (200:Int)<((sz s.w16 a 200:Nat):Int):=by omega
 have k2:¬ (200:Int)<((sz s.w16 b 200:Nat):Int):=by omega
 replace hu:=hu (fun h=>h.elim c1 c2);generalize hX:s.w16 a=x at hx hy hu hxo;generalize hY:s.w16 b=y at hx hy hu zyG
 cases d1:s.bG x with
 | true =>
   have e1:=Store.tF d1
   cases d2:s.bG y with
   | true =>
     simp [hE,hS,hs,ha,mM,hm1,k1,k2,hw,hn,hn2,hX,hY,hsl,d1,d2,hj,htr]
   | false =>
     have hbf:Store.Qe s x.id y=some (s.bindM x.id y):=if_pos ⟨hs,zyG,hx d1 d2,e1⟩;generalize s.bindM x.id y=r at hbf;obtain⟨r1,r2⟩:=r;simp [hE,hS,hs,ha,mM,hm1,k1,k2,hw,hn2,hX,hY,hsl,d1,d2,hb,hbf]
 | false =>
   cases d2:s.bG y with
   | true =>
     have e2:=Store.tF d2;have hbf:Store.Qe s y.id x=some (s.bindM y.id x):=if_pos ⟨hs,hxo,hy d2 d1,e2⟩;generalize s.bindM y.id x=r at hbf;obtain⟨r1,r2⟩:=r;simp [hE,hS,hs,ha,mM,hm1,k1,k2,hw,hn2,hX,hY,hsl,d1,d2,hb,hbf]
   | false =>
     replace hu:=hu d1 d2;by_cases hcl:Store.clash x y
     . rw [if_neg (by simp),if_neg (by simp),if_pos hcl];by_cases q1:x.kind=y.kind
       . have p1 := eq_true q1;by_cases q2:x.name=y.name
         . have p2:=eq_true q2;by_cases q3:x.id=y.id
           . have p3:=eq_true q3;by_cases q4:x.home=y.home
             . have p4:=eq_true q4;by_cases q5:x.args.length=y.args.length
               . exact absurd hcl (by unfold Store.clash;simp[q1,q2,q3,q4,q5])
               . have zQ0:¬ (x.args.length:Int)=(y.args.length:Int):=by omega
                 simp [hE,hS,hs,ha,mM,hm1,k1,k2,hw,hn2,hX,hY,hsl,d1,d2,p1,p2,p3,p4,zQ0]
             . simp [hE,hS,hs,ha,mM,hm1,k1,k2,hw,hn2,hX,hY,hsl,d1,d2,p1,p2,p3,q4]
           . simp [hE,hS,hs,ha,mM,hm1,k1,k2,hw,hn2,hX,hY,hsl,d1,d2,p1,p2,q3]
         . simp [hE,hS,hs,ha,mM,hm1,k1,k2,hw,hn2,hX,hY,hsl,d1,d2,p1,q2]
       . simp [hE,hS,hs,ha,mM,hm1,k1,k2,hw,hn2,hX,hY,hsl,d1,d2,q1]
     . rw [if_neg (by simp),if_neg (by simp),if_neg hcl];replace hu:=hu hcl;unfold Store.clash at hcl;simp only[not_or,Classical.not_not]at hcl;obtain⟨q1,q2,q3,q4,q5⟩:=hcl;have p1:=eq_true q1;have p2:=eq_true q2;have p3:=eq_true q3;have p4:=eq_true q4;have p5:((x.args.length:Int)=(y.args.length:Int))=True:=eq_true (by omega);simp [hE,hS,hs,ha,mM,hm1,k1,k2,hw,hn2,hX,hY,hsl,d1,d2,p1,p2,p3,p4,p5];generalize hR:Store.uL rec x.args y.args s=R;clear hx hy c1 c2 c1' c2' k1 k2 hX hY htr;have hxl:=Ty.lH hxo
       refine DV hρ hE hcon x.args.length (nn:=4) (fun i (p:Store×Int)=>[(3,.ptr 0 0 0),(6,.ptr 1 0 0),(8,.ptr 2 0 0),(9,.ptr 3 0 0),(10,.int .i64 p.2),(11,.int .i64 (i:Int))])
        (fun i p=>[(0,box (bB p.1)),(1,box [.snil,.snil]),(2,box (ax x)),(3,box (ax y))])
        (fun i p=>(p.2=0->Store.zxe F rec (x.args.drop i) (y.args.drop i) p.1/\Store.uL rec (x.args.drop i) (y.args.drop i) p.1=R)/\(p.2≠0->p=R)) (s,0)
        (Less.auto (by simp) (by simp) (by simp) (by simp)) ⟨fun _=>⟨by simpa using hu,by simpa using hR⟩,fun h=>absurd rfl h⟩ ?_ ?_
       . rintro ⟨s1,e1⟩ ⟨g1,g2⟩ K
         have hfin:(s1,e1)=R:=by
          by_cases he:e1=0
          . have:=(g1 he).2;rw[List.drop_length]at this;rw[<- this,he];rfl
          . exact g2 he
         rw[<- hfin];simp [Mw,hE];refine bq.mk (Less.auto (TL:=[(3,.ptr 0 0 0),(6,.ptr 1 0 0),(10,.int .i64 e1)]) (HL:=[(0,box (bB s1)),(1,box [.snil,.snil])]) (n:=4) (by simp) (by simp) (by simp) (by simp)) ?_;simp [hE]
       . rintro i ⟨s1,e1⟩ hi ⟨g1,g2⟩ K hK;have hi':(i:Int)<x.args.length:=by omega
         by_cases he:e1=0
         . subst he;obtain⟨g3,g4⟩:=g1 rfl;have zq6:i<y.args.length:=by omega
           rw[List.drop_eq_getElem_cons hi,List.drop_eq_getElem_cons zq6]at g3 g4;simp only[Store.zxe]at g3;rw[Store.uL]at g4;obtain⟨g5,g6⟩:=g3;have hnew:=hK (rec s1 x.args[i] y.args[i]) ⟨fun h=>⟨g6 h,by rw[if_pos h]at g4;exact g4⟩,fun h=>by rw[if_neg h]at g4;exact g4⟩;generalize rec s1 x.args[i] y.args[i]=r at g5 hnew;obtain⟨r1,r2⟩:=r;have hw2:IntKind.i64.wrap ((i:Int)+1)=((i+1:Nat):Int):=bu (by omega);simp [Mw,hE,hi,hi',zq6,hc,g5,hw2,-Int.natCast_add];exact hnew _ _ (Less.auto (by simp[-Int.natCast_add]) (by simp) (by simp) (by simp))
         . rw[<- g2 he];simp [Mw,hE,hi',he];refine bq.mk (Less.auto (TL:=[(3,.ptr 0 0 0),(6,.ptr 1 0 0),(10,.int .i64 e1)]) (HL:=[(0,box (bB s1)),(1,box [.snil,.snil])]) (n:=4) (by simp) (by simp) (by simp) (by simp)) ?_;simp [hE]
end
end Go.Proofs.YtocdkgjpdnamlaaGreat
/- zPe: the contracts joined. -/
namespace Go.Proofs.YtocdkgjpdnamlaaGreat
open Go.J
open Go.J.Enc (enc)
set_option maxRecDepth 100000
set_option maxHeartbeats 1000000
section
variable {ρ:Nat->Value}(hρ:J.Good ρ)
include hρ
theorem JP(d:Nat)(hd:d<=1000){S:J.Spec}(hv:Valid ρ Tryz.prog 27 S){t:Tp}{D:List Decl}{Lv:List Ty}{n:Int}(hS:0<n->S=K5 (K6 (AY d)))(h1:t.ok)(h2:zJj D)(h3:Lv.length<=100000)(h4:n<=d+1)(hs:HS)(id:Nat)(hid:id<hs.n)(hg:hs.H.get id=some (box (fB.cells t))) :
 aA ρ Tryz.prog 27 [.ptr id 0 0,enc D,enc Lv,enc n] hs (enc (dh n.toNat t D Lv).2) (hs.wr id (box (fB.cells (dh n.toNat t D Lv).1))) :=
 Ai hρ (E:=EL [(26,K5 (K7 Bq)),(54,zpd),(53,bZ (sU FW)),(55,bZ (bz fun a b:Ty=>some (lG a b))),(27,S)]) rfl
  (au (ag (zp2 hρ) (ag (zsY hρ) (ag (zJA hρ) (ag (zsZ hρ) (ag hv az)))))) rfl rfl rfl rfl hS h1 h2 h3 h4 hd hs id hid hg
def zRa:J.Spec:=fun _ _=>none
omit hρ in
theorem zAL{f:Nat}(hf:lW Tryz.prog f):Valid ρ Tryz.prog f zRa where
 fn:=hf
 ok:=fun {_ _ _ _} h=>by cases h
 kept:=fun {_ _ _} h=>by cases h
theorem zAH(d:Nat)(hd:d<=1000):Valid ρ Tryz.prog 27 (K5 (K6 (AY d))):=by
 induction d with
 | zero =>
   refine s3 (fo Tryz.func27 zo2) fun s a b c q h hs id hid hg=>?_
   obtain⟨⟨h1,h2,h3,h4⟩,rfl⟩:=bI h;exact JP hρ 0 hd (zAL (fo Tryz.func27 zo2)) (fun h=>by omega) h1 h2 h3 (by omega) hs id hid hg
 | succ d ih =>
   refine s3 (fo Tryz.func27 zo2) fun s a b c q h hs id hid hg=>?_
   obtain⟨⟨h1,h2,h3,h4⟩,rfl⟩:=bI h;exact JP hρ d (by omega) (ih (by omega)) (fun _=>rfl) h1 h2 h3 (by omega) hs id hid hg
omit hρ in
theorem zai{f:Nat}{vs:List V}{hs hs':HS}{v r:V}(h:aA ρ Tryz.prog f vs hs v hs')(e:dL v=r):aA ρ Tryz.prog f vs hs r hs':=by
 intro X w F μ xs hR hD hO hA;refine CallsIn.mono (h X w F μ xs hR hD hO hA) fun e' w' he=>?_
 cases e' with
 | returned x =>
   obtain⟨F1,μ1,g1,g2,g3⟩:=he;exact⟨F1,μ1,g1,by rw[<- e];exact g2.norm,g3⟩
 |panicked c=>exact he
 |outgrown=>exact he
theorem zJC:Valid ρ Tryz.prog 51 (bZ (sU Fg)):=v0 (zoT Tryz.func51 (by kernel_rfl)) fun hs=>zai
 (w9 hρ (E:=EL [(90,DL TP)]) (au (ag (Q4 hρ) az)) follows named zpw rfl) (by kernel_rfl)
theorem zsX:Valid ρ Tryz.prog 23 (bZ (fO fun bits:Int=>some (jd bits))):=v1 (fo Tryz.func23 zEH) fun a r h hs=>by
 cases h;exact G5 hρ (E:=EL [(51,bZ (sU Fg))]) rfl (au (ag (zJC hρ) az)) rfl hs
def mf:J.Spec:=Q5 5 (fun vs=>ob (fO (fun n:Int=>if 0<=n/\n<=10000 then some (dK n.toNat)else none) vs) fun v=>match v with|.sl es _=>some es|_=>none)
theorem zm6:Valid ρ Tryz.prog 28 mf:=Valid.row (fo Tryz.func28 zED) fun vs es _ h hs hv=>by
 rw[af]at h;obtain⟨v,h1,h2⟩:=h;obtain⟨n,r,rfl,h3,rfl⟩:=Cz h1;obtain⟨⟨h4,h5⟩,rfl⟩:=bI h3;obtain⟨m,rfl⟩:=Int.eq_ofNat_of_zero_le h4;cases h2;exact Jz hρ (E:=EL [(16,bZ (fO fun i:Int=>some (aM i)))]) rfl (au (ag (zsI hρ) az)) rfl (by omega) hv
end
end Go.Proofs.YtocdkgjpdnamlaaGreat
/- The contracts of unification in a store,joined. -/
namespace Go.Proofs.YtocdkgjpdnamlaaGreat
open Go.J
open Go.J.Enc (enc)
set_option maxRecDepth 100000
set_option maxHeartbeats 1000000
section
variable {ρ:Nat->Value}(hρ:J.Good ρ)
include hρ
theorem zsS:Valid ρ Tryz.prog 24 (bZ (sU (⟨[],[]⟩:Store))):=v0 (fo Tryz.func24 zEG) fun hs=>Jq hρ (E:=EL []) rfl (au az) hs
def Mj:J.Spec:=bZ (dH fun (s:Store) (h:Int) (b:Bool)=>if s.small then some (s.fresh h b)else none)
theorem zbo:Valid ρ Tryz.prog 25 Mj:=v3 (fo Tryz.func25 zEF) fun a b c r h hs=>by
 obtain⟨h1,rfl⟩:=bI h;exact EW hρ (E:=EL [(16,bZ (fO fun i:Int=>some (aM i)))]) rfl (au (ag (zsI hρ) az)) rfl h1 hs
def ztA:J.Spec:=bZ (dH fun (s:Store) (i:Int) (x:Slot)=>if s.small then some (s.set i x)else none)
theorem zbi:Valid ρ Tryz.prog 78 ztA:=v3 (fo Tryz.func78 zEf) fun a b c r h hs=>by
 obtain⟨h1,rfl⟩:=bI h;exact Jp hρ (E:=EL []) rfl (au az) h1 hs
theorem Np:Valid ρ Tryz.prog 77 (bZ (bz fun (s:Store) (t:Ty)=>some (s.bound t))):=v2 (fo Tryz.func77 zEg) fun a b r h hs=>by
 cases h;exact ES hρ (E:=EL []) rfl (au az) hs
def Fs:J.Spec:=bZ (bz fun (s:Store) (t:Ty)=>if s.slots.length<=1000000 then some (s.w16 t)else none)
theorem KQ:Valid ρ Tryz.prog 59 Fs:=v2 (fo Tryz.func59 zEr) fun a b r h hs=>by
 obtain⟨h1,rfl⟩:=bI h;exact Gi hρ (E:=EL [(77,bZ (bz fun (s:Store) (t:Ty)=>some (s.bound t)))]) rfl (au (ag (Np hρ) az)) rfl h1 hs
theorem zAC(d:Nat)(hd:d<=1000000):Valid ρ Tryz.prog 49 (bZ (dH (zl7 d))):=by
 induction d with
 | zero =>
   refine v3 (fo Tryz.func49 zvK) fun a b c r h hs=>?_
   obtain⟨⟨_,_,h1,h2⟩,rfl⟩:=bI h;omega
 | succ d ih =>
   refine v3 (fo Tryz.func49 zvK) fun a b c r h hs=>?_
   obtain⟨⟨h1,h2,h3,h4⟩,rfl⟩:=bI h;obtain⟨m,rfl⟩:=Int.eq_ofNat_of_zero_le h3;exact Gh hρ (E:=EL [(49,bZ (dH (zl7 d))),(59,Fs)]) rfl (au (ag (ih (by omega)) (ag (KQ hρ) az))) rfl (by omega) rfl h1 h2 (by omega) hs
def K9:J.Spec:=bZ (dH fun (s:Store) (t:Ty) (m:Int)=>if s.dF/\t.ok=true/\m<1000000 then some ((sz s.w16 t (max m 0).toNat:Nat):Int)else none)
theorem S9:Valid ρ Tryz.prog 21 K9:=v3 (fo Tryz.func21 zEJ) fun a b c r h hs=>by
 obtain⟨⟨h1,h2,h3⟩,rfl⟩:=bI h;exact Gl hρ (E:=EL [(49,bZ (dH (zl7 1000000)))]) rfl (au (ag (zAC hρ 1000000 (by omega)) az)) rfl h1 h2 h3 hs
theorem zsF(d:Nat)(hd:d<=10000):Valid ρ Tryz.prog 44 (bZ (bz (EJ d))):=by
 induction d with
 | zero =>
   refine v2 (fo Tryz.func44 zvM) fun a b r h hs=>?_
   obtain⟨⟨_,_,h1⟩,rfl⟩:=bI h;obtain⟨q,_,hq⟩:=gp.1 h1;have:=Ty.size_pos q;omega
 | succ d ih =>
   exact v2 (fo Tryz.func44 zvM) fun a b r h hs =>
    Bf hρ (E:=EL [(44,bZ (bz (EJ d))),(59,Fs)]) rfl (au (ag (ih (by omega)) (ag (KQ hρ) az))) rfl (by omega) rfl h hs
def ik:J.Spec:=bZ (bz fun (s:Store) (t:Ty)=>if s.dF/\t.ok=true then some (bK s.w16 t)else none)
theorem FP:Valid ρ Tryz.prog 15 ik:=v2 (fo Tryz.func15 zEN) fun a b r h hs=>by
 obtain⟨⟨h1,h2⟩,rfl⟩:=bI h;exact Bg hρ (E:=EL [(21,K9),(44,bZ (bz (EJ 4000)))]) rfl (au (ag (S9 hρ) (ag (zsF hρ 4000 (by omega)) az))) rfl rfl h1 h2 hs
theorem zsE(d:Nat):Valid ρ Tryz.prog 105 (dN (Ja (zO d))):=by
 induction d with
 | zero =>
   refine Valid.PI (fo Tryz.func105 zkD) fun vs hs D h=>?_
   obtain⟨s,out,done,t,R,id,rd,ro,hR,rfl,_,_,_,hfit⟩:=Nc h;obtain⟨⟨_,_,_,_,h1⟩,_⟩:=bI hR;have:=Ty.size_pos t;omega
 | succ d ih =>
   refine Valid.PI (fo Tryz.func105 zkD) fun vs hs D h=>?_
   obtain⟨s,out,done,t,R,id,rd,ro,hR,rfl,_,_,_,hfit⟩:=Nc h;exact vI hρ (E:=EL [(105,dN (Ja (zO d))),(77,bZ (bz fun (s:Store) (t:Ty)=>some (s.bound t))),(66,sj)]) rfl (au (ag ih (ag (Np hρ) (ag (zm8 hρ) az)))) rfl rfl rfl hR hfit
def SY:J.Spec:=bZ (bz fun (s:Store) (l:List Ty)=>if iO s l then some (dz s l)else none)
theorem zmZ:Valid ρ Tryz.prog 79 SY:=v2 (fo Tryz.func79 zEe) fun a b r h hs=>by
 obtain⟨h1,rfl⟩:=bI h;exact Gj hρ (E:=EL [(105,dN (Ja (zO 100000)))]) rfl (au (ag (zsE hρ 100000) az)) rfl h1 hs
theorem zbm:Valid ρ Tryz.prog 17 (bZ (fO fun t:Ty=>some (isArrow t))):=v1 (fo Tryz.func17 zEL) fun a r h hs=>by
 cases h;exact CP hρ (E:=EL []) rfl (au az) hs
def TW:J.Spec:=bZ (fO fun l:List Ty=>if Ty.oks l=true/\l.length<=10000/\Ty.sizes l<=10000 then some (iD l)else none)
theorem zm5:Valid ρ Tryz.prog 18 TW:=v1 (fo Tryz.func18 zEK) fun a r h hs=>by
 obtain⟨⟨h1,h2,h3⟩,rfl⟩:=bI h;exact EN hρ (E:=EL [(45,Qt 5 (CZ (jo 10000)) vS)]) rfl (au (ag (Tc hρ 10000) az)) rfl h1 h2 h3 (by omega) hs
theorem zm1:Valid ρ Tryz.prog 60 (bZ (bz fun (s:Store) (t:Ty)=>some (s.bG t))):=v2 (fo Tryz.func60 zEq) fun a b r h hs=>by
 cases h;exact Gd hρ (E:=EL []) rfl (au az) hs
def Ut:J.Spec:=bZ (dH fun (s:Store) (x y:Ty)=>if s.slots.length<=1000/\s.trail.length<=990/\s.bG x=true/\s.bG y=true then some (s.join x.id y.id)else none)
theorem zm7:Valid ρ Tryz.prog 61 Ut:=v3 (fo Tryz.func61 zEp) fun a b c r h hs=>by
 obtain⟨⟨h1,h2,h3,h4⟩,rfl⟩:=bI h;exact Gf hρ (E:=EL [(78,ztA),(16,bZ (fO fun i:Int=>some (aM i)))]) rfl (au (ag (zbi hρ) (ag (zsI hρ) az))) rfl rfl ⟨h1,h2⟩ h3 h4 hs
theorem zm9:Valid ρ Tryz.prog 62 (bZ (dH Store.Qe)):=v3 (fo Tryz.func62 zEo) fun a b c r h hs=>by
 obtain⟨⟨h1,h2,⟨h3,h4,h5,h6⟩,h7⟩,rfl⟩:=bI h
 exact Gg hρ (E:=EL [(78,ztA),(79,SY),(66,sj),(17,bZ (fO fun t:Ty=>some (isArrow t))),(15,ik),(18,TW)]) rfl
  (au (ag (zbi hρ) (ag (zmZ hρ) (ag (zm8 hρ) (ag (zbm hρ) (ag (FP hρ) (ag (zm5 hρ) az))))))) rfl rfl rfl rfl rfl rfl h1 h2 h3 h4 h5 h7 h6 hs
theorem za7(S d:Nat)(hS:1<=S):Valid ρ Tryz.prog 39 (bZ (dH (Store.uF S d))):=by
 induction d with
 | zero =>
   refine v3 (fo Tryz.func39 zvN) fun a b c r h hs=>?_
   obtain⟨⟨_,_,_,h1⟩,_⟩:=bI h;omega
 | succ d ih =>
   refine v3 (fo Tryz.func39 zvN) fun a b c r h hs=>?_
   obtain⟨rfl,h1,h2,h3⟩:=Store.ztb hS h
   exact EO hρ (E:=EL [(39,bZ (dH (Store.uF S d))),(21,K9),(59,Fs),(60,bZ (bz fun (s:Store) (t:Ty)=>some (s.bG t))),(61,Ut),(62,bZ (dH Store.Qe))]) rfl
    (au (ag ih (ag (S9 hρ) (ag (KQ hρ) (ag (zm1 hρ) (ag (zm7 hρ) (ag (zm9 hρ) az))))))) rfl rfl rfl rfl rfl rfl h3.YW h3.trail h1 h2 h3.left h3.right (fun a _ _ _=>h3.calls a) hs
end
end Go.Proofs.YtocdkgjpdnamlaaGreat
/- The fQ zPd;the stores that tapes make. -/
namespace Go.Proofs.YtocdkgjpdnamlaaGreat
open Go.J
open Go.J.Enc (enc)
set_option maxRecDepth 100000
set_option maxHeartbeats 4000000
section
variable {ρ:Nat->Value}(hρ:J.Good ρ){E:Env}(hE:E.P=Tryz.prog)(hcon:aZ ρ E)
include hρ hE hcon
theorem EP{S:Nat}(hc:E.dS 39=bZ (dH (Store.uF S 300000))){s:Store}{a b:Ty}(h:Store.zaw S s a b)(hs:HS) :
 aA ρ Tryz.prog 12 [enc s,enc a,enc b] hs (enc (Store.ib s a b)) hs:=by
 refine fn hρ hE hcon Tryz.func12 zEO rfl (by simp) ?_ hs;have hF:=h.run;unfold Store.ib;generalize Store.FT s a b=r at hF;obtain⟨r1,r2⟩:=r;by_cases h0:r2=0
 . subst h0;simp [hE,hc,hF]
 . simp [hE,hc,hF,h0]
end
end Go.Proofs.YtocdkgjpdnamlaaGreat
/- Types made valid;the law zaS: what its function computes. -/
namespace Go.Proofs.YtocdkgjpdnamlaaGreat
open Go.J
open Go.J.Enc (enc)
set_option maxRecDepth 100000
set_option maxHeartbeats 4000000
def zaY:J.Spec:=bZ (sU true)
section
variable {ρ:Nat->Value}(hρ:J.Good ρ){E:Env}(hE:E.P=Tryz.prog)(hcon:aZ ρ E)
include hρ hE hcon
end
end Go.Proofs.YtocdkgjpdnamlaaGreat
/- The contracts that the laws on stores use,joined. -/
namespace Go.Proofs.YtocdkgjpdnamlaaGreat
open Go.J
open Go.J.Enc (enc)
set_option maxRecDepth 100000
set_option maxHeartbeats 1000000
section
variable {ρ:Nat->Value}(hρ:J.Good ρ)
include hρ
theorem zsO(S:Nat)(hS:1<=S):Valid ρ Tryz.prog 12 (bZ (dH (Store.znn S))):=v3 (fo Tryz.func12 zEO) fun a b c r h hs=>by
 obtain⟨h1,rfl⟩:=bI h;exact EP hρ (E:=EL [(39,bZ (dH (Store.uF S 300000)))]) rfl (au (ag (za7 hρ S 300000 hS) az)) rfl h1 hs
theorem zAI:Valid ρ Tryz.prog 104 (bZ (fO fun i:Int=>some (aM i))):=v1 (fo Tryz.func104 zrP) fun a r h hs=>by
 cases h;exact Jg hρ (E:=EL []) rfl (au az) hs
theorem zp1:Valid ρ Tryz.prog 107 (bZ (bz fun (s:Store) (i:Int)=>some (s.slot? i).isSome)):=v2 (fo Tryz.func107 zrO) fun a b r h hs=>by
 cases h;exact Ji hρ (E:=EL []) rfl (au az) hs
end
end Go.Proofs.YtocdkgjpdnamlaaGreat
/- zJa,zyt and zxE in a store: the contracts joined. -/
namespace Go.Proofs.YtocdkgjpdnamlaaGreat
open Go.J
open Go.J.Enc (enc)
set_option maxRecDepth 100000
set_option maxHeartbeats 1000000
section
variable {ρ:Nat->Value}(hρ:J.Good ρ)
include hρ
theorem Ta:Valid ρ Tryz.prog 84 (bZ (bz fun (s:Store) (t:Ty)=>some (s.bound t))):=v2 (fo Tryz.func84 zvH) fun a b r h hs=>by
 cases h;exact wy hρ (E:=EL [(107,bZ (bz fun (s:Store) (i:Int)=>some (s.slot? i).isSome))]) rfl (au (ag (zp1 hρ) az)) rfl hs
def zp0:J.Spec:=bZ (bz fun (s:Store) (t:Ty)=>if s.slots.length<=1000000 then some (s.w t)else none)
theorem zsP:Valid ρ Tryz.prog 67 zp0:=v2 (fo Tryz.func67 zoY) fun a b r h hs=>by
 obtain⟨h1,rfl⟩:=bI h;exact FX hρ (E:=EL [(84,bZ (bz fun (s:Store) (t:Ty)=>some (s.bound t)))]) rfl (au (ag (Ta hρ) az)) rfl h1 hs
theorem JW{d:Nat}(hd:d<=1000000){S:J.Spec}(hv:Valid ρ Tryz.prog 46 S)(hS:S=bZ (dH (ztl d))){s:Store}{t:Ty}{m:Int}(h1:s.dF)(h2:t.ok=true)(h3:m<d+1)(hs:HS) :
 aA ρ Tryz.prog 46 [enc s,enc t,enc m] hs (enc ((sz s.w t (max m 0).toNat:Nat):Int)) hs:=by
 subst hS;exact FY hρ (E:=EL [(46,bZ (dH (ztl d))),(67,zp0)]) rfl (au (ag hv (ag (zsP hρ) az))) rfl hd rfl h1 h2 h3 hs
theorem zsQ(d:Nat)(hd:d<=1000000):Valid ρ Tryz.prog 46 (bZ (dH (ztl d))):=by
 induction d with
 | zero =>
   refine v3 (fo Tryz.func46 zoZ) fun a b c r h hs=>?_
   obtain⟨⟨h1,h2,h3,h4⟩,rfl⟩:=bI h;omega
 | succ d ih =>
   refine v3 (fo Tryz.func46 zoZ) fun a b c r h hs=>?_
   obtain⟨⟨h1,h2,h3,h4⟩,rfl⟩:=bI h;exact JW hρ (by omega) (ih (by omega)) rfl h1 h2 (by omega) hs
end
end Go.Proofs.YtocdkgjpdnamlaaGreat
