import Derived.Test.YthfcfmkdeheicaaGreatGM11
set_option linter.all false
noncomputable section
namespace Go.Proofs.YthfcfmkdeheicaaGreat
open Go.J
open Go.J.Enc (enc)
set_option maxRecDepth 100000
set_option maxHeartbeats 1000000
def rmM(p t:Ty)(s:List Assign):List Assign×Bool:=if (mtM p t s).2=true then mtM p t s else ([],false)
def rmL(l m:List Ty)(s:List Assign):List Assign×Bool:=if (mtL l m s).2=true then mtL l m s else ([],false)
theorem rmL_cons{p t:Ty}{l m:List Ty}{s:List Assign}:rmL (p::l) (t::m) s=if (rmM p t s).2=true then rmL l m (rmM p t s).1 else ([],false):=by
 unfold rmL rmM
 rw[mtL_cons]
 by_cases h:(mtM p t s).2=true
 · simp[h]
 · simp[h]
def rmF(d:Nat)(p t:Ty)(s:List Assign):Option (List Assign×Bool):=open Classical in if p.ok=true∧t.ok=true∧aok s∧s.length+p.size≤8000∧p.size≤d then some (rmM p t s)else none
def has13F(s:List Assign)(i:Int):Option Bool:=if s.length≤100000 then some (hasA s i)else none
def apply13F(s:List Assign)(t:Ty):Option Ty:=if t.ok=true∧t.size≤10000∧s.length≤100000 then some (t.repl s)else none
def zoK:J.Spec:=fnS (zD has13F)
def zlV:J.Spec:=fnS (zD apply13F)
section
variable {ρ:Nat→Value}(hρ:J.Good ρ)
include hρ
section
variable {E:Env}(hE:E.P=Tryz.prog)(hcon:ConsOk ρ E)
include hE hcon
theorem ref13_has_run{s:List Assign}{x:Int}(hl:s.length≤100000)(hs:HS):CallOk ρ Tryz.prog 92 [enc s,enc x] hs (enc (hasA s x)) hs:=by
 refine fn hρ hE hcon Tryz.func92 fB92 rfl (by simp) ?_ hs
 generalize hr:hasA s x=r
 simp[zoY,zoX,zoW,zoV,zoU,zpa,zoT,zoZ,zoS,fS92,hE]
 refine lpi hρ hE hcon s.length (nn:=0) (fun i (_:Unit)=>[(0,.sl (s.map zf) false),(1,.int .i64 x),(5,.int .i64 (i:Int))]) (fun i _=>[]) (fun i _=>hasA (s.drop i) x=r) ()
  (Less.auto (by simp) (by simp) (by simp) (by simp)) (by simpa using hr) ?_ ?_
 · intro _ h K
   rw[List.drop_length]at h
   have h:false=r:=h
   simp[fS92l0,zoY,zoX,zoW,zoV,zoU,zpa,zoT,zoZ,zoS,fS92,hE]
   refine LessQ.mk (Less.auto (TL:=[]) (HL:=[]) (n:=0) (by simp) (by simp) (by simp) (by simp)) ?_
   simp[zoY,zoX,zoW,zoV,zoU,zpa,zoT,zoZ,zoS,fS92,hE,← h]
 · intro i _ hi h K hK
   have hi':(i:Int)<s.length:=by omega
   have hw2:IntKind.i64.wrap ((i:Int)+1)=((i+1:Nat):Int):=zq (by omega)
   have hm5:(i*6) / 6=i:=by omega
   have hm6:(i*6) % 6=0:=by omega
   rw[List.drop_eq_getElem_cons hi,hasA,List.any_cons]at h
   by_cases he:s[i].id=x
   · rw[show decide (s[i].id=x)=true by simpa using he,Bool.true_or]at h
     simp[fS92l0,zoY,zoX,zoW,zoV,zoU,zpa,zoT,zoZ,zoS,fS92,hE,hi,hi',hm5,hm6,he]
     refine LessQ.mk (Less.auto (TL:=[(4,.bool true)]) (HL:=[]) (n:=0) (by simp) (by simp) (by simp) (by simp)) ?_
     simp[zoY,zoX,zoW,zoV,zoU,zpa,zoT,zoZ,zoS,fS92,hE,← h]
   · rw[show decide (s[i].id=x)=false by simpa using he,Bool.false_or]at h
     have hnew:=hK () h
     simp[fS92l0,zoY,zoX,zoW,zoV,zoU,zpa,zoT,zoZ,zoS,fS92,hE,hi,hi',hm5,hm6,he,hw2,-Int.natCast_add]
     exact hnew _ _ (Less.auto (by simp[-Int.natCast_add]) (by simp) (by simp) (by simp))
theorem zo7(hc:E.con 25=fnS (zD (replF 10000))){s:List Assign}{t:Ty}(h1:t.ok=true)(h2:t.size≤10000)(h3:s.length≤100000)(hs:HS):CallOk ρ Tryz.prog 88 [enc s,enc t] hs (enc (t.repl s)) hs:=by
 refine fn hρ hE hcon Tryz.func88 fB88 rfl (by simp) ?_ hs
 have hF:replF 10000 t s=some (t.repl s):=if_pos ⟨h1,h2,h3⟩
 generalize t.repl s=r at hF
 simp[fS88r0,fS88r1,fS88,hE,hc,hF]
theorem zo6 {d:Nat} (hc:E.con 96=fnS (zfY (rmF d))) (hh:E.con 92=zoK) (ha:E.con 88=zlV) (heq:E.con 23=zp3)
 {p t:Ty} {L:List Assign} (hpo:p.ok=true) (hto:t.ok=true) (hL:aok L) (hlen:L.length+p.size≤8000) (hd:p.size≤d+1) (hs:HS):CallOk ρ Tryz.prog 96 [enc p,enc t,enc L] hs (enc (rmM p t L)) hs:=by
 refine fn hρ hE hcon Tryz.func96 fB96 rfl (by simp) ?_ hs
 have hl1:L.length≤100000:=by omega
 have hl2:p.size≤10000:=by omega
 have hszp:=Ty.size_eq p
 have hpl:=Ty.ok_len hpo
 have hE2:=mtM_eq p t L
 by_cases hk:p.kind=1
 · rw [if_pos hk]at hE2
   have hrep:p.repl L=(zo L p.id).getD p:=by rw[zih,if_pos hk]
   have hro:(p.repl L).ok=true:=by
    rw[hrep]
    cases hl:zo L p.id with
    |none=>exact hpo
    |some u=>obtain⟨a,ha,rfl⟩:=zb2 hl;exact hL a ha
   have hA:apply13F L p=some (p.repl L):=if_pos ⟨hpo,hl2,hl1⟩
   have hH:has13F L p.id=some (hasA L p.id):=if_pos hl1
   clear hrep
   obtain⟨pk,pn,pi,ph,pa⟩:=p
   simp only[Ty.kind_mk]at hk
   subst hk
   simp only[Ty.id_mk]at hH hE2
   by_cases hh1:hasA L pi=true
   · rw[hh1]at hH
     rw[if_pos hh1]at hE2
     generalize (Ty.mk 1 pn pi ph pa).repl L=u at hro hA hE2
     by_cases hu:u=t
     · subst hu
       have hres:rmM (.mk 1 pn pi ph pa) u L=(L,true):=by unfold rmM;rw[hE2];simp
       rw[hres]
       simp[zei,zeh,zeg,zef,zee,zed,zec,zeb,zea,zdZ,zbD,zbC,zbB,zek,zbA,zej,zb9,zb8,zb7,fS96,hE,hh,zoK,hH,ha,zlV,hA,heq,zp3,hro]
     · obtain⟨uk,un,ui,uh,ua⟩:=u
       obtain⟨tk,tn,ti,th,ta⟩:=t
       have hres:rmM (.mk 1 pn pi ph pa) (.mk tk tn ti th ta) L=([],false):=by unfold rmM;rw[hE2];simp[hu]
       rw[hres]
       simp only[Ty.mk.injEq]at hu
       simp[zei,zeh,zeg,zef,zee,zed,zec,zeb,zea,zdZ,zbD,zbC,zbB,zek,zbA,zej,zb9,zb8,zb7,fS96,hE,hh,zoK,hH,ha,zlV,hA,heq,zp3,hro,hu]
   · have hh2:hasA L pi=false:=by simpa using hh1
     rw[hh2]at hH
     rw[if_neg hh1]at hE2
     have hres:rmM (.mk 1 pn pi ph pa) t L=(L++[⟨pi,t⟩],true):=by unfold rmM;rw[hE2];simp
     rw[hres]
     by_cases hL0:L=[]
     · subst hL0
       simp[zei,zeh,zeg,zef,zee,zed,zec,zeb,zea,zdZ,zbD,zbC,zbB,zek,zbA,zej,zb9,zb8,zb7,fS96,hE,hh,zoK,hH]
     · have h72:L.length*72≤1048576:=Nat.le_trans (Nat.mul_le_mul_right 72 (show L.length≤8000 by omega)) (by decide)
       have h73:(L.length+1)*72≤1048576:=Nat.le_trans (Nat.mul_le_mul_right 72 (show L.length+1≤8001 by omega)) (by decide)
       have hz:¬ L.length=0:=fun e=>hL0 (List.eq_nil_of_length_eq_zero e)
       simp[zei,zeh,zeg,zef,zee,zed,zec,zeb,zea,zdZ,zbD,zbC,zbB,zek,zbA,zej,zb9,zb8,zb7,fS96,hE,hh,zoK,hH,hL0,hz,h72,h73,Nat.not_succ_le_self]
 · rw [if_neg hk]at hE2
   by_cases hsame:p.same t=true
   · obtain⟨e1,e2,e3,e4,e5⟩:=same_iff.1 hsame
     have hres:rmM p t L=rmL p.args t.args L:=by unfold rmM rmL;rw[hE2,if_pos hsame]
     rw[hres]
     have e5':(p.args.length:Int)=t.args.length:=by omega
     have hk2:¬ t.kind=1:=by rw[← e1];exact hk
     simp[zei,zeh,zeg,zef,zee,zed,zec,zeb,zea,zdZ,zbD,zbC,zbB,zek,zbA,zej,zb9,zb8,zb7,fS96,hE,hk,e1,e2,e3,e4,e5,e5',hk2]
     refine lpi hρ hE hcon p.args.length (nn:=2) (fun i (X:List Assign×Bool)=>[(2,.sl (X.1.map zf) false),(3,.ptr 0 0 0),(4,.ptr 1 0 0),(8,.bool X.2),(9,.int .i64 (i:Int))]) (fun i _=>[(0,box (zh p)),(1,box (zh t))])
      (fun i X=>rmL p.args t.args L=(if X.2=true then rmL (p.args.drop i) (t.args.drop i) X.1 else ([],false))∧aok X.1∧X.1.length+Ty.sizes (p.args.drop i)≤L.length+Ty.sizes p.args) (L,true)
      (Less.auto (by simp) (by simp[e1,e2,e3,e4]) rfl rfl) ⟨by simp,hL,by simp⟩ ?_ ?_
     · rintro ⟨R,b⟩ ⟨h1,h2,h3⟩ K
       simp only[List.drop_length]at h1
       cases b with
       | false =>
         rw[if_neg (show ¬ false=true by decide)]at h1
         rw[h1]
         simp[fS96l0,zei,zeh,zeg,zef,zee,zed,zec,zeb,zea,zdZ,zbD,zbC,zbB,zek,zbA,zej,zb9,zb8,zb7,fS96,hE]
         refine LessQ.mk (Less.auto (TL:=[(8,.bool false)]) (HL:=[]) (n:=0) (by simp) (by simp) rfl rfl) ?_
         simp[zei,zeh,zeg,zef,zee,zed,zec,zeb,zea,zdZ,zbD,zbC,zbB,zek,zbA,zej,zb9,zb8,zb7,fS96,hE]
       | true =>
         rw[if_pos rfl,show rmL [] (t.args.drop p.args.length) R=(R,true) by unfold rmL;rw[mtL_nil];rfl]at h1
         rw[h1]
         simp[fS96l0,zei,zeh,zeg,zef,zee,zed,zec,zeb,zea,zdZ,zbD,zbC,zbB,zek,zbA,zej,zb9,zb8,zb7,fS96,hE]
         refine LessQ.mk (Less.auto (TL:=[(2,.sl (R.map zf) false),(8,.bool true)]) (HL:=[]) (n:=0) (by simp) (by simp) rfl rfl) ?_
         simp[zei,zeh,zeg,zef,zee,zed,zec,zeb,zea,zdZ,zbD,zbC,zbB,zek,zbA,zej,zb9,zb8,zb7,fS96,hE]
     · rintro i ⟨R,b⟩ hi ⟨h1,h2,h3⟩ K hK
       simp only at h1 h2 h3
       have hi':(i:Int)<p.args.length:=by omega
       have hw2:IntKind.i64.wrap ((i:Int)+1)=((i+1:Nat):Int):=zq (by omega)
       have hm5:(i*5) / 5=i:=by omega
       have hm6:(i*5) % 5=0:=by omega
       cases b with
       | false =>
         rw[if_neg (show ¬ false=true by decide)]at h1
         rw[h1]
         simp[fS96l0,zei,zeh,zeg,zef,zee,zed,zec,zeb,zea,zdZ,zbD,zbC,zbB,zek,zbA,zej,zb9,zb8,zb7,fS96,hE,hi,hi']
         refine LessQ.mk (Less.auto (TL:=[(8,.bool false)]) (HL:=[]) (n:=0) (by simp) (by simp) rfl rfl) ?_
         simp[zei,zeh,zeg,zef,zee,zed,zec,zeb,zea,zdZ,zbD,zbC,zbB,zek,zbA,zej,zb9,zb8,zb7,fS96,hE]
       | true =>
         have hit:i<t.args.length:=by omega
         have hit':(i:Int)<t.args.length:=by omega
         rw[if_pos rfl,List.drop_eq_getElem_cons hi,List.drop_eq_getElem_cons hit,rmL_cons]at h1
         rw[List.drop_eq_getElem_cons hi,Ty.sizes]at h3
         have hmp:=List.getElem_mem hi
         have hmt:=List.getElem_mem hit
         have hsp:=Ty.size_mem hmp
         have hF:rmF d p.args[i] t.args[i] R=some (rmM p.args[i] t.args[i] R):=if_pos ⟨Ty.ok_arg hpo hmp,Ty.ok_arg hto hmt,h2,by omega,by omega⟩
         have hml:=mt_len (p:=p.args[i]) (t:=t.args[i]) (s:=R)
         have hma:=mt_aok (p:=p.args[i]) (t:=t.args[i]) (s:=R) (Ty.ok_arg hto hmt) h2
         have hrr:aok (rmM p.args[i] t.args[i] R).1∧(rmM p.args[i] t.args[i] R).1.length≤R.length+p.args[i].size:=by
          unfold rmM
          by_cases hb:(mtM p.args[i] t.args[i] R).2=true
          · rw[if_pos hb];exact⟨hma,hml.2⟩
          · rw[if_neg hb];exact⟨fun a ha=>(by cases ha),Nat.zero_le _⟩
         rcases hq:rmM p.args[i] t.args[i] R with⟨R2,b2⟩
         rw[hq]at hF h1 hrr
         simp only at h1 hrr
         have hnew:=hK (R2,b2) ⟨h1,hrr.1,by show R2.length+_≤_;omega⟩
         generalize hpx:p.args[i]=px at hF
         generalize htx:t.args[i]=tx at hF
         simp[fS96l0,zei,zeh,zeg,zef,zee,zed,zec,zeb,zea,zdZ,zbD,zbC,zbB,zek,zbA,zej,zb9,zb8,zb7,fS96,hE,hi,hi',hit,hit',hm5,hm6,hpx,htx,hc,hF,hw2,-Int.natCast_add]
         exact hnew _ _ (Less.auto (by simp[-Int.natCast_add]) (by simp) rfl rfl)
   · rw [if_neg hsame]at hE2
     have hres:rmM p t L=([],false):=by unfold rmM;rw[hE2];simp
     rw[hres]
     have hns:¬ (p.kind=t.kind∧p.name=t.name∧p.id=t.id∧p.home=t.home∧p.args.length=t.args.length):=fun h=>hsame (same_iff.2 h)
     by_cases e1:p.kind=t.kind
     · by_cases e2:p.name=t.name
       · by_cases e3:p.id=t.id
         · by_cases e4:p.home=t.home
           · have e5:¬ p.args.length=t.args.length:=fun h=>hns ⟨e1,e2,e3,e4,h⟩
             have e5':¬ (p.args.length:Int)=t.args.length:=by omega
             have hk2:¬ t.kind=1:=by rw[← e1];exact hk
             simp[zei,zeh,zeg,zef,zee,zed,zec,zeb,zea,zdZ,zbD,zbC,zbB,zek,zbA,zej,zb9,zb8,zb7,fS96,hE,hk,hk2,e1,e2,e3,e4,e5,e5']
           · have hk2:¬ t.kind=1:=by rw[← e1];exact hk
             simp[zei,zeh,zeg,zef,zee,zed,zec,zeb,zea,zdZ,zbD,zbC,zbB,zek,zbA,zej,zb9,zb8,zb7,fS96,hE,hk,hk2,e1,e2,e3,e4]
         · have hk2:¬ t.kind=1:=by rw[← e1];exact hk
           simp[zei,zeh,zeg,zef,zee,zed,zec,zeb,zea,zdZ,zbD,zbC,zbB,zek,zbA,zej,zb9,zb8,zb7,fS96,hE,hk,hk2,e1,e2,e3]
       · have hk2:¬ t.kind=1:=by rw[← e1];exact hk
         simp[zei,zeh,zeg,zef,zee,zed,zec,zeb,zea,zdZ,zbD,zbC,zbB,zek,zbA,zej,zb9,zb8,zb7,fS96,hE,hk,hk2,e1,e2]
     · simp[zei,zeh,zeg,zef,zee,zed,zec,zeb,zea,zdZ,zbD,zbC,zbB,zek,zbA,zej,zb9,zb8,zb7,fS96,hE,hk,e1]
end
theorem vHas13:Valid ρ Tryz.prog 92 zoK:=v2 (fo Tryz.func92 fB92) fun a b r h hs=>by
 obtain⟨h1,rfl⟩:=z8 h
 exact ref13_has_run hρ (E:=EL []) rfl (zg valid_nil) h1 hs
theorem vApply13:Valid ρ Tryz.prog 88 zlV:=v2 (fo Tryz.func88 fB88) fun a b r h hs=>by
 obtain⟨⟨h1,h2,h3⟩,rfl⟩:=z8 h
 exact zo7 hρ (E:=EL [(25,fnS (zD (replF 10000)))]) rfl (zg (za (vReplace hρ 10000) valid_nil)) rfl h1 h2 h3 hs
theorem vMatch13(d:Nat):Valid ρ Tryz.prog 96 (fnS (zfY (rmF d))):=by
 induction d with
 | zero =>
   refine v3 (fo Tryz.func96 fB96) fun a b c r h hs=>?_
   obtain⟨⟨h1,h2,h3,h4,h5⟩,rfl⟩:=z8 h
   have:=Ty.size_pos a
   omega
 | succ d ih =>
   refine v3 (fo Tryz.func96 fB96) fun a b c r h hs=>?_
   obtain⟨⟨h1,h2,h3,h4,h5⟩,rfl⟩:=z8 h
   exact zo6 hρ (E:=EL [(96,fnS (zfY (rmF d))),(92,zoK),(88,zlV),(23,zp3)]) rfl
    (zg (za ih (za (vHas13 hρ) (za (vApply13 hρ) (za (vEqual hρ) valid_nil))))) rfl rfl rfl rfl h1 h2 h3 h4 h5 hs
end
end Go.Proofs.YthfcfmkdeheicaaGreat
