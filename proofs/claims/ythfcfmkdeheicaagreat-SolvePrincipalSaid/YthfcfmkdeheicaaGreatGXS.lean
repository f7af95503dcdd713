import Derived.Test.YthfcfmkdeheicaaGreatGX7
import Derived.Test.YthfcfmkdeheicaaGreatGXR
set_option linter.all false
noncomputable section
/- How one substitution factors through another: in the program and in the reference. -/
namespace Go.Proofs.YthfcfmkdeheicaaGreat
open Go.J
open Go.J.Enc (enc)
set_option maxRecDepth 100000
set_option maxHeartbeats 1000000
def szS(s:List Assign):List Int→Nat
 | []=>0
 |i::l=>((zA i).repl s).size+szS s l
structure GfS(s o:List Assign)(ids:List Int):Prop where
 so:okA s
 oo:okA o
 sl:s.length≤8000
 ol:o.length≤8000
 il:ids.length≤100
 sz:szS s ids≤7000
def gfR(s o:List Assign)(ids:List Int):List Assign×Bool:=if (fcL s o ids []).2=true then ((fcL s o ids []).1,true)else ([],false)
open Classical in
def gfF(s o:List Assign)(ids:List Int):Option (List Assign×Bool):=if GfS s o ids then some (gfR s o ids)else none
theorem zoj(i:Int):(zA i).vplain=true:=by simp[zA,Ty.vplain,Ty.vplains]
def fsT(s o:List Assign)(ids:List Int)(i:Nat):Option (List Assign)→List (Nat×V)
 |some A=>[(0,.sl (s.map zf) false),(1,.sl (o.map zf) false),(2,.sl (ids.map encI) false),(8,slV i A),(9,.bool true),(10,.int .i64 (i:Int))]
 |none=>[(2,.sl (ids.map encI) false),(9,.bool false),(10,.int .i64 (i:Int))]
section
variable {ρ:Nat→Value}(hρ:J.Good ρ)
include hρ
section
variable {E:Env}(hE:E.P=Tryz.prog)(hcon:ConsOk ρ E)
include hE hcon
theorem zn9 (hv:E.con 86=fnS (zan fun i:Int=>some (zA i))) (hA:E.con 95=fnS (zD sapF)) (hM:E.con 131=rxS 6 true (rwF (smF 7000))) {s o:List Assign} {ids:List Int} (h:GfS s o ids) (hs:HS) :
 CallOk ρ Tryz.prog 97 [enc s,enc o,enc ids] hs (enc (gfR s o ids)) hs:=by
 refine fn hρ hE hcon Tryz.func97 fB97 rfl (by simp) ?_ hs
 obtain⟨h2,h3,h4,h5,h6,h7⟩:=h
 unfold gfR
 rcases hR:fcL s o ids []with⟨R,b⟩
 simp only
 simp[zgl,zgk,zgj,zgi,zgh,zgg,zgf,zge,zgd,zgn,zgc,zgm,zdy,fS97,hE]
 refine lpi hρ hE hcon ids.length (nn:=1) (fun i (A:List Assign)=>[(0,.sl (s.map zf) false),(1,.sl (o.map zf) false),(8,oV 0 (A.map zf)),(12,.sl (ids.map encI) false),(13,.int .i64 (ids.length:Int)),(14,.int .i64 (i:Int))]) (fun i A=>oH 0 6 (A.map zf))
  (fun i A=>fcL s o (ids.drop i) A=(R,b)∧okA A∧A.length+szS s (ids.drop i)≤7000) [] (Less.auto (by simp) (by simp) (by first|rfl|simp) (by first|rfl|simp)) ⟨by simpa using hR,fun a ha=>(by cases ha),by simpa using h7⟩ ?_ ?_
 · rintro A ⟨g1,g2,g3⟩ K
   rw[List.drop_length,fcL]at g1
   cases g1
   rcases R with _|⟨y,R⟩
   all_goals
    simp[zmU,zgl,zgk,zgj,zgi,zgh,zgg,zgf,zge,zgd,zgn,zgc,zgm,zdy,fS97,hE]
    first
     | refine LessQ.mk (Less.auto (TL:=[(8,.snil)]) (HL:=[]) (n:=1) (by simp) (by simp) (by first|rfl|simp) (by first|rfl|simp)) ?_
       simp[zgl,zgk,zgj,zgi,zgh,zgg,zgf,zge,zgd,zgn,zgc,zgm,zdy,fS97,hE]
       done
     | refine LessQ.mk (Less.auto (TL:=[(8,oV 0 ((y::R).map zf))]) (HL:=oH 0 6 ((y::R).map zf)) (n:=1) (by simp) (by simp) (by first|rfl|simp) (by first|rfl|simp)) ?_
       simp[zgl,zgk,zgj,zgi,zgh,zgg,zgf,zge,zgd,zgn,zgc,zgm,zdy,fS97,hE]
 · rintro i A hi ⟨g1,g2,g3⟩ K hK
   have hi':(i:Int)<ids.length:=by omega
   have hw2:IntKind.i64.wrap ((i:Int)+1)=((i+1:Nat):Int):=zq (by omega)
   rw[List.drop_eq_getElem_cons hi,fcL]at g1
   rw[List.drop_eq_getElem_cons hi,szS]at g3
   obtain⟨x,hx⟩:∃ x,ids[i]=x:=⟨_,rfl⟩
   rw[hx]at g1 g3
   have op:=zhh h2 (zA x) (ziB x)
   have ot:=zhh h3 (zA x) (ziB x)
   have f1:sapF s (zA x)=some ((zA x).repl s):=if_pos ⟨ziB x,zoj x,by omega⟩
   have f2:sapF o (zA x)=some ((zA x).repl o):=if_pos ⟨ziB x,zoj x,by omega⟩
   generalize (zA x).repl s=p at f1 g1 g3 op
   generalize (zA x).repl o=t at f2 g1 ot
   simp only[zA]at f1 f2
   have hml:=mt_len (p:=p) (t:=t) (s:=A)
   have hma:=mt_aok (p:=p) (t:=t) (s:=A) ot g2
   have f3:smF 7000 p t A=some (mtM p t A):=if_pos ⟨op,ot,g2,by omega,by omega⟩
   rcases hq:mtM p t A with⟨A2,b2⟩
   rw[hq]at f3 g1 hml hma
   simp only at g1 hml hma
   have hlr:A.length≤A2.length:=hml.1
   cases b2 with
   | true =>
     rw[if_pos rfl]at g1
     have hnew:=hK A2 ⟨g1,hma,by omega⟩
     clear hK g1 hma hq hR
     rcases A with _|⟨y,A⟩
     · rcases A2 with _|⟨z,A2⟩
       · simp[zmU,zgl,zgk,zgj,zgi,zgh,zgg,zgf,zge,zgd,zgn,zgc,zgm,zdy,fS97,hE,hi,hi',hx,hv,zA,hA,f1,f2,hM,f3,hw2,-Int.natCast_add]
         exact hnew _ _ (Less.auto (by simp[-Int.natCast_add]) (by simp) (by first|rfl|simp) (by first|rfl|simp))
       · simp[zmU,zgl,zgk,zgj,zgi,zgh,zgg,zgf,zge,zgd,zgn,zgc,zgm,zdy,fS97,hE,hi,hi',hx,hv,zA,hA,f1,f2,hM,f3,hw2,-Int.natCast_add]
         exact hnew _ _ (Less.auto (by simp[-Int.natCast_add]) (by simp) (by first|rfl|simp) (by first|rfl|simp))
     · rcases A2 with _|⟨z,A2⟩
       · simp at hlr
       · have hlr2:A.length≤A2.length:=by simpa using hlr
         simp[zmU,zgl,zgk,zgj,zgi,zgh,zgg,zgf,zge,zgd,zgn,zgc,zgm,zdy,fS97,hE,hi,hi',hx,hv,zA,hA,f1,f2,hM,f3,hw2,hlr2,-Int.natCast_add]
         exact hnew _ _ (Less.auto (by simp[-Int.natCast_add]) (by simp) (by first|rfl|simp) (by first|rfl|simp))
   | false =>
     rw[if_neg (by decide)]at g1
     cases g1
     clear hK hq hR
     rcases A with _|⟨y,A⟩
     · rcases R with _|⟨z,R⟩
       · simp[zmU,zgl,zgk,zgj,zgi,zgh,zgg,zgf,zge,zgd,zgn,zgc,zgm,zdy,fS97,hE,hi,hi',hx,hv,zA,hA,f1,f2,hM,f3,hw2,-Int.natCast_add]
         refine LessQ.mk (Less.auto (TL:=[(6,.snil),(7,.bool false)]) (HL:=[]) (n:=0) (by simp) (by simp) (by first|rfl|simp) (by first|rfl|simp)) ?_
         simp[zgl,zgk,zgj,zgi,zgh,zgg,zgf,zge,zgd,zgn,zgc,zgm,zdy,fS97,hE]
       · simp[zmU,zgl,zgk,zgj,zgi,zgh,zgg,zgf,zge,zgd,zgn,zgc,zgm,zdy,fS97,hE,hi,hi',hx,hv,zA,hA,f1,f2,hM,f3,hw2,-Int.natCast_add]
         refine LessQ.mk (Less.auto (TL:=[(6,.snil),(7,.bool false)]) (HL:=[]) (n:=0) (by simp) (by simp) (by first|rfl|simp) (by first|rfl|simp)) ?_
         simp[zgl,zgk,zgj,zgi,zgh,zgg,zgf,zge,zgd,zgn,zgc,zgm,zdy,fS97,hE]
     · rcases R with _|⟨z,R⟩
       · simp at hlr
       · have hlr2:A.length≤R.length:=by simpa using hlr
         simp[zmU,zgl,zgk,zgj,zgi,zgh,zgg,zgf,zge,zgd,zgn,zgc,zgm,zdy,fS97,hE,hi,hi',hx,hv,zA,hA,f1,f2,hM,f3,hw2,hlr2,-Int.natCast_add]
         refine LessQ.mk (Less.auto (TL:=[(6,.snil),(7,.bool false)]) (HL:=[]) (n:=0) (by simp) (by simp) (by first|rfl|simp) (by first|rfl|simp)) ?_
         simp[zgl,zgk,zgj,zgi,zgh,zgg,zgf,zge,zgd,zgn,zgc,zgm,zdy,fS97,hE]
theorem zmq (hv:E.con 52=fnS (zan fun i:Int=>some (zA i))) (hA:E.con 88=fnS (zD zlU)) (hM:E.con 96=fnS (zfY (rmF 7000))) {s o:List Assign} {ids:List Int} (h:GfS s o ids) (hs:HS) :
 CallOk ρ Tryz.prog 40 [enc s,enc o,enc ids] hs (enc (gfR s o ids)) hs:=by
 refine fn hρ hE hcon Tryz.func40 fB40 rfl (by simp) ?_ hs
 obtain⟨h2,h3,h4,h5,h6,h7⟩:=h
 unfold gfR
 rcases hR:fcL s o ids []with⟨R,b⟩
 simp only
 simp[zgx,zgw,zgv,zgu,zgt,zgs,zgz,zgr,zgy,zgq,zgp,zgo,fS40,hE]
 refine lpi hρ hE hcon ids.length (nn:=0) (fun i st=>fsT s o ids i st) (fun i _=>[])
  (fun i st=>(∃ A,st=some A∧fcL s o (ids.drop i) A=(R,b)∧okA A∧A.length+szS s (ids.drop i)≤7000∧(i=0→A=[]))∨(st=none∧b=false)) (some []) (Less.auto (by simp[slV,fsT]) (by simp) (by simp) (by simp)) (.inl ⟨[],rfl,by simpa using hR,fun a ha=>(by cases ha),by simpa using h7,fun _=>rfl⟩) ?_ ?_
 · rintro st (⟨A,rfl,g1,g2,g3,g4⟩|⟨rfl,rfl⟩) K
   · rw[List.drop_length,fcL]at g1
     cases g1
     cases hn:ids.length with
     | zero =>
       have hR0:R=[]:=g4 hn
       subst hR0
       simp[zlI,zgx,zgw,zgv,zgu,zgt,zgs,zgz,zgr,zgy,zgq,zgp,zgo,fS40,hE,hn,slV,fsT]
       refine LessQ.mk (Less.auto (TL:=[(8,.snil),(9,.bool true)]) (HL:=[]) (n:=0) (by simp) (by simp) (by simp) (by simp)) ?_
       simp[zgx,zgw,zgv,zgu,zgt,zgs,zgz,zgr,zgy,zgq,zgp,zgo,fS40,hE]
     | succ n =>
       simp[zlI,zgx,zgw,zgv,zgu,zgt,zgs,zgz,zgr,zgy,zgq,zgp,zgo,fS40,hE,hn,slV,fsT]
       refine LessQ.mk (Less.auto (TL:=[(8,.sl (R.map zf) false),(9,.bool true)]) (HL:=[]) (n:=0) (by simp) (by simp) (by simp) (by simp)) ?_
       simp[zgx,zgw,zgv,zgu,zgt,zgs,zgz,zgr,zgy,zgq,zgp,zgo,fS40,hE]
   · simp[zlI,zgx,zgw,zgv,zgu,zgt,zgs,zgz,zgr,zgy,zgq,zgp,zgo,fS40,hE,slV,fsT]
     refine LessQ.mk (Less.auto (TL:=[(9,.bool false)]) (HL:=[]) (n:=0) (by simp) (by simp) (by simp) (by simp)) ?_
     simp[zgx,zgw,zgv,zgu,zgt,zgs,zgz,zgr,zgy,zgq,zgp,zgo,fS40,hE]
 · rintro i st hi hst K hK
   have hi':(i:Int)<ids.length:=by omega
   have hw2:IntKind.i64.wrap ((i:Int)+1)=((i+1:Nat):Int):=zq (by omega)
   rcases hst with⟨A,rfl,g1,g2,g3,g4⟩|⟨rfl,rfl⟩
   · rw [List.drop_eq_getElem_cons hi,fcL]at g1
     rw[List.drop_eq_getElem_cons hi,szS]at g3
     obtain⟨x,hx⟩:∃ x,ids[i]=x:=⟨_,rfl⟩
     rw[hx]at g1 g3
     have op:=zhh h2 (zA x) (ziB x)
     have ot:=zhh h3 (zA x) (ziB x)
     have f1:zlU s (zA x)=some ((zA x).repl s):=if_pos ⟨ziB x,by omega⟩
     have f2:zlU o (zA x)=some ((zA x).repl o):=if_pos ⟨ziB x,by omega⟩
     generalize (zA x).repl s=p at f1 g1 g3 op
     generalize (zA x).repl o=t at f2 g1 ot
     simp only[zA]at f1 f2
     have hml:=(mt_len (p:=p) (t:=t) (s:=A)).2
     have hma:=mt_aok (p:=p) (t:=t) (s:=A) ot g2
     have f3:rmF 7000 p t A=some (rmM p t A):=if_pos ⟨op,ot,g2,by omega,by omega⟩
     by_cases hm:(mtM p t A).2=true
     · rw[if_pos hm]at g1
       have hnew:=hK (some (mtM p t A).1) (.inl ⟨_,rfl,g1,hma,by omega,fun h=>(by omega)⟩)
       have f4:rmF 7000 p t A=some ((mtM p t A).1,true):=by
        rw[f3];unfold rmM;rw[if_pos hm,← hm]
       clear hK g1 hma hml hm f3
       generalize (mtM p t A).1=A2 at f4 hnew
       rcases i with _|i
       · have hA0:A=[]:=g4 rfl
         subst hA0
         simp[zlI,zgx,zgw,zgv,zgu,zgt,zgs,zgz,zgr,zgy,zgq,zgp,zgo,fS40,hE,hi,hi',hx,hv,zA,hA,f1,f2,hM,f4,hw2,slV,fsT,-Int.natCast_add]
         exact hnew _ _ (Less.auto (by simp[slV,fsT,show IntKind.i64.wrap 1=1 from rfl,-Int.natCast_add]) (by simp) (by simp) (by simp))
       · simp[zlI,zgx,zgw,zgv,zgu,zgt,zgs,zgz,zgr,zgy,zgq,zgp,zgo,fS40,hE,hi,hi',hx,hv,zA,hA,f1,f2,hM,f4,hw2,slV,fsT,-Int.natCast_add]
         exact hnew _ _ (Less.auto (by simp[slV,fsT,-Int.natCast_add]) (by simp) (by simp) (by simp))
     · rw[if_neg hm]at g1
       have hb:b=false:=(congrArg Prod.snd g1).symm
       have hnew:=hK none (.inr ⟨rfl,hb⟩)
       have f4:rmF 7000 p t A=some ([],false):=by
        rw[f3];unfold rmM;rw[if_neg hm]
       clear hK g1 hma hml hm f3
       rcases i with _|i
       · have hA0:A=[]:=g4 rfl
         subst hA0
         simp[zlI,zgx,zgw,zgv,zgu,zgt,zgs,zgz,zgr,zgy,zgq,zgp,zgo,fS40,hE,hi,hi',hx,hv,zA,hA,f1,f2,hM,f4,hw2,slV,fsT,-Int.natCast_add]
         exact hnew _ _ (Less.auto (by simp[slV,fsT,show IntKind.i64.wrap 1=1 from rfl,-Int.natCast_add]) (by simp) (by simp) (by simp))
       · simp[zlI,zgx,zgw,zgv,zgu,zgt,zgs,zgz,zgr,zgy,zgq,zgp,zgo,fS40,hE,hi,hi',hx,hv,zA,hA,f1,f2,hM,f4,hw2,slV,fsT,-Int.natCast_add]
         exact hnew _ _ (Less.auto (by simp[slV,fsT,-Int.natCast_add]) (by simp) (by simp) (by simp))
   · simp[zlI,zgx,zgw,zgv,zgu,zgt,zgs,zgz,zgr,zgy,zgq,zgp,zgo,fS40,hE,hi,hi',slV,fsT]
     refine LessQ.mk (Less.auto (TL:=[(9,.bool false)]) (HL:=[]) (n:=0) (by simp) (by simp) (by simp) (by simp)) ?_
     simp[zgx,zgw,zgv,zgu,zgt,zgs,zgz,zgr,zgy,zgq,zgp,zgo,fS40,hE]
end
theorem vFactorS:Valid ρ Tryz.prog 97 (fnS (zfY gfF)):=v3 (fo Tryz.func97 fB97) fun a b c r h hs=>by
 obtain⟨h1,rfl⟩:=z8 h
 exact zn9 hρ (E:=EL [(86,fnS (zan fun i:Int=>some (zA i))),(95,fnS (zD sapF)),(131,rxS 6 true (rwF (smF 7000)))]) rfl (zg (za (vTVar hρ) (za (vSApply hρ) (za (vSMatch hρ 7000) valid_nil)))) rfl rfl rfl h1 hs
theorem vFactorG:Valid ρ Tryz.prog 40 (fnS (zfY gfF)):=v3 (fo Tryz.func40 fB40) fun a b c r h hs=>by
 obtain⟨h1,rfl⟩:=z8 h
 exact zmq hρ (E:=EL [(52,fnS (zan fun i:Int=>some (zA i))),(88,fnS (zD zlU)),(96,fnS (zfY (rmF 7000)))]) rfl (zg (za (vVar hρ) (za (vApplyU hρ) (za (vMatch13 hρ 7000) valid_nil)))) rfl rfl rfl h1 hs
end
end Go.Proofs.YthfcfmkdeheicaaGreat
/- When a solution is principal: in the program and in the reference. -/
namespace Go.Proofs.YthfcfmkdeheicaaGreat
open Go.J
open Go.J.Enc (enc)
set_option maxRecDepth 100000
set_option maxHeartbeats 1000000
structure PrC(s:List Assign)(l:List Equation)(o:List Assign):Prop where
 us:UnC s l
 uo:UnC o l
 gf:GfS s o (zN (sides l))
 sz:Ty.sizes (sides l)≤8000
def prR(s:List Assign)(l:List Equation)(o:List Assign):Bool:=if l.any (neB s)=true∨l.any (neB o)=true then false else (gfR s o (zN (sides l))).2
open Classical in
def prF(s:List Assign)(l:List Equation)(o:List Assign):Option Bool:=if PrC s l o then some (prR s l o)else none
theorem prC_ev{s:List Assign}{l:List Equation}{o:List Assign}(h:PrC s l o):evF l=some (zN (sides l))∧ev18F l=some (zN (sides l)):=by
 have hp:∀ t∈sides l,t.ok=true∧t.vplain=true:=fun t ht=>by
  obtain⟨q,hq,e⟩:=sides_mem ht
  obtain⟨h1,h2⟩:=h.us.sd q hq
  rcases e with rfl|rfl
  · exact h1
  · exact h2
 have ho:Ty.oks (sides l)=true:=Ty.oks_iff.2 fun t ht=>(hp t ht).1
 have hl:=h.us.ll
 have hsz:=h.sz
 have hll:=(zbx 1 (sides l) []).2
 simp only[List.length_nil]at hll
 refine⟨?_,if_pos ⟨ho,hl,by omega⟩⟩
 rw[zlf (zb5 _ (vplains_iff.2 fun t ht=>(hp t ht).2))]
 exact if_pos ⟨ho,hl,by omega⟩
section
variable {ρ:Nat→Value}(hρ:J.Good ρ)
include hρ
section
variable {E:Env}(hE:E.P=Tryz.prog)(hcon:ConsOk ρ E)
include hE hcon
theorem zjY(hu:E.con 38=fnS (zD unF))(hv:E.con 43=fnS (zan evF))(hf:E.con 97=fnS (zfY gfF)){s o:List Assign}{l:List Equation}(h:PrC s l o)(hs:HS) :
 CallOk ρ Tryz.prog 41 [enc s,enc l,enc o] hs (enc (prR s l o)) hs:=by
 refine fn hρ hE hcon Tryz.func41 fB41 rfl (by simp) ?_ hs
 have f1:unF s l=some (!(l.any (neB s))):=if_pos h.us
 have f2:unF o l=some (!(l.any (neB o))):=if_pos h.uo
 have f3:=(prC_ev h).1
 have f4:gfF s o (zN (sides l))=some (gfR s o (zN (sides l))):=if_pos h.gf
 unfold prR
 generalize zN (sides l)=W at f3 f4
 rcases hg:gfR s o W with⟨R,b⟩
 rw[hg]at f4
 clear h
 cases h1:l.any (neB s)<;>cases h2:l.any (neB o)<;>rw[h1]at f1<;>rw[h2]at f2<;>simp[fS41r0,fS41r1,fS41r2,fS41r3,fS41r4,fS41,hE,hu,f1,f2,hv,f3,hf,f4]
end
theorem vPrincipal:Valid ρ Tryz.prog 41 (fnS (zfY prF)):=v3 (fo Tryz.func41 fB41) fun a b c r h hs=>by
 obtain⟨h1,rfl⟩:=z8 h
 exact zjY hρ (E:=EL [(38,fnS (zD unF)),(43,fnS (zan evF)),(97,fnS (zfY gfF))]) rfl (zg (za (vUnifies hρ) (za (vEqVars hρ) (za (vFactorS hρ) valid_nil)))) rfl rfl rfl h1 hs
end
end Go.Proofs.YthfcfmkdeheicaaGreat
/- The law SolveChecks: what its function computes. -/
namespace Go.Proofs.YthfcfmkdeheicaaGreat
open Go.J
open Go.J.Enc (enc)
set_option maxRecDepth 100000
set_option maxHeartbeats 1000000
theorem szS_le{s:List Assign}{B:Nat}:∀ (W:List Int),(∀ i∈W,(fnA s i).size≤B)→szS s W≤W.length*B:=by
 intro W
 induction W with
 |nil=>intro _;simp[szS]
 | cons i W ih =>
   intro h
   have h1:=h i (List.mem_cons_self ..)
   have h2:=ih fun j hj=>h j (List.mem_cons_of_mem _ hj)
   rw[szS,zo3,List.length_cons,Nat.add_mul]
   omega
theorem unC_of{x:List Assign}{l:List Equation}(hok:EqsOk l)(ox:okA x)(lx:x.length≤100):UnC x l :=
 ⟨ox,by omega,fun q hq=>⟨⟨hok.ok _ (ziE hq).1,(hok.eq q hq).1.1⟩,hok.ok _ (ziE hq).2,(hok.eq q hq).2.1⟩,by have:=hok.len;omega⟩
theorem prC_of{x y:List Assign}{l:List Equation}(hok:EqsOk l)(hW:(zN (sides l)).length≤7)(ox:okA x)(oy:okA y)(lx:x.length≤100)(ly:y.length≤100)(hz:∀ i∈zN (sides l),(fnA x i).size≤1000):PrC x l y:=by
 have h1:=szS_le (s:=x) _ hz
 have h2:=Nat.mul_le_mul_right 1000 hW
 exact⟨unC_of hok ox lx,unC_of hok oy ly,⟨ox,oy,by omega,by omega,by omega,by omega⟩,by have:=hok.sz;omega⟩
section
variable {ρ:Nat→Value}(hρ:J.Good ρ){E:Env}(hE:E.P=Tryz.prog)(hcon:ConsOk ρ E)
include hρ hE hcon
end
end Go.Proofs.YthfcfmkdeheicaaGreat
