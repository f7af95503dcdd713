import Derived.Test.YthfcfmkdeheicaaGreatGX7
import Derived.Test.YthfcfmkdeheicaaGreatGXR
set_option linter.all false
noncomputable section
/- How one substitution factors through another: in the program and in the reference. -/
namespace Go.Proofs.YthfcfmkdeheicaaGreat
open Go.J
open Go.J.Enc (enc)
set_option maxRecDepth 100000
set_option maxHeartbeats 1000000
def szS(s:List Assign):List Int→Nat
 | []=>0
 |i::l=>((tVar i).repl s).size+szS s l
structure GfS(s o:List Assign)(ids:List Int):Prop where
 so:okA s
 oo:okA o
 sl:s.length≤8000
 ol:o.length≤8000
 il:ids.length≤100
 sz:szS s ids≤7000
def gfR(s o:List Assign)(ids:List Int):List Assign×Bool:=if (fcL s o ids []).2=true then ((fcL s o ids []).1,true)else ([],false)
open Classical in
def gfF(s o:List Assign)(ids:List Int):Option (List Assign×Bool):=if GfS s o ids then some (gfR s o ids)else none
theorem tVar_vplain(i:Int):(tVar i).vplain=true:=by simp[tVar,Ty.vplain,Ty.vplains]
def fsT(s o:List Assign)(ids:List Int)(i:Nat):Option (List Assign)→List (Nat×V)
 |some A=>[(0,.sl (s.map encAssign) false),(1,.sl (o.map encAssign) false),(2,.sl (ids.map encI) false),(8,slV i A),(9,.bool true),(10,.int .i64 (i:Int))]
 |none=>[(2,.sl (ids.map encI) false),(9,.bool false),(10,.int .i64 (i:Int))]
section
variable {ρ:Nat→Value}(hρ:J.Good ρ)
include hρ
section
variable {E:Env}(hE:E.P=Tryz.prog)(hcon:ConsOk ρ E)
include hE hcon
theorem subst_Factor_run (hv:E.con 86=fnS (spec1 fun i:Int=>some (tVar i))) (hA:E.con 95=fnS (spec2 sapF)) (hM:E.con 131=rxS 6 true (rwF (smF 7000))) {s o:List Assign} {ids:List Int} (h:GfS s o ids) (hs:HS) :
 CallOk ρ Tryz.prog 97 [enc s,enc o,enc ids] hs (enc (gfR s o ids)) hs:=by
 refine fn hρ hE hcon Tryz.func97 fB97 rfl (by simp) ?_ hs
 obtain⟨h2,h3,h4,h5,h6,h7⟩:=h
 unfold gfR
 rcases hR:fcL s o ids []with⟨R,b⟩
 simp only
 simp[fS97r0,fS97r1,fS97r2,fS97r3,fS97r4,fS97r5,fS97r6,fS97r7,fS97r8,fS97b0,fS97r9,fS97b1,fS97r10,fS97,hE]
 refine lpi hρ hE hcon ids.length (nn:=1) (fun i (A:List Assign)=>[(0,.sl (s.map encAssign) false),(1,.sl (o.map encAssign) false),(8,oV 0 (A.map encAssign)),(12,.sl (ids.map encI) false),(13,.int .i64 (ids.length:Int)),(14,.int .i64 (i:Int))]) (fun i A=>oH 0 6 (A.map encAssign))
  (fun i A=>fcL s o (ids.drop i) A=(R,b)∧okA A∧A.length+szS s (ids.drop i)≤7000) [] (Less.auto (by simp) (by simp) (by first|rfl|simp) (by first|rfl|simp)) ⟨by simpa using hR,fun a ha=>(by cases ha),by simpa using h7⟩ ?_ ?_
 · rintro A ⟨g1,g2,g3⟩ K
   rw[List.drop_length,fcL]at g1
   cases g1
   rcases R with _|⟨y,R⟩
   all_goals
    simp[fS97l0,fS97r0,fS97r1,fS97r2,fS97r3,fS97r4,fS97r5,fS97r6,fS97r7,fS97r8,fS97b0,fS97r9,fS97b1,fS97r10,fS97,hE]
    first
     | refine LessQ.mk (Less.auto (TL:=[(8,.snil)]) (HL:=[]) (n:=1) (by simp) (by simp) (by first|rfl|simp) (by first|rfl|simp)) ?_
       simp[fS97r0,fS97r1,fS97r2,fS97r3,fS97r4,fS97r5,fS97r6,fS97r7,fS97r8,fS97b0,fS97r9,fS97b1,fS97r10,fS97,hE]
       done
     | refine LessQ.mk (Less.auto (TL:=[(8,oV 0 ((y::R).map encAssign))]) (HL:=oH 0 6 ((y::R).map encAssign)) (n:=1) (by simp) (by simp) (by first|rfl|simp) (by first|rfl|simp)) ?_
       simp[fS97r0,fS97r1,fS97r2,fS97r3,fS97r4,fS97r5,fS97r6,fS97r7,fS97r8,fS97b0,fS97r9,fS97b1,fS97r10,fS97,hE]
 · rintro i A hi ⟨g1,g2,g3⟩ K hK
   have hi':(i:Int)<ids.length:=by omega
   have hw2:IntKind.i64.wrap ((i:Int)+1)=((i+1:Nat):Int):=wrap_succ (by omega)
   rw[List.drop_eq_getElem_cons hi,fcL]at g1
   rw[List.drop_eq_getElem_cons hi,szS]at g3
   obtain⟨x,hx⟩:∃ x,ids[i]=x:=⟨_,rfl⟩
   rw[hx]at g1 g3
   have op:=repl_ok h2 (tVar x) (tVar_ok x)
   have ot:=repl_ok h3 (tVar x) (tVar_ok x)
   have f1:sapF s (tVar x)=some ((tVar x).repl s):=if_pos ⟨tVar_ok x,tVar_vplain x,by omega⟩
   have f2:sapF o (tVar x)=some ((tVar x).repl o):=if_pos ⟨tVar_ok x,tVar_vplain x,by omega⟩
   generalize (tVar x).repl s=p at f1 g1 g3 op
   generalize (tVar x).repl o=t at f2 g1 ot
   simp only[tVar]at f1 f2
   have hml:=mt_len (p:=p) (t:=t) (s:=A)
   have hma:=mt_aok (p:=p) (t:=t) (s:=A) ot g2
   have f3:smF 7000 p t A=some (mtM p t A):=if_pos ⟨op,ot,g2,by omega,by omega⟩
   rcases hq:mtM p t A with⟨A2,b2⟩
   rw[hq]at f3 g1 hml hma
   simp only at g1 hml hma
   have hlr:A.length≤A2.length:=hml.1
   cases b2 with
   | true =>
     rw[if_pos rfl]at g1
     have hnew:=hK A2 ⟨g1,hma,by omega⟩
     clear hK g1 hma hq hR
     rcases A with _|⟨y,A⟩
     · rcases A2 with _|⟨z,A2⟩
       · simp[fS97l0,fS97r0,fS97r1,fS97r2,fS97r3,fS97r4,fS97r5,fS97r6,fS97r7,fS97r8,fS97b0,fS97r9,fS97b1,fS97r10,fS97,hE,hi,hi',hx,hv,tVar,hA,f1,f2,hM,f3,hw2,-Int.natCast_add]
         exact hnew _ _ (Less.auto (by simp[-Int.natCast_add]) (by simp) (by first|rfl|simp) (by first|rfl|simp))
       · simp[fS97l0,fS97r0,fS97r1,fS97r2,fS97r3,fS97r4,fS97r5,fS97r6,fS97r7,fS97r8,fS97b0,fS97r9,fS97b1,fS97r10,fS97,hE,hi,hi',hx,hv,tVar,hA,f1,f2,hM,f3,hw2,-Int.natCast_add]
         exact hnew _ _ (Less.auto (by simp[-Int.natCast_add]) (by simp) (by first|rfl|simp) (by first|rfl|simp))
     · rcases A2 with _|⟨z,A2⟩
       · simp at hlr
       · have hlr2:A.length≤A2.length:=by simpa using hlr
         simp[fS97l0,fS97r0,fS97r1,fS97r2,fS97r3,fS97r4,fS97r5,fS97r6,fS97r7,fS97r8,fS97b0,fS97r9,fS97b1,fS97r10,fS97,hE,hi,hi',hx,hv,tVar,hA,f1,f2,hM,f3,hw2,hlr2,-Int.natCast_add]
         exact hnew _ _ (Less.auto (by simp[-Int.natCast_add]) (by simp) (by first|rfl|simp) (by first|rfl|simp))
   | false =>
     rw[if_neg (by decide)]at g1
     cases g1
     clear hK hq hR
     rcases A with _|⟨y,A⟩
     · rcases R with _|⟨z,R⟩
       · simp[fS97l0,fS97r0,fS97r1,fS97r2,fS97r3,fS97r4,fS97r5,fS97r6,fS97r7,fS97r8,fS97b0,fS97r9,fS97b1,fS97r10,fS97,hE,hi,hi',hx,hv,tVar,hA,f1,f2,hM,f3,hw2,-Int.natCast_add]
         refine LessQ.mk (Less.auto (TL:=[(6,.snil),(7,.bool false)]) (HL:=[]) (n:=0) (by simp) (by simp) (by first|rfl|simp) (by first|rfl|simp)) ?_
         simp[fS97r0,fS97r1,fS97r2,fS97r3,fS97r4,fS97r5,fS97r6,fS97r7,fS97r8,fS97b0,fS97r9,fS97b1,fS97r10,fS97,hE]
       · simp[fS97l0,fS97r0,fS97r1,fS97r2,fS97r3,fS97r4,fS97r5,fS97r6,fS97r7,fS97r8,fS97b0,fS97r9,fS97b1,fS97r10,fS97,hE,hi,hi',hx,hv,tVar,hA,f1,f2,hM,f3,hw2,-Int.natCast_add]
         refine LessQ.mk (Less.auto (TL:=[(6,.snil),(7,.bool false)]) (HL:=[]) (n:=0) (by simp) (by simp) (by first|rfl|simp) (by first|rfl|simp)) ?_
         simp[fS97r0,fS97r1,fS97r2,fS97r3,fS97r4,fS97r5,fS97r6,fS97r7,fS97r8,fS97b0,fS97r9,fS97b1,fS97r10,fS97,hE]
     · rcases R with _|⟨z,R⟩
       · simp at hlr
       · have hlr2:A.length≤R.length:=by simpa using hlr
         simp[fS97l0,fS97r0,fS97r1,fS97r2,fS97r3,fS97r4,fS97r5,fS97r6,fS97r7,fS97r8,fS97b0,fS97r9,fS97b1,fS97r10,fS97,hE,hi,hi',hx,hv,tVar,hA,f1,f2,hM,f3,hw2,hlr2,-Int.natCast_add]
         refine LessQ.mk (Less.auto (TL:=[(6,.snil),(7,.bool false)]) (HL:=[]) (n:=0) (by simp) (by simp) (by first|rfl|simp) (by first|rfl|simp)) ?_
         simp[fS97r0,fS97r1,fS97r2,fS97r3,fS97r4,fS97r5,fS97r6,fS97r7,fS97r8,fS97b0,fS97r9,fS97b1,fS97r10,fS97,hE]
theorem ref13_Factor_grun (hv:E.con 52=fnS (spec1 fun i:Int=>some (tVar i))) (hA:E.con 88=fnS (spec2 applyU)) (hM:E.con 96=fnS (spec3 (rmF 7000))) {s o:List Assign} {ids:List Int} (h:GfS s o ids) (hs:HS) :
 CallOk ρ Tryz.prog 40 [enc s,enc o,enc ids] hs (enc (gfR s o ids)) hs:=by
 refine fn hρ hE hcon Tryz.func40 fB40 rfl (by simp) ?_ hs
 obtain⟨h2,h3,h4,h5,h6,h7⟩:=h
 unfold gfR
 rcases hR:fcL s o ids []with⟨R,b⟩
 simp only
 simp[fS40r0,fS40r1,fS40r2,fS40r3,fS40r4,fS40r5,fS40b0,fS40r6,fS40b1,fS40r7,fS40r8,fS40r9,fS40,hE]
 refine lpi hρ hE hcon ids.length (nn:=0) (fun i st=>fsT s o ids i st) (fun i _=>[])
  (fun i st=>(∃ A,st=some A∧fcL s o (ids.drop i) A=(R,b)∧okA A∧A.length+szS s (ids.drop i)≤7000∧(i=0→A=[]))∨(st=none∧b=false)) (some []) (Less.auto (by simp[slV,fsT]) (by simp) (by simp) (by simp)) (.inl ⟨[],rfl,by simpa using hR,fun a ha=>(by cases ha),by simpa using h7,fun _=>rfl⟩) ?_ ?_
 · rintro st (⟨A,rfl,g1,g2,g3,g4⟩|⟨rfl,rfl⟩) K
   · rw[List.drop_length,fcL]at g1
     cases g1
     cases hn:ids.length with
     | zero =>
       have hR0:R=[]:=g4 hn
       subst hR0
       simp[fS40l0,fS40r0,fS40r1,fS40r2,fS40r3,fS40r4,fS40r5,fS40b0,fS40r6,fS40b1,fS40r7,fS40r8,fS40r9,fS40,hE,hn,slV,fsT]
       refine LessQ.mk (Less.auto (TL:=[(8,.snil),(9,.bool true)]) (HL:=[]) (n:=0) (by simp) (by simp) (by simp) (by simp)) ?_
       simp[fS40r0,fS40r1,fS40r2,fS40r3,fS40r4,fS40r5,fS40b0,fS40r6,fS40b1,fS40r7,fS40r8,fS40r9,fS40,hE]
     | succ n =>
       simp[fS40l0,fS40r0,fS40r1,fS40r2,fS40r3,fS40r4,fS40r5,fS40b0,fS40r6,fS40b1,fS40r7,fS40r8,fS40r9,fS40,hE,hn,slV,fsT]
       refine LessQ.mk (Less.auto (TL:=[(8,.sl (R.map encAssign) false),(9,.bool true)]) (HL:=[]) (n:=0) (by simp) (by simp) (by simp) (by simp)) ?_
       simp[fS40r0,fS40r1,fS40r2,fS40r3,fS40r4,fS40r5,fS40b0,fS40r6,fS40b1,fS40r7,fS40r8,fS40r9,fS40,hE]
   · simp[fS40l0,fS40r0,fS40r1,fS40r2,fS40r3,fS40r4,fS40r5,fS40b0,fS40r6,fS40b1,fS40r7,fS40r8,fS40r9,fS40,hE,slV,fsT]
     refine LessQ.mk (Less.auto (TL:=[(9,.bool false)]) (HL:=[]) (n:=0) (by simp) (by simp) (by simp) (by simp)) ?_
     simp[fS40r0,fS40r1,fS40r2,fS40r3,fS40r4,fS40r5,fS40b0,fS40r6,fS40b1,fS40r7,fS40r8,fS40r9,fS40,hE]
 · rintro i st hi hst K hK
   have hi':(i:Int)<ids.length:=by omega
   have hw2:IntKind.i64.wrap ((i:Int)+1)=((i+1:Nat):Int):=wrap_succ (by omega)
   rcases hst with⟨A,rfl,g1,g2,g3,g4⟩|⟨rfl,rfl⟩
   · rw [List.drop_eq_getElem_cons hi,fcL]at g1
     rw[List.drop_eq_getElem_cons hi,szS]at g3
     obtain⟨x,hx⟩:∃ x,ids[i]=x:=⟨_,rfl⟩
     rw[hx]at g1 g3
     have op:=repl_ok h2 (tVar x) (tVar_ok x)
     have ot:=repl_ok h3 (tVar x) (tVar_ok x)
     have f1:applyU s (tVar x)=some ((tVar x).repl s):=if_pos ⟨tVar_ok x,by omega⟩
     have f2:applyU o (tVar x)=some ((tVar x).repl o):=if_pos ⟨tVar_ok x,by omega⟩
     generalize (tVar x).repl s=p at f1 g1 g3 op
     generalize (tVar x).repl o=t at f2 g1 ot
     simp only[tVar]at f1 f2
     have hml:=(mt_len (p:=p) (t:=t) (s:=A)).2
     have hma:=mt_aok (p:=p) (t:=t) (s:=A) ot g2
     have f3:rmF 7000 p t A=some (rmM p t A):=if_pos ⟨op,ot,g2,by omega,by omega⟩
     by_cases hm:(mtM p t A).2=true
     · rw[if_pos hm]at g1
       have hnew:=hK (some (mtM p t A).1) (.inl ⟨_,rfl,g1,hma,by omega,fun h=>(by omega)⟩)
       have f4:rmF 7000 p t A=some ((mtM p t A).1,true):=by
        rw[f3];unfold rmM;rw[if_pos hm,← hm]
       clear hK g1 hma hml hm f3
       generalize (mtM p t A).1=A2 at f4 hnew
       rcases i with _|i
       · have hA0:A=[]:=g4 rfl
         subst hA0
         simp[fS40l0,fS40r0,fS40r1,fS40r2,fS40r3,fS40r4,fS40r5,fS40b0,fS40r6,fS40b1,fS40r7,fS40r8,fS40r9,fS40,hE,hi,hi',hx,hv,tVar,hA,f1,f2,hM,f4,hw2,slV,fsT,-Int.natCast_add]
         exact hnew _ _ (Less.auto (by simp[slV,fsT,show IntKind.i64.wrap 1=1 from rfl,-Int.natCast_add]) (by simp) (by simp) (by simp))
       · simp[fS40l0,fS40r0,fS40r1,fS40r2,fS40r3,fS40r4,fS40r5,fS40b0,fS40r6,fS40b1,fS40r7,fS40r8,fS40r9,fS40,hE,hi,hi',hx,hv,tVar,hA,f1,f2,hM,f4,hw2,slV,fsT,-Int.natCast_add]
         exact hnew _ _ (Less.auto (by simp[slV,fsT,-Int.natCast_add]) (by simp) (by simp) (by simp))
     · rw[if_neg hm]at g1
       have hb:b=false:=(congrArg Prod.snd g1).symm
       have hnew:=hK none (.inr ⟨rfl,hb⟩)
       have f4:rmF 7000 p t A=some ([],false):=by
        rw[f3];unfold rmM;rw[if_neg hm]
       clear hK g1 hma hml hm f3
       rcases i with _|i
       · have hA0:A=[]:=g4 rfl
         subst hA0
         simp[fS40l0,fS40r0,fS40r1,fS40r2,fS40r3,fS40r4,fS40r5,fS40b0,fS40r6,fS40b1,fS40r7,fS40r8,fS40r9,fS40,hE,hi,hi',hx,hv,tVar,hA,f1,f2,hM,f4,hw2,slV,fsT,-Int.natCast_add]
         exact hnew _ _ (Less.auto (by simp[slV,fsT,show IntKind.i64.wrap 1=1 from rfl,-Int.natCast_add]) (by simp) (by simp) (by simp))
       · simp[fS40l0,fS40r0,fS40r1,fS40r2,fS40r3,fS40r4,fS40r5,fS40b0,fS40r6,fS40b1,fS40r7,fS40r8,fS40r9,fS40,hE,hi,hi',hx,hv,tVar,hA,f1,f2,hM,f4,hw2,slV,fsT,-Int.natCast_add]
         exact hnew _ _ (Less.auto (by simp[slV,fsT,-Int.natCast_add]) (by simp) (by simp) (by simp))
   · simp[fS40l0,fS40r0,fS40r1,fS40r2,fS40r3,fS40r4,fS40r5,fS40b0,fS40r6,fS40b1,fS40r7,fS40r8,fS40r9,fS40,hE,hi,hi',slV,fsT]
     refine LessQ.mk (Less.auto (TL:=[(9,.bool false)]) (HL:=[]) (n:=0) (by simp) (by simp) (by simp) (by simp)) ?_
     simp[fS40r0,fS40r1,fS40r2,fS40r3,fS40r4,fS40r5,fS40b0,fS40r6,fS40b1,fS40r7,fS40r8,fS40r9,fS40,hE]
end
theorem vFactorS:Valid ρ Tryz.prog 97 (fnS (spec3 gfF)):=v3 (fo Tryz.func97 fB97) fun a b c r h hs=>by
 obtain⟨h1,rfl⟩:=ite_inv h
 exact subst_Factor_run hρ (E:=EL [(86,fnS (spec1 fun i:Int=>some (tVar i))),(95,fnS (spec2 sapF)),(131,rxS 6 true (rwF (smF 7000)))]) rfl (consOk_list (valid_cons (vTVar hρ) (valid_cons (vSApply hρ) (valid_cons (vSMatch hρ 7000) valid_nil)))) rfl rfl rfl h1 hs
theorem vFactorG:Valid ρ Tryz.prog 40 (fnS (spec3 gfF)):=v3 (fo Tryz.func40 fB40) fun a b c r h hs=>by
 obtain⟨h1,rfl⟩:=ite_inv h
 exact ref13_Factor_grun hρ (E:=EL [(52,fnS (spec1 fun i:Int=>some (tVar i))),(88,fnS (spec2 applyU)),(96,fnS (spec3 (rmF 7000)))]) rfl (consOk_list (valid_cons (vVar hρ) (valid_cons (vApplyU hρ) (valid_cons (vMatch13 hρ 7000) valid_nil)))) rfl rfl rfl h1 hs
end
end Go.Proofs.YthfcfmkdeheicaaGreat
/- When a solution is principal: in the program and in the reference. -/
namespace Go.Proofs.YthfcfmkdeheicaaGreat
open Go.J
open Go.J.Enc (enc)
set_option maxRecDepth 100000
set_option maxHeartbeats 1000000
structure PrC(s:List Assign)(l:List Equation)(o:List Assign):Prop where
 us:UnC s l
 uo:UnC o l
 gf:GfS s o (varsM (sides l))
 sz:Ty.sizes (sides l)≤8000
def prR(s:List Assign)(l:List Equation)(o:List Assign):Bool:=if l.any (neB s)=true∨l.any (neB o)=true then false else (gfR s o (varsM (sides l))).2
open Classical in
def prF(s:List Assign)(l:List Equation)(o:List Assign):Option Bool:=if PrC s l o then some (prR s l o)else none
theorem prC_ev{s:List Assign}{l:List Equation}{o:List Assign}(h:PrC s l o):evF l=some (varsM (sides l))∧ev18F l=some (varsM (sides l)):=by
 have hp:∀ t∈sides l,t.ok=true∧t.vplain=true:=fun t ht=>by
  obtain⟨q,hq,e⟩:=sides_mem ht
  obtain⟨h1,h2⟩:=h.us.sd q hq
  rcases e with rfl|rfl
  · exact h1
  · exact h2
 have ho:Ty.oks (sides l)=true:=Ty.oks_iff.2 fun t ht=>(hp t ht).1
 have hl:=h.us.ll
 have hsz:=h.sz
 have hll:=(leavesL_len 1 (sides l) []).2
 simp only[List.length_nil]at hll
 refine⟨?_,if_pos ⟨ho,hl,by omega⟩⟩
 rw[varsM_col (vplains_leafys _ (vplains_iff.2 fun t ht=>(hp t ht).2))]
 exact if_pos ⟨ho,hl,by omega⟩
section
variable {ρ:Nat→Value}(hρ:J.Good ρ)
include hρ
section
variable {E:Env}(hE:E.P=Tryz.prog)(hcon:ConsOk ρ E)
include hE hcon
theorem solve_Principal_run(hu:E.con 38=fnS (spec2 unF))(hv:E.con 43=fnS (spec1 evF))(hf:E.con 97=fnS (spec3 gfF)){s o:List Assign}{l:List Equation}(h:PrC s l o)(hs:HS) :
 CallOk ρ Tryz.prog 41 [enc s,enc l,enc o] hs (enc (prR s l o)) hs:=by
 refine fn hρ hE hcon Tryz.func41 fB41 rfl (by simp) ?_ hs
 have f1:unF s l=some (!(l.any (neB s))):=if_pos h.us
 have f2:unF o l=some (!(l.any (neB o))):=if_pos h.uo
 have f3:=(prC_ev h).1
 have f4:gfF s o (varsM (sides l))=some (gfR s o (varsM (sides l))):=if_pos h.gf
 unfold prR
 generalize varsM (sides l)=W at f3 f4
 rcases hg:gfR s o W with⟨R,b⟩
 rw[hg]at f4
 clear h
 cases h1:l.any (neB s)<;>cases h2:l.any (neB o)<;>rw[h1]at f1<;>rw[h2]at f2<;>simp[fS41r0,fS41r1,fS41r2,fS41r3,fS41r4,fS41,hE,hu,f1,f2,hv,f3,hf,f4]
theorem ref18_Principal_run(hu:E.con 37=fnS (spec2 unF))(hv:E.con 32=fnS (spec1 ev18F))(hf:E.con 40=fnS (spec3 gfF)){s o:List Assign}{l:List Equation}(h:PrC s l o)(hs:HS) :
 CallOk ρ Tryz.prog 45 [enc s,enc l,enc o] hs (enc (prR s l o)) hs:=by
 refine fn hρ hE hcon Tryz.func45 fB45 rfl (by simp) ?_ hs
 have f1:unF s l=some (!(l.any (neB s))):=if_pos h.us
 have f2:unF o l=some (!(l.any (neB o))):=if_pos h.uo
 have f3:=(prC_ev h).2
 have f4:gfF s o (varsM (sides l))=some (gfR s o (varsM (sides l))):=if_pos h.gf
 unfold prR
 generalize varsM (sides l)=W at f3 f4
 rcases hg:gfR s o W with⟨R,b⟩
 rw[hg]at f4
 clear h
 cases h1:l.any (neB s)<;>cases h2:l.any (neB o)<;>rw[h1]at f1<;>rw[h2]at f2<;>simp[fS45r0,fS45r1,fS45r2,fS45r3,fS45r4,fS45,hE,hu,f1,f2,hv,f3,hf,f4]
end
theorem vPrincipal:Valid ρ Tryz.prog 41 (fnS (spec3 prF)):=v3 (fo Tryz.func41 fB41) fun a b c r h hs=>by
 obtain⟨h1,rfl⟩:=ite_inv h
 exact solve_Principal_run hρ (E:=EL [(38,fnS (spec2 unF)),(43,fnS (spec1 evF)),(97,fnS (spec3 gfF))]) rfl (consOk_list (valid_cons (vUnifies hρ) (valid_cons (vEqVars hρ) (valid_cons (vFactorS hρ) valid_nil)))) rfl rfl rfl h1 hs
theorem vPrincipal18:Valid ρ Tryz.prog 45 (fnS (spec3 prF)):=v3 (fo Tryz.func45 fB45) fun a b c r h hs=>by
 obtain⟨h1,rfl⟩:=ite_inv h
 exact ref18_Principal_run hρ (E:=EL [(37,fnS (spec2 unF)),(32,fnS (spec1 ev18F)),(40,fnS (spec3 gfF))]) rfl (consOk_list (valid_cons (vUnifies18 hρ) (valid_cons (vEqVars18 hρ) (valid_cons (vFactorG hρ) valid_nil)))) rfl rfl rfl h1 hs
end
end Go.Proofs.YthfcfmkdeheicaaGreat
