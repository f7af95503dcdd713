import Derived.Test.YtfgmnebfhemnpaaKX8
import Derived.Test.YtfgmnebfhemnpaaKX9
set_option linter.all false
noncomputable section
/- How one substitution factors through another: in the program and in the reference. -/
namespace Go.Proofs.Ytfgmnebfhemnpaa
open Go.J
open Go.J.Enc (enc)
set_option maxRecDepth 100000
set_option maxHeartbeats 1000000
def szS(s:List Assign):List Int→Nat
 | []=>0
 |i::l=>((tVar i).repl s).size+szS s l
structure GfS(s o:List Assign)(ids:List Int):Prop where
 so:okA s
 oo:okA o
 sl:s.length≤8000
 ol:o.length≤8000
 il:ids.length≤100
 sz:szS s ids≤7000
def gfR(s o:List Assign)(ids:List Int):List Assign×Bool:=if (fcL s o ids []).2=true then ((fcL s o ids []).1,true)else ([],false)
open Classical in
def gfF(s o:List Assign)(ids:List Int):Option (List Assign×Bool):=if GfS s o ids then some (gfR s o ids)else none
theorem tVar_vplain(i:Int):(tVar i).vplain=true:=by simp[tVar,Ty.vplain,Ty.vplains]
section
variable {ρ:Nat→Value}(hρ:J.Good ρ)
include hρ
section
variable {E:Env}(hE:E.P=Try.prog)(hcon:ConsOk ρ E)
include hE hcon
theorem subst_Factor_run (hv:E.con 22=fnS (spec1 fun i:Int=>some (tVar i))) (hA:E.con 29=fnS (spec2 sapF)) (hM:E.con 38=rxS 6 true (rwF (smF 7000))) {s o:List Assign} {ids:List Int} (h:GfS s o ids) (hs:HS) :
 CallOk ρ Try.prog 24 [enc s,enc o,enc ids] hs (enc (gfR s o ids)) hs:=by
 refine fn hρ hE hcon Try.func24 fB24 rfl (by simp) ?_ hs
 obtain⟨h2,h3,h4,h5,h6,h7⟩:=h
 unfold gfR
 rcases hR:fcL s o ids []with⟨R,b⟩
 simp only
 simp[fS24r0,fS24r1,fS24r2,fS24r3,fS24r4,fS24r5,fS24r6,fS24r7,fS24r8,fS24b0,fS24r9,fS24b1,fS24r10,fS24,hE]
 refine lpi hρ hE hcon ids.length (nn:=1) (fun i (A:List Assign)=>[(0,.sl (s.map encAssign) false),(1,.sl (o.map encAssign) false),(8,oV 0 (A.map encAssign)),(12,.sl (ids.map encI) false),(13,.int .i64 (ids.length:Int)),(14,.int .i64 (i:Int))]) (fun i A=>oH 0 6 (A.map encAssign))
  (fun i A=>fcL s o (ids.drop i) A=(R,b)∧okA A∧A.length+szS s (ids.drop i)≤7000) [] (Less.auto (by simp) (by simp) (by first|rfl|simp) (by first|rfl|simp)) ⟨by simpa using hR,fun a ha=>(by cases ha),by simpa using h7⟩ ?_ ?_
 · rintro A ⟨g1,g2,g3⟩ K
   rw[List.drop_length,fcL]at g1
   cases g1
   rcases R with _|⟨y,R⟩
   all_goals
    simp[fS24l0,fS24r0,fS24r1,fS24r2,fS24r3,fS24r4,fS24r5,fS24r6,fS24r7,fS24r8,fS24b0,fS24r9,fS24b1,fS24r10,fS24,hE]
    first
     | refine LessQ.mk (Less.auto (TL:=[(8,.snil)]) (HL:=[]) (n:=1) (by simp) (by simp) (by first|rfl|simp) (by first|rfl|simp)) ?_
       simp[fS24r0,fS24r1,fS24r2,fS24r3,fS24r4,fS24r5,fS24r6,fS24r7,fS24r8,fS24b0,fS24r9,fS24b1,fS24r10,fS24,hE]
       done
     | refine LessQ.mk (Less.auto (TL:=[(8,oV 0 ((y::R).map encAssign))]) (HL:=oH 0 6 ((y::R).map encAssign)) (n:=1) (by simp) (by simp) (by first|rfl|simp) (by first|rfl|simp)) ?_
       simp[fS24r0,fS24r1,fS24r2,fS24r3,fS24r4,fS24r5,fS24r6,fS24r7,fS24r8,fS24b0,fS24r9,fS24b1,fS24r10,fS24,hE]
 · rintro i A hi ⟨g1,g2,g3⟩ K hK
   have hi':(i:Int)<ids.length:=by omega
   have hw2:IntKind.i64.wrap ((i:Int)+1)=((i+1:Nat):Int):=wrap_succ (by omega)
   rw[List.drop_eq_getElem_cons hi,fcL]at g1
   rw[List.drop_eq_getElem_cons hi,szS]at g3
   obtain⟨x,hx⟩:∃ x,ids[i]=x:=⟨_,rfl⟩
   rw[hx]at g1 g3
   have op:=repl_ok h2 (tVar x) (tVar_ok x)
   have ot:=repl_ok h3 (tVar x) (tVar_ok x)
   have f1:sapF s (tVar x)=some ((tVar x).repl s):=if_pos ⟨tVar_ok x,tVar_vplain x,by omega⟩
   have f2:sapF o (tVar x)=some ((tVar x).repl o):=if_pos ⟨tVar_ok x,tVar_vplain x,by omega⟩
   generalize (tVar x).repl s=p at f1 g1 g3 op
   generalize (tVar x).repl o=t at f2 g1 ot
   simp only[tVar]at f1 f2
   have hml:=mt_len (p:=p) (t:=t) (s:=A)
   have hma:=mt_aok (p:=p) (t:=t) (s:=A) ot g2
   have f3:smF 7000 p t A=some (mtM p t A):=if_pos ⟨op,ot,g2,by omega,by omega⟩
   rcases hq:mtM p t A with⟨A2,b2⟩
   rw[hq]at f3 g1 hml hma
   simp only at g1 hml hma
   have hlr:A.length≤A2.length:=hml.1
   cases b2 with
   | true =>
     rw[if_pos rfl]at g1
     have hnew:=hK A2 ⟨g1,hma,by omega⟩
     clear hK g1 hma hq hR
     rcases A with _|⟨y,A⟩
     · rcases A2 with _|⟨z,A2⟩
       · simp[fS24l0,fS24r0,fS24r1,fS24r2,fS24r3,fS24r4,fS24r5,fS24r6,fS24r7,fS24r8,fS24b0,fS24r9,fS24b1,fS24r10,fS24,hE,hi,hi',hx,hv,tVar,hA,f1,f2,hM,f3,hw2,-Int.natCast_add]
         exact hnew _ _ (Less.auto (by simp[-Int.natCast_add]) (by simp) (by first|rfl|simp) (by first|rfl|simp))
       · simp[fS24l0,fS24r0,fS24r1,fS24r2,fS24r3,fS24r4,fS24r5,fS24r6,fS24r7,fS24r8,fS24b0,fS24r9,fS24b1,fS24r10,fS24,hE,hi,hi',hx,hv,tVar,hA,f1,f2,hM,f3,hw2,-Int.natCast_add]
         exact hnew _ _ (Less.auto (by simp[-Int.natCast_add]) (by simp) (by first|rfl|simp) (by first|rfl|simp))
     · rcases A2 with _|⟨z,A2⟩
       · simp at hlr
       · have hlr2:A.length≤A2.length:=by simpa using hlr
         simp[fS24l0,fS24r0,fS24r1,fS24r2,fS24r3,fS24r4,fS24r5,fS24r6,fS24r7,fS24r8,fS24b0,fS24r9,fS24b1,fS24r10,fS24,hE,hi,hi',hx,hv,tVar,hA,f1,f2,hM,f3,hw2,hlr2,-Int.natCast_add]
         exact hnew _ _ (Less.auto (by simp[-Int.natCast_add]) (by simp) (by first|rfl|simp) (by first|rfl|simp))
   | false =>
     rw[if_neg (by decide)]at g1
     cases g1
     clear hK hq hR
     rcases A with _|⟨y,A⟩
     · rcases R with _|⟨z,R⟩
       · simp[fS24l0,fS24r0,fS24r1,fS24r2,fS24r3,fS24r4,fS24r5,fS24r6,fS24r7,fS24r8,fS24b0,fS24r9,fS24b1,fS24r10,fS24,hE,hi,hi',hx,hv,tVar,hA,f1,f2,hM,f3,hw2,-Int.natCast_add]
         refine LessQ.mk (Less.auto (TL:=[(6,.snil),(7,.bool false)]) (HL:=[]) (n:=0) (by simp) (by simp) (by first|rfl|simp) (by first|rfl|simp)) ?_
         simp[fS24r0,fS24r1,fS24r2,fS24r3,fS24r4,fS24r5,fS24r6,fS24r7,fS24r8,fS24b0,fS24r9,fS24b1,fS24r10,fS24,hE]
       · simp[fS24l0,fS24r0,fS24r1,fS24r2,fS24r3,fS24r4,fS24r5,fS24r6,fS24r7,fS24r8,fS24b0,fS24r9,fS24b1,fS24r10,fS24,hE,hi,hi',hx,hv,tVar,hA,f1,f2,hM,f3,hw2,-Int.natCast_add]
         refine LessQ.mk (Less.auto (TL:=[(6,.snil),(7,.bool false)]) (HL:=[]) (n:=0) (by simp) (by simp) (by first|rfl|simp) (by first|rfl|simp)) ?_
         simp[fS24r0,fS24r1,fS24r2,fS24r3,fS24r4,fS24r5,fS24r6,fS24r7,fS24r8,fS24b0,fS24r9,fS24b1,fS24r10,fS24,hE]
     · rcases R with _|⟨z,R⟩
       · simp at hlr
       · have hlr2:A.length≤R.length:=by simpa using hlr
         simp[fS24l0,fS24r0,fS24r1,fS24r2,fS24r3,fS24r4,fS24r5,fS24r6,fS24r7,fS24r8,fS24b0,fS24r9,fS24b1,fS24r10,fS24,hE,hi,hi',hx,hv,tVar,hA,f1,f2,hM,f3,hw2,hlr2,-Int.natCast_add]
         refine LessQ.mk (Less.auto (TL:=[(6,.snil),(7,.bool false)]) (HL:=[]) (n:=0) (by simp) (by simp) (by first|rfl|simp) (by first|rfl|simp)) ?_
         simp[fS24r0,fS24r1,fS24r2,fS24r3,fS24r4,fS24r5,fS24r6,fS24r7,fS24r8,fS24b0,fS24r9,fS24b1,fS24r10,fS24,hE]
end
theorem vFactorS:Valid ρ Try.prog 24 (fnS (spec3 gfF)):=v3 (fo Try.func24 fB24) fun a b c r h hs=>by
 obtain⟨h1,rfl⟩:=ite_inv h
 exact subst_Factor_run hρ (E:=EL [(22,fnS (spec1 fun i:Int=>some (tVar i))),(29,fnS (spec2 sapF)),(38,rxS 6 true (rwF (smF 7000)))]) rfl (consOk_list (valid_cons (vTVar hρ) (valid_cons (vSApply hρ) (valid_cons (vSMatch hρ 7000) valid_nil)))) rfl rfl rfl h1 hs
end
end Go.Proofs.Ytfgmnebfhemnpaa
/- When a solution is principal: in the program and in the reference. -/
namespace Go.Proofs.Ytfgmnebfhemnpaa
open Go.J
open Go.J.Enc (enc)
set_option maxRecDepth 100000
set_option maxHeartbeats 1000000
structure PrC(s:List Assign)(l:List Equation)(o:List Assign):Prop where
 us:UnC s l
 uo:UnC o l
 gf:GfS s o (varsM (sides l))
 sz:Ty.sizes (sides l)≤8000
def prR(s:List Assign)(l:List Equation)(o:List Assign):Bool:=if l.any (neB s)=true∨l.any (neB o)=true then false else (gfR s o (varsM (sides l))).2
open Classical in
def prF(s:List Assign)(l:List Equation)(o:List Assign):Option Bool:=if PrC s l o then some (prR s l o)else none
theorem prC_ev{s:List Assign}{l:List Equation}{o:List Assign}(h:PrC s l o):evF l=some (varsM (sides l))∧ev18F l=some (varsM (sides l)):=by
 have hp:∀ t∈sides l,t.ok=true∧t.vplain=true:=fun t ht=>by
  obtain⟨q,hq,e⟩:=sides_mem ht
  obtain⟨h1,h2⟩:=h.us.sd q hq
  rcases e with rfl|rfl
  · exact h1
  · exact h2
 have ho:Ty.oks (sides l)=true:=Ty.oks_iff.2 fun t ht=>(hp t ht).1
 have hl:=h.us.ll
 have hsz:=h.sz
 have hll:=(leavesL_len 1 (sides l) []).2
 simp only[List.length_nil]at hll
 refine⟨?_,if_pos ⟨ho,hl,by omega⟩⟩
 rw[varsM_col (vplains_leafys _ (vplains_iff.2 fun t ht=>(hp t ht).2))]
 exact if_pos ⟨ho,hl,by omega⟩
section
variable {ρ:Nat→Value}(hρ:J.Good ρ)
include hρ
section
variable {E:Env}(hE:E.P=Try.prog)(hcon:ConsOk ρ E)
include hE hcon
theorem solve_Principal_run(hu:E.con 12=fnS (spec2 unF))(hv:E.con 11=fnS (spec1 evF))(hf:E.con 24=fnS (spec3 gfF)){s o:List Assign}{l:List Equation}(h:PrC s l o)(hs:HS) :
 CallOk ρ Try.prog 8 [enc s,enc l,enc o] hs (enc (prR s l o)) hs:=by
 refine fn hρ hE hcon Try.func8 fB8 rfl (by simp) ?_ hs
 have f1:unF s l=some (!(l.any (neB s))):=if_pos h.us
 have f2:unF o l=some (!(l.any (neB o))):=if_pos h.uo
 have f3:=(prC_ev h).1
 have f4:gfF s o (varsM (sides l))=some (gfR s o (varsM (sides l))):=if_pos h.gf
 unfold prR
 generalize varsM (sides l)=W at f3 f4
 rcases hg:gfR s o W with⟨R,b⟩
 rw[hg]at f4
 clear h
 cases h1:l.any (neB s)<;>cases h2:l.any (neB o)<;>rw[h1]at f1<;>rw[h2]at f2<;>simp[fS8r0,fS8r1,fS8r2,fS8r3,fS8r4,fS8,hE,hu,f1,f2,hv,f3,hf,f4]
end
theorem vPrincipal:Valid ρ Try.prog 8 (fnS (spec3 prF)):=v3 (fo Try.func8 fB8) fun a b c r h hs=>by
 obtain⟨h1,rfl⟩:=ite_inv h
 exact solve_Principal_run hρ (E:=EL [(12,fnS (spec2 unF)),(11,fnS (spec1 evF)),(24,fnS (spec3 gfF))]) rfl (consOk_list (valid_cons (vUnifies hρ) (valid_cons (vEqVars hρ) (valid_cons (vFactorS hρ) valid_nil)))) rfl rfl rfl h1 hs
end
end Go.Proofs.Ytfgmnebfhemnpaa
/- The law SolveChecks: what its function computes. -/
namespace Go.Proofs.Ytfgmnebfhemnpaa
open Go.J
open Go.J.Enc (enc)
set_option maxRecDepth 100000
set_option maxHeartbeats 1000000
theorem szS_le{s:List Assign}{B:Nat}:∀ (W:List Int),(∀ i∈W,(fnA s i).size≤B)→szS s W≤W.length*B:=by
 intro W
 induction W with
 |nil=>intro _;simp[szS]
 | cons i W ih =>
   intro h
   have h1:=h i (List.mem_cons_self ..)
   have h2:=ih fun j hj=>h j (List.mem_cons_of_mem _ hj)
   rw[szS,repl_tVar,List.length_cons,Nat.add_mul]
   omega
theorem unC_of{x:List Assign}{l:List Equation}(hok:EqsOk l)(ox:okA x)(lx:x.length≤100):UnC x l :=
 ⟨ox,by omega,fun q hq=>⟨⟨hok.ok _ (sides_l hq).1,(hok.eq q hq).1.1⟩,hok.ok _ (sides_l hq).2,(hok.eq q hq).2.1⟩,by have:=hok.len;omega⟩
theorem prC_of{x y:List Assign}{l:List Equation}(hok:EqsOk l)(hW:(varsM (sides l)).length≤7)(ox:okA x)(oy:okA y)(lx:x.length≤100)(ly:y.length≤100)(hz:∀ i∈varsM (sides l),(fnA x i).size≤1000):PrC x l y:=by
 have h1:=szS_le (s:=x) _ hz
 have h2:=Nat.mul_le_mul_right 1000 hW
 exact⟨unC_of hok ox lx,unC_of hok oy ly,⟨ox,oy,by omega,by omega,by omega,by omega⟩,by have:=hok.sz;omega⟩
section
variable {ρ:Nat→Value}(hρ:J.Good ρ){E:Env}(hE:E.P=Try.prog)(hcon:ConsOk ρ E)
include hρ hE hcon
end
end Go.Proofs.Ytfgmnebfhemnpaa
