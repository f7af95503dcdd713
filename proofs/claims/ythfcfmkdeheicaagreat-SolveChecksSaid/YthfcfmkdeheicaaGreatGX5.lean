import Derived.Test.YthfcfmkdeheicaaGreatGX1
import Derived.Test.YthfcfmkdeheicaaGreatJZ
import Derived.Test.YthfcfmkdeheicaaGreatJY
import Derived.Test.YthfcfmkdeheicaaGreatJN
import Derived.Test.YthfcfmkdeheicaaGreatGX2
import Derived.Test.YthfcfmkdeheicaaGreatGN1
set_option linter.all false
noncomputable section
/- The reference's substitutions and unification of chapters 13 and 15. -/
namespace Go.Proofs.YthfcfmkdeheicaaGreat
open Go.J
open Go.J.Enc (enc)
set_option maxRecDepth 100000
set_option maxHeartbeats 1000000
def replU(t:Ty)(s:List Assign):Option Ty:=if t.ok=true∧s.length≤100000 then some (t.repl s)else none
def applyU(s:List Assign)(t:Ty):Option Ty:=if t.ok=true∧s.length≤100000 then some (t.repl s)else none
def occU(x:Int)(t:Ty):Option Bool:=if t.ok=true∧(leavesL 1 [t] []).length≤10000 then some (decide (x∈varsM [t]))else none
open Classical in
def cpF(a b:List Assign):Option (List Assign):=if okA a∧a.length+b.length≤8000 then some (cpM a b)else none
open Classical in
def asnF(x:Int)(t:Ty)(s:List Assign):Option (List Assign×Int):=if t.ok=true∧(leavesL 1 [t] []).length≤10000∧okA s∧s.length+1≤8000 then some (if x∈varsM [t]then ([],12)else (cpM s [⟨x,t⟩],0))else none
open Classical in
def ruF(f:Nat)(a b:Ty)(s:List Assign):Option (List Assign×Int):=if ∃ V,RuC V s∧a.ok=true∧b.ok=true∧a.vplain=true∧b.vplain=true∧cl V (fnA s) a∧cl V (fnA s) b then (ruM f a b s).map fun r=>(r.2,r.1)else none
theorem ruF_inv{f:Nat}{a b:Ty}{s:List Assign}{q:List Assign×Int}(h:ruF f a b s=some q):∃ V,RuC V s∧a.ok=true∧b.ok=true∧a.vplain=true∧b.vplain=true∧cl V (fnA s) a∧cl V (fnA s) b∧ruM f a b s=some (q.2,q.1):=by
 unfold ruF at h
 split at h
 · rename_i hh
   obtain⟨V,h1,h2,h3,h4,h5,h6,h7⟩:=hh
   obtain⟨r,hr,rfl⟩:=Option.map_eq_some_iff.1 h
   exact⟨V,h1,h2,h3,h4,h5,h6,h7,hr⟩
 · cases h
theorem ruF_mk{f:Nat}{a b:Ty}{s:List Assign}{V:List Int}{e:Int}{s':List Assign}(h1:RuC V s)(h2:a.ok=true)(h3:b.ok=true)(h4:a.vplain=true)(h5:b.vplain=true)(h6:cl V (fnA s) a)(h7:cl V (fnA s) b)(h:ruM f a b s=some (e,s')):ruF f a b s=some (s',e):=by
 unfold ruF
 rw[if_pos ⟨V,h1,h2,h3,h4,h5,h6,h7⟩,h]
 rfl
def RU(a b:Ty)(p:List Assign×Int):Prop:=∃ f,ruM f a b []=some (p.2,p.1)
open Classical in
def rutM(a b:Ty):List Assign×Int:=if h:∃ p,RU a b p then h.choose else ([],0)
theorem rut_ok{a b:Ty}(ha:a.vplain=true)(hb:b.vplain=true):RU a b (rutM a b):=by
 have hex:∃ p,RU a b p:=by
  obtain⟨f,e,s,h,_⟩:=ru_ends ha hb
  exact⟨(s,e),f,h⟩
 unfold rutM
 rw[dif_pos hex]
 exact hex.choose_spec
def rutF(a b:Ty):Option (List Assign×Int):=if a.ok=true∧b.ok=true∧a.vplain=true∧b.vplain=true∧a.size+b.size≤8000 then some (rutM a b)else none
section
variable {ρ:Nat→Value}(hρ:J.Good ρ)
include hρ
section
variable {E:Env}(hE:E.P=Tryz.prog)(hcon:ConsOk ρ E)
include hE hcon
theorem ref13_ApplyU_run(hc:E.con 25=fnS (spec2 replU)){s:List Assign}{t:Ty}(h1:t.ok=true)(h3:s.length≤100000)(hs:HS):CallOk ρ Tryz.prog 88 [enc s,enc t] hs (enc (t.repl s)) hs:=by
 refine fn hρ hE hcon Tryz.func88 fB88 rfl (by simp) ?_ hs
 have hF:replU t s=some (t.repl s):=if_pos ⟨h1,h3⟩
 generalize t.repl s=r at hF
 simp[fS88r0,fS88r1,fS88,hE,hc,hF]
theorem ref3_OccursU_run(hcH:E.con 34=hasS)(hc:E.con 33=varsU){x:Int}{t:Ty}(ht:t.ok=true)(hl:(leavesL 1 [t] []).length≤10000)(hs:HS):CallOk ρ Tryz.prog 186 [enc x,enc t] hs (enc (decide (x∈varsM [t]))) hs:=by
 refine fn hρ hE hcon Tryz.func186 fB186 rfl (by simp) ?_ hs
 have h1:(varsM [t]).length≤1000000:=by
  have:=idsOf_len (leavesL 1 [t] [])
  unfold varsM;omega
 simp[fS186r0,fS186r1,fS186,hE,hc,hcH,hasS,varsU,Ty.oks,ht,hl,h1]
theorem ref13_Compose_run (hA:E.con 88=fnS (spec2 applyU)) (hH:E.con 92=has13S) {a b:List Assign} (ha:okA a) (hl:a.length+b.length≤8000) (hs:HS):CallOk ρ Tryz.prog 44 [enc a,enc b] hs (enc (cpM a b)) hs:=by
 refine fn hρ hE hcon Tryz.func44 fB44 rfl (by simp) ?_ hs
 have hal:a.length≤100000:=by omega
 have hbl:b.length≤100000:=by omega
 generalize hR:cpM a b=R
 simp[fS44r0,fS44r1,fS44r2,fS44r3,fS44r4,fS44b0,fS44r5,fS44b1,fS44r6,fS44r7,fS44r8,fS44r9,fS44b2,fS44r10,fS44b3,fS44r11,fS44,hE]
 refine lpi hρ hE hcon a.length (nn:=1) (fun i (out:List Assign)=>[(0,.sl (a.map encAssign) false),(1,.sl (b.map encAssign) false),(5,oV 0 (out.map encAssign)),(6,.int .i64 (i:Int))]) (fun i out=>oH 0 6 (out.map encAssign)) (fun i out=>out=(a.take i).map fun x=>(⟨x.id,x.type.repl b⟩:Assign)) []
  (Less.auto (by simp) (by simp) (by first|rfl|simp) (by first|rfl|simp)) rfl ?_ ?_
 · intro out ho K
   rw[List.take_length]at ho
   have hlo:out.length=a.length:=by rw[ho,List.length_map]
   have h2 : ∀ (T0:PT V) (hs0:HS) (Q:Ex→PT V→HS→Prop),Less 0 T0 hs0 (mkP [(0,.sl (a.map encAssign) false),(1,.sl (b.map encAssign) false),(5,oV 0 (out.map encAssign)),(7,.int .i64 ((0:Nat):Int))]) { H:=mkP (oH 0 6 (out.map encAssign)),n:=1,log:=[] } →
    Q (.exit 2) (mkP [(5,oV 0 (R.map encAssign))]) { H:=mkP (oH 0 6 (R.map encAssign)),n:=1,log:=[] }→Ls ρ E 0 52 (.loop fS44l1) T0 hs0 Q:=by
    intro T0 hs0 Q h0 hQ
    refine lpi hρ hE hcon b.length (nn:=1) (fun i (o:List Assign)=>[(0,.sl (a.map encAssign) false),(1,.sl (b.map encAssign) false),(5,oV 0 (o.map encAssign)),(7,.int .i64 (i:Int))]) (fun i o=>oH 0 6 (o.map encAssign)) (fun i o=>o=out++(b.take i).filter fun x=>!hasA a x.id) out
     h0 (by simp) ?_ ?_
    · intro o h K
      rw[List.take_length]at h
      have hRo:o=R:=by rw[h,ho,← hR];rfl
      rw[← hRo]at hQ
      clear hRo h hR h0
      rcases o with _|⟨x,o⟩
      all_goals
       simp[fS44l1,fS44r0,fS44r1,fS44r2,fS44r3,fS44r4,fS44b0,fS44r5,fS44b1,fS44r6,fS44r7,fS44r8,fS44r9,fS44b2,fS44r10,fS44b3,fS44r11,fS44,hE]
       exact LessQ.mk (Less.auto (n:=1) (by simp) (by simp) (by first|rfl|simp) (by first|rfl|simp)) hQ
    · intro i o hi h K hK
      have hi':(i:Int)<b.length:=by omega
      have hw2:IntKind.i64.wrap ((i:Int)+1)=((i+1:Nat):Int):=wrap_succ (by omega)
      have hm5:(i*6) / 6=i:=by omega
      have hm6:(i*6) % 6=0:=by omega
      have hol:o.length≤a.length+i:=by
       rw[h,List.length_append,hlo]
       have:=List.length_filter_le (fun x:Assign=>!hasA a x.id) (b.take i)
       rw[List.length_take]at this
       omega
      have hnx:∀ q:Bool,hasA a b[i].id=q→(out++(b.take (i+1)).filter fun x=>!hasA a x.id)=if q=true then o else o++[b[i]]:=fun q hq=>by
       rw[List.take_add_one,List.getElem?_eq_getElem hi,Option.toList_some,List.filter_append,List.filter_cons,hq,h]
       cases q<;>simp
      obtain⟨x,hx⟩:∃ x,b[i]=x:=⟨_,rfl⟩
      rw[hx]at hnx
      have hF:has13F a x.id=some (hasA a x.id):=if_pos hal
      have hnew:=fun (o':List Assign) (h':o'=out++(b.take (i+1)).filter fun x=>!hasA a x.id)=>hK o' h'
      clear hK h h0 hQ
      obtain⟨xi,xt⟩:=x
      cases hq:hasA a xi with
      | true =>
        have hnew:=hnew o (by rw[hnx true hq,if_pos rfl])
        simp only[hq]at hF
        rcases o with _|⟨y,o⟩
        all_goals
         simp[fS44l1,fS44r0,fS44r1,fS44r2,fS44r3,fS44r4,fS44b0,fS44r5,fS44b1,fS44r6,fS44r7,fS44r8,fS44r9,fS44b2,fS44r10,fS44b3,fS44r11,fS44,hE,hi,hi',hm5,hm6,hx,hH,has13S,hF,hw2,-Int.natCast_add]
         exact hnew _ _ (Less.auto (by simp[-Int.natCast_add]) (by simp) (by first|rfl|simp) (by first|rfl|simp))
      | false =>
        have hnew:=hnew (o++[⟨xi,xt⟩]) (by rw[hnx false hq,if_neg (by decide)])
        simp only[hq]at hF
        rcases o with _|⟨y,o⟩
        · simp[fS44l1,fS44r0,fS44r1,fS44r2,fS44r3,fS44r4,fS44b0,fS44r5,fS44b1,fS44r6,fS44r7,fS44r8,fS44r9,fS44b2,fS44r10,fS44b3,fS44r11,fS44,hE,hi,hi',hm5,hm6,hx,hH,has13S,hF,hw2,-Int.natCast_add]
          exact hnew _ _ (Less.auto (by simp[-Int.natCast_add]) (by simp) (by first|rfl|simp) (by first|rfl|simp))
        · have hx72:(o.length+1+1)*72≤1048576:=Nat.le_trans (Nat.mul_le_mul_right 72 (show o.length+1+1≤8002 by simp only[List.length_cons]at hol;omega)) (by decide)
          simp[fS44l1,fS44r0,fS44r1,fS44r2,fS44r3,fS44r4,fS44b0,fS44r5,fS44b1,fS44r6,fS44r7,fS44r8,fS44r9,fS44b2,fS44r10,fS44b3,fS44r11,fS44,hE,hi,hi',hm5,hm6,hx,hH,has13S,hF,hx72,Nat.not_succ_le_self,hw2,-Int.natCast_add]
          exact hnew _ _ (Less.auto (by simp[-Int.natCast_add]) (by simp) (by first|rfl|simp) (by first|rfl|simp))
   clear ho hlo hR
   rcases out with _|⟨x,out⟩
   · simp[fS44l0,fS44r0,fS44r1,fS44r2,fS44r3,fS44r4,fS44b0,fS44r5,fS44b1,fS44r6,fS44r7,fS44r8,fS44r9,fS44b2,fS44r10,fS44b3,fS44r11,fS44,hE]
     refine LessQ.mk (Less.auto (TL:=[(0,.sl (a.map encAssign) false),(1,.sl (b.map encAssign) false),(5,.snil)]) (HL:=[]) (n:=1) (by simp) (by simp) (by first|rfl|simp) (by first|rfl|simp)) ?_
     simp[fS44r0,fS44r1,fS44r2,fS44r3,fS44r4,fS44b0,fS44r5,fS44b1,fS44r6,fS44r7,fS44r8,fS44r9,fS44b2,fS44r10,fS44b3,fS44r11,fS44,hE]
     refine h2 _ _ _ (Less.auto (by simp) (by simp) (by first|rfl|simp) (by first|rfl|simp)) ?_
     clear h2
     rcases R with _|⟨r,R⟩<;>simp[fS44r0,fS44r1,fS44r2,fS44r3,fS44r4,fS44b0,fS44r5,fS44b1,fS44r6,fS44r7,fS44r8,fS44r9,fS44b2,fS44r10,fS44b3,fS44r11,fS44,hE]
   · simp[fS44l0,fS44r0,fS44r1,fS44r2,fS44r3,fS44r4,fS44b0,fS44r5,fS44b1,fS44r6,fS44r7,fS44r8,fS44r9,fS44b2,fS44r10,fS44b3,fS44r11,fS44,hE]
     refine LessQ.mk (Less.auto (TL:=[(0,.sl (a.map encAssign) false),(1,.sl (b.map encAssign) false),(5,oV 0 ((x::out).map encAssign))]) (HL:=oH 0 6 ((x::out).map encAssign)) (n:=1) (by simp) (by simp) (by first|rfl|simp) (by first|rfl|simp)) ?_
     simp[fS44r0,fS44r1,fS44r2,fS44r3,fS44r4,fS44b0,fS44r5,fS44b1,fS44r6,fS44r7,fS44r8,fS44r9,fS44b2,fS44r10,fS44b3,fS44r11,fS44,hE]
     refine h2 _ _ _ (Less.auto (by simp) (by simp) (by first|rfl|simp) (by first|rfl|simp)) ?_
     clear h2
     rcases R with _|⟨r,R⟩<;>simp[fS44r0,fS44r1,fS44r2,fS44r3,fS44r4,fS44b0,fS44r5,fS44b1,fS44r6,fS44r7,fS44r8,fS44r9,fS44b2,fS44r10,fS44b3,fS44r11,fS44,hE]
 · intro i out hi ho K hK
   have hi':(i:Int)<a.length:=by omega
   have hw2:IntKind.i64.wrap ((i:Int)+1)=((i+1:Nat):Int):=wrap_succ (by omega)
   have hm5:(i*6) / 6=i:=by omega
   have hm6:(i*6) % 6=0:=by omega
   have hm7:(i*6+1) / 6=i:=by omega
   have hm8:(i*6+1) % 6=1:=by omega
   have hol:out.length=i:=by rw[ho,List.length_map,List.length_take];omega
   have hxo:=ha _ (List.getElem_mem hi)
   have hF:applyU b a[i].type=some (a[i].type.repl b):=if_pos ⟨hxo,hbl⟩
   have hnew:=hK (out++[⟨a[i].id,a[i].type.repl b⟩]) (by rw[List.take_add_one,List.getElem?_eq_getElem hi,Option.toList_some,List.map_append,← ho];rfl)
   clear hK ho
   obtain⟨x,hx⟩:∃ x,a[i]=x:=⟨_,rfl⟩
   rw[hx]at hF hnew
   obtain⟨xi,xt⟩:=x
   simp only at hF hnew
   generalize xt.repl b=r at hF hnew
   obtain⟨xk,xn,xj,xh,xl⟩:=xt
   obtain⟨rk,rn,ri,rh,rl⟩:=r
   rcases out with _|⟨y,out⟩
   · simp[fS44l0,fS44r0,fS44r1,fS44r2,fS44r3,fS44r4,fS44b0,fS44r5,fS44b1,fS44r6,fS44r7,fS44r8,fS44r9,fS44b2,fS44r10,fS44b3,fS44r11,fS44,hE,hi,hi',hm5,hm6,hm7,hm8,hx,hA,hF,hw2,-Int.natCast_add]
     exact hnew _ _ (Less.auto (by simp[-Int.natCast_add]) (by simp) (by first|rfl|simp) (by first|rfl|simp))
   · have hx72:(out.length+1+1)*72≤1048576:=Nat.le_trans (Nat.mul_le_mul_right 72 (show out.length+1+1≤8002 by simp only[List.length_cons]at hol;omega)) (by decide)
     simp[fS44l0,fS44r0,fS44r1,fS44r2,fS44r3,fS44r4,fS44b0,fS44r5,fS44b1,fS44r6,fS44r7,fS44r8,fS44r9,fS44b2,fS44r10,fS44b3,fS44r11,fS44,hE,hi,hi',hm5,hm6,hm7,hm8,hx,hA,hF,hx72,Nat.not_succ_le_self,hw2,-Int.natCast_add]
     exact hnew _ _ (Less.auto (by simp[-Int.natCast_add]) (by simp) (by first|rfl|simp) (by first|rfl|simp))
theorem ref15_assign_run(hO:E.con 186=fnS (spec2 occU))(hC:E.con 44=fnS (spec2 cpF)){x:Int}{t:Ty}{s:List Assign}(ht:t.ok=true)(hl:(leavesL 1 [t] []).length≤10000)(hs1:okA s)(hs2:s.length+1≤8000)(hs:HS) :
 CallOk ρ Tryz.prog 158 [enc x,enc t,enc s] hs (enc (if x∈varsM [t]then ([],12)else (cpM s [⟨x,t⟩],0):List Assign×Int)) hs:=by
 refine fn hρ hE hcon Tryz.func158 fB158 rfl (by simp) ?_ hs
 have hF1:occU x t=some (decide (x∈varsM [t])):=if_pos ⟨ht,hl⟩
 have hF2:cpF s [⟨x,t⟩]=some (cpM s [⟨x,t⟩]):=if_pos ⟨hs1,by simpa using hs2⟩
 generalize cpM s [⟨x,t⟩]=R at hF2
 by_cases hx:x∈varsM [t]
 · rw[decide_eq_true hx]at hF1
   rw[if_pos hx]
   obtain⟨tk,tn,ti,th,ta⟩:=t
   simp[fS158r0,fS158r1,fS158r2,fS158r3,fS158r4,fS158,hE,hO,hF1]
 · rw[decide_eq_false hx]at hF1
   rw[if_neg hx]
   obtain⟨tk,tn,ti,th,ta⟩:=t
   simp[fS158r0,fS158r1,fS158r2,fS158r3,fS158r4,fS158,hE,hO,hF1,hC,hF2]
end
end
end Go.Proofs.YthfcfmkdeheicaaGreat
/- The reference's unification of chapter 15;which substitutions are valid and idempotent,and how one factors through another. -/
namespace Go.Proofs.YthfcfmkdeheicaaGreat
open Go.J
open Go.J.Enc (enc)
set_option maxRecDepth 100000
set_option maxHeartbeats 1000000
def eqN(a b:Ty):Option Bool:=if a.ok=true then some (decide (a=b))else none
section
variable {ρ:Nat→Value}(hρ:J.Good ρ)
include hρ
section
variable {E:Env}(hE:E.P=Tryz.prog)(hcon:ConsOk ρ E)
include hE hcon
theorem ref15_unify_run {f:Nat} (hR:E.con 25=fnS (spec2 replU)) (hq:E.con 23=fnS (spec2 eqN)) (hA:E.con 158=fnS (spec3 asnF)) (hc:E.con 128=fnS (spec3 (ruF f)))
 {V:List Int} {a b:Ty} {s:List Assign} {e:Int} {s':List Assign} (h1:RuC V s) (oa:a.ok=true) (ob:b.ok=true) (pa:a.vplain=true) (pb:b.vplain=true) (ca:cl V (fnA s) a) (cb:cl V (fnA s) b) (h:ruM (f+1) a b s=some (e,s')) (hs:HS) :
 CallOk ρ Tryz.prog 128 [enc a,enc b,enc s] hs (enc (s',e)) hs:=by
 refine fn hρ hE hcon Tryz.func128 fB128 rfl (by simp) ?_ hs
 have hsl:s.length≤100000:=by have:=h1.len;omega
 have hFa:replU a s=some (a.repl s):=if_pos ⟨oa,hsl⟩
 have hFb:replU b s=some (b.repl s):=if_pos ⟨ob,hsl⟩
 have ox:=repl_ok h1.ok a oa
 have oy:=repl_ok h1.ok b ob
 have ea:=repl_app s a pa
 have eb:=repl_app s b pb
 have px:(a.repl s).vplain=true:=by rw[ea];exact plain_app h1.id.plain a pa
 have py:(b.repl s).vplain=true:=by rw[eb];exact plain_app h1.id.plain b pb
 have fx:(a.repl s).app (fnA s)=a.repl s:=by rw[ea];exact h1.id.app a
 have fy:(b.repl s).app (fnA s)=b.repl s:=by rw[eb];exact h1.id.app b
 have cx:cl V (fnA s) (a.repl s):=fun j hj=>ca j (by rw[fx,ea]at hj;exact hj)
 have cy:cl V (fnA s) (b.repl s):=fun j hj=>cb j (by rw[fy,eb]at hj;exact hj)
 have lx:(leavesL 1 [a.repl s] []).length≤10000:=by have:=cl_leaves h1.id px cx;rw[fx]at this;have:=h1.sh;omega
 have ly:(leavesL 1 [b.repl s] []).length≤10000:=by have:=cl_leaves h1.id py cy;rw[fy]at this;have:=h1.sh;omega
 rw[ruM,rS]at h
 generalize a.repl s=x at *
 generalize b.repl s=y at *
 by_cases hxy:x=y
 · subst hxy
   rw[if_pos rfl]at h
   cases h
   have hE1:eqN x x=some true:=by unfold eqN;rw[if_pos ox,decide_eq_true rfl]
   simp[fS128r0,fS128r1,fS128r2,fS128r3,fS128r4,fS128r5,fS128r6,fS128r7,fS128r8,fS128r9,fS128b0,fS128r10,fS128r11,fS128r12,fS128r13,fS128r14,fS128r15,fS128b1,fS128r16,fS128b2,fS128r17,fS128,hE,hR,hFa,hFb,hq,hE1]
 rw[if_neg hxy]at h
 have hE1:eqN x y=some false:=by unfold eqN;rw[if_pos ox,decide_eq_false hxy]
 clear hxy
 have hasn:∀ {n:Int} {t:Ty},t.ok=true→(leavesL 1 [t] []).length≤10000→n∈V→fnA s n=tVar n→rasM n t s=some (e,s')→t.vplain=true→asnF n t s=some (s',e):=fun {n t} ot lt hn hf hr pt=>by
  unfold asnF
  rw[if_pos ⟨ot,lt,h1.ok,h1.room hn hf⟩]
  unfold rasM at hr
  by_cases ho:t.occ n=true
  · rw[if_pos ho]at hr
    cases hr
    rw[if_pos ((occ_vars pt n).2 ho)]
  · rw[if_neg ho]at hr
    cases hr
    rw[if_neg fun hh=>ho ((occ_vars pt n).1 hh),cpM_one]
 have hfree:∀ {t:Ty},t.kind=1→t.vplain=true→t.app (fnA s)=t→cl V (fnA s) t→t.id∈V∧fnA s t.id=tVar t.id:=fun {t} hk pt ft ct=>by
  refine⟨ct _ (by rw[ft,occ_eq,if_pos hk];simp),?_⟩
  rw[app_var hk]at ft
  rw[ft];exact vplain_var pt hk
 obtain⟨xk,xn,xi,xh,xl⟩:=x
 obtain⟨yk,yn,yi,yh,yl⟩:=y
 simp only[Ty.kind_mk,Ty.id_mk,Ty.args_mk]at h
 by_cases hxk:xk=1
 · rw[if_pos hxk]at h
   obtain⟨g1,g2⟩:=hfree (t:=Ty.mk xk xn xi xh xl) hxk px fx cx
   have hF:=hasn oy ly g1 g2 h py
   simp only[Ty.id_mk]at hF
   subst hxk
   simp[fS128r0,fS128r1,fS128r2,fS128r3,fS128r4,fS128r5,fS128r6,fS128r7,fS128r8,fS128r9,fS128b0,fS128r10,fS128r11,fS128r12,fS128r13,fS128r14,fS128r15,fS128b1,fS128r16,fS128b2,fS128r17,fS128,hE,hR,hFa,hFb,hq,hE1,hA,hF]
 rw[if_neg hxk]at h
 by_cases hyk:yk=1
 · rw[if_pos hyk]at h
   obtain⟨g1,g2⟩:=hfree (t:=Ty.mk yk yn yi yh yl) hyk py fy cy
   have hF:=hasn ox lx g1 g2 h px
   simp only[Ty.id_mk]at hF
   subst hyk
   simp[fS128r0,fS128r1,fS128r2,fS128r3,fS128r4,fS128r5,fS128r6,fS128r7,fS128r8,fS128r9,fS128b0,fS128r10,fS128r11,fS128r12,fS128r13,fS128r14,fS128r15,fS128b1,fS128r16,fS128b2,fS128r17,fS128,hE,hR,hFa,hFb,hq,hE1,hxk,hA,hF]
 rw[if_neg hyk]at h
 have sm:(Ty.mk xk xn xi xh xl).same (Ty.mk yk yn yi yh yl)=true↔xk=yk∧xn=yn∧xi=yi∧xh=yh∧xl.length=yl.length:=same_iff
 by_cases q1:xk=yk
 case neg =>
  rw[if_neg fun hh=>q1 (sm.1 hh).1]at h
  cases h
  simp[fS128r0,fS128r1,fS128r2,fS128r3,fS128r4,fS128r5,fS128r6,fS128r7,fS128r8,fS128r9,fS128b0,fS128r10,fS128r11,fS128r12,fS128r13,fS128r14,fS128r15,fS128b1,fS128r16,fS128b2,fS128r17,fS128,hE,hR,hFa,hFb,hq,hE1,hxk,hyk,q1]
 subst q1
 by_cases q2:xn=yn
 case neg =>
  rw[if_neg fun hh=>q2 (sm.1 hh).2.1]at h
  cases h
  simp[fS128r0,fS128r1,fS128r2,fS128r3,fS128r4,fS128r5,fS128r6,fS128r7,fS128r8,fS128r9,fS128b0,fS128r10,fS128r11,fS128r12,fS128r13,fS128r14,fS128r15,fS128b1,fS128r16,fS128b2,fS128r17,fS128,hE,hR,hFa,hFb,hq,hE1,hxk,q2]
 subst q2
 by_cases q3:xi=yi
 case neg =>
  rw[if_neg fun hh=>q3 (sm.1 hh).2.2.1]at h
  cases h
  simp[fS128r0,fS128r1,fS128r2,fS128r3,fS128r4,fS128r5,fS128r6,fS128r7,fS128r8,fS128r9,fS128b0,fS128r10,fS128r11,fS128r12,fS128r13,fS128r14,fS128r15,fS128b1,fS128r16,fS128b2,fS128r17,fS128,hE,hR,hFa,hFb,hq,hE1,hxk,q3]
 subst q3
 by_cases q4:xh=yh
 case neg =>
  rw[if_neg fun hh=>q4 (sm.1 hh).2.2.2.1]at h
  cases h
  simp[fS128r0,fS128r1,fS128r2,fS128r3,fS128r4,fS128r5,fS128r6,fS128r7,fS128r8,fS128r9,fS128b0,fS128r10,fS128r11,fS128r12,fS128r13,fS128r14,fS128r15,fS128b1,fS128r16,fS128b2,fS128r17,fS128,hE,hR,hFa,hFb,hq,hE1,hxk,q4]
 subst q4
 by_cases q5:xl.length=yl.length
 case neg =>
  have q5':¬ (xl.length:Int)=yl.length:=by omega
  rw[if_neg fun hh=>q5 (sm.1 hh).2.2.2.2]at h
  cases h
  simp[fS128r0,fS128r1,fS128r2,fS128r3,fS128r4,fS128r5,fS128r6,fS128r7,fS128r8,fS128r9,fS128b0,fS128r10,fS128r11,fS128r12,fS128r13,fS128r14,fS128r15,fS128b1,fS128r16,fS128b2,fS128r17,fS128,hE,hR,hFa,hFb,hq,hE1,hxk,q5,q5']
 rw[if_pos (sm.2 ⟨rfl,rfl,rfl,rfl,q5⟩)]at h
 have hlx:=Ty.ok_len ox
 simp only[Ty.args_mk]at hlx
 clear hasn hfree
 have cx:=cl_arg (t:=Ty.mk xk xn xi xh xl) hxk cx
 have cy:=cl_arg (t:=Ty.mk xk xn xi xh yl) hxk cy
 have hox:=(Ty.ok_iff.1 ox).2
 have hoy:=(Ty.ok_iff.1 oy).2
 have hpx:=vplains_iff.1 (vplain_args px)
 have hpy:=vplains_iff.1 (vplain_args py)
 simp only[Ty.args_mk]at cx cy hox hoy hpx hpy
 simp[fS128r0,fS128r1,fS128r2,fS128r3,fS128r4,fS128r5,fS128r6,fS128r7,fS128r8,fS128r9,fS128b0,fS128r10,fS128r11,fS128r12,fS128r13,fS128r14,fS128r15,fS128b1,fS128r16,fS128b2,fS128r17,fS128,hE,hR,hFa,hFb,hq,hE1,hxk,q5]
 clear hE1 hFa hFb fx fy ea eb px py ox oy lx ly
 refine lpi hρ hE hcon xl.length (nn:=2) (fun i (s1:List Assign)=>[(2,.sl (s1.map encAssign) false),(3,.ptr 0 0 0),(4,.ptr 1 0 0),(8,.int .i64 (i:Int))]) (fun i _=>[(0,box (encTy (.mk xk xn xi xh xl))),(1,box (encTy (.mk xk xn xi xh yl)))])
  (fun i s1=>RuC V s1∧(∀ u∈xl.drop i,cl V (fnA s1) u)∧(∀ u∈yl.drop i,cl V (fnA s1) u)∧rL (ruM f) (xl.drop i) (yl.drop i) s1=some (e,s')) s
  (Less.auto (by simp) (by simp) (by first|rfl|simp) (by first|rfl|simp)) ⟨h1,by simpa using cx,by simpa using cy,by simpa using h⟩ ?_ ?_
 · rintro s1 ⟨_,_,_,g4⟩ K
   rw[List.drop_length,rL]at g4
   · cases g4
     simp[fS128l0,fS128r0,fS128r1,fS128r2,fS128r3,fS128r4,fS128r5,fS128r6,fS128r7,fS128r8,fS128r9,fS128b0,fS128r10,fS128r11,fS128r12,fS128r13,fS128r14,fS128r15,fS128b1,fS128r16,fS128b2,fS128r17,fS128,hE]
     refine LessQ.mk (Less.auto (TL:=[(2,.sl (s'.map encAssign) false)]) (HL:=[]) (n:=0) (by simp) (by simp) (by first|rfl|simp) (by first|rfl|simp)) ?_
     simp[fS128r0,fS128r1,fS128r2,fS128r3,fS128r4,fS128r5,fS128r6,fS128r7,fS128r8,fS128r9,fS128b0,fS128r10,fS128r11,fS128r12,fS128r13,fS128r14,fS128r15,fS128b1,fS128r16,fS128b2,fS128r17,fS128,hE]
   · intro _ _ _ _ h;cases h
 · rintro i s1 hi ⟨g1,g2,g3,g4⟩ K hK
   have hi':(i:Int)<xl.length:=by omega
   have hiy:i<yl.length:=by omega
   have hiy':(i:Int)<yl.length:=by omega
   have hw2:IntKind.i64.wrap ((i:Int)+1)=((i+1:Nat):Int):=wrap_succ (by omega)
   have hm5:(i*5) / 5=i:=by omega
   have hm6:(i*5) % 5=0:=by omega
   rw[List.drop_eq_getElem_cons hi,List.drop_eq_getElem_cons hiy]at g4
   rw[List.drop_eq_getElem_cons hi]at g2
   rw[List.drop_eq_getElem_cons hiy]at g3
   have mu:=List.getElem_mem hi
   have mv:=List.getElem_mem hiy
   have ou:=hox _ mu
   have ov:=hoy _ mv
   have pu:=hpx _ mu
   have pv:=hpy _ mv
   have cu:=g2 _ (List.mem_cons_self ..)
   have cv:=g3 _ (List.mem_cons_self ..)
   rw[rL]at g4
   obtain⟨u,hu⟩:∃ u,xl[i]=u:=⟨_,rfl⟩
   obtain⟨v,hv⟩:∃ v,yl[i]=v:=⟨_,rfl⟩
   rw[hu]at g4 ou pu cu
   rw[hv]at g4 ov pv cv
   cases hr:ruM f u v s1 with
   |none=>rw[hr]at g4;cases g4
   | some p =>
     obtain⟨e1,s2⟩:=p
     rw[hr]at g4
     simp only at g4
     have hF:=ruF_mk g1 ou ov pu pv cu cv hr
     by_cases he:e1=0
     · subst he
       rw[if_pos rfl]at g4
       obtain⟨k1,k2⟩:=g1.next ou ov pu pv cu cv hr
       have hnew:=hK s2 ⟨k1,fun u hu=>k2 u (g2 u (List.mem_cons_of_mem _ hu)),fun u hu=>k2 u (g3 u (List.mem_cons_of_mem _ hu)),g4⟩
       clear hK hr g4 cu cv pu pv ou ov mu mv
       obtain⟨uk,un,ui,uh,ul⟩:=u
       obtain⟨vk,vn,vi,vh,vl⟩:=v
       simp[fS128l0,fS128r0,fS128r1,fS128r2,fS128r3,fS128r4,fS128r5,fS128r6,fS128r7,fS128r8,fS128r9,fS128b0,fS128r10,fS128r11,fS128r12,fS128r13,fS128r14,fS128r15,fS128b1,fS128r16,fS128b2,fS128r17,fS128,hE,hi,hi',hiy,hiy',hm5,hm6,hu,hv,hc,hF,hw2,q5,-Int.natCast_add]
       exact hnew _ _ (Less.auto (by simp[-Int.natCast_add]) (by simp) (by first|rfl|simp) (by first|rfl|simp))
     · rw[if_neg he]at g4
       cases g4
       clear hK hr cu cv pu pv ou ov mu mv
       obtain⟨uk,un,ui,uh,ul⟩:=u
       obtain⟨vk,vn,vi,vh,vl⟩:=v
       simp[fS128l0,fS128r0,fS128r1,fS128r2,fS128r3,fS128r4,fS128r5,fS128r6,fS128r7,fS128r8,fS128r9,fS128b0,fS128r10,fS128r11,fS128r12,fS128r13,fS128r14,fS128r15,fS128b1,fS128r16,fS128b2,fS128r17,fS128,hE,hi,hi',hiy,hiy',hm5,hm6,hu,hv,hc,hF,he,q5]
       refine LessQ.mk (Less.auto (TL:=[(6,.snil),(7,.int .i64 e)]) (HL:=[]) (n:=0) (by simp) (by simp) (by first|rfl|simp) (by first|rfl|simp)) ?_
       simp[fS128r0,fS128r1,fS128r2,fS128r3,fS128r4,fS128r5,fS128r6,fS128r7,fS128r8,fS128r9,fS128b0,fS128r10,fS128r11,fS128r12,fS128r13,fS128r14,fS128r15,fS128b1,fS128r16,fS128b2,fS128r17,fS128,hE]
theorem ref15_Unify_run{f:Nat}(hc:E.con 128=fnS (spec3 (ruF f))){a b:Ty}{e:Int}{s:List Assign}(hF:ruF f a b []=some (s,e))(hs:HS):CallOk ρ Tryz.prog 90 [enc a,enc b] hs (enc (s,e)) hs:=by
 refine fn hρ hE hcon Tryz.func90 fB90 rfl (by simp) ?_ hs
 simp[fS90r0,fS90r1,fS90,hE,hc,hF]
end
theorem vReplU:Valid ρ Tryz.prog 25 (fnS (spec2 replU)):=v2 (fo Tryz.func25 fB25) fun a b r h hs=>by
 obtain⟨⟨h1,h3⟩,rfl⟩:=ite_inv h
 exact ref3_Replace_run hρ (E:=EL [(25,fnS (spec2 (replF a.size)))]) rfl (consOk_list (valid_cons (vReplace hρ a.size) valid_nil)) rfl h1 (by omega) h3 hs
theorem vApplyU:Valid ρ Tryz.prog 88 (fnS (spec2 applyU)):=v2 (fo Tryz.func88 fB88) fun a b r h hs=>by
 obtain⟨⟨h1,h3⟩,rfl⟩:=ite_inv h
 exact ref13_ApplyU_run hρ (E:=EL [(25,fnS (spec2 replU))]) rfl (consOk_list (valid_cons (vReplU hρ) valid_nil)) rfl h1 h3 hs
theorem vOccU:Valid ρ Tryz.prog 186 (fnS (spec2 occU)):=v2 (fo Tryz.func186 fB186) fun a b r h hs=>by
 obtain⟨⟨h1,h3⟩,rfl⟩:=ite_inv h
 exact ref3_OccursU_run hρ (E:=EL [(34,hasS),(33,varsU)]) rfl (consOk_list (valid_cons (vHas hρ) (valid_cons (vVarsU hρ) valid_nil))) rfl rfl h1 h3 hs
theorem vCompose13:Valid ρ Tryz.prog 44 (fnS (spec2 cpF)):=v2 (fo Tryz.func44 fB44) fun a b r h hs=>by
 obtain⟨⟨h1,h3⟩,rfl⟩:=ite_inv h
 exact ref13_Compose_run hρ (E:=EL [(88,fnS (spec2 applyU)),(92,has13S)]) rfl (consOk_list (valid_cons (vApplyU hρ) (valid_cons (vHas13 hρ) valid_nil))) rfl rfl h1 h3 hs
theorem vAssign15:Valid ρ Tryz.prog 158 (fnS (spec3 asnF)):=v3 (fo Tryz.func158 fB158) fun a b c r h hs=>by
 obtain⟨⟨h1,h2,h3,h4⟩,rfl⟩:=ite_inv h
 exact ref15_assign_run hρ (E:=EL [(186,fnS (spec2 occU)),(44,fnS (spec2 cpF))]) rfl (consOk_list (valid_cons (vOccU hρ) (valid_cons (vCompose13 hρ) valid_nil))) rfl rfl h1 h2 h3 h4 hs
theorem vunify15(f:Nat):Valid ρ Tryz.prog 128 (fnS (spec3 (ruF f))):=by
 induction f with
 | zero =>
   refine v3 (fo Tryz.func128 fB128) fun a b c r h hs=>?_
   obtain⟨V,_,_,_,_,_,_,_,h⟩:=ruF_inv h
   cases h
 | succ f ih =>
   refine v3 (fo Tryz.func128 fB128) fun a b c r h hs=>?_
   obtain⟨V,h1,h2,h3,h4,h5,h6,h7,h8⟩:=ruF_inv h
   exact ref15_unify_run hρ (E:=EL [(25,fnS (spec2 replU)),(23,equalS),(158,fnS (spec3 asnF)),(128,fnS (spec3 (ruF f)))]) rfl
    (consOk_list (valid_cons (vReplU hρ) (valid_cons (vEqual hρ) (valid_cons (vAssign15 hρ) (valid_cons ih valid_nil))))) rfl rfl rfl rfl h1 h2 h3 h4 h5 h6 h7 h8 hs
theorem vUnify15:Valid ρ Tryz.prog 90 (fnS (spec2 rutF)):=v2 (fo Tryz.func90 fB90) fun a b r h hs=>by
 obtain⟨⟨h1,h2,h3,h4,h5⟩,rfl⟩:=ite_inv h
 have hab:∀ t∈[a,b],t.vplain=true:=fun t ht=>by
  rcases List.mem_cons.1 ht with rfl|ht
  · exact h3
  · rw[List.mem_singleton.1 ht];exact h4
 have hl:(varsM [a,b]).length≤8000:=by
  have h1:=idsOf_len (leavesL 1 [a,b] [])
  have h2:=(leavesL_len 1 [a,b] []).2
  simp only[Ty.sizes,List.length_nil]at h2
  unfold varsM;omega
 obtain⟨f,hf⟩:=rut_ok h3 h4
 have hF:=ruF_mk (V:=varsM [a,b]) (.nil hl) h1 h2 h3 h4 (by
  rw[fnA_nil]
  exact fun j hj=>(mem_vars hab j).2 ⟨a,List.mem_cons_self ..,by rw[app_id a h3]at hj;exact hj⟩) (by
  rw[fnA_nil]
  exact fun j hj=>(mem_vars hab j).2 ⟨b,List.mem_cons_of_mem _ (List.mem_singleton_self _),by rw[app_id b h4]at hj;exact hj⟩) hf
 exact ref15_Unify_run hρ (E:=EL [(128,fnS (spec3 (ruF f)))]) rfl (consOk_list (valid_cons (vunify15 hρ f) valid_nil)) rfl hF hs
end
end Go.Proofs.YthfcfmkdeheicaaGreat
/- Which substitutions are valid and idempotent,and how one factors through another: the reference of chapter 13. -/
namespace Go.Proofs.YthfcfmkdeheicaaGreat
open Go.J
open Go.J.Enc (enc)
set_option maxRecDepth 100000
set_option maxHeartbeats 1000000
theorem tVar_ok(i:Int):(tVar i).ok=true:=by simp[tVar,Ty.ok,Ty.oks]
def slV(i:Nat)(A:List Assign):V:=match i with
 | 0=>.snil
 |_+1=>.sl (A.map encAssign) false
section
variable {ρ:Nat→Value}(hρ:J.Good ρ)
include hρ
section
variable {E:Env}(hE:E.P=Tryz.prog)(hcon:ConsOk ρ E)
include hE hcon
end
end
end Go.Proofs.YthfcfmkdeheicaaGreat
