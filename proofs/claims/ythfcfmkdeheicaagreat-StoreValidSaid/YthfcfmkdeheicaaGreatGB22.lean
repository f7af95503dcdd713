import Derived.Test.YthfcfmkdeheicaaGreatGB21
import Derived.Test.YthfcfmkdeheicaaGreatJP
set_option linter.all false
noncomputable section
namespace Go.Proofs.YthfcfmkdeheicaaGreat
open Go.J
open Go.J.Enc (enc)
set_option maxRecDepth 100000
set_option maxHeartbeats 1000000
section
variable {ρ:Nat→Value} (hρ:J.Good ρ) {E:Env} (hE:E.P=Tryz.prog) (hcon:ConsOk ρ E)
include hρ hE hcon
theorem ref17_unify_run {F:Store→Ty→Ty→Option (Store×Int)} {rec:Store→Ty→Ty→Store×Int} (hc:E.con 105=fnS (spec3 F))
    (hS:E.con 134=fnS (spec3 fun (s:Store) (t:Ty) (m:Int)=>if s.tysOk∧t.ok=true∧m<1000000 then some ((sz s.w16 t (max m 0).toNat:Nat):Int) else none))
    (hw:E.con 135=fnS (spec2 fun (s:Store) (t:Ty)=>if s.slots.length≤1000000 then some (s.w16 t) else none)) (hsl:E.con 136=fnS (spec2 fun (s:Store) (t:Ty)=>some (s.isSlot t)))
    (hj:E.con 137=fnS (spec3 fun (s:Store) (x y:Ty)=>if s.slots.length≤1000∧s.trail.length≤990∧s.isSlot x=true∧s.isSlot y=true then some (s.join x.id y.id) else none))
    (hb:E.con 138=fnS (spec3 Store.bindF)) {s:Store} {a b:Ty} (hs:s.tysOk) (htr:s.trail.length≤990) (ha:a.ok=true) (hbo:b.ok=true)
    (hx:s.isSlot (s.w16 a)=true→s.isSlot (s.w16 b)=false→s.bindPre (s.w16 b)) (hy:s.isSlot (s.w16 b)=true→s.isSlot (s.w16 a)=false→s.bindPre (s.w16 a))
    (hu:¬ (200<sz s.w16 a 200∨200<sz s.w16 b 200)→s.isSlot (s.w16 a)=false→s.isSlot (s.w16 b)=false→¬ Store.clash (s.w16 a) (s.w16 b)→Store.uOk F rec (s.w16 a).args (s.w16 b).args s) (hs0:HS) :
    CallOk ρ Tryz.prog 105 [enc s,enc a,enc b] hs0 (enc (Store.uStep rec s a b)) hs0:=by
  refine fn hρ hE hcon Tryz.func105 fB105 rfl (by simp) ?_ hs0
  have hn:=hs.1
  have hn2:s.slots.length≤1000000:=by omega
  have hxo:(s.w16 a).ok=true:=Store.walkN_ok hs _ ha
  have hyo:(s.w16 b).ok=true:=Store.walkN_ok hs _ hbo
  have hm1:(max (200:Int) 0).toNat=200:=rfl
  unfold Store.uStep
  by_cases c1:200<sz s.w16 a 200
  · rw[if_pos (.inl c1)]
    have i1:¬ ((sz s.w16 a 200:Nat):Int)≤200:=by omega
    have j1:(200:Int)<((sz s.w16 a 200:Nat):Int):=by omega
    simp[fS105r0,fS105r1,fS105r2,fS105r3,fS105r4,fS105r5,fS105r6,fS105r7,fS105r8,fS105r9,fS105r10,fS105r11,fS105b0,fS105r12,fS105r13,fS105r14,fS105r15,fS105b1,fS105r16,fS105b2,fS105r17,fS105,hE,hS,hs,ha,hm1,i1,j1]
  by_cases c2:200<sz s.w16 b 200
  · rw[if_pos (.inr c2)]
    have i1:((sz s.w16 a 200:Nat):Int)≤200:=by omega
    have i2:¬ ((sz s.w16 b 200:Nat):Int)≤200:=by omega
    have j1:¬ (200:Int)<((sz s.w16 a 200:Nat):Int):=by omega
    have j2:(200:Int)<((sz s.w16 b 200:Nat):Int):=by omega
    simp[fS105r0,fS105r1,fS105r2,fS105r3,fS105r4,fS105r5,fS105r6,fS105r7,fS105r8,fS105r9,fS105r10,fS105r11,fS105b0,fS105r12,fS105r13,fS105r14,fS105r15,fS105b1,fS105r16,fS105b2,fS105r17,fS105,hE,hS,hs,ha,hbo,hm1,i1,i2,j1,j2]
  rw[if_neg (fun h=>h.elim c1 c2)]
  have c1':((sz s.w16 a 200:Nat):Int)≤200:=by omega
  have c2':((sz s.w16 b 200:Nat):Int)≤200:=by omega
  have k1:¬ (200:Int)<((sz s.w16 a 200:Nat):Int):=by omega
  have k2:¬ (200:Int)<((sz s.w16 b 200:Nat):Int):=by omega
  replace hu:=hu (fun h=>h.elim c1 c2)
  generalize hX:s.w16 a=x at hx hy hu hxo
  generalize hY:s.w16 b=y at hx hy hu hyo
  cases d1:s.isSlot x with
  | true =>
    have e1:=Store.isSlot_some d1
    cases d2:s.isSlot y with
    | true =>
      simp[fS105r0,fS105r1,fS105r2,fS105r3,fS105r4,fS105r5,fS105r6,fS105r7,fS105r8,fS105r9,fS105r10,fS105r11,fS105b0,fS105r12,fS105r13,fS105r14,fS105r15,fS105b1,fS105r16,fS105b2,fS105r17,fS105,hE,hS,hs,ha,hbo,hm1,c1',c2',k1,k2,hw,hn,hn2,hX,hY,hsl,d1,d2,hj,htr]
    | false =>
      have hbf:Store.bindF s x.id y=some (s.bindM x.id y):=if_pos ⟨hs,hyo,hx d1 d2,e1⟩
      generalize s.bindM x.id y=r at hbf
      obtain⟨r1,r2⟩:=r
      simp[fS105r0,fS105r1,fS105r2,fS105r3,fS105r4,fS105r5,fS105r6,fS105r7,fS105r8,fS105r9,fS105r10,fS105r11,fS105b0,fS105r12,fS105r13,fS105r14,fS105r15,fS105b1,fS105r16,fS105b2,fS105r17,fS105,hE,hS,hs,ha,hbo,hm1,c1',c2',k1,k2,hw,hn,hn2,hX,hY,hsl,d1,d2,hb,hbf]
  | false =>
    cases d2:s.isSlot y with
    | true =>
      have e2:=Store.isSlot_some d2
      have hbf:Store.bindF s y.id x=some (s.bindM y.id x):=if_pos ⟨hs,hxo,hy d2 d1,e2⟩
      generalize s.bindM y.id x=r at hbf
      obtain⟨r1,r2⟩:=r
      simp[fS105r0,fS105r1,fS105r2,fS105r3,fS105r4,fS105r5,fS105r6,fS105r7,fS105r8,fS105r9,fS105r10,fS105r11,fS105b0,fS105r12,fS105r13,fS105r14,fS105r15,fS105b1,fS105r16,fS105b2,fS105r17,fS105,hE,hS,hs,ha,hbo,hm1,c1',c2',k1,k2,hw,hn,hn2,hX,hY,hsl,d1,d2,hb,hbf]
    | false =>
      replace hu:=hu d1 d2
      by_cases hcl:Store.clash x y
      · rw [if_neg (by simp),if_neg (by simp),if_pos hcl]
        by_cases q1:x.kind=y.kind
        · have p1 := eq_true q1
          by_cases q2:x.name=y.name
          · have p2:=eq_true q2
            by_cases q3:x.id=y.id
            · have p3:=eq_true q3
              by_cases q4:x.home=y.home
              · have p4:=eq_true q4
                by_cases q5:x.args.length=y.args.length
                · exact absurd hcl (by unfold Store.clash; simp[q1,q2,q3,q4,q5])
                · have q5i:¬ (x.args.length:Int)=(y.args.length:Int):=by omega
                  simp[fS105r0,fS105r1,fS105r2,fS105r3,fS105r4,fS105r5,fS105r6,fS105r7,fS105r8,fS105r9,fS105r10,fS105r11,fS105b0,fS105r12,fS105r13,fS105r14,fS105r15,fS105b1,fS105r16,fS105b2,fS105r17,fS105,hE,hS,hs,ha,hbo,hm1,c1',c2',k1,k2,hw,hn,hn2,hX,hY,hsl,d1,d2,p1,p2,p3,p4,q5i]
              · simp[fS105r0,fS105r1,fS105r2,fS105r3,fS105r4,fS105r5,fS105r6,fS105r7,fS105r8,fS105r9,fS105r10,fS105r11,fS105b0,fS105r12,fS105r13,fS105r14,fS105r15,fS105b1,fS105r16,fS105b2,fS105r17,fS105,hE,hS,hs,ha,hbo,hm1,c1',c2',k1,k2,hw,hn,hn2,hX,hY,hsl,d1,d2,p1,p2,p3,q4]
            · simp[fS105r0,fS105r1,fS105r2,fS105r3,fS105r4,fS105r5,fS105r6,fS105r7,fS105r8,fS105r9,fS105r10,fS105r11,fS105b0,fS105r12,fS105r13,fS105r14,fS105r15,fS105b1,fS105r16,fS105b2,fS105r17,fS105,hE,hS,hs,ha,hbo,hm1,c1',c2',k1,k2,hw,hn,hn2,hX,hY,hsl,d1,d2,p1,p2,q3]
          · simp[fS105r0,fS105r1,fS105r2,fS105r3,fS105r4,fS105r5,fS105r6,fS105r7,fS105r8,fS105r9,fS105r10,fS105r11,fS105b0,fS105r12,fS105r13,fS105r14,fS105r15,fS105b1,fS105r16,fS105b2,fS105r17,fS105,hE,hS,hs,ha,hbo,hm1,c1',c2',k1,k2,hw,hn,hn2,hX,hY,hsl,d1,d2,p1,q2]
        · simp[fS105r0,fS105r1,fS105r2,fS105r3,fS105r4,fS105r5,fS105r6,fS105r7,fS105r8,fS105r9,fS105r10,fS105r11,fS105b0,fS105r12,fS105r13,fS105r14,fS105r15,fS105b1,fS105r16,fS105b2,fS105r17,fS105,hE,hS,hs,ha,hbo,hm1,c1',c2',k1,k2,hw,hn,hn2,hX,hY,hsl,d1,d2,q1]
      · rw [if_neg (by simp),if_neg (by simp),if_neg hcl]
        replace hu:=hu hcl
        unfold Store.clash at hcl
        simp only[not_or,Classical.not_not] at hcl
        obtain⟨q1,q2,q3,q4,q5⟩:=hcl
        have p1:=eq_true q1
        have p2:=eq_true q2
        have p3:=eq_true q3
        have p4:=eq_true q4
        have p5:((x.args.length:Int)=(y.args.length:Int))=True:=eq_true (by omega)
        simp[fS105r0,fS105r1,fS105r2,fS105r3,fS105r4,fS105r5,fS105r6,fS105r7,fS105r8,fS105r9,fS105r10,fS105r11,fS105b0,fS105r12,fS105r13,fS105r14,fS105r15,fS105b1,fS105r16,fS105b2,fS105r17,fS105,hE,hS,hs,ha,hbo,hm1,c1',c2',k1,k2,hw,hn,hn2,hX,hY,hsl,d1,d2,p1,p2,p3,p4,p5]
        generalize hR:Store.uL rec x.args y.args s=R
        clear hx hy c1 c2 c1' c2' k1 k2 hX hY htr
        have hxl:=Ty.ok_len hxo
        refine lpi hρ hE hcon x.args.length (nn:=4) (fun i (p:Store×Int)=>[(3,.ptr 0 0 0),(6,.ptr 1 0 0),(8,.ptr 2 0 0),(9,.ptr 3 0 0),(10,.int .i64 p.2),(11,.int .i64 (i:Int))])
          (fun i p=>[(0,box (encStore p.1)),(1,box [.snil,.snil]),(2,box (encTy x)),(3,box (encTy y))])
          (fun i p=>(p.2=0→Store.uOk F rec (x.args.drop i) (y.args.drop i) p.1∧Store.uL rec (x.args.drop i) (y.args.drop i) p.1=R)∧(p.2≠0→p=R)) (s,0)
          (Less.auto (by simp) (by simp) (by simp) (by simp)) ⟨fun _=>⟨by simpa using hu,by simpa using hR⟩,fun h=>absurd rfl h⟩ ?_ ?_
        · rintro ⟨s1,e1⟩ ⟨g1,g2⟩ K
          have hfin:(s1,e1)=R:=by
            by_cases he:e1=0
            · have:=(g1 he).2
              rw[List.drop_length] at this
              rw[← this,he]; rfl
            · exact g2 he
          rw[← hfin]
          simp[fS105l0,fS105r0,fS105r1,fS105r2,fS105r3,fS105r4,fS105r5,fS105r6,fS105r7,fS105r8,fS105r9,fS105r10,fS105r11,fS105b0,fS105r12,fS105r13,fS105r14,fS105r15,fS105b1,fS105r16,fS105b2,fS105r17,fS105,hE]
          refine LessQ.mk (Less.auto (TL:=[(3,.ptr 0 0 0),(6,.ptr 1 0 0),(10,.int .i64 e1)]) (HL:=[(0,box (encStore s1)),(1,box [.snil,.snil])]) (n:=4) (by simp) (by simp) (by simp) (by simp)) ?_
          simp[fS105r0,fS105r1,fS105r2,fS105r3,fS105r4,fS105r5,fS105r6,fS105r7,fS105r8,fS105r9,fS105r10,fS105r11,fS105b0,fS105r12,fS105r13,fS105r14,fS105r15,fS105b1,fS105r16,fS105b2,fS105r17,fS105,hE]
        · rintro i ⟨s1,e1⟩ hi ⟨g1,g2⟩ K hK
          have hi':(i:Int)<x.args.length:=by omega
          by_cases he:e1=0
          · subst he
            obtain⟨g3,g4⟩:=g1 rfl
            have hiy:i<y.args.length:=by omega
            rw[List.drop_eq_getElem_cons hi,List.drop_eq_getElem_cons hiy] at g3 g4
            simp only[Store.uOk] at g3
            rw[Store.uL] at g4
            obtain⟨g5,g6⟩:=g3
            have hnew:=hK (rec s1 x.args[i] y.args[i]) ⟨fun h=>⟨g6 h,by rw[if_pos h] at g4; exact g4⟩,fun h=>by rw[if_neg h] at g4; exact g4⟩
            generalize rec s1 x.args[i] y.args[i]=r at g5 hnew
            obtain⟨r1,r2⟩:=r
            have hw2:IntKind.i64.wrap ((i:Int)+1)=((i+1:Nat):Int):=wrap_succ (by omega)
            simp[fS105l0,fS105r0,fS105r1,fS105r2,fS105r3,fS105r4,fS105r5,fS105r6,fS105r7,fS105r8,fS105r9,fS105r10,fS105r11,fS105b0,fS105r12,fS105r13,fS105r14,fS105r15,fS105b1,fS105r16,fS105b2,fS105r17,fS105,hE,hi,hi',hiy,hc,g5,hw2,-Int.natCast_add]
            exact hnew _ _ (Less.auto (by simp[-Int.natCast_add]) (by simp) (by simp) (by simp))
          · rw[← g2 he]
            simp[fS105l0,fS105r0,fS105r1,fS105r2,fS105r3,fS105r4,fS105r5,fS105r6,fS105r7,fS105r8,fS105r9,fS105r10,fS105r11,fS105b0,fS105r12,fS105r13,fS105r14,fS105r15,fS105b1,fS105r16,fS105b2,fS105r17,fS105,hE,hi',he]
            refine LessQ.mk (Less.auto (TL:=[(3,.ptr 0 0 0),(6,.ptr 1 0 0),(10,.int .i64 e1)]) (HL:=[(0,box (encStore s1)),(1,box [.snil,.snil])]) (n:=4) (by simp) (by simp) (by simp) (by simp)) ?_
            simp[fS105r0,fS105r1,fS105r2,fS105r3,fS105r4,fS105r5,fS105r6,fS105r7,fS105r8,fS105r9,fS105r10,fS105r11,fS105b0,fS105r12,fS105r13,fS105r14,fS105r15,fS105b1,fS105r16,fS105b2,fS105r17,fS105,hE]
end
end Go.Proofs.YthfcfmkdeheicaaGreat
