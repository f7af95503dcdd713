import Derived.Test.YthfcfmkdeheicaaGreatJL
import Derived.Test.YthfcfmkdeheicaaGreatJN
import Derived.Test.YthfcfmkdeheicaaGreatJP
set_option linter.all false
noncomputable section
/- Two searches for cycles in a store say the same. -/
namespace Go.J
open Enc (enc)
def Store.sc (s:Store) (i:Int):List Int:=match s.slots[i.toNat]? with
  | some x=>varsM [x.type]
  | none=>[]
def Store.er (s:Store) (i k:Int):Prop:=k∈s.sc i
def acL (rec:Int→List Int→List Int×Bool):List Int→List Int→List Int×Bool
  | [],S=>(S,true)
  | v::l,S=>if (rec v S).2=true then acL rec l (rec v S).1 else ((rec v S).1,false)
def at0 (S:List Int) (i:Int):Int:=(S[i.toNat]?).getD 0
def acM (s:Store):Nat→Int→List Int→List Int×Bool
  | 0,_,S=>(S,false)
  | f+1,i,S=>if at0 S i>0 then (S,decide (at0 S i=2)) else
    if (acL (acM s f) (s.sc i) (S.set i.toNat 1)).2=true then ((acL (acM s f) (s.sc i) (S.set i.toNat 1)).1.set i.toNat 2,true) else ((acL (acM s f) (s.sc i) (S.set i.toNat 1)).1,false)
def Store.cl (s:Store):Prop:=∀ i k,s.er i k→0≤k∧k<s.slots.length
theorem at0_set {S:List Int} {i j v:Int} (hi:0≤i) (hl:i<S.length) (hj:0≤j):at0 (S.set i.toNat v) j=if j=i then v else at0 S j:=by
  unfold at0
  rw[List.getElem?_set]
  by_cases h:j=i
  · subst h
    rw[if_pos rfl,if_pos rfl,if_pos (by omega)]; rfl
  · rw[if_neg h,if_neg (by omega)]
def Store.mk3 (s:Store) (S:List Int):Prop:=S.length=s.slots.length∧∀ j:Int,0≤j→at0 S j=0∨at0 S j=1∨at0 S j=2
theorem Store.mk3.set {s:Store} {S:List Int} (h:s.mk3 S) {i v:Int} (hi:0≤i) (hl:i<s.slots.length) (hv:v=0∨v=1∨v=2):s.mk3 (S.set i.toNat v):=by
  refine⟨by rw[List.length_set]; exact h.1,fun j hj=>?_⟩
  rw[at0_set hi (by rw[h.1]; exact hl) hj]
  split
  · exact hv
  · exact h.2 j hj
theorem acM_len (s:Store):∀ (f:Nat) (i:Int) (S:List Int),(acM s f i S).1.length=S.length:=by
  intro f
  induction f with
  | zero=>intro i S; rfl
  | succ f ih =>
    intro i S
    have hl:∀ (l:List Int) (S:List Int),(acL (acM s f) l S).1.length=S.length:=by
      intro l
      induction l with
      | nil=>intro S; rfl
      | cons v l ihl =>
        intro S
        rw[acL]
        split
        · rw[ihl,ih]
        · exact ih v S
    rw[acM]
    split
    · rfl
    · split
      · show ((acL _ _ _).1.set _ _).length=_
        rw[List.length_set,hl,List.length_set]
      · show (acL _ _ _).1.length=_
        rw[hl,List.length_set]
theorem acM_true {s:Store} (hc:s.cl):∀ (f:Nat) (i:Int) (S:List Int),0≤i→i<s.slots.length→S.length=s.slots.length→(∀ j:Int,0≤j→at0 S j=2→Acc (fun k j=>s.er j k) j)→(acM s f i S).2=true →
    (∀ j:Int,0≤j→at0 (acM s f i S).1 j=2→Acc (fun k j=>s.er j k) j)∧Acc (fun k j=>s.er j k) i:=by
  intro f
  induction f with
  | zero=>intro i S _ _ _ _ h; cases h
  | succ f ih =>
    intro i S hi hl hS ha h
    have hloop:∀ (l:List Int) (S:List Int),(∀ v∈l,0≤v∧v<s.slots.length)→S.length=s.slots.length→(∀ j:Int,0≤j→at0 S j=2→Acc (fun k j=>s.er j k) j)→(acL (acM s f) l S).2=true →
        (∀ j:Int,0≤j→at0 (acL (acM s f) l S).1 j=2→Acc (fun k j=>s.er j k) j)∧(∀ v∈l,Acc (fun k j=>s.er j k) v)∧(acL (acM s f) l S).1.length=s.slots.length:=by
      intro l
      induction l with
      | nil=>intro S _ hS ha _; exact⟨ha,fun v hv=>(by cases hv),hS⟩
      | cons v l ihl =>
        intro S hr hS ha h
        rw[acL] at h ⊢
        have hv:=hr v (List.mem_cons_self ..)
        by_cases hb:(acM s f v S).2=true
        · rw[if_pos hb] at h ⊢
          obtain⟨h1,h2⟩:=ih v S hv.1 hv.2 hS ha hb
          obtain⟨h3,h4,h5⟩:=ihl (acM s f v S).1 (fun w hw=>hr w (List.mem_cons_of_mem _ hw)) (by rw[acM_len]; exact hS) h1 h
          refine⟨h3,fun w hw=>?_,h5⟩
          rcases List.mem_cons.1 hw with rfl | hw
          · exact h2
          · exact h4 w hw
        · rw[if_neg hb] at h; cases h
    rw[acM] at h ⊢
    by_cases hp:at0 S i>0
    · rw[if_pos hp] at h ⊢
      exact⟨ha,ha i hi (of_decide_eq_true h)⟩
    · rw [if_neg hp] at h ⊢
      by_cases hb:(acL (acM s f) (s.sc i) (S.set i.toNat 1)).2=true
      · rw[if_pos hb]
        obtain⟨h1,h2,h3⟩:=hloop (s.sc i) (S.set i.toNat 1) (fun v hv=>hc i v hv) (by rw[List.length_set]; exact hS) (fun j hj h2=>by
          rw[at0_set hi (by rw[hS]; exact hl) hj] at h2
          split at h2
          · cases h2
          · exact ha j hj h2) hb
        have hacc:Acc (fun k j=>s.er j k) i:=⟨_,fun k hk=>h2 k hk⟩
        refine⟨fun j hj h4=>?_,hacc⟩
        change at0 ((acL (acM s f) (s.sc i) (S.set i.toNat 1)).1.set i.toNat 2) j=2 at h4
        rw[at0_set hi (by rw[h3]; exact hl) hj] at h4
        split at h4
        · rename_i e; rw[e]; exact hacc
        · exact h1 j hj h4
      · rw[if_neg hb] at h; cases h
abbrev Store.tg (s:Store):Int→Int→Prop:=Relation.TransGen s.er
theorem count_at0 {S:List Int} {i:Int} (hi:0≤i) (hl:i<S.length) (h:at0 S i=0):(S.set i.toNat 1).count 0+1=S.count 0:=by
  refine count_set1 ?_
  unfold at0 at h
  have hlt:i.toNat<S.length:=by omega
  rw[List.getElem?_eq_getElem hlt] at h ⊢
  exact congrArg some h
theorem count_set2 {S:List Int} {i:Int} (hi:0≤i):(S.set i.toNat 2).count 0≤S.count 0:=by
  by_cases hl:i.toNat<S.length
  · rw[List.count_set hl]
    split<;>simp<;>omega
  · rw[List.set_eq_of_length_le (by omega)]; exact Nat.le_refl _
theorem acM_false {s:Store} (hc:s.cl):∀ (f:Nat) (i:Int) (S:List Int),0≤i→i<s.slots.length→s.mk3 S→S.count 0<f→(∀ j:Int,0≤j→at0 S j=1→s.tg j i) →
    ((acM s f i S).2=false→∃ x:Int,0≤x∧x<s.slots.length∧s.tg x x)∧((acM s f i S).2=true→s.mk3 (acM s f i S).1∧(acM s f i S).1.count 0≤S.count 0∧∀ j:Int,0≤j→at0 (acM s f i S).1 j=1→at0 S j=1):=by
  intro f
  induction f with
  | zero=>intro i S _ _ _ h; omega
  | succ f ih =>
    intro i S hi hl hS hcnt hpre
    have hloop:∀ (l:List Int) (S:List Int),(∀ v∈l,0≤v∧v<s.slots.length∧s.er i v)→s.mk3 S→S.count 0<f→(∀ j:Int,0≤j→at0 S j=1→j=i∨s.tg j i) →
        ((acL (acM s f) l S).2=false→∃ x:Int,0≤x∧x<s.slots.length∧s.tg x x)∧((acL (acM s f) l S).2=true→s.mk3 (acL (acM s f) l S).1∧(acL (acM s f) l S).1.count 0≤S.count 0∧∀ j:Int,0≤j→at0 (acL (acM s f) l S).1 j=1→at0 S j=1):=by
      intro l
      induction l with
      | nil=>intro S _ hS _ _; exact⟨fun h=>(by cases h),fun _=>⟨hS,Nat.le_refl _,fun j _ h=>h⟩⟩
      | cons v l ihl =>
        intro S hr hS hcnt hpre
        obtain⟨v1,v2,v3⟩:=hr v (List.mem_cons_self ..)
        obtain⟨h1,h2⟩:=ih v S v1 v2 hS hcnt (fun j hj h=>by
          rcases hpre j hj h with rfl | h
          · exact .single v3
          · exact .tail h v3)
        rw[acL]
        by_cases hb:(acM s f v S).2=true
        · rw[if_pos hb]
          obtain⟨h3,h4,h5⟩:=h2 hb
          obtain⟨g1,g2⟩:=ihl (acM s f v S).1 (fun w hw=>hr w (List.mem_cons_of_mem _ hw)) h3 (by omega) (fun j hj h=>hpre j hj (h5 j hj h))
          refine⟨g1,fun h=>?_⟩
          obtain⟨g3,g4,g5⟩:=g2 h
          exact⟨g3,by omega,fun j hj h=>h5 j hj (g5 j hj h)⟩
        · rw[if_neg hb]
          exact⟨fun _=>h1 (by simpa using hb),fun h=>(by cases h)⟩
    rw[acM]
    by_cases hp:at0 S i>0
    · rw[if_pos hp]
      refine⟨fun h=>?_,fun _=>⟨hS,Nat.le_refl _,fun j _ h=>h⟩⟩
      have h2:¬ at0 S i=2:=of_decide_eq_false h
      have h1:at0 S i=1:=by rcases hS.2 i hi with h | h | h<;>omega
      exact⟨i,hi,hl,hpre i hi h1⟩
    · rw [if_neg hp]
      have h0:at0 S i=0:=by rcases hS.2 i hi with h | h | h<;>omega
      have hlS:i<S.length:=by rw[hS.1]; exact hl
      have hc1:=count_at0 hi hlS h0
      obtain⟨h1,h2⟩:=hloop (s.sc i) (S.set i.toNat 1) (fun v hv=>⟨(hc i v hv).1,(hc i v hv).2,hv⟩) (hS.set hi hl (.inr (.inl rfl))) (by omega) (fun j hj h=>by
        rw[at0_set hi hlS hj] at h
        split at h
        · rename_i e; exact .inl e
        · exact .inr (hpre j hj h))
      by_cases hb:(acL (acM s f) (s.sc i) (S.set i.toNat 1)).2=true
      · rw [if_pos hb]
        refine⟨fun h=>(by cases h),fun _=>?_⟩
        obtain⟨h3,h4,h5⟩:=h2 hb
        refine⟨h3.set hi hl (.inr (.inr rfl)),?_,fun j hj h=>?_⟩
        · have:=count_set2 (S:=(acL (acM s f) (s.sc i) (S.set i.toNat 1)).1) hi
          show ((acL (acM s f) (s.sc i) (S.set i.toNat 1)).1.set i.toNat 2).count 0≤_
          omega
        · change at0 ((acL (acM s f) (s.sc i) (S.set i.toNat 1)).1.set i.toNat 2) j=1 at h
          rw[at0_set hi (by rw[h3.1]; exact hl) hj] at h
          split at h
          · cases h
          · rename_i hne
            have h6:=h5 j hj h
            rw[at0_set hi hlS hj,if_neg hne] at h6
            exact h6
      · rw[if_neg hb]
        exact⟨fun _=>h1 (by simpa using hb),fun h=>(by cases h)⟩
theorem cycM_sound {s:Store} {fr:Int}:∀ (f:Nat) (i:Int) (S:List Int),(cycM s fr f i S).2=true→s.tg i fr:=by
  intro f
  induction f with
  | zero=>intro i S h; cases h
  | succ f ih =>
    intro i S h
    have hloop:∀ (l:List Int) (S:List Int),(∀ v∈l,s.er i v)→(cycL (cycM s fr f) fr l S).2=true→s.tg i fr:=by
      intro l
      induction l with
      | nil=>intro S _ h; cases h
      | cons v l ihl =>
        intro S hr h
        have hv:=hr v (List.mem_cons_self ..)
        rw[cycL] at h
        split at h
        · rename_i e; rw[← e]; exact .single hv
        · split at h
          · split at h
            · rename_i hb
              have h1:=ih v _ hb
              exact Relation.TransGen.trans (.single hv) h1
            · exact ihl _ (fun w hw=>hr w (List.mem_cons_of_mem _ hw)) h
          · exact ihl _ (fun w hw=>hr w (List.mem_cons_of_mem _ hw)) h
    rw[cycM] at h
    split at h
    · rename_i x hx
      split at h
      · exact hloop _ _ (fun v hv=>by unfold Store.er Store.sc; rw[hx]; exact hv) h
      · cases h
    · cases h
def Store.ub (s:Store):Prop:=∀ (i:Int) (x:Slot),s.slots[i.toNat]?=some x→x.bound=false→s.sc i=[]
theorem cycM_cpl {s:Store} (hc:s.cl) (hu:s.ub) {fr:Int}:∀ (f:Nat) (i:Int) (S:List Int),0≤i→i<s.slots.length→S.length=s.slots.length→S.count 0<f→(cycM s fr f i S).2=false →
    (cycM s fr f i S).1.length=s.slots.length∧(cycM s fr f i S).1.count 0≤S.count 0∧(∀ j:Int,0≤j→at0 S j≠0→at0 (cycM s fr f i S).1 j≠0)∧∀ x:Int,0≤x→(x=i∨at0 S x=0∧at0 (cycM s fr f i S).1 x≠0)→∀ k,s.er x k→k≠fr∧at0 (cycM s fr f i S).1 k≠0:=by
  intro f
  induction f with
  | zero=>intro i S _ _ _ h; omega
  | succ f ih =>
    intro i S hi hl hS hcnt h
    have hloop:∀ (l:List Int) (S:List Int),(∀ v∈l,0≤v∧v<s.slots.length)→S.length=s.slots.length→S.count 0≤f→(cycL (cycM s fr f) fr l S).2=false →
        (cycL (cycM s fr f) fr l S).1.length=s.slots.length∧(cycL (cycM s fr f) fr l S).1.count 0≤S.count 0∧(∀ j:Int,0≤j→at0 S j≠0→at0 (cycL (cycM s fr f) fr l S).1 j≠0)∧(∀ v∈l,v≠fr∧at0 (cycL (cycM s fr f) fr l S).1 v≠0) ∧
          ∀ x:Int,0≤x→at0 S x=0→at0 (cycL (cycM s fr f) fr l S).1 x≠0→∀ k,s.er x k→k≠fr∧at0 (cycL (cycM s fr f) fr l S).1 k≠0:=by
      intro l
      induction l with
      | nil=>intro S _ hS _ _; exact⟨hS,Nat.le_refl _,fun j _ h=>h,fun v hv=>(by cases hv),fun x _ h1 h2=>absurd h1 h2⟩
      | cons v l ihl =>
        intro S hr hS hcnt h
        obtain⟨v1,v2⟩:=hr v (List.mem_cons_self ..)
        have hvS:v<S.length:=by rw[hS]; exact v2
        rw[cycL] at h ⊢
        by_cases hvf:v=fr
        · rw[if_pos hvf] at h; cases h
        rw[if_neg hvf] at h ⊢
        by_cases h0:S[v.toNat]?=some 0
        · rw [if_pos h0] at h ⊢
          have hat:at0 S v=0:=by unfold at0; rw[h0]; rfl
          have hc1:=count_at0 v1 hvS hat
          by_cases hb:(cycM s fr f v (S.set v.toNat 1)).2=true
          · rw[if_pos hb] at h; cases h
          rw[if_neg hb] at h ⊢
          obtain⟨a1,a2,a3,a4⟩:=ih v (S.set v.toNat 1) v1 v2 (by rw[List.length_set]; exact hS) (by omega) (by simpa using hb)
          obtain⟨b1,b2,b3,b4,b5⟩:=ihl (cycM s fr f v (S.set v.toNat 1)).1 (fun w hw=>hr w (List.mem_cons_of_mem _ hw)) a1 (by omega) h
          have mono:∀ j:Int,0≤j→at0 S j≠0→at0 (cycM s fr f v (S.set v.toNat 1)).1 j≠0:=fun j hj h=>a3 j hj (by
            rw[at0_set v1 hvS hj]
            split
            · decide
            · exact h)
          have hv1:at0 (cycM s fr f v (S.set v.toNat 1)).1 v≠0:=a3 v v1 (by rw[at0_set v1 hvS v1,if_pos rfl]; decide)
          refine⟨b1,by omega,fun j hj h=>b3 j hj (mono j hj h),fun w hw=>?_,fun x hx hx0 hx1 k hk=>?_⟩
          · rcases List.mem_cons.1 hw with rfl | hw
            · exact⟨hvf,b3 w v1 hv1⟩
            · exact b4 w hw
          · by_cases hy:at0 (cycM s fr f v (S.set v.toNat 1)).1 x=0
            · exact b5 x hx hy hx1 k hk
            · have hxk:x=v∨at0 (S.set v.toNat 1) x=0∧at0 (cycM s fr f v (S.set v.toNat 1)).1 x≠0:=by
                by_cases e:x=v
                · exact .inl e
                · exact .inr ⟨by rw[at0_set v1 hvS hx,if_neg e]; exact hx0,hy⟩
              obtain⟨c1,c2⟩:=a4 x hx hxk k hk
              exact⟨c1,b3 k (hc x k hk).1 c2⟩
        · rw[if_neg h0] at h ⊢
          obtain⟨b1,b2,b3,b4,b5⟩:=ihl S (fun w hw=>hr w (List.mem_cons_of_mem _ hw)) hS hcnt h
          refine⟨b1,b2,b3,fun w hw=>?_,b5⟩
          rcases List.mem_cons.1 hw with rfl | hw
          · refine⟨hvf,b3 w v1 ?_⟩
            intro e
            unfold at0 at e
            have hlt:w.toNat<S.length:=by omega
            rw[List.getElem?_eq_getElem hlt] at e h0
            exact h0 (congrArg some e)
          · exact b4 w hw
    rw[cycM] at h ⊢
    have hin:i.toNat<s.slots.length:=by omega
    rw[List.getElem?_eq_getElem hin] at h ⊢
    have hx:s.slots[i.toNat]?=some s.slots[i.toNat]:=List.getElem?_eq_getElem hin
    generalize s.slots[i.toNat]=x at h hx
    simp only at h ⊢
    by_cases hb:x.bound=true
    · rw[if_pos hb] at h ⊢
      have hsc:s.sc i=varsM [x.type]:=by unfold Store.sc; rw[hx]
      obtain⟨b1,b2,b3,b4,b5⟩:=hloop (varsM [x.type]) S (fun v hv=>hc i v (by unfold Store.er; rw[hsc]; exact hv)) hS (by omega) h
      refine⟨b1,b2,b3,fun y hy hyc k hk=>?_⟩
      rcases hyc with rfl | ⟨h1,h2⟩
      · unfold Store.er at hk
        rw[hsc] at hk
        exact b4 k hk
      · exact b5 y hy h1 h2 k hk
    · rw[if_neg hb] at h ⊢
      refine⟨hS,Nat.le_refl _,fun j _ h=>h,fun y hy hyc k hk=>?_⟩
      rcases hyc with rfl | ⟨h1,h2⟩
      · unfold Store.er at hk
        rw[hu y x hx (by simpa using hb)] at hk
        cases hk
      · exact absurd h1 h2
theorem at0_zero (n:Nat) (j:Int):at0 (List.replicate n 0) j=0:=by
  unfold at0
  rw[List.getElem?_replicate]
  split<;>rfl
theorem cyc_iff {s:Store} (hc:s.cl) (hu:s.ub) {i:Nat} (hi:i<s.slots.length):s.cyc i=true↔s.tg i i:=by
  constructor
  · intro h; exact cycM_sound _ _ _ h
  · intro h
    refine Classical.byContradiction fun hn=>?_
    have hf:(cycM s i (s.slots.length+1) i (List.replicate s.slots.length 0)).2=false:=by unfold Store.cyc at hn; simpa using hn
    obtain⟨h1,h2,h3,h4⟩:=cycM_cpl hc hu (fr:=(i:Int)) (s.slots.length+1) (i:Int) (List.replicate s.slots.length 0) (by omega) (by omega) (by simp) (by rw[List.count_replicate_self]; omega) hf
    have key:∀ y,s.tg i y→y≠(i:Int)∧at0 (cycM s i (s.slots.length+1) i (List.replicate s.slots.length 0)).1 y≠0:=by
      intro y hy
      induction hy with
      | single h=>exact h4 i (by omega) (.inl rfl) _ h
      | tail hp h ih =>
        rename_i b c
        exact h4 b (by
          cases hp with
          | single h=>exact (hc _ _ h).1
          | tail _ h=>exact (hc _ _ h).1) (.inr ⟨at0_zero _ _,ih.2⟩) _ h
    exact (key i h).1 rfl
def Store.acAll (s:Store):Bool:=(acL (acM s (s.slots.length+1)) ((List.range s.slots.length).map fun i:Nat=>(i:Int)) (List.replicate s.slots.length 0)).2
theorem acc_irr {s:Store} {x:Int} (h:Acc (fun k j=>s.er j k) x):¬ s.tg x x:=by
  have key:∀ x,Acc (fun k j=>s.er j k) x→∀ y,s.tg x y→Acc (fun k j=>s.er j k) y:=by
    intro x hx y hy
    induction hy with
    | single h=>exact hx.inv h
    | tail _ h ih=>exact ih.inv h
  induction h with
  | intro x hx ih =>
    intro ht
    have first:∃ y,s.er x y∧(y=x∨s.tg y x):=by
      have:∀ z,s.tg x z→∃ y,s.er x y∧(y=z∨s.tg y z):=by
        intro z hz
        induction hz with
        | single h=>exact⟨_,h,.inl rfl⟩
        | tail _ h ihz =>
          obtain⟨y,hy,hyz⟩:=ihz
          rcases hyz with rfl | hyz
          · exact⟨y,hy,.inr (.single h)⟩
          · exact⟨y,hy,.inr (.tail hyz h)⟩
      exact this x ht
    obtain⟨y,hy,hyx⟩:=first
    rcases hyx with rfl | hyx
    · exact ih y hy (.single hy)
    · exact ih y hy (.tail hyx hy)
theorem acAll_iff {s:Store} (hc:s.cl) (hu:s.ub):s.acAll=true↔∀ i∈List.range s.slots.length,s.cyc i=false:=by
  have h3:s.mk3 (List.replicate s.slots.length 0):=⟨by simp,fun j _=>.inl (at0_zero _ _)⟩
  have hcnt:(List.replicate s.slots.length (0:Int)).count 0<s.slots.length+1:=by rw[List.count_replicate_self]; omega
  have hall:∀ (l:List Int) (S:List Int),(∀ v∈l,0≤v∧v<s.slots.length)→s.mk3 S→S.count 0<s.slots.length+1→(∀ j:Int,0≤j→at0 S j≠1)→(∀ j:Int,0≤j→at0 S j=2→Acc (fun k j=>s.er j k) j) →
      ((acL (acM s (s.slots.length+1)) l S).2=false→∃ x:Int,0≤x∧x<s.slots.length∧s.tg x x)∧((acL (acM s (s.slots.length+1)) l S).2=true→∀ v∈l,Acc (fun k j=>s.er j k) v):=by
    intro l
    induction l with
    | nil=>intro S _ _ _ _ _; exact⟨fun h=>(by cases h),fun _ v hv=>(by cases hv)⟩
    | cons v l ih =>
      intro S hr hS hcnt h1 h2
      obtain⟨v1,v2⟩:=hr v (List.mem_cons_self ..)
      obtain⟨a1,a2⟩:=acM_false hc (s.slots.length+1) v S v1 v2 hS hcnt (fun j hj h=>absurd h (h1 j hj))
      rw[acL]
      by_cases hb:(acM s (s.slots.length+1) v S).2=true
      · rw[if_pos hb]
        obtain⟨a3,a4,a5⟩:=a2 hb
        obtain⟨b1,b2⟩:=acM_true hc (s.slots.length+1) v S v1 v2 hS.1 h2 hb
        obtain⟨c1,c2⟩:=ih (acM s (s.slots.length+1) v S).1 (fun w hw=>hr w (List.mem_cons_of_mem _ hw)) a3 (by omega) (fun j hj h=>h1 j hj (a5 j hj h)) b1
        refine⟨c1,fun h w hw=>?_⟩
        rcases List.mem_cons.1 hw with rfl | hw
        · exact b2
        · exact c2 h w hw
      · rw[if_neg hb]
        exact⟨fun _=>a1 (by simpa using hb),fun h=>(by cases h)⟩
  obtain⟨h1,h2⟩:=hall ((List.range s.slots.length).map fun i:Nat=>(i:Int)) (List.replicate s.slots.length 0) (fun v hv=>by
    obtain⟨i,hi,rfl⟩:=List.mem_map.1 hv
    have:=List.mem_range.1 hi
    omega) h3 hcnt (fun j _ h=>by rw[at0_zero] at h; cases h) (fun j _ h=>by rw[at0_zero] at h; cases h)
  constructor
  · intro h i hi
    have hil:=List.mem_range.1 hi
    have:=acc_irr (h2 h (i:Int) (List.mem_map.2 ⟨i,hi,rfl⟩))
    cases hcy:s.cyc i with
    | false=>rfl
    | true=>exact absurd ((cyc_iff hc hu hil).1 hcy) this
  · intro h
    refine Classical.byContradiction fun hn=>?_
    obtain⟨x,x1,x2,hx⟩:=h1 (by unfold Store.acAll at hn; simpa using hn)
    obtain⟨i,rfl⟩:=Int.eq_ofNat_of_zero_le x1
    have hil:i<s.slots.length:=by omega
    have:=h i (List.mem_range.2 hil)
    rw[(cyc_iff hc hu hil).2 hx] at this
    cases this
end Go.J
/- The program's search for cycles: lengths,counts,signs. -/
namespace Go.J
open Enc (enc)
theorem count_set_le {S:List Int} {k:Nat} {v:Int} (hv:v≠0):(S.set k v).count 0≤S.count 0:=by
  by_cases hl:k<S.length
  · rw[List.count_set hl]
    have:¬ (v == 0)=true:=by simpa using hv
    rw[if_neg this]
    omega
  · rw[List.set_eq_of_length_le (by omega)]; exact Nat.le_refl _
theorem nn_set {S:List Int} {k:Nat} {v:Int} (hv:0≤v) (h:∀ x∈S,0≤x):∀ x∈S.set k v,0≤x:=fun x hx=>by
  rcases List.mem_or_eq_of_mem_set hx with h1 | h1
  · exact h x h1
  · rw[h1]; exact hv
theorem acM_keep (s:Store):∀ (f:Nat) (i:Int) (S:List Int),(acM s f i S).1.count 0≤S.count 0∧((∀ x∈S,0≤x)→∀ x∈(acM s f i S).1,0≤x):=by
  intro f
  induction f with
  | zero=>intro i S; exact⟨Nat.le_refl _,fun h=>h⟩
  | succ f ih =>
    intro i S
    have hl:∀ (l:List Int) (S:List Int),(acL (acM s f) l S).1.count 0≤S.count 0∧((∀ x∈S,0≤x)→∀ x∈(acL (acM s f) l S).1,0≤x):=by
      intro l
      induction l with
      | nil=>intro S; exact⟨Nat.le_refl _,fun h=>h⟩
      | cons v l ihl =>
        intro S
        rw[acL]
        split
        · exact⟨Nat.le_trans (ihl _).1 (ih v S).1,fun h=>(ihl _).2 ((ih v S).2 h)⟩
        · exact ih v S
    rw[acM]
    split
    · exact⟨Nat.le_refl _,fun h=>h⟩
    · obtain⟨h1,h2⟩:=hl (s.sc i) (S.set i.toNat 1)
      split
      · exact⟨Nat.le_trans (count_set_le (by decide)) (Nat.le_trans h1 (count_set_le (by decide))),fun h=>nn_set (by decide) (h2 (nn_set (by decide) h))⟩
      · exact⟨Nat.le_trans h1 (count_set_le (by decide)),fun h=>h2 (nn_set (by decide) h)⟩
theorem acL_len (s:Store) (f:Nat):∀ (l:List Int) (S:List Int),(acL (acM s f) l S).1.length=S.length:=by
  intro l
  induction l with
  | nil=>intro S; rfl
  | cons v l ihl =>
    intro S
    rw[acL]
    split
    · rw[ihl,acM_len]
    · exact acM_len s f v S
def Store.acOk (s:Store):Prop:=s.slots.length≤1000∧∀ x∈s.slots,x.type.ok=true∧x.type.size≤10000∧(∀ v∈varsM [x.type],0≤v∧v<s.slots.length)∧colTs [x.type] []=varsM [x.type]
open Classical in
def acF (d:Nat) (S:List Int) (s:Store) (i:Int):Option (List Int×Bool) :=
  if s.acOk∧S.length=s.slots.length∧0≤i∧i<s.slots.length∧(∀ x∈S,0≤x)∧S.count 0<d then some (acM s d i S) else none
theorem acF_inv {d:Nat} {S:List Int} {s:Store} {i:Int} {R:List Int×Bool} (h:acF d S s i=some R):(s.acOk∧S.length=s.slots.length∧0≤i∧i<s.slots.length∧(∀ x∈S,0≤x)∧S.count 0<d)∧R=acM s d i S:=by
  unfold acF at h
  split at h
  · rename_i hp; cases h; exact⟨hp,rfl⟩
  · cases h
mutual
theorem valid_leafy:∀ t:Ty,t.valid=true→t.leafy=true
  | .mk k n i h l=>fun hv=>by
    have ha:=Ty.valid_args hv
    rw[Ty.leafy,valids_leafys l (fun u hu=>ha u hu),Bool.and_true]
    by_cases hk:k=1
    · subst hk
      simp only[Ty.valid] at hv
      simp at hv
      simp[hv]
    · simp[hk]
theorem valids_leafys:∀ l:List Ty,(∀ u∈l,u.valid=true)→Ty.leafys l=true
  | []=>fun _=>by rw[Ty.leafys]
  | t::l=>fun h=>by rw[Ty.leafys,valid_leafy t (h t (List.mem_cons_self ..)),valids_leafys l (fun u hu=>h u (List.mem_cons_of_mem _ hu))]; rfl
end
theorem col_valid {t:Ty} (h:t.valid=true):colTs [t] []=varsM [t]:=(varsM_col (by rw[Ty.leafys,valid_leafy t h]; rfl)).symm
theorem varsM_ty0:varsM [ty0]=[]:=by decide
theorem col_ty0:colTs [ty0] []=[]:=by
  rw[← varsM_col (by decide:Ty.leafys [ty0]=true)]; exact varsM_ty0
theorem Store.acOk_of {s:Store} (h:s.fine) (hx:∀ x∈s.slots,s.slotOk x):s.acOk :=
  ⟨h.1,fun x hm=>by
    obtain⟨h1,_,h3⟩:=h.2.2 x hm
    refine⟨h1,h3,?_⟩
    have:=hx x hm
    unfold Store.slotOk at this
    by_cases hb:x.bound=true
    · rw[if_pos hb] at this
      exact⟨fun v hv=>⟨(varsM_valid this.1 v hv).1,this.2 v hv⟩,col_valid this.1⟩
    · rw[if_neg hb] at this
      rw[this,varsM_ty0,col_ty0]
      exact⟨fun v hv=>(by cases hv),rfl⟩⟩
theorem Store.cl_of {s:Store} (hx:s.acOk):s.cl:=fun i k h=>by
  unfold Store.er Store.sc at h
  split at h
  · rename_i x e
    exact (hx.2 x (List.mem_of_getElem? e)).2.2.1 k h
  · cases h
theorem Store.ub_of {s:Store} (hx:∀ x∈s.slots,s.slotOk x):s.ub:=fun i x e hb=>by
  unfold Store.sc
  rw[e]
  have:=hx x (List.mem_of_getElem? e)
  unfold Store.slotOk at this
  rw[if_neg (by rw[hb]; decide)] at this
  show varsM [x.type]=[]
  rw[this]
  exact varsM_ty0
def Store.pv (s:Store):Bool:=decide (∀ x∈s.slots,s.slotOk x)&&decide (∀ c∈s.trail,0≤c.id∧c.id<s.slots.length)&&s.acAll
theorem Store.pv_eq {s:Store} (h:s.fine):s.pv=s.valid:=by
  unfold Store.pv Store.valid
  by_cases hx:∀ x∈s.slots,s.slotOk x
  · have ha:=Store.acOk_of h hx
    have hi:=acAll_iff (Store.cl_of ha) (Store.ub_of hx)
    have he:s.acAll=decide (∀ i∈List.range s.slots.length,s.cyc i=false):=by
      rw[Bool.eq_iff_iff,hi,decide_eq_true_eq]
    rw[he,Bool.and_comm (decide (∀ x∈s.slots,s.slotOk x))]
  · rw[decide_eq_false hx]; simp
end Go.J
/- Stores of tapes are valid. -/
namespace Go.J
open Enc (enc)
def DVal (D:List Decl):Prop:=∀ d∈D,upperN d.name=true∧d.name≠[45,62]∧d.name≠[73,110,116]∧d.params.length≤4
theorem datasOf_val (bits:Int):DVal (datasOf bits):=by
  intro d hd
  have key:∀ d∈allD,upperN d.name=true∧d.name≠[45,62]∧d.name≠[73,110,116]∧d.params.length≤4:=by decide
  exact key d (datasOf_mem hd)
theorem valid_tVar {i:Nat} (h:i≤1000000):(tVar (i:Int)).valid=true:=by
  simp[tVar,Ty.valid]; omega
theorem valid_tVarI {i:Int} (h0:0≤i) (h:i≤1000000):(tVar i).valid=true:=by
  simp[tVar,Ty.valid]; omega
theorem valid_tRigid10:(tRigid 1 0).valid=true:=by decide
theorem valid_tInt:tInt.valid=true:=by decide
theorem valid_tCon {n:List Nat} {l:List Ty} (h1:upperN n=true) (h2:n≠[45,62]) (h3:n≠[73,110,116]) (h4:l.length≤4) (hl:∀ x∈l,x.valid=true):(tCon n l).valid=true:=by
  have:=Ty.valids_iff.2 hl
  simp[tCon,Ty.valid,h1,h2,h3,h4,this]
theorem valid_tArrow {a b:Ty} (ha:a.valid=true) (hb:b.valid=true):(tArrow a b).valid=true:=by
  simp[tArrow,tCon,Ty.valid,Ty.valids,ha,hb]
theorem typeM_valid {D:List Decl} (hD:DVal D) {Lv:List Ty} (hl:∀ l∈Lv,l.valid=true) (d:Nat) (t:Tp):(typeM d t D Lv).2.valid=true :=
  typeM_ind (P:=fun t=>t.valid=true) hl valid_tInt (fun dd hd l hll hx=>by
    obtain⟨h1,h2,h3,h4⟩:=hD dd hd
    exact valid_tCon h1 h2 h3 (by omega) hx) (fun a b ha hb=>valid_tArrow ha hb) d t
theorem varTs_valid {n:Nat} (hn:n≤1000000):∀ u∈varTs n,u.valid=true:=fun u hu=>by
  obtain⟨i,hi,rfl⟩:=Store.varTs_mem hu
  exact valid_tVar (by omega)
mutual
theorem valid_short:∀ t:Ty,t.valid=true→t.short=true
  | .mk k n i h l=>fun hv=>by
    have ha:=Ty.valid_args hv
    rw[Ty.short,valids_shorts l (fun u hu=>ha u hu),Bool.and_true,decide_eq_true_eq]
    unfold Ty.valid at hv
    have h12 : n.length ≤ 12 → n.length < 2^63 := fun h => by have:(12:Nat)<2^63:=by decide
                                                              omega
    refine h12 ?_
    split at hv
    · simp at hv; rw[hv.1.1.2]; decide
    · split at hv
      · simp at hv; rw[hv.1.2]; decide
      · split at hv
        · simp[lowerN] at hv; omega
        · split at hv
          · split at hv
            · rename_i e; rw[e]; decide
            · split at hv
              · rename_i e; rw[e]; decide
              · simp[upperN] at hv; omega
          · cases hv
theorem valids_shorts:∀ l:List Ty,(∀ u∈l,u.valid=true)→Ty.shorts l=true
  | []=>fun _=>by rw[Ty.shorts]
  | t::l=>fun h=>by rw[Ty.shorts,valid_short t (h t (List.mem_cons_self ..)),valids_shorts l (fun u hu=>h u (List.mem_cons_of_mem _ hu))]; rfl
end
namespace Store
def gs (x:Slot):Prop:=if x.bound=true then x.type.valid=true else x.type=ty0
structure AllV (s:Store):Prop where
  len:s.slots.length≤1000
  tys:∀ x∈s.slots,gs x
theorem AllV.set {s:Store} (h:AllV s) (id:Int) {x:Slot} (hx:gs x):AllV (s.set id x).1:=by
  unfold Store.set
  split
  · refine⟨by simp[h.len],fun y hy=>?_⟩
    rcases List.mem_or_eq_of_mem_set hy with hy | rfl
    · exact h.tys y hy
    · exact hx
  · exact h
theorem gs_slotD {s:Store} (h:AllV s) (id:Int):gs (s.slotD id):=by
  unfold slotD
  cases ho:s.slot? id with
  | none=>rfl
  | some x =>
    obtain⟨i,_,hi,he⟩:=slot?_some ho
    exact h.tys _ (List.mem_of_getElem? he)
theorem AllV.fresh {s:Store} (h:AllV s) (hl:s.slots.length<1000) (home:Int) (base:Bool):AllV (s.fresh home base).1:=by
  refine⟨by simp[Store.fresh]; omega,fun y hy=>?_⟩
  simp only[Store.fresh,List.mem_append,List.mem_singleton] at hy
  rcases hy with hy | rfl
  · exact h.tys y hy
  · rfl
theorem AllV.lower {s:Store} (h:AllV s) (home v:Int):AllV (lowerOne home s v):=by
  unfold lowerOne
  split
  · exact h.set _ (x:={ s.slotD v with home:=home }) (gs_slotD h v)
  · exact h
theorem AllV.lowers (home:Int):∀ (l:List Int) {s:Store},AllV s→AllV (l.foldl (lowerOne home) s):=by
  intro l
  induction l with
  | nil=>intro s h; exact h
  | cons v l ih=>intro s h; exact ih (h.lower home v)
theorem slot_range {s:Store} {i:Int} (h:(s.slot? i).isSome=true):0≤i∧i<s.slots.length:=by
  obtain⟨x,hx⟩:=Option.isSome_iff_exists.1 h
  obtain⟨k,rfl,hk,_⟩:=slot?_some hx
  omega
theorem AllV.join {s:Store} (h:AllV s) {i k:Int} (hi:(s.slot? i).isSome=true) (hk:(s.slot? k).isSome=true):AllV (s.join i k):=by
  unfold Store.join
  split
  · exact h
  · have h1:=slot_range hi
    have h2:=slot_range hk
    have hl:=h.len
    exact (h.set _ (x:=s.joinL i k) (gs_slotD h _)).set _ (x:=s.joinH i k) (valid_tVarI (by omega) (by omega))
theorem AllV.bind {s:Store} (h:AllV s) (id:Int) {t:Ty} (ht:t.valid=true):AllV (s.bindM id t).1:=by
  unfold bindM
  split
  · exact h
  split
  · exact h
  split
  · exact h
  split
  · exact h
  exact (AllV.lowers _ _ h).set _ (x:={ s.slotD id with bound:=true,type:=t }) ht
theorem to_val {s:Store} (h:AllV s) {t:Ty} (hb:s.bound t=true):(s.to t).valid=true:=by
  obtain⟨_,x,hx,hxb⟩:=bound_true hb
  have:s.to t=x.type:=by unfold to; rw[hx]
  rw[this]
  obtain⟨i,_,hi,he⟩:=slot?_some hx
  have hg:=h.tys _ (List.mem_of_getElem? he)
  unfold gs at hg
  rw[if_pos hxb] at hg
  exact hg
theorem walkN_val {s:Store} (h:AllV s):∀ (n:Nat) {t:Ty},t.valid=true→(s.walkN n t).valid=true:=by
  intro n
  induction n with
  | zero=>intro t ht; exact ht
  | succ n ih =>
    intro t ht
    unfold walkN
    split
    · rename_i hb; exact ih (to_val h hb)
    · exact ht
theorem uL_val {rec:Store→Ty→Ty→Store×Int} (hrec:∀ s a b,AllV s→a.valid=true→b.valid=true→AllV (rec s a b).1) :
    ∀ (l m:List Ty) (s:Store),AllV s→(∀ x∈l,x.valid=true)→(∀ x∈m,x.valid=true)→AllV (uL rec l m s).1:=by
  intro l
  induction l with
  | nil=>intro m s h _ _; exact h
  | cons x l ih =>
    intro m s h hl hm
    cases m with
    | nil=>exact h
    | cons y m =>
      have h1:=hrec s x y h (hl x (List.mem_cons_self ..)) (hm y (List.mem_cons_self ..))
      rw[uL]
      split
      · exact ih m _ h1 (fun z hz=>hl z (List.mem_cons_of_mem _ hz)) (fun z hz=>hm z (List.mem_cons_of_mem _ hz))
      · exact h1
theorem unifyM_val:∀ (d:Nat) (s:Store) (a b:Ty),AllV s→a.valid=true→b.valid=true→AllV (unifyM d s a b).1:=by
  intro d
  induction d with
  | zero=>intro s a b h _ _; exact h
  | succ d ih =>
    intro s a b h ha hb
    have hx:(s.w16 a).valid=true:=walkN_val h _ ha
    have hy:(s.w16 b).valid=true:=walkN_val h _ hb
    rw[unifyM]
    unfold uStep
    split
    · exact h
    split
    · rename_i q1
      split
      · rename_i q2
        exact h.join (isSlot_some q1) (isSlot_some q2)
      · exact h.bind _ hy
    · split
      · exact h.bind _ hx
      · split
        · exact h
        · exact uL_val ih _ _ s h (Ty.valid_args hx) (Ty.valid_args hy)
theorem top_val {s:Store} {a b:Ty} (h:AllV s) (ha:a.valid=true) (hb:b.valid=true):AllV (topM s a b).1:=by
  unfold topM
  split
  · exact unifyM_val _ s a b h ha hb
  · exact h
theorem frM_val (t:Tp):∀ k,k≤1000→AllV (frM t k).2∧(frM t k).2.slots.length=k:=by
  intro k
  induction k with
  | zero=>exact fun _=>⟨⟨Nat.zero_le _,fun x hx=>(by cases hx)⟩,rfl⟩
  | succ k ih =>
    intro hk
    obtain⟨i1,i2⟩:=ih (by omega)
    exact⟨i1.fresh (by omega) _ _,by rw[frM]; simp[Store.fresh,i2]⟩
theorem unM_val {D:List Decl} (hD:DVal D) {n:Nat} (hn:n≤1000000) {t:Tp} {s:Store} (h:AllV s):∀ k,AllV (unM D n t s k).2:=by
  intro k
  induction k with
  | zero=>exact h
  | succ k ih =>
    rw[unM]
    exact top_val ih (typeM_valid hD (varTs_valid hn) _ _) (typeM_valid hD (fun u hu=>(List.mem_append.1 hu).elim (varTs_valid hn u) fun h=>by rw[List.mem_singleton.1 h]; exact valid_tRigid10) _ _)
theorem storeM_val (t:Tp) {D:List Decl} (hD:DVal D):AllV (storeM t D).2:=unM_val hD (by have:=storeN_le t; omega) (frM_val _ _ (by have:=storeN_le t; omega)).1 _
theorem Ext.lt {a b:Store} (h:Ext a b) (ha:∀ c∈a.trail,c.id<a.slots.length):∀ c∈b.trail,c.id<b.slots.length:=by
  induction h with
  | refl=>exact ha
  | fresh x g _ ih =>
    intro c hc
    simp only[Store.fresh,List.mem_append,List.mem_singleton] at hc
    simp only[Store.fresh,List.length_append,List.length_singleton]
    rcases hc with hc | rfl
    · have:=ih c hc; omega
    · simp only; omega
  | set i x _ hi ih =>
    intro c hc
    rw[set_some hi] at hc ⊢
    simp only[List.mem_append,List.mem_singleton,List.length_set] at hc ⊢
    rcases hc with hc | rfl
    · exact ih c hc
    · simp only; omega
theorem leavesL_occ' {l:List Ty} (h:∀ t∈l,t.valid=true→∀ out:List Ty,∀ x∈leavesM 1 t out,x∈out∨Occ x t) (hv:∀ t∈l,t.valid=true):∀ out:List Ty,∀ x∈leavesL 1 l out,x∈out∨∃ t∈l,Occ x t:=by
  induction l with
  | nil=>intro out x hx; exact .inl hx
  | cons a l ih =>
    intro out x hx
    simp only[leavesL] at hx
    rcases ih (fun t ht=>h t (List.mem_cons_of_mem _ ht)) (fun t ht=>hv t (List.mem_cons_of_mem _ ht)) _ x hx with h1 | ⟨t,ht,ho⟩
    · rcases h a (List.mem_cons_self ..) (hv a (List.mem_cons_self ..)) out x h1 with h2 | h2
      · exact .inl h2
      · exact .inr ⟨a,List.mem_cons_self ..,h2⟩
    · exact .inr ⟨t,List.mem_cons_of_mem _ ht,ho⟩
theorem valid_noargs {t:Ty} (h:t.valid=true) (hk:t.kind=1):t.args=[]:=by
  obtain⟨k,n,i,hh,l⟩:=t
  simp only[Ty.kind_mk] at hk
  subst hk
  unfold Ty.valid at h
  simp at h
  simp[h]
theorem leavesM_occ (t:Ty):t.valid=true→∀ out:List Ty,∀ x∈leavesM 1 t out,x∈out∨Occ x t:=by
  induction t using Ty.ind with
  | _ t ih =>
    intro hv out x hx
    rw[leavesM_eq] at hx
    split at hx
    · rename_i hk
      split at hx
      · exact .inl hx
      · rcases List.mem_append.1 hx with hx | hx
        · exact .inl hx
        · rw[List.mem_singleton.1 hx]; exact .inr (.self hk.1)
    · rename_i hk
      rcases leavesL_occ' ih (Ty.valid_args hv) out x hx with h | ⟨u,hu,ho⟩
      · exact .inl h
      · refine .inr (.arg (fun e=>hk ⟨e,valid_noargs hv e⟩) hu ho)
theorem varsM_occ {t:Ty} (h:t.valid=true) {v:Int} (hv:v∈varsM [t]):∃ u,Occ u t∧u.id=v:=by
  obtain⟨x,hx,rfl⟩:=mem_idsOf hv
  rcases leavesM_occ t h [] x (by simpa [leavesL] using hx) with h1 | h1
  · cases h1
  · exact⟨x,h1,rfl⟩
theorem fin_acc {s:Store} (h:AllV s) (hc:s.cl) (hu:s.ub) {t:Ty} (hf:s.Fin t):t.valid=true→∀ u,Occ u t→0≤u.id→Acc (fun k j=>s.er j k) u.id:=by
  refine Fin.ind (p:=fun t=>t.valid=true→∀ u,Occ u t→0≤u.id→Acc (fun k j=>s.er j k) u.id) (fun t hb ih hv u ho h0=>?_) (fun t hb ih hv u ho h0=>?_) hf
  · obtain⟨hk,x,hx,hxb⟩:=bound_true hb
    obtain rfl:=ho.var hk
    have hto:s.to u=x.type:=by unfold to; rw[hx]
    have htv:=to_val h hb
    obtain⟨i,hi,hil,he⟩:=slot?_some hx
    refine⟨_,fun k hk=>?_⟩
    have hk0:=(hc _ _ hk).1
    unfold Store.er Store.sc at hk
    rw[hi,Int.toNat_natCast,he] at hk
    simp only at hk
    rw[← hto] at hk
    obtain⟨w,hw,rfl⟩:=varsM_occ htv hk
    exact ih htv w hw hk0
  · by_cases hk:t.kind=1
    · obtain rfl:=ho.var hk
      refine⟨_,fun k hk'=>?_⟩
      obtain⟨i,hi⟩:=Int.eq_ofNat_of_zero_le h0
      cases he:s.slots[i]? with
      | none =>
        unfold Store.er Store.sc at hk'
        rw[hi,Int.toNat_natCast,he] at hk'
        cases hk'
      | some x =>
        have hxb:x.bound=false:=by
          rw[bound_eq hk (x:=x) (by rw[hi,slot?_nat]; exact he)] at hb
          exact hb
        have:=hu u.id x (by rw[hi,Int.toNat_natCast]; exact he) hxb
        unfold Store.er at hk'
        rw[this] at hk'
        cases hk'
    · cases ho with
      | self hk2=>exact absurd hk2 hk
      | arg _ hx ho2=>exact ih _ hx (Ty.valid_args hv _ hx) u ho2 h0
theorem store_valid {t:Tp} (ht:t.ok) {D:List Decl} (hD:DOk3 D) (hD4:DVal D):(storeM t D).2.fine∧(storeM t D).2.valid=true:=by
  obtain⟨s1,s2,s3,s4⟩:=storeM_ok ht hD
  have s5:=storeM_val t hD4
  have s6:=storeN_le t
  have s7:=ext_store t D
  generalize (storeM t D).2=s at s3 s4 s5 s7
  generalize storeN t=n at s3 s6
  have hlen:=s3.len
  have hslot:∀ x∈s.slots,s.slotOk x:=fun x hx=>by
    have h1:=s3.types x hx
    have h2:=s5.tys x hx
    unfold slotOk
    unfold gs at h2
    split
    · rename_i hb
      rw[if_pos hb] at h1 h2
      refine⟨h2,fun v hv=>?_⟩
      obtain⟨u,hu,rfl⟩:=varsM_occ h2 hv
      have:=h1.vars u hu
      omega
    · rename_i hb
      rw[if_neg hb] at h1
      exact h1
  have hfine:s.fine:=⟨by omega,by omega,fun x hx=>by
    have h1:=s3.types x hx
    have h2:=s5.tys x hx
    unfold gs at h2
    split at h1
    · rename_i hb
      rw[if_pos hb] at h2
      exact⟨h1.ok,valid_short _ h2,by have:=h1.size; omega⟩
    · rw[h1]; exact⟨rfl,rfl,by decide⟩⟩
  refine⟨hfine,?_⟩
  have hac:=Store.acOk_of hfine hslot
  have hcl:=Store.cl_of hac
  have hub:=Store.ub_of hslot
  unfold Store.valid
  rw[decide_eq_true (fun c hc=>⟨s7.ids (fun c hc=>by cases hc) c hc,s7.lt (fun c hc=>by cases hc) c hc⟩),decide_eq_true hslot,decide_eq_true (fun i hi=>?_)]
  · rfl
  · have hil:=List.mem_range.1 hi
    cases hcy:s.cyc i with
    | false=>rfl
    | true =>
      have h1:=(cyc_iff hcl hub hil).1 hcy
      have h2:=fin_acc s5 hcl hub (s3.fin i (by omega)) (valid_tVar (by omega)) (tVar (i:Int)) (.self rfl) (by simp[tVar])
      exact absurd h1 (acc_irr h2)
theorem set_fine {s:Store} (h:s.fine) (ht:s.trail.length<1000) {id:Int} {x:Slot} (h1:x.type.ok=true) (h2:x.type.short=true) (h3:x.type.size≤10000):(s.set id x).1.fine:=by
  unfold Store.set
  split
  · refine⟨by simp[h.1],by simp; omega,fun y hy=>?_⟩
    rcases List.mem_or_eq_of_mem_set hy with hy | rfl
    · exact h.2.2 y hy
    · exact⟨h1,h2,h3⟩
  · exact h
end Store
end Go.J
