import Derived.Test.YthfcfmkdeheicaaGreatGM3
import Derived.Test.YthfcfmkdeheicaaGreatJQ
import Derived.Test.YthfcfmkdeheicaaGreatJZ2
set_option linter.all false
noncomputable section
namespace Go.Proofs.YthfcfmkdeheicaaGreat
open Go.J
open Go.J.Enc (enc)
set_option maxRecDepth 100000
set_option maxHeartbeats 1000000
theorem mtL_cons{p t:Ty}{l m:List Ty}{s:List Assign}:mtL (p::l) (t::m) s=if (mtM p t s).2 then mtL l m (mtM p t s).1 else ((mtM p t s).1,false):=by rw[mtL]
theorem mtL_nil{m:List Ty}{s:List Assign}:mtL [] m s=(s,true):=by rw[mtL];simp
def aok(s:List Assign):Prop:=∀ a∈s,a.type.ok=true
theorem aok_snoc{s:List Assign}(h:aok s){i:Int}{t:Ty}(ht:t.ok=true):aok (s++[⟨i,t⟩]):=by
 intro a ha
 rcases List.mem_append.1 ha with ha|ha
 · exact h a ha
 · rw[List.mem_singleton.1 ha];exact ht
theorem mt_aok {p:Ty}:∀ {t:Ty} {s:List Assign},t.ok=true→aok s→aok (mtM p t s).1:=by
 induction p using Ty.ind with
 | h p ih =>
   intro t s ht hs
   have ihl:∀ (l:List Ty),(∀ u∈l,u∈p.args)→∀ (m:List Ty) (s:List Assign),(∀ v∈m,v.ok=true)→aok s→aok (mtL l m s).1:=by
    intro l
    induction l with
    |nil=>intro _ m s _ h;rw[mtL_nil];exact h
    | cons u l ihl =>
      intro hsub m s hm h
      cases m with
      |nil=>rw[mtL];exact h;simp
      | cons v m =>
        rw[mtL_cons]
        have h1:=ih u (hsub u (List.mem_cons_self ..)) (hm v (List.mem_cons_self ..)) h
        split
        · exact ihl (fun w hw=>hsub w (List.mem_cons_of_mem _ hw)) m _ (fun w hw=>hm w (List.mem_cons_of_mem _ hw)) h1
        · exact h1
   rw[mtM_eq]
   split
   · split
     · exact hs
     · exact aok_snoc hs ht
   · split
     · exact ihl _ (fun _ h=>h) _ _ (fun v hv=>Ty.ok_arg ht hv) hs
     · exact hs
section
variable {ρ:Nat→Value}(hρ:J.Good ρ)
include hρ
section
variable {E:Env}(hE:E.P=Tryz.prog)(hcon:ConsOk ρ E)
include hE hcon
end
end
end Go.Proofs.YthfcfmkdeheicaaGreat
