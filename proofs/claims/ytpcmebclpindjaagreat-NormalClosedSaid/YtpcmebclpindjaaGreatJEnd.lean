import Derived.Test.YtpcmebclpindjaaGreatJI
import Derived.Test.YtpcmebclpindjaaGreatJArg
import Derived.ChangeShapes
import Derived.WideKeyArgs
import Derived.Below
import Derived.OpenShut
set_option linter.all false
noncomputable section
/- A law's entrance and its end: slices of integers as the evaluator's values,a true answer,arguments that read as they did. -/
namespace Go.J
open Enc (enc)
section
variable {ρ:Nat->Value}{H:Type}{enc:TypeId×Value->H}{P:Program}
theorem zky {w:World} {base:Nat} {sp:Nat->Bool} {held:Bool} {t e:TypeId} {v:Value} {d:DataW H} {ps:List MemPlace} (ht:P.underlying t=some (.slice e)) (he:P.underlying e=some (.int .i64)) (hp:zqC P [t,e]=true)
 (hv:v.cells.toList=[v]) (h:DataW.Trod enc P w base sp held t v d ps):∃ l:List Int,l.length<=maxLen/\(∀ n∈l,(Lit.int .i64 n).wf=true)/\Val ρ w (Enc.enc l) v:=by
 obtain⟨fuel,hf⟩:=h;rw[hv]at hf;obtain⟨vs,h1,h2,h3⟩:=ziB ρ hp fuel t _ _ (List.mem_cons_self ..) hf
 cases fuel with
 |zero=>exact h1.elim
 | succ n =>
   unfold VT at h1;rw[ht]at h1;rcases h1 with rfl|⟨es,rfl,hl,hes⟩
   . obtain⟨c,hc,hv⟩:=h2.2 0 _ rfl;cases hc;exact⟨[],Nat.zero_le _,(fun n hn=>by cases hn),hv.norm⟩
   . obtain⟨c,hc,hv⟩:=h2.2 0 _ rfl;cases hc
     have key:∀ es:List (List V),(∀ c∈es,VT P n e c)->∃ l:List Int,es=l.map (fun n=>[V.int .i64 n])/\∀ n∈l,(Lit.int .i64 n).wf=true:=by
      intro es
      induction es with
      |nil=>exact fun _=>⟨[],rfl,fun n hn=>by cases hn⟩
      | cons c es ih =>
        intro h;obtain⟨l,rfl,hw⟩:=ih fun c hc=>h c (List.mem_cons_of_mem _ hc)
        have hc:=h c (List.mem_cons_self ..)
        cases n with
        |zero=>exact hc.elim
        | succ n =>
          unfold VT at hc;rw[he]at hc;obtain⟨m,rfl,hm⟩:=hc;refine⟨m::l,rfl,fun k hk=>?_⟩
          grind
     obtain⟨l,rfl,hw⟩:=key es hes;exact⟨l,by rw[List.length_map]at hl;exact hl,hw,hv⟩
theorem zvk{f:FuncId}{vs:List V}{hs':HS}(h:CallOk ρ P f vs zb2 (.bool true) hs'){w:World}{xs:Array Value}
 (hlen:xs.size=vs.length) (hA:∀ (i:Nat) (v:V),vs[i]?=some v->∃ x,xs[i]?=some x/\Val ρ w v x) :
 Calls P f xs w fun e w'=>e=.returned (.bool true)/\RowKit.Below w.heap.size w w':=by
 refine callsIn_wide.1 (CallsIn.mono (n:=0) (h (fun _=>False) w (fun b=>b<w.heap.size) (fun _ _=>none) xs (R.empty fun _ h=>h) Dom.empty (Off.no _) ⟨hlen,fun i u hi=>?_⟩) fun e w' he=>?_)
 . obtain⟨x,hx,hr⟩:=hA i u hi;exact⟨x,hx,.pure hr⟩
 . cases e with
   | returned x =>
     obtain⟨F1,μ1,g1,g2,g3⟩:=he;refine⟨?_,⟨g3.io.1,g3.io.2.1,g3.io.2.2,g3.size,fun b hb=>g3.keep b hb (zbL b _)⟩⟩
     cases g2 with
     |pure h=>cases h;rfl
   |panicked c=>exact he.elim
   |outgrown=>exact he.elim
theorem zp8(hl:laidOutB P=true){W W':World}(hb:RowKit.Below W.heap.size W W'){sp:Nat->Bool}:∀ {ts:List TypeId} {vs:List Value} {ds:List (DataW H)} {ps:List MemPlace},(∀ t∈ts,P.readableRec t=true/\t<P.types.size) ->
 DataW.TrodAll enc P W 0 (fun _=>true) true ts vs ds ps->(∀ p∈ps,p.block<W.heap.size)->(∀ p∈ps,sp p.block=true)->DataW.TrodAll enc P W' 0 sp true ts vs ds ps:=by
 intro ts
 induction ts with
 |nil=>intro vs ds ps _ h _ _;cases vs<;>cases ds<;>exact h
 | cons t ts ih =>
   intro vs ds ps ht h hlt hsp;obtain⟨v,vs',d,ds',p,q,rfl,rfl,rfl,h1,h2⟩:=ChangeShapes.trodAll_cons h;obtain⟨r1,r2⟩:=ht t (List.mem_cons_self ..)
   exact⟨p,q,WideElems.Trod_stays hl r1 r2 h1 (fun x hx=>hb.same (hlt x (List.mem_append.2 (.inl hx)))) (fun x hx=>hsp x (List.mem_append.2 (.inl hx))),
    ih (fun t ht'=>ht t (List.mem_cons_of_mem _ ht')) h2 (fun x hx=>hlt x (List.mem_append.2 (.inr hx))) (fun x hx=>hsp x (List.mem_append.2 (.inr hx))),rfl⟩
end
end Go.J
