/- The law InferLarge: a let or an application whose type becomes too big is an error of its own, found by the program and the reference alike: true at every number and either flag; the arguments read afterwards as they read before. No condition but what start-up lays. -/
import Derived.Test.YtjilhkjgejnmpaaGreatDoorIKa
import Derived.Test.YtjilhkjgejnmpaaGreatDoorOI3a
import Derived.Test.YtjilhkjgejnmpaaGreatDoorTie
import Derived.Test.YtjilhkjgejnmpaaGreatDoorCards
import Derived.SevenTiedAt
set_option linter.all false
noncomputable section
namespace Go.Proofs.YtjilhkjgejnmpaaGreatDoor.inferLarge
open Go Go.ChangeShapes Go.WideShapes Go.ChangeAt Go.RowKit
theorem closed:joinedFacts Tryz.prog 3 Tryz.f3 Rows.inferLargeSpec Rows.inferLargeRow=true:=by
 unfold joinedFacts
 rw[k_inPlace,k_unfollowed,k_recurses,k_named]
 kernel_rfl
theorem over:Rows.inferLargeRow.holds Tryz.pinned (OpenSpec.ofChange Rows.inferLargeSpec) :=
 OpenClaim.holds_of_wide 3 Tryz.f3 rfl rfl rfl rfl rfl rfl rfl ⟨rfl,rfl,rfl,rfl,rfl⟩ rfl rfl rfl rfl rfl (by kernel_rfl) Tryz.func3 closed
  (of_decide_eq_true (by kernel_rfl)) (by unfold Func.isWrapper;first|(rw[if_pos (by decide +kernel)];kernel_rfl)|(rw[if_neg (by decide +kernel)];exact⟨rfl,rfl⟩))
  (fun os started H enc _=>lifted os started H enc)
theorem proved:Rows.InferLargeCardSaid :=
 Claim7.holds_tied_plain_at .later [] [.handle] true (true, "cca70ef247bfce70975d705015f1587c609285f3636bb8558126fbe89ec50e5f") true
  over (fun _ h=>by cases h) (by kernel_rfl) (fun _ h=>by cases h) inferLarge_row_tie rfl ⟨rfl,rfl⟩ (by kernel_rfl) rfl
  (fun f fn hf hfn=>by
    obtain rfl : f = 3 := Option.some.inj ((show Tryz.prog.funcNamed "typedholes/typedholeslaw21.InferLarge" = some 3 by kernel_rfl).symm.trans hf) |>.symm
    obtain rfl:fn=Tryz.f3:=(Option.some.inj (Tryz.func3.symm.trans hfn)).symm
    exact⟨by kernel_rfl,fun j t ht=>by
     rw[Tryz.params3]at ht
     have h3:t=3∨t=4:=by
      rcases j with _|_|j
      · left;simpa using ht.symm
      · right;simpa using ht.symm
      · simp at ht
     rcases h3 with rfl|rfl
     · exact(show Tryz.prog.wantsStandIn 3=false by kernel_rfl)
     · exact(show Tryz.prog.wantsStandIn 4=false by kernel_rfl)⟩)
  (by kernel_rfl)
#print axioms proved
end Go.Proofs.YtjilhkjgejnmpaaGreatDoor.inferLarge
