/-
  No cell of these rows narrows 'for every input' (looked for: loops, veiled, ifaces, maps, wideKeys, modest, calm, conditions, laid).
  DERIVED. THE GIVEN ROWS OF THIS SEAT. 10 by the template 'for every input the law returns true; each argument reads behind the call as it read before'; 0 by the template 'total and deterministic' (their statements: YtpcmebclpindjaaGreatTotals.lean).
  GIVEN WITH THE SEED: the statements are not yours to turn. If you find one false, say at which input.
  Laid BY PROGRAM, IN A SANDBOX (cutbox-rows.mjs): the forced cells as the released guide's own fill.sh prints them over the translation 35bac4e116aa6c2f… (all of the seat's roots in one cut). By AI agents, Wed Nov 11 2026. No macro, syntax, notation, axiom, sorry.
-/
import Derived.Test.YtpcmebclpindjaaGreatChecked
import GoSem.Claim
import GoSem.ClaimJoined
import GoSem.ClaimMapViews
import Derived.JoinedTies
import Derived.KernelRfl
namespace Go.Proofs.YtpcmebclpindjaaGreat
/- THE CELL 'sum', in the pinned program and in every row, IS THE sha256 OF THE DUMP (.gsa) THAT YtpcmebclpindjaaGreatProg.lean LOADS. Nothing in Lean hashes anything: it is a label: what it is worth is what the hold of that sum in a sandbox is worth. -/
noncomputable def Tryz.pinned : Pinned := { name := "ytpcmebclpindjaagreat", sum := "35bac4e116aa6c2fc525565767b945249f7cc691dab268bf6258c29dfc2eb45b", checked := Tryz.checked }
namespace Rows
def none {H : Type} : Left H := { results := [], args := [] }

/-- 'typedholeslaw30.HeadsCanonical': WHATEVER THE INPUT: true; the input reads as it did. -/
def headsCanonicalSpec : ChangeSpec := { name := "headsCanonical", fn := fun _ => fun
  | [d1, d2] => { results := [.lit (.bool true)], args := [d1, d2] }
  | _ => none }
def headsCanonicalRow : OpenClaim := { program := "ytpcmebclpindjaagreat", sum := "35bac4e116aa6c2fc525565767b945249f7cc691dab268bf6258c29dfc2eb45b", func := "typedholes/typedholeslaw30.HeadsCanonical", spec := "headsCanonical", unfollowed := true, recurses := true, apart := false }
def HeadsCanonicalSaid : Prop := headsCanonicalRow.holds Tryz.pinned (OpenSpec.ofChange headsCanonicalSpec)

/-- ITS FALSE NEIGHBOUR: 'it returns false'. Refute it at one input. -/
def headsCanonicalWrong : ChangeSpec := { name := "headsCanonical", fn := fun _ => fun
  | [d1, d2] => { results := [.lit (.bool false)], args := [d1, d2] }
  | _ => none }
def HeadsCanonicalWrongFalsely : Prop := headsCanonicalRow.holds Tryz.pinned (OpenSpec.ofChange headsCanonicalWrong)

/-- 'typedholeslaw30.HeadsCases': WHATEVER THE INPUT: true; the input reads as it did. -/
def headsCasesSpec : ChangeSpec := { name := "headsCases", fn := fun _ => fun
  | [d1, d2, d3] => { results := [.lit (.bool true)], args := [d1, d2, d3] }
  | _ => none }
def headsCasesRow : OpenClaim := { program := "ytpcmebclpindjaagreat", sum := "35bac4e116aa6c2fc525565767b945249f7cc691dab268bf6258c29dfc2eb45b", func := "typedholes/typedholeslaw30.HeadsCases", spec := "headsCases", unfollowed := true, recurses := true, apart := false }
def HeadsCasesSaid : Prop := headsCasesRow.holds Tryz.pinned (OpenSpec.ofChange headsCasesSpec)

/-- ITS FALSE NEIGHBOUR: 'it returns false'. Refute it at one input. -/
def headsCasesWrong : ChangeSpec := { name := "headsCases", fn := fun _ => fun
  | [d1, d2, d3] => { results := [.lit (.bool false)], args := [d1, d2, d3] }
  | _ => none }
def HeadsCasesWrongFalsely : Prop := headsCasesRow.holds Tryz.pinned (OpenSpec.ofChange headsCasesWrong)

/-- 'typedholeslaw30.HeadsLists': WHATEVER THE INPUT: true; the input reads as it did. -/
def headsListsSpec : ChangeSpec := { name := "headsLists", fn := fun _ => fun
  | [d1, d2, d3, d4] => { results := [.lit (.bool true)], args := [d1, d2, d3, d4] }
  | _ => none }
def headsListsRow : OpenClaim := { program := "ytpcmebclpindjaagreat", sum := "35bac4e116aa6c2fc525565767b945249f7cc691dab268bf6258c29dfc2eb45b", func := "typedholes/typedholeslaw30.HeadsLists", spec := "headsLists", unfollowed := true, recurses := true, apart := false }
def HeadsListsSaid : Prop := headsListsRow.holds Tryz.pinned (OpenSpec.ofChange headsListsSpec)

/-- ITS FALSE NEIGHBOUR: 'it returns false'. Refute it at one input. -/
def headsListsWrong : ChangeSpec := { name := "headsLists", fn := fun _ => fun
  | [d1, d2, d3, d4] => { results := [.lit (.bool false)], args := [d1, d2, d3, d4] }
  | _ => none }
def HeadsListsWrongFalsely : Prop := headsListsRow.holds Tryz.pinned (OpenSpec.ofChange headsListsWrong)

/-- 'typedholeslaw30.HeadsComplete': WHATEVER THE INPUT: true; the input reads as it did. -/
def headsCompleteSpec : ChangeSpec := { name := "headsComplete", fn := fun _ => fun
  | [d1, d2, d3] => { results := [.lit (.bool true)], args := [d1, d2, d3] }
  | _ => none }
def headsCompleteRow : OpenClaim := { program := "ytpcmebclpindjaagreat", sum := "35bac4e116aa6c2fc525565767b945249f7cc691dab268bf6258c29dfc2eb45b", func := "typedholes/typedholeslaw30.HeadsComplete", spec := "headsComplete", unfollowed := true, recurses := true, apart := false }
def HeadsCompleteSaid : Prop := headsCompleteRow.holds Tryz.pinned (OpenSpec.ofChange headsCompleteSpec)

/-- ITS FALSE NEIGHBOUR: 'it returns false'. Refute it at one input. -/
def headsCompleteWrong : ChangeSpec := { name := "headsComplete", fn := fun _ => fun
  | [d1, d2, d3] => { results := [.lit (.bool false)], args := [d1, d2, d3] }
  | _ => none }
def HeadsCompleteWrongFalsely : Prop := headsCompleteRow.holds Tryz.pinned (OpenSpec.ofChange headsCompleteWrong)

/-- 'typedholeslaw28.NormalShapes': WHATEVER THE INPUT: true; the input reads as it did. -/
def normalShapesSpec : ChangeSpec := { name := "normalShapes", fn := fun _ => fun
  | [d1, d2, d3] => { results := [.lit (.bool true)], args := [d1, d2, d3] }
  | _ => none }
def normalShapesRow : OpenClaim := { program := "ytpcmebclpindjaagreat", sum := "35bac4e116aa6c2fc525565767b945249f7cc691dab268bf6258c29dfc2eb45b", func := "typedholes/typedholeslaw28.NormalShapes", spec := "normalShapes", unfollowed := true, recurses := true, apart := false }
def NormalShapesSaid : Prop := normalShapesRow.holds Tryz.pinned (OpenSpec.ofChange normalShapesSpec)

/-- ITS FALSE NEIGHBOUR: 'it returns false'. Refute it at one input. -/
def normalShapesWrong : ChangeSpec := { name := "normalShapes", fn := fun _ => fun
  | [d1, d2, d3] => { results := [.lit (.bool false)], args := [d1, d2, d3] }
  | _ => none }
def NormalShapesWrongFalsely : Prop := normalShapesRow.holds Tryz.pinned (OpenSpec.ofChange normalShapesWrong)

/-- 'typedholeslaw28.NormalClosed': WHATEVER THE INPUT: true; the input reads as it did. -/
def normalClosedSpec : ChangeSpec := { name := "normalClosed", fn := fun _ => fun
  | [d1, d2, d3, d4] => { results := [.lit (.bool true)], args := [d1, d2, d3, d4] }
  | _ => none }
def normalClosedRow : OpenClaim := { program := "ytpcmebclpindjaagreat", sum := "35bac4e116aa6c2fc525565767b945249f7cc691dab268bf6258c29dfc2eb45b", func := "typedholes/typedholeslaw28.NormalClosed", spec := "normalClosed", unfollowed := true, recurses := true, apart := false }
def NormalClosedSaid : Prop := normalClosedRow.holds Tryz.pinned (OpenSpec.ofChange normalClosedSpec)

/-- ITS FALSE NEIGHBOUR: 'it returns false'. Refute it at one input. -/
def normalClosedWrong : ChangeSpec := { name := "normalClosed", fn := fun _ => fun
  | [d1, d2, d3, d4] => { results := [.lit (.bool false)], args := [d1, d2, d3, d4] }
  | _ => none }
def NormalClosedWrongFalsely : Prop := normalClosedRow.holds Tryz.pinned (OpenSpec.ofChange normalClosedWrong)

/-- 'typedholeslaw28.NormalChecks': WHATEVER THE INPUT: true; the input reads as it did. -/
def normalChecksSpec : ChangeSpec := { name := "normalChecks", fn := fun _ => fun
  | [d1, d2, d3] => { results := [.lit (.bool true)], args := [d1, d2, d3] }
  | _ => none }
def normalChecksRow : OpenClaim := { program := "ytpcmebclpindjaagreat", sum := "35bac4e116aa6c2fc525565767b945249f7cc691dab268bf6258c29dfc2eb45b", func := "typedholes/typedholeslaw28.NormalChecks", spec := "normalChecks", unfollowed := true, recurses := true, apart := false }
def NormalChecksSaid : Prop := normalChecksRow.holds Tryz.pinned (OpenSpec.ofChange normalChecksSpec)

/-- ITS FALSE NEIGHBOUR: 'it returns false'. Refute it at one input. -/
def normalChecksWrong : ChangeSpec := { name := "normalChecks", fn := fun _ => fun
  | [d1, d2, d3] => { results := [.lit (.bool false)], args := [d1, d2, d3] }
  | _ => none }
def NormalChecksWrongFalsely : Prop := normalChecksRow.holds Tryz.pinned (OpenSpec.ofChange normalChecksWrong)

/-- 'typedholeslaw28.NormalDerives': WHATEVER THE INPUT: true; the input reads as it did. -/
def normalDerivesSpec : ChangeSpec := { name := "normalDerives", fn := fun _ => fun
  | [d1, d2] => { results := [.lit (.bool true)], args := [d1, d2] }
  | _ => none }
def normalDerivesRow : OpenClaim := { program := "ytpcmebclpindjaagreat", sum := "35bac4e116aa6c2fc525565767b945249f7cc691dab268bf6258c29dfc2eb45b", func := "typedholes/typedholeslaw28.NormalDerives", spec := "normalDerives", unfollowed := true, recurses := true, apart := false }
def NormalDerivesSaid : Prop := normalDerivesRow.holds Tryz.pinned (OpenSpec.ofChange normalDerivesSpec)

/-- ITS FALSE NEIGHBOUR: 'it returns false'. Refute it at one input. -/
def normalDerivesWrong : ChangeSpec := { name := "normalDerives", fn := fun _ => fun
  | [d1, d2] => { results := [.lit (.bool false)], args := [d1, d2] }
  | _ => none }
def NormalDerivesWrongFalsely : Prop := normalDerivesRow.holds Tryz.pinned (OpenSpec.ofChange normalDerivesWrong)

/-- 'typedholeslaw28.NormalRenames': WHATEVER THE INPUT: true; the input reads as it did. -/
def normalRenamesSpec : ChangeSpec := { name := "normalRenames", fn := fun _ => fun
  | [d1, d2] => { results := [.lit (.bool true)], args := [d1, d2] }
  | _ => none }
def normalRenamesRow : OpenClaim := { program := "ytpcmebclpindjaagreat", sum := "35bac4e116aa6c2fc525565767b945249f7cc691dab268bf6258c29dfc2eb45b", func := "typedholes/typedholeslaw28.NormalRenames", spec := "normalRenames", unfollowed := true, recurses := true, apart := false }
def NormalRenamesSaid : Prop := normalRenamesRow.holds Tryz.pinned (OpenSpec.ofChange normalRenamesSpec)

/-- ITS FALSE NEIGHBOUR: 'it returns false'. Refute it at one input. -/
def normalRenamesWrong : ChangeSpec := { name := "normalRenames", fn := fun _ => fun
  | [d1, d2] => { results := [.lit (.bool false)], args := [d1, d2] }
  | _ => none }
def NormalRenamesWrongFalsely : Prop := normalRenamesRow.holds Tryz.pinned (OpenSpec.ofChange normalRenamesWrong)

/-- 'typedholeslaw28.NormalRigid': WHATEVER THE INPUT: true; the input reads as it did. -/
def normalRigidSpec : ChangeSpec := { name := "normalRigid", fn := fun _ => fun
  | [d1, d2, d3] => { results := [.lit (.bool true)], args := [d1, d2, d3] }
  | _ => none }
def normalRigidRow : OpenClaim := { program := "ytpcmebclpindjaagreat", sum := "35bac4e116aa6c2fc525565767b945249f7cc691dab268bf6258c29dfc2eb45b", func := "typedholes/typedholeslaw28.NormalRigid", spec := "normalRigid", unfollowed := true, recurses := true, apart := false }
def NormalRigidSaid : Prop := normalRigidRow.holds Tryz.pinned (OpenSpec.ofChange normalRigidSpec)

/-- ITS FALSE NEIGHBOUR: 'it returns false'. Refute it at one input. -/
def normalRigidWrong : ChangeSpec := { name := "normalRigid", fn := fun _ => fun
  | [d1, d2, d3] => { results := [.lit (.bool false)], args := [d1, d2, d3] }
  | _ => none }
def NormalRigidWrongFalsely : Prop := normalRigidRow.holds Tryz.pinned (OpenSpec.ofChange normalRigidWrong)

/- THE SECOND FORM. 'bulk': how many values and letters a reading holds, each counted each time it is reached (what is shared counts as often as it is met; a slice's spare places count too). A statement '..UptoSaid' is the law's where the arguments, and the package variables that the reading takes, are together of bulk at most 1048576: NARROWER than '..Said'. Prove '..Said' where nothing that the law and all that it calls make is longer than what came in: it says more and counts as full. Else prove '..UptoSaid'. A law counts once. -/
mutual
def uptoBulk {H : Type} : DataW H → Nat
  | .lit (.string bytes) => bytes.length + 1
  | .lit _ => 1
  | .nil => 1
  | .ptr d => uptoBulk d + 1
  | .slice elems spare => uptoBulkAll elems + uptoBulkAll spare + 1
  | .agg parts => uptoBulkAll parts + 1
  | .iface _ d => uptoBulk d + 1
  | .map entries => uptoBulkEntries entries + 1
  | .held _ => 1
def uptoBulkAll {H : Type} : List (DataW H) → Nat
  | [] => 0
  | d :: r => uptoBulk d + uptoBulkAll r
def uptoBulkEntries {H : Type} : List (Lit × DataW H) → Nat
  | [] => 0
  | x :: r => uptoBulkEntry x + uptoBulkEntries r
def uptoBulkEntry {H : Type} : Lit × DataW H → Nat
  | (.string bytes, d) => bytes.length + uptoBulk d + 1
  | (_, d) => uptoBulk d + 1
 end
def uptoSmall : (H : Type) → List (DataW H) → Bool := fun _ ds => decide (uptoBulkAll ds ≤ 1048576)
def OpenSpec.upto (s : _root_.Go.ChangeSpec) : _root_.Go.OpenSpec := { _root_.Go.OpenSpec.ofChange s with cond := some uptoSmall }

/-- 'typedholeslaw30.HeadsCanonical', WHERE WHAT IT READS IS OF BULK AT MOST 1048576: true; the input reads as it did. -/
def headsCanonicalUptoRow : OpenClaim := { program := "ytpcmebclpindjaagreat", sum := "35bac4e116aa6c2fc525565767b945249f7cc691dab268bf6258c29dfc2eb45b", func := "typedholes/typedholeslaw30.HeadsCanonical", spec := "headsCanonical", unfollowed := true, recurses := true, apart := false, narrowed := true }
def HeadsCanonicalUptoSaid : Prop := headsCanonicalUptoRow.holds Tryz.pinned (OpenSpec.upto headsCanonicalSpec)

/-- 'typedholeslaw30.HeadsCases', WHERE WHAT IT READS IS OF BULK AT MOST 1048576: true; the input reads as it did. -/
def headsCasesUptoRow : OpenClaim := { program := "ytpcmebclpindjaagreat", sum := "35bac4e116aa6c2fc525565767b945249f7cc691dab268bf6258c29dfc2eb45b", func := "typedholes/typedholeslaw30.HeadsCases", spec := "headsCases", unfollowed := true, recurses := true, apart := false, narrowed := true }
def HeadsCasesUptoSaid : Prop := headsCasesUptoRow.holds Tryz.pinned (OpenSpec.upto headsCasesSpec)

/-- 'typedholeslaw30.HeadsLists', WHERE WHAT IT READS IS OF BULK AT MOST 1048576: true; the input reads as it did. -/
def headsListsUptoRow : OpenClaim := { program := "ytpcmebclpindjaagreat", sum := "35bac4e116aa6c2fc525565767b945249f7cc691dab268bf6258c29dfc2eb45b", func := "typedholes/typedholeslaw30.HeadsLists", spec := "headsLists", unfollowed := true, recurses := true, apart := false, narrowed := true }
def HeadsListsUptoSaid : Prop := headsListsUptoRow.holds Tryz.pinned (OpenSpec.upto headsListsSpec)

/-- 'typedholeslaw30.HeadsComplete', WHERE WHAT IT READS IS OF BULK AT MOST 1048576: true; the input reads as it did. -/
def headsCompleteUptoRow : OpenClaim := { program := "ytpcmebclpindjaagreat", sum := "35bac4e116aa6c2fc525565767b945249f7cc691dab268bf6258c29dfc2eb45b", func := "typedholes/typedholeslaw30.HeadsComplete", spec := "headsComplete", unfollowed := true, recurses := true, apart := false, narrowed := true }
def HeadsCompleteUptoSaid : Prop := headsCompleteUptoRow.holds Tryz.pinned (OpenSpec.upto headsCompleteSpec)

/-- 'typedholeslaw28.NormalShapes', WHERE WHAT IT READS IS OF BULK AT MOST 1048576: true; the input reads as it did. -/
def normalShapesUptoRow : OpenClaim := { program := "ytpcmebclpindjaagreat", sum := "35bac4e116aa6c2fc525565767b945249f7cc691dab268bf6258c29dfc2eb45b", func := "typedholes/typedholeslaw28.NormalShapes", spec := "normalShapes", unfollowed := true, recurses := true, apart := false, narrowed := true }
def NormalShapesUptoSaid : Prop := normalShapesUptoRow.holds Tryz.pinned (OpenSpec.upto normalShapesSpec)

/-- 'typedholeslaw28.NormalClosed', WHERE WHAT IT READS IS OF BULK AT MOST 1048576: true; the input reads as it did. -/
def normalClosedUptoRow : OpenClaim := { program := "ytpcmebclpindjaagreat", sum := "35bac4e116aa6c2fc525565767b945249f7cc691dab268bf6258c29dfc2eb45b", func := "typedholes/typedholeslaw28.NormalClosed", spec := "normalClosed", unfollowed := true, recurses := true, apart := false, narrowed := true }
def NormalClosedUptoSaid : Prop := normalClosedUptoRow.holds Tryz.pinned (OpenSpec.upto normalClosedSpec)

/-- 'typedholeslaw28.NormalChecks', WHERE WHAT IT READS IS OF BULK AT MOST 1048576: true; the input reads as it did. -/
def normalChecksUptoRow : OpenClaim := { program := "ytpcmebclpindjaagreat", sum := "35bac4e116aa6c2fc525565767b945249f7cc691dab268bf6258c29dfc2eb45b", func := "typedholes/typedholeslaw28.NormalChecks", spec := "normalChecks", unfollowed := true, recurses := true, apart := false, narrowed := true }
def NormalChecksUptoSaid : Prop := normalChecksUptoRow.holds Tryz.pinned (OpenSpec.upto normalChecksSpec)

/-- 'typedholeslaw28.NormalDerives', WHERE WHAT IT READS IS OF BULK AT MOST 1048576: true; the input reads as it did. -/
def normalDerivesUptoRow : OpenClaim := { program := "ytpcmebclpindjaagreat", sum := "35bac4e116aa6c2fc525565767b945249f7cc691dab268bf6258c29dfc2eb45b", func := "typedholes/typedholeslaw28.NormalDerives", spec := "normalDerives", unfollowed := true, recurses := true, apart := false, narrowed := true }
def NormalDerivesUptoSaid : Prop := normalDerivesUptoRow.holds Tryz.pinned (OpenSpec.upto normalDerivesSpec)

/-- 'typedholeslaw28.NormalRenames', WHERE WHAT IT READS IS OF BULK AT MOST 1048576: true; the input reads as it did. -/
def normalRenamesUptoRow : OpenClaim := { program := "ytpcmebclpindjaagreat", sum := "35bac4e116aa6c2fc525565767b945249f7cc691dab268bf6258c29dfc2eb45b", func := "typedholes/typedholeslaw28.NormalRenames", spec := "normalRenames", unfollowed := true, recurses := true, apart := false, narrowed := true }
def NormalRenamesUptoSaid : Prop := normalRenamesUptoRow.holds Tryz.pinned (OpenSpec.upto normalRenamesSpec)

/-- 'typedholeslaw28.NormalRigid', WHERE WHAT IT READS IS OF BULK AT MOST 1048576: true; the input reads as it did. -/
def normalRigidUptoRow : OpenClaim := { program := "ytpcmebclpindjaagreat", sum := "35bac4e116aa6c2fc525565767b945249f7cc691dab268bf6258c29dfc2eb45b", func := "typedholes/typedholeslaw28.NormalRigid", spec := "normalRigid", unfollowed := true, recurses := true, apart := false, narrowed := true }
def NormalRigidUptoSaid : Prop := normalRigidUptoRow.holds Tryz.pinned (OpenSpec.upto normalRigidSpec)

end Rows
end Go.Proofs.YtpcmebclpindjaaGreat
