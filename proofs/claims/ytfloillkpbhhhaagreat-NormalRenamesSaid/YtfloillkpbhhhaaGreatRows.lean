/-
  No cell of these rows narrows 'for every input' (looked for: loops, veiled, ifaces, maps, wideKeys, modest, calm, conditions, laid).
  DERIVED. THE GIVEN ROWS OF THIS SEAT. 4 by the template 'for every input the law returns true; each argument reads behind the call as it read before'; 0 by the template 'total and deterministic' (their statements: YtfloillkpbhhhaaGreatTotals.lean).
  GIVEN WITH THE SEED: the statements are not yours to turn. If you find one false, say at which input.
  Laid BY PROGRAM, IN A SANDBOX (cutbox-rows.mjs): the forced cells as the released guide's own fill.sh prints them over the translation 39511353ce966331… (all of the seat's roots in one cut). By AI agents, Wed Nov 11 2026. No macro, syntax, notation, axiom, sorry.
-/
import Derived.Test.YtfloillkpbhhhaaGreatChecked
import GoSem.Claim
import GoSem.ClaimJoined
import GoSem.ClaimMapViews
import Derived.JoinedTies
import Derived.KernelRfl
namespace Go.Proofs.YtfloillkpbhhhaaGreat
/- THE CELL 'sum', in the pinned program and in every row, IS THE sha256 OF THE DUMP (.gsa) THAT YtfloillkpbhhhaaGreatProg.lean LOADS. Nothing in Lean hashes anything: it is a label: what it is worth is what the hold of that sum in a sandbox is worth. -/
noncomputable def Tryz.pinned : Pinned := { name := "ytfloillkpbhhhaagreat", sum := "39511353ce966331144e251fcafa2215b76b145ef2a671a2e3b3bb9daea15a1a", checked := Tryz.checked }
namespace Rows
def none {H : Type} : Left H := { results := [], args := [] }

/-- 'typedholeslaw30.HeadsLists': WHATEVER THE INPUT: true; the input reads as it did. -/
def headsListsSpec : ChangeSpec := { name := "headsLists", fn := fun _ => fun
  | [d1, d2, d3, d4] => { results := [.lit (.bool true)], args := [d1, d2, d3, d4] }
  | _ => none }
def headsListsRow : OpenClaim := { program := "ytfloillkpbhhhaagreat", sum := "39511353ce966331144e251fcafa2215b76b145ef2a671a2e3b3bb9daea15a1a", func := "typedholes/typedholeslaw30.HeadsLists", spec := "headsLists", unfollowed := true, recurses := true, apart := false }
def HeadsListsSaid : Prop := headsListsRow.holds Tryz.pinned (OpenSpec.ofChange headsListsSpec)

/-- ITS FALSE NEIGHBOUR: 'it returns false'. Refute it at one input. -/
def headsListsWrong : ChangeSpec := { name := "headsLists", fn := fun _ => fun
  | [d1, d2, d3, d4] => { results := [.lit (.bool false)], args := [d1, d2, d3, d4] }
  | _ => none }
def HeadsListsWrongFalsely : Prop := headsListsRow.holds Tryz.pinned (OpenSpec.ofChange headsListsWrong)

/-- 'typedholeslaw28.NormalChecks': WHATEVER THE INPUT: true; the input reads as it did. -/
def normalChecksSpec : ChangeSpec := { name := "normalChecks", fn := fun _ => fun
  | [d1, d2, d3] => { results := [.lit (.bool true)], args := [d1, d2, d3] }
  | _ => none }
def normalChecksRow : OpenClaim := { program := "ytfloillkpbhhhaagreat", sum := "39511353ce966331144e251fcafa2215b76b145ef2a671a2e3b3bb9daea15a1a", func := "typedholes/typedholeslaw28.NormalChecks", spec := "normalChecks", unfollowed := true, recurses := true, apart := false }
def NormalChecksSaid : Prop := normalChecksRow.holds Tryz.pinned (OpenSpec.ofChange normalChecksSpec)

/-- ITS FALSE NEIGHBOUR: 'it returns false'. Refute it at one input. -/
def normalChecksWrong : ChangeSpec := { name := "normalChecks", fn := fun _ => fun
  | [d1, d2, d3] => { results := [.lit (.bool false)], args := [d1, d2, d3] }
  | _ => none }
def NormalChecksWrongFalsely : Prop := normalChecksRow.holds Tryz.pinned (OpenSpec.ofChange normalChecksWrong)

/-- 'typedholeslaw28.NormalRenames': WHATEVER THE INPUT: true; the input reads as it did. -/
def normalRenamesSpec : ChangeSpec := { name := "normalRenames", fn := fun _ => fun
  | [d1, d2] => { results := [.lit (.bool true)], args := [d1, d2] }
  | _ => none }
def normalRenamesRow : OpenClaim := { program := "ytfloillkpbhhhaagreat", sum := "39511353ce966331144e251fcafa2215b76b145ef2a671a2e3b3bb9daea15a1a", func := "typedholes/typedholeslaw28.NormalRenames", spec := "normalRenames", unfollowed := true, recurses := true, apart := false }
def NormalRenamesSaid : Prop := normalRenamesRow.holds Tryz.pinned (OpenSpec.ofChange normalRenamesSpec)

/-- ITS FALSE NEIGHBOUR: 'it returns false'. Refute it at one input. -/
def normalRenamesWrong : ChangeSpec := { name := "normalRenames", fn := fun _ => fun
  | [d1, d2] => { results := [.lit (.bool false)], args := [d1, d2] }
  | _ => none }
def NormalRenamesWrongFalsely : Prop := normalRenamesRow.holds Tryz.pinned (OpenSpec.ofChange normalRenamesWrong)

/-- 'typedholeslaw28.NormalRigid': WHATEVER THE INPUT: true; the input reads as it did. -/
def normalRigidSpec : ChangeSpec := { name := "normalRigid", fn := fun _ => fun
  | [d1, d2, d3] => { results := [.lit (.bool true)], args := [d1, d2, d3] }
  | _ => none }
def normalRigidRow : OpenClaim := { program := "ytfloillkpbhhhaagreat", sum := "39511353ce966331144e251fcafa2215b76b145ef2a671a2e3b3bb9daea15a1a", func := "typedholes/typedholeslaw28.NormalRigid", spec := "normalRigid", unfollowed := true, recurses := true, apart := false }
def NormalRigidSaid : Prop := normalRigidRow.holds Tryz.pinned (OpenSpec.ofChange normalRigidSpec)

/-- ITS FALSE NEIGHBOUR: 'it returns false'. Refute it at one input. -/
def normalRigidWrong : ChangeSpec := { name := "normalRigid", fn := fun _ => fun
  | [d1, d2, d3] => { results := [.lit (.bool false)], args := [d1, d2, d3] }
  | _ => none }
def NormalRigidWrongFalsely : Prop := normalRigidRow.holds Tryz.pinned (OpenSpec.ofChange normalRigidWrong)

/- THE SECOND FORM. 'bulk': how many values and letters a reading holds, each counted each time it is reached (what is shared counts as often as it is met; a slice's spare places count too). A statement '..UptoSaid' is the law's where the arguments, and the package variables that the reading takes, are together of bulk at most 1048576: NARROWER than '..Said'. Prove '..Said' where nothing that the law and all that it calls make is longer than what came in: it says more and counts as full. Else prove '..UptoSaid'. A law counts once. -/
mutual
def uptoBulk {H : Type} : DataW H → Nat
  | .lit (.string bytes) => bytes.length + 1
  | .lit _ => 1
  | .nil => 1
  | .ptr d => uptoBulk d + 1
  | .slice elems spare => uptoBulkAll elems + uptoBulkAll spare + 1
  | .agg parts => uptoBulkAll parts + 1
  | .iface _ d => uptoBulk d + 1
  | .map entries => uptoBulkEntries entries + 1
  | .held _ => 1
def uptoBulkAll {H : Type} : List (DataW H) → Nat
  | [] => 0
  | d :: r => uptoBulk d + uptoBulkAll r
def uptoBulkEntries {H : Type} : List (Lit × DataW H) → Nat
  | [] => 0
  | x :: r => uptoBulkEntry x + uptoBulkEntries r
def uptoBulkEntry {H : Type} : Lit × DataW H → Nat
  | (.string bytes, d) => bytes.length + uptoBulk d + 1
  | (_, d) => uptoBulk d + 1
 end
def uptoSmall : (H : Type) → List (DataW H) → Bool := fun _ ds => decide (uptoBulkAll ds ≤ 1048576)
def OpenSpec.upto (s : _root_.Go.ChangeSpec) : _root_.Go.OpenSpec := { _root_.Go.OpenSpec.ofChange s with cond := some uptoSmall }

/-- 'typedholeslaw30.HeadsLists', WHERE WHAT IT READS IS OF BULK AT MOST 1048576: true; the input reads as it did. -/
def headsListsUptoRow : OpenClaim := { program := "ytfloillkpbhhhaagreat", sum := "39511353ce966331144e251fcafa2215b76b145ef2a671a2e3b3bb9daea15a1a", func := "typedholes/typedholeslaw30.HeadsLists", spec := "headsLists", unfollowed := true, recurses := true, apart := false, narrowed := true }
def HeadsListsUptoSaid : Prop := headsListsUptoRow.holds Tryz.pinned (OpenSpec.upto headsListsSpec)

/-- 'typedholeslaw28.NormalChecks', WHERE WHAT IT READS IS OF BULK AT MOST 1048576: true; the input reads as it did. -/
def normalChecksUptoRow : OpenClaim := { program := "ytfloillkpbhhhaagreat", sum := "39511353ce966331144e251fcafa2215b76b145ef2a671a2e3b3bb9daea15a1a", func := "typedholes/typedholeslaw28.NormalChecks", spec := "normalChecks", unfollowed := true, recurses := true, apart := false, narrowed := true }
def NormalChecksUptoSaid : Prop := normalChecksUptoRow.holds Tryz.pinned (OpenSpec.upto normalChecksSpec)

/-- 'typedholeslaw28.NormalRenames', WHERE WHAT IT READS IS OF BULK AT MOST 1048576: true; the input reads as it did. -/
def normalRenamesUptoRow : OpenClaim := { program := "ytfloillkpbhhhaagreat", sum := "39511353ce966331144e251fcafa2215b76b145ef2a671a2e3b3bb9daea15a1a", func := "typedholes/typedholeslaw28.NormalRenames", spec := "normalRenames", unfollowed := true, recurses := true, apart := false, narrowed := true }
def NormalRenamesUptoSaid : Prop := normalRenamesUptoRow.holds Tryz.pinned (OpenSpec.upto normalRenamesSpec)

/-- 'typedholeslaw28.NormalRigid', WHERE WHAT IT READS IS OF BULK AT MOST 1048576: true; the input reads as it did. -/
def normalRigidUptoRow : OpenClaim := { program := "ytfloillkpbhhhaagreat", sum := "39511353ce966331144e251fcafa2215b76b145ef2a671a2e3b3bb9daea15a1a", func := "typedholes/typedholeslaw28.NormalRigid", spec := "normalRigid", unfollowed := true, recurses := true, apart := false, narrowed := true }
def NormalRigidUptoSaid : Prop := normalRigidUptoRow.holds Tryz.pinned (OpenSpec.upto normalRigidSpec)

end Rows
end Go.Proofs.YtfloillkpbhhhaaGreat
