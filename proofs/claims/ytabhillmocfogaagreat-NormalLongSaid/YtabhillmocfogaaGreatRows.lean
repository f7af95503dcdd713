/-
  No cell of these rows narrows 'for every input' (looked for: loops, veiled, ifaces, maps, wideKeys, modest, calm, conditions, laid).
  DERIVED. THE GIVEN ROWS OF THIS SEAT. 6 by the template 'for every input the law returns true; each argument reads behind the call as it read before'; 0 by the template 'total and deterministic' (their statements: YtabhillmocfogaaGreatTotals.lean).
  GIVEN WITH THE SEED: the statements are not yours to turn. If you find one false, say at which input.
  Laid BY PROGRAM, IN A SANDBOX (cutbox-rows.mjs): the forced cells as the released guide's own fill.sh prints them over the translation c2c1eddf3e0c2c93… (all of the seat's roots in one cut). By AI agents, Wed Nov 11 2026. No macro, syntax, notation, axiom, sorry.
-/
import Derived.Test.YtabhillmocfogaaGreatChecked
import GoSem.Claim
import GoSem.ClaimJoined
import GoSem.ClaimMapViews
import Derived.JoinedTies
import Derived.KernelRfl
namespace Go.Proofs.YtabhillmocfogaaGreat
/- THE CELL 'sum', in the pinned program and in every row, IS THE sha256 OF THE DUMP (.gsa) THAT YtabhillmocfogaaGreatProg.lean LOADS. Nothing in Lean hashes anything: it is a label: what it is worth is what the hold of that sum in a sandbox is worth. -/
noncomputable def Tryz.pinned : Pinned := { name := "ytabhillmocfogaagreat", sum := "c2c1eddf3e0c2c93e9373d30765258c8eca3def6f062983ecb3049df00e0b934", checked := Tryz.checked }
namespace Rows
def none {H : Type} : Left H := { results := [], args := [] }

/-- 'typedholeslaw30.HeadsCanonical': WHATEVER THE INPUT: true; the input reads as it did. -/
def headsCanonicalSpec : ChangeSpec := { name := "headsCanonical", fn := fun _ => fun
  | [d1, d2] => { results := [.lit (.bool true)], args := [d1, d2] }
  | _ => none }
def headsCanonicalRow : OpenClaim := { program := "ytabhillmocfogaagreat", sum := "c2c1eddf3e0c2c93e9373d30765258c8eca3def6f062983ecb3049df00e0b934", func := "typedholes/typedholeslaw30.HeadsCanonical", spec := "headsCanonical", unfollowed := true, recurses := true, apart := false }
def HeadsCanonicalSaid : Prop := headsCanonicalRow.holds Tryz.pinned (OpenSpec.ofChange headsCanonicalSpec)

/-- ITS FALSE NEIGHBOUR: 'it returns false'. Refute it at one input. -/
def headsCanonicalWrong : ChangeSpec := { name := "headsCanonical", fn := fun _ => fun
  | [d1, d2] => { results := [.lit (.bool false)], args := [d1, d2] }
  | _ => none }
def HeadsCanonicalWrongFalsely : Prop := headsCanonicalRow.holds Tryz.pinned (OpenSpec.ofChange headsCanonicalWrong)

/-- 'typedholeslaw30.HeadsCases': WHATEVER THE INPUT: true; the input reads as it did. -/
def headsCasesSpec : ChangeSpec := { name := "headsCases", fn := fun _ => fun
  | [d1, d2, d3] => { results := [.lit (.bool true)], args := [d1, d2, d3] }
  | _ => none }
def headsCasesRow : OpenClaim := { program := "ytabhillmocfogaagreat", sum := "c2c1eddf3e0c2c93e9373d30765258c8eca3def6f062983ecb3049df00e0b934", func := "typedholes/typedholeslaw30.HeadsCases", spec := "headsCases", unfollowed := true, recurses := true, apart := false }
def HeadsCasesSaid : Prop := headsCasesRow.holds Tryz.pinned (OpenSpec.ofChange headsCasesSpec)

/-- ITS FALSE NEIGHBOUR: 'it returns false'. Refute it at one input. -/
def headsCasesWrong : ChangeSpec := { name := "headsCases", fn := fun _ => fun
  | [d1, d2, d3] => { results := [.lit (.bool false)], args := [d1, d2, d3] }
  | _ => none }
def HeadsCasesWrongFalsely : Prop := headsCasesRow.holds Tryz.pinned (OpenSpec.ofChange headsCasesWrong)

/-- 'typedholeslaw28.NormalShapes': WHATEVER THE INPUT: true; the input reads as it did. -/
def normalShapesSpec : ChangeSpec := { name := "normalShapes", fn := fun _ => fun
  | [d1, d2, d3] => { results := [.lit (.bool true)], args := [d1, d2, d3] }
  | _ => none }
def normalShapesRow : OpenClaim := { program := "ytabhillmocfogaagreat", sum := "c2c1eddf3e0c2c93e9373d30765258c8eca3def6f062983ecb3049df00e0b934", func := "typedholes/typedholeslaw28.NormalShapes", spec := "normalShapes", unfollowed := true, recurses := true, apart := false }
def NormalShapesSaid : Prop := normalShapesRow.holds Tryz.pinned (OpenSpec.ofChange normalShapesSpec)

/-- ITS FALSE NEIGHBOUR: 'it returns false'. Refute it at one input. -/
def normalShapesWrong : ChangeSpec := { name := "normalShapes", fn := fun _ => fun
  | [d1, d2, d3] => { results := [.lit (.bool false)], args := [d1, d2, d3] }
  | _ => none }
def NormalShapesWrongFalsely : Prop := normalShapesRow.holds Tryz.pinned (OpenSpec.ofChange normalShapesWrong)

/-- 'typedholeslaw28.NormalClosed': WHATEVER THE INPUT: true; the input reads as it did. -/
def normalClosedSpec : ChangeSpec := { name := "normalClosed", fn := fun _ => fun
  | [d1, d2, d3, d4] => { results := [.lit (.bool true)], args := [d1, d2, d3, d4] }
  | _ => none }
def normalClosedRow : OpenClaim := { program := "ytabhillmocfogaagreat", sum := "c2c1eddf3e0c2c93e9373d30765258c8eca3def6f062983ecb3049df00e0b934", func := "typedholes/typedholeslaw28.NormalClosed", spec := "normalClosed", unfollowed := true, recurses := true, apart := false }
def NormalClosedSaid : Prop := normalClosedRow.holds Tryz.pinned (OpenSpec.ofChange normalClosedSpec)

/-- ITS FALSE NEIGHBOUR: 'it returns false'. Refute it at one input. -/
def normalClosedWrong : ChangeSpec := { name := "normalClosed", fn := fun _ => fun
  | [d1, d2, d3, d4] => { results := [.lit (.bool false)], args := [d1, d2, d3, d4] }
  | _ => none }
def NormalClosedWrongFalsely : Prop := normalClosedRow.holds Tryz.pinned (OpenSpec.ofChange normalClosedWrong)

/-- 'typedholeslaw15.LatticeCommon': WHATEVER THE INPUT: true; the input reads as it did. -/
def latticeCommonSpec : ChangeSpec := { name := "latticeCommon", fn := fun _ => fun
  | [d1, d2] => { results := [.lit (.bool true)], args := [d1, d2] }
  | _ => none }
def latticeCommonRow : OpenClaim := { program := "ytabhillmocfogaagreat", sum := "c2c1eddf3e0c2c93e9373d30765258c8eca3def6f062983ecb3049df00e0b934", func := "typedholes/typedholeslaw15.LatticeCommon", spec := "latticeCommon", unfollowed := true, recurses := true, apart := false }
def LatticeCommonSaid : Prop := latticeCommonRow.holds Tryz.pinned (OpenSpec.ofChange latticeCommonSpec)

/-- ITS FALSE NEIGHBOUR: 'it returns false'. Refute it at one input. -/
def latticeCommonWrong : ChangeSpec := { name := "latticeCommon", fn := fun _ => fun
  | [d1, d2] => { results := [.lit (.bool false)], args := [d1, d2] }
  | _ => none }
def LatticeCommonWrongFalsely : Prop := latticeCommonRow.holds Tryz.pinned (OpenSpec.ofChange latticeCommonWrong)

/-- 'typedholeslaw28.NormalLong': WHATEVER THE INPUT: true; the input reads as it did. -/
def normalLongSpec : ChangeSpec := { name := "normalLong", fn := fun _ => fun
  | [d1, d2] => { results := [.lit (.bool true)], args := [d1, d2] }
  | _ => none }
def normalLongRow : OpenClaim := { program := "ytabhillmocfogaagreat", sum := "c2c1eddf3e0c2c93e9373d30765258c8eca3def6f062983ecb3049df00e0b934", func := "typedholes/typedholeslaw28.NormalLong", spec := "normalLong", unfollowed := true, recurses := true, apart := false }
def NormalLongSaid : Prop := normalLongRow.holds Tryz.pinned (OpenSpec.ofChange normalLongSpec)

/-- ITS FALSE NEIGHBOUR: 'it returns false'. Refute it at one input. -/
def normalLongWrong : ChangeSpec := { name := "normalLong", fn := fun _ => fun
  | [d1, d2] => { results := [.lit (.bool false)], args := [d1, d2] }
  | _ => none }
def NormalLongWrongFalsely : Prop := normalLongRow.holds Tryz.pinned (OpenSpec.ofChange normalLongWrong)

/- THE SECOND FORM. 'bulk': how many values and letters a reading holds, each counted each time it is reached (what is shared counts as often as it is met; a slice's spare places count too). A statement '..UptoSaid' is the law's where the arguments, and the package variables that the reading takes, are together of bulk at most 1048576: NARROWER than '..Said'. Prove '..Said' where nothing that the law and all that it calls make is longer than what came in: it says more and counts as full. Else prove '..UptoSaid'. A law counts once. -/
mutual
def uptoBulk {H : Type} : DataW H → Nat
  | .lit (.string bytes) => bytes.length + 1
  | .lit _ => 1
  | .nil => 1
  | .ptr d => uptoBulk d + 1
  | .slice elems spare => uptoBulkAll elems + uptoBulkAll spare + 1
  | .agg parts => uptoBulkAll parts + 1
  | .iface _ d => uptoBulk d + 1
  | .map entries => uptoBulkEntries entries + 1
  | .held _ => 1
def uptoBulkAll {H : Type} : List (DataW H) → Nat
  | [] => 0
  | d :: r => uptoBulk d + uptoBulkAll r
def uptoBulkEntries {H : Type} : List (Lit × DataW H) → Nat
  | [] => 0
  | x :: r => uptoBulkEntry x + uptoBulkEntries r
def uptoBulkEntry {H : Type} : Lit × DataW H → Nat
  | (.string bytes, d) => bytes.length + uptoBulk d + 1
  | (_, d) => uptoBulk d + 1
 end
def uptoSmall : (H : Type) → List (DataW H) → Bool := fun _ ds => decide (uptoBulkAll ds ≤ 1048576)
def OpenSpec.upto (s : _root_.Go.ChangeSpec) : _root_.Go.OpenSpec := { _root_.Go.OpenSpec.ofChange s with cond := some uptoSmall }

/-- 'typedholeslaw30.HeadsCanonical', WHERE WHAT IT READS IS OF BULK AT MOST 1048576: true; the input reads as it did. -/
def headsCanonicalUptoRow : OpenClaim := { program := "ytabhillmocfogaagreat", sum := "c2c1eddf3e0c2c93e9373d30765258c8eca3def6f062983ecb3049df00e0b934", func := "typedholes/typedholeslaw30.HeadsCanonical", spec := "headsCanonical", unfollowed := true, recurses := true, apart := false, narrowed := true }
def HeadsCanonicalUptoSaid : Prop := headsCanonicalUptoRow.holds Tryz.pinned (OpenSpec.upto headsCanonicalSpec)

/-- 'typedholeslaw30.HeadsCases', WHERE WHAT IT READS IS OF BULK AT MOST 1048576: true; the input reads as it did. -/
def headsCasesUptoRow : OpenClaim := { program := "ytabhillmocfogaagreat", sum := "c2c1eddf3e0c2c93e9373d30765258c8eca3def6f062983ecb3049df00e0b934", func := "typedholes/typedholeslaw30.HeadsCases", spec := "headsCases", unfollowed := true, recurses := true, apart := false, narrowed := true }
def HeadsCasesUptoSaid : Prop := headsCasesUptoRow.holds Tryz.pinned (OpenSpec.upto headsCasesSpec)

/-- 'typedholeslaw28.NormalShapes', WHERE WHAT IT READS IS OF BULK AT MOST 1048576: true; the input reads as it did. -/
def normalShapesUptoRow : OpenClaim := { program := "ytabhillmocfogaagreat", sum := "c2c1eddf3e0c2c93e9373d30765258c8eca3def6f062983ecb3049df00e0b934", func := "typedholes/typedholeslaw28.NormalShapes", spec := "normalShapes", unfollowed := true, recurses := true, apart := false, narrowed := true }
def NormalShapesUptoSaid : Prop := normalShapesUptoRow.holds Tryz.pinned (OpenSpec.upto normalShapesSpec)

/-- 'typedholeslaw28.NormalClosed', WHERE WHAT IT READS IS OF BULK AT MOST 1048576: true; the input reads as it did. -/
def normalClosedUptoRow : OpenClaim := { program := "ytabhillmocfogaagreat", sum := "c2c1eddf3e0c2c93e9373d30765258c8eca3def6f062983ecb3049df00e0b934", func := "typedholes/typedholeslaw28.NormalClosed", spec := "normalClosed", unfollowed := true, recurses := true, apart := false, narrowed := true }
def NormalClosedUptoSaid : Prop := normalClosedUptoRow.holds Tryz.pinned (OpenSpec.upto normalClosedSpec)

/-- 'typedholeslaw15.LatticeCommon', WHERE WHAT IT READS IS OF BULK AT MOST 1048576: true; the input reads as it did. -/
def latticeCommonUptoRow : OpenClaim := { program := "ytabhillmocfogaagreat", sum := "c2c1eddf3e0c2c93e9373d30765258c8eca3def6f062983ecb3049df00e0b934", func := "typedholes/typedholeslaw15.LatticeCommon", spec := "latticeCommon", unfollowed := true, recurses := true, apart := false, narrowed := true }
def LatticeCommonUptoSaid : Prop := latticeCommonUptoRow.holds Tryz.pinned (OpenSpec.upto latticeCommonSpec)

/-- 'typedholeslaw28.NormalLong', WHERE WHAT IT READS IS OF BULK AT MOST 1048576: true; the input reads as it did. -/
def normalLongUptoRow : OpenClaim := { program := "ytabhillmocfogaagreat", sum := "c2c1eddf3e0c2c93e9373d30765258c8eca3def6f062983ecb3049df00e0b934", func := "typedholes/typedholeslaw28.NormalLong", spec := "normalLong", unfollowed := true, recurses := true, apart := false, narrowed := true }
def NormalLongUptoSaid : Prop := normalLongUptoRow.holds Tryz.pinned (OpenSpec.upto normalLongSpec)

end Rows
end Go.Proofs.YtabhillmocfogaaGreat
