/-
  NARROWER THAN 'FOR EVERY INPUT', by the rows' own cells (each row's printed sentence says how): StoreValid: loops.
  DERIVED. THE GIVEN ROWS OF THIS SEAT. 5 by the template 'for every input the law returns true; each argument reads behind the call as it read before'; 0 by the template 'total and deterministic' (their statements: YthfcfmkdeheicaaGreatTotals.lean).
  GIVEN WITH THE SEED: the statements are not yours to turn. If you find one false, say at which input.
  Laid BY PROGRAM, IN A SANDBOX (cutbox-rows.mjs): the forced cells as the released guide's own fill.sh prints them over the translation a77ef18c8c407545… (all of the seat's roots in one cut). By AI agents, Wed Nov 11 2026. No macro, syntax, notation, axiom, sorry.
-/
import Derived.Test.YthfcfmkdeheicaaGreatChecked
import GoSem.Claim
import GoSem.ClaimJoined
import GoSem.ClaimMapViews
import Derived.JoinedTies
import Derived.KernelRfl
namespace Go.Proofs.YthfcfmkdeheicaaGreat
/- THE CELL 'sum', in the pinned program and in every row, IS THE sha256 OF THE DUMP (.gsa) THAT YthfcfmkdeheicaaGreatProg.lean LOADS. Nothing in Lean hashes anything: it is a label: what it is worth is what the hold of that sum in a sandbox is worth. -/
noncomputable def Tryz.pinned : Pinned := { name := "ythfcfmkdeheicaagreat", sum := "a77ef18c8c407545df242d9a4ebc362e04531762397a9673f31248bcc7d4207d", checked := Tryz.checked }
namespace Rows
def none {H : Type} : Left H := { results := [], args := [] }

/-- 'typedholeslaw16.StoreValid': WHATEVER THE INPUT: true; the input reads as it did. -/
def storeValidSpec : ChangeSpec := { name := "storeValid", fn := fun _ => fun
  | [d1, d2, d3, d4, d5] => { results := [.lit (.bool true)], args := [d1, d2, d3, d4, d5] }
  | _ => none }
def storeValidRow : OpenClaim := { program := "ythfcfmkdeheicaagreat", sum := "a77ef18c8c407545df242d9a4ebc362e04531762397a9673f31248bcc7d4207d", func := "typedholes/typedholeslaw16.StoreValid", spec := "storeValid", unfollowed := true, recurses := true, loops := true, apart := false }
def StoreValidSaid : Prop := storeValidRow.holds Tryz.pinned (OpenSpec.ofChange storeValidSpec)

/-- ITS FALSE NEIGHBOUR: 'it returns false'. Refute it at one input. -/
def storeValidWrong : ChangeSpec := { name := "storeValid", fn := fun _ => fun
  | [d1, d2, d3, d4, d5] => { results := [.lit (.bool false)], args := [d1, d2, d3, d4, d5] }
  | _ => none }
def StoreValidWrongFalsely : Prop := storeValidRow.holds Tryz.pinned (OpenSpec.ofChange storeValidWrong)

/-- 'typedholeslaw15.LatticeCommon': WHATEVER THE INPUT: true; the input reads as it did. -/
def latticeCommonSpec : ChangeSpec := { name := "latticeCommon", fn := fun _ => fun
  | [d1, d2] => { results := [.lit (.bool true)], args := [d1, d2] }
  | _ => none }
def latticeCommonRow : OpenClaim := { program := "ythfcfmkdeheicaagreat", sum := "a77ef18c8c407545df242d9a4ebc362e04531762397a9673f31248bcc7d4207d", func := "typedholes/typedholeslaw15.LatticeCommon", spec := "latticeCommon", unfollowed := true, recurses := true, apart := false }
def LatticeCommonSaid : Prop := latticeCommonRow.holds Tryz.pinned (OpenSpec.ofChange latticeCommonSpec)

/-- ITS FALSE NEIGHBOUR: 'it returns false'. Refute it at one input. -/
def latticeCommonWrong : ChangeSpec := { name := "latticeCommon", fn := fun _ => fun
  | [d1, d2] => { results := [.lit (.bool false)], args := [d1, d2] }
  | _ => none }
def LatticeCommonWrongFalsely : Prop := latticeCommonRow.holds Tryz.pinned (OpenSpec.ofChange latticeCommonWrong)

/-- 'typedholeslaw18.SolveAnswers': WHATEVER THE INPUT: true; the input reads as it did. -/
def solveAnswersSpec : ChangeSpec := { name := "solveAnswers", fn := fun _ => fun
  | [d1, d2, d3] => { results := [.lit (.bool true)], args := [d1, d2, d3] }
  | _ => none }
def solveAnswersRow : OpenClaim := { program := "ythfcfmkdeheicaagreat", sum := "a77ef18c8c407545df242d9a4ebc362e04531762397a9673f31248bcc7d4207d", func := "typedholes/typedholeslaw18.SolveAnswers", spec := "solveAnswers", unfollowed := true, recurses := true, apart := false }
def SolveAnswersSaid : Prop := solveAnswersRow.holds Tryz.pinned (OpenSpec.ofChange solveAnswersSpec)

/-- ITS FALSE NEIGHBOUR: 'it returns false'. Refute it at one input. -/
def solveAnswersWrong : ChangeSpec := { name := "solveAnswers", fn := fun _ => fun
  | [d1, d2, d3] => { results := [.lit (.bool false)], args := [d1, d2, d3] }
  | _ => none }
def SolveAnswersWrongFalsely : Prop := solveAnswersRow.holds Tryz.pinned (OpenSpec.ofChange solveAnswersWrong)

/-- 'typedholeslaw18.SolvePrincipal': WHATEVER THE INPUT: true; the input reads as it did. -/
def solvePrincipalSpec : ChangeSpec := { name := "solvePrincipal", fn := fun _ => fun
  | [d1, d2, d3] => { results := [.lit (.bool true)], args := [d1, d2, d3] }
  | _ => none }
def solvePrincipalRow : OpenClaim := { program := "ythfcfmkdeheicaagreat", sum := "a77ef18c8c407545df242d9a4ebc362e04531762397a9673f31248bcc7d4207d", func := "typedholes/typedholeslaw18.SolvePrincipal", spec := "solvePrincipal", unfollowed := true, recurses := true, apart := false }
def SolvePrincipalSaid : Prop := solvePrincipalRow.holds Tryz.pinned (OpenSpec.ofChange solvePrincipalSpec)

/-- ITS FALSE NEIGHBOUR: 'it returns false'. Refute it at one input. -/
def solvePrincipalWrong : ChangeSpec := { name := "solvePrincipal", fn := fun _ => fun
  | [d1, d2, d3] => { results := [.lit (.bool false)], args := [d1, d2, d3] }
  | _ => none }
def SolvePrincipalWrongFalsely : Prop := solvePrincipalRow.holds Tryz.pinned (OpenSpec.ofChange solvePrincipalWrong)

/-- 'typedholeslaw18.SolveChecks': WHATEVER THE INPUT: true; the input reads as it did. -/
def solveChecksSpec : ChangeSpec := { name := "solveChecks", fn := fun _ => fun
  | [d1, d2, d3] => { results := [.lit (.bool true)], args := [d1, d2, d3] }
  | _ => none }
def solveChecksRow : OpenClaim := { program := "ythfcfmkdeheicaagreat", sum := "a77ef18c8c407545df242d9a4ebc362e04531762397a9673f31248bcc7d4207d", func := "typedholes/typedholeslaw18.SolveChecks", spec := "solveChecks", unfollowed := true, recurses := true, apart := false }
def SolveChecksSaid : Prop := solveChecksRow.holds Tryz.pinned (OpenSpec.ofChange solveChecksSpec)

/-- ITS FALSE NEIGHBOUR: 'it returns false'. Refute it at one input. -/
def solveChecksWrong : ChangeSpec := { name := "solveChecks", fn := fun _ => fun
  | [d1, d2, d3] => { results := [.lit (.bool false)], args := [d1, d2, d3] }
  | _ => none }
def SolveChecksWrongFalsely : Prop := solveChecksRow.holds Tryz.pinned (OpenSpec.ofChange solveChecksWrong)

/- THE SECOND FORM. 'bulk': how many values and letters a reading holds, each counted each time it is reached (what is shared counts as often as it is met; a slice's spare places count too). A statement '..UptoSaid' is the law's where the arguments, and the package variables that the reading takes, are together of bulk at most 1048576: NARROWER than '..Said'. Prove '..Said' where nothing that the law and all that it calls make is longer than what came in: it says more and counts as full. Else prove '..UptoSaid'. A law counts once. -/
mutual
def uptoBulk {H : Type} : DataW H → Nat
  | .lit (.string bytes) => bytes.length + 1
  | .lit _ => 1
  | .nil => 1
  | .ptr d => uptoBulk d + 1
  | .slice elems spare => uptoBulkAll elems + uptoBulkAll spare + 1
  | .agg parts => uptoBulkAll parts + 1
  | .iface _ d => uptoBulk d + 1
  | .map entries => uptoBulkEntries entries + 1
  | .held _ => 1
def uptoBulkAll {H : Type} : List (DataW H) → Nat
  | [] => 0
  | d :: r => uptoBulk d + uptoBulkAll r
def uptoBulkEntries {H : Type} : List (Lit × DataW H) → Nat
  | [] => 0
  | x :: r => uptoBulkEntry x + uptoBulkEntries r
def uptoBulkEntry {H : Type} : Lit × DataW H → Nat
  | (.string bytes, d) => bytes.length + uptoBulk d + 1
  | (_, d) => uptoBulk d + 1
 end
def uptoSmall : (H : Type) → List (DataW H) → Bool := fun _ ds => decide (uptoBulkAll ds ≤ 1048576)
def OpenSpec.upto (s : _root_.Go.ChangeSpec) : _root_.Go.OpenSpec := { _root_.Go.OpenSpec.ofChange s with cond := some uptoSmall }

/-- 'typedholeslaw16.StoreValid', WHERE WHAT IT READS IS OF BULK AT MOST 1048576: true; the input reads as it did. -/
def storeValidUptoRow : OpenClaim := { program := "ythfcfmkdeheicaagreat", sum := "a77ef18c8c407545df242d9a4ebc362e04531762397a9673f31248bcc7d4207d", func := "typedholes/typedholeslaw16.StoreValid", spec := "storeValid", unfollowed := true, recurses := true, loops := true, apart := false, narrowed := true }
def StoreValidUptoSaid : Prop := storeValidUptoRow.holds Tryz.pinned (OpenSpec.upto storeValidSpec)

/-- 'typedholeslaw15.LatticeCommon', WHERE WHAT IT READS IS OF BULK AT MOST 1048576: true; the input reads as it did. -/
def latticeCommonUptoRow : OpenClaim := { program := "ythfcfmkdeheicaagreat", sum := "a77ef18c8c407545df242d9a4ebc362e04531762397a9673f31248bcc7d4207d", func := "typedholes/typedholeslaw15.LatticeCommon", spec := "latticeCommon", unfollowed := true, recurses := true, apart := false, narrowed := true }
def LatticeCommonUptoSaid : Prop := latticeCommonUptoRow.holds Tryz.pinned (OpenSpec.upto latticeCommonSpec)

/-- 'typedholeslaw18.SolveAnswers', WHERE WHAT IT READS IS OF BULK AT MOST 1048576: true; the input reads as it did. -/
def solveAnswersUptoRow : OpenClaim := { program := "ythfcfmkdeheicaagreat", sum := "a77ef18c8c407545df242d9a4ebc362e04531762397a9673f31248bcc7d4207d", func := "typedholes/typedholeslaw18.SolveAnswers", spec := "solveAnswers", unfollowed := true, recurses := true, apart := false, narrowed := true }
def SolveAnswersUptoSaid : Prop := solveAnswersUptoRow.holds Tryz.pinned (OpenSpec.upto solveAnswersSpec)

/-- 'typedholeslaw18.SolvePrincipal', WHERE WHAT IT READS IS OF BULK AT MOST 1048576: true; the input reads as it did. -/
def solvePrincipalUptoRow : OpenClaim := { program := "ythfcfmkdeheicaagreat", sum := "a77ef18c8c407545df242d9a4ebc362e04531762397a9673f31248bcc7d4207d", func := "typedholes/typedholeslaw18.SolvePrincipal", spec := "solvePrincipal", unfollowed := true, recurses := true, apart := false, narrowed := true }
def SolvePrincipalUptoSaid : Prop := solvePrincipalUptoRow.holds Tryz.pinned (OpenSpec.upto solvePrincipalSpec)

/-- 'typedholeslaw18.SolveChecks', WHERE WHAT IT READS IS OF BULK AT MOST 1048576: true; the input reads as it did. -/
def solveChecksUptoRow : OpenClaim := { program := "ythfcfmkdeheicaagreat", sum := "a77ef18c8c407545df242d9a4ebc362e04531762397a9673f31248bcc7d4207d", func := "typedholes/typedholeslaw18.SolveChecks", spec := "solveChecks", unfollowed := true, recurses := true, apart := false, narrowed := true }
def SolveChecksUptoSaid : Prop := solveChecksUptoRow.holds Tryz.pinned (OpenSpec.upto solveChecksSpec)

end Rows
end Go.Proofs.YthfcfmkdeheicaaGreat
