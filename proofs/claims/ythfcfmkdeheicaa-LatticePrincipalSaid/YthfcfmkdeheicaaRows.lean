/-
  NARROWER THAN 'FOR EVERY INPUT', by the rows' own cells (each row's printed sentence says how): StoreOperations: loops · StoreRaw: loops.
  DERIVED. THE GIVEN ROWS OF THIS SEAT. 7 by the template 'for every input the law returns true; each argument reads behind the call as it read before'; 0 by the template 'total and deterministic' (their statements: YthfcfmkdeheicaaTotals.lean).
  GIVEN WITH THE SEED: the statements are not yours to turn. If you find one false, say at which input.
  Laid BY PROGRAM, IN A SANDBOX (cutbox-rows.mjs): the forced cells as the released guide's own fill.sh prints them over the translation b82570986ce77896… (all of the seat's roots in one cut). By AI agents, Wed Nov 11 2026. No macro, syntax, notation, axiom, sorry.
-/
import Derived.Test.YthfcfmkdeheicaaChecked
import GoSem.Claim
import GoSem.ClaimJoined
import GoSem.ClaimMapViews
import Derived.JoinedTies
import Derived.KernelRfl
namespace Go.Proofs.Ythfcfmkdeheicaa
/- THE CELL 'sum', in the pinned program and in every row, IS THE sha256 OF THE DUMP (.gsa) THAT YthfcfmkdeheicaaProg.lean LOADS. Nothing in Lean hashes anything: it is a label: what it is worth is what the hold of that sum in a sandbox is worth. -/
noncomputable def Try.pinned : Pinned := { name := "ythfcfmkdeheicaa", sum := "b82570986ce77896b9d9d7a4d60fd99b7843103031fcdd44900d0b0693d6f279", checked := Try.checked }
namespace Rows
def none {H : Type} : Left H := { results := [], args := [] }

/-- 'typedholeslaw16.StoreOperations': WHATEVER THE INPUT: true; the input reads as it did. -/
def storeOperationsSpec : ChangeSpec := { name := "storeOperations", fn := fun _ => fun
  | [d1, d2, d3, d4, d5, d6] => { results := [.lit (.bool true)], args := [d1, d2, d3, d4, d5, d6] }
  | _ => none }
def storeOperationsRow : OpenClaim := { program := "ythfcfmkdeheicaa", sum := "b82570986ce77896b9d9d7a4d60fd99b7843103031fcdd44900d0b0693d6f279", func := "typedholes/typedholeslaw16.StoreOperations", spec := "storeOperations", unfollowed := true, recurses := true, loops := true, apart := false }
def StoreOperationsSaid : Prop := storeOperationsRow.holds Try.pinned (OpenSpec.ofChange storeOperationsSpec)

/-- ITS FALSE NEIGHBOUR: 'it returns false'. Refute it at one input. -/
def storeOperationsWrong : ChangeSpec := { name := "storeOperations", fn := fun _ => fun
  | [d1, d2, d3, d4, d5, d6] => { results := [.lit (.bool false)], args := [d1, d2, d3, d4, d5, d6] }
  | _ => none }
def StoreOperationsWrongFalsely : Prop := storeOperationsRow.holds Try.pinned (OpenSpec.ofChange storeOperationsWrong)

/-- 'typedholeslaw16.StoreRollsBack': WHATEVER THE INPUT: true; the input reads as it did. -/
def storeRollsBackSpec : ChangeSpec := { name := "storeRollsBack", fn := fun _ => fun
  | [d1, d2, d3, d4] => { results := [.lit (.bool true)], args := [d1, d2, d3, d4] }
  | _ => none }
def storeRollsBackRow : OpenClaim := { program := "ythfcfmkdeheicaa", sum := "b82570986ce77896b9d9d7a4d60fd99b7843103031fcdd44900d0b0693d6f279", func := "typedholes/typedholeslaw16.StoreRollsBack", spec := "storeRollsBack", unfollowed := true, recurses := true, apart := false }
def StoreRollsBackSaid : Prop := storeRollsBackRow.holds Try.pinned (OpenSpec.ofChange storeRollsBackSpec)

/-- ITS FALSE NEIGHBOUR: 'it returns false'. Refute it at one input. -/
def storeRollsBackWrong : ChangeSpec := { name := "storeRollsBack", fn := fun _ => fun
  | [d1, d2, d3, d4] => { results := [.lit (.bool false)], args := [d1, d2, d3, d4] }
  | _ => none }
def StoreRollsBackWrongFalsely : Prop := storeRollsBackRow.holds Try.pinned (OpenSpec.ofChange storeRollsBackWrong)

/-- 'typedholeslaw16.StoreRaw': WHATEVER THE INPUT: true; the input reads as it did. -/
def storeRawSpec : ChangeSpec := { name := "storeRaw", fn := fun _ => fun
  | [d1, d2] => { results := [.lit (.bool true)], args := [d1, d2] }
  | _ => none }
def storeRawRow : OpenClaim := { program := "ythfcfmkdeheicaa", sum := "b82570986ce77896b9d9d7a4d60fd99b7843103031fcdd44900d0b0693d6f279", func := "typedholes/typedholeslaw16.StoreRaw", spec := "storeRaw", unfollowed := true, recurses := true, loops := true, apart := false }
def StoreRawSaid : Prop := storeRawRow.holds Try.pinned (OpenSpec.ofChange storeRawSpec)

/-- ITS FALSE NEIGHBOUR: 'it returns false'. Refute it at one input. -/
def storeRawWrong : ChangeSpec := { name := "storeRaw", fn := fun _ => fun
  | [d1, d2] => { results := [.lit (.bool false)], args := [d1, d2] }
  | _ => none }
def StoreRawWrongFalsely : Prop := storeRawRow.holds Try.pinned (OpenSpec.ofChange storeRawWrong)

/-- 'typedholeslaw16.StoreResolves': WHATEVER THE INPUT: true; the input reads as it did. -/
def storeResolvesSpec : ChangeSpec := { name := "storeResolves", fn := fun _ => fun
  | [d1, d2, d3] => { results := [.lit (.bool true)], args := [d1, d2, d3] }
  | _ => none }
def storeResolvesRow : OpenClaim := { program := "ythfcfmkdeheicaa", sum := "b82570986ce77896b9d9d7a4d60fd99b7843103031fcdd44900d0b0693d6f279", func := "typedholes/typedholeslaw16.StoreResolves", spec := "storeResolves", unfollowed := true, recurses := true, apart := false }
def StoreResolvesSaid : Prop := storeResolvesRow.holds Try.pinned (OpenSpec.ofChange storeResolvesSpec)

/-- ITS FALSE NEIGHBOUR: 'it returns false'. Refute it at one input. -/
def storeResolvesWrong : ChangeSpec := { name := "storeResolves", fn := fun _ => fun
  | [d1, d2, d3] => { results := [.lit (.bool false)], args := [d1, d2, d3] }
  | _ => none }
def StoreResolvesWrongFalsely : Prop := storeResolvesRow.holds Try.pinned (OpenSpec.ofChange storeResolvesWrong)

/-- 'typedholeslaw15.LatticeUnifies': WHATEVER THE INPUT: true; the input reads as it did. -/
def latticeUnifiesSpec : ChangeSpec := { name := "latticeUnifies", fn := fun _ => fun
  | [d1, d2] => { results := [.lit (.bool true)], args := [d1, d2] }
  | _ => none }
def latticeUnifiesRow : OpenClaim := { program := "ythfcfmkdeheicaa", sum := "b82570986ce77896b9d9d7a4d60fd99b7843103031fcdd44900d0b0693d6f279", func := "typedholes/typedholeslaw15.LatticeUnifies", spec := "latticeUnifies", unfollowed := true, recurses := true, apart := false }
def LatticeUnifiesSaid : Prop := latticeUnifiesRow.holds Try.pinned (OpenSpec.ofChange latticeUnifiesSpec)

/-- ITS FALSE NEIGHBOUR: 'it returns false'. Refute it at one input. -/
def latticeUnifiesWrong : ChangeSpec := { name := "latticeUnifies", fn := fun _ => fun
  | [d1, d2] => { results := [.lit (.bool false)], args := [d1, d2] }
  | _ => none }
def LatticeUnifiesWrongFalsely : Prop := latticeUnifiesRow.holds Try.pinned (OpenSpec.ofChange latticeUnifiesWrong)

/-- 'typedholeslaw15.LatticePrincipal': WHATEVER THE INPUT: true; the input reads as it did. -/
def latticePrincipalSpec : ChangeSpec := { name := "latticePrincipal", fn := fun _ => fun
  | [d1, d2] => { results := [.lit (.bool true)], args := [d1, d2] }
  | _ => none }
def latticePrincipalRow : OpenClaim := { program := "ythfcfmkdeheicaa", sum := "b82570986ce77896b9d9d7a4d60fd99b7843103031fcdd44900d0b0693d6f279", func := "typedholes/typedholeslaw15.LatticePrincipal", spec := "latticePrincipal", unfollowed := true, recurses := true, apart := false }
def LatticePrincipalSaid : Prop := latticePrincipalRow.holds Try.pinned (OpenSpec.ofChange latticePrincipalSpec)

/-- ITS FALSE NEIGHBOUR: 'it returns false'. Refute it at one input. -/
def latticePrincipalWrong : ChangeSpec := { name := "latticePrincipal", fn := fun _ => fun
  | [d1, d2] => { results := [.lit (.bool false)], args := [d1, d2] }
  | _ => none }
def LatticePrincipalWrongFalsely : Prop := latticePrincipalRow.holds Try.pinned (OpenSpec.ofChange latticePrincipalWrong)

/-- 'typedholeslaw15.LatticeOrder': WHATEVER THE INPUT: true; the input reads as it did. -/
def latticeOrderSpec : ChangeSpec := { name := "latticeOrder", fn := fun _ => fun
  | [d1, d2] => { results := [.lit (.bool true)], args := [d1, d2] }
  | _ => none }
def latticeOrderRow : OpenClaim := { program := "ythfcfmkdeheicaa", sum := "b82570986ce77896b9d9d7a4d60fd99b7843103031fcdd44900d0b0693d6f279", func := "typedholes/typedholeslaw15.LatticeOrder", spec := "latticeOrder", unfollowed := true, recurses := true, apart := false }
def LatticeOrderSaid : Prop := latticeOrderRow.holds Try.pinned (OpenSpec.ofChange latticeOrderSpec)

/-- ITS FALSE NEIGHBOUR: 'it returns false'. Refute it at one input. -/
def latticeOrderWrong : ChangeSpec := { name := "latticeOrder", fn := fun _ => fun
  | [d1, d2] => { results := [.lit (.bool false)], args := [d1, d2] }
  | _ => none }
def LatticeOrderWrongFalsely : Prop := latticeOrderRow.holds Try.pinned (OpenSpec.ofChange latticeOrderWrong)

/- THE SECOND FORM. 'bulk': how many values and letters a reading holds, each counted each time it is reached (what is shared counts as often as it is met; a slice's spare places count too). A statement '..UptoSaid' is the law's where the arguments, and the package variables that the reading takes, are together of bulk at most 1048576: NARROWER than '..Said'. Prove '..Said' where nothing that the law and all that it calls make is longer than what came in: it says more and counts as full. Else prove '..UptoSaid'. A law counts once. -/
mutual
def uptoBulk {H : Type} : DataW H → Nat
  | .lit (.string bytes) => bytes.length + 1
  | .lit _ => 1
  | .nil => 1
  | .ptr d => uptoBulk d + 1
  | .slice elems spare => uptoBulkAll elems + uptoBulkAll spare + 1
  | .agg parts => uptoBulkAll parts + 1
  | .iface _ d => uptoBulk d + 1
  | .map entries => uptoBulkEntries entries + 1
  | .held _ => 1
def uptoBulkAll {H : Type} : List (DataW H) → Nat
  | [] => 0
  | d :: r => uptoBulk d + uptoBulkAll r
def uptoBulkEntries {H : Type} : List (Lit × DataW H) → Nat
  | [] => 0
  | x :: r => uptoBulkEntry x + uptoBulkEntries r
def uptoBulkEntry {H : Type} : Lit × DataW H → Nat
  | (.string bytes, d) => bytes.length + uptoBulk d + 1
  | (_, d) => uptoBulk d + 1
 end
def uptoSmall : (H : Type) → List (DataW H) → Bool := fun _ ds => decide (uptoBulkAll ds ≤ 1048576)
def OpenSpec.upto (s : _root_.Go.ChangeSpec) : _root_.Go.OpenSpec := { _root_.Go.OpenSpec.ofChange s with cond := some uptoSmall }

/-- 'typedholeslaw16.StoreOperations', WHERE WHAT IT READS IS OF BULK AT MOST 1048576: true; the input reads as it did. -/
def storeOperationsUptoRow : OpenClaim := { program := "ythfcfmkdeheicaa", sum := "b82570986ce77896b9d9d7a4d60fd99b7843103031fcdd44900d0b0693d6f279", func := "typedholes/typedholeslaw16.StoreOperations", spec := "storeOperations", unfollowed := true, recurses := true, loops := true, apart := false, narrowed := true }
def StoreOperationsUptoSaid : Prop := storeOperationsUptoRow.holds Try.pinned (OpenSpec.upto storeOperationsSpec)

/-- 'typedholeslaw16.StoreRollsBack', WHERE WHAT IT READS IS OF BULK AT MOST 1048576: true; the input reads as it did. -/
def storeRollsBackUptoRow : OpenClaim := { program := "ythfcfmkdeheicaa", sum := "b82570986ce77896b9d9d7a4d60fd99b7843103031fcdd44900d0b0693d6f279", func := "typedholes/typedholeslaw16.StoreRollsBack", spec := "storeRollsBack", unfollowed := true, recurses := true, apart := false, narrowed := true }
def StoreRollsBackUptoSaid : Prop := storeRollsBackUptoRow.holds Try.pinned (OpenSpec.upto storeRollsBackSpec)

/-- 'typedholeslaw16.StoreRaw', WHERE WHAT IT READS IS OF BULK AT MOST 1048576: true; the input reads as it did. -/
def storeRawUptoRow : OpenClaim := { program := "ythfcfmkdeheicaa", sum := "b82570986ce77896b9d9d7a4d60fd99b7843103031fcdd44900d0b0693d6f279", func := "typedholes/typedholeslaw16.StoreRaw", spec := "storeRaw", unfollowed := true, recurses := true, loops := true, apart := false, narrowed := true }
def StoreRawUptoSaid : Prop := storeRawUptoRow.holds Try.pinned (OpenSpec.upto storeRawSpec)

/-- 'typedholeslaw16.StoreResolves', WHERE WHAT IT READS IS OF BULK AT MOST 1048576: true; the input reads as it did. -/
def storeResolvesUptoRow : OpenClaim := { program := "ythfcfmkdeheicaa", sum := "b82570986ce77896b9d9d7a4d60fd99b7843103031fcdd44900d0b0693d6f279", func := "typedholes/typedholeslaw16.StoreResolves", spec := "storeResolves", unfollowed := true, recurses := true, apart := false, narrowed := true }
def StoreResolvesUptoSaid : Prop := storeResolvesUptoRow.holds Try.pinned (OpenSpec.upto storeResolvesSpec)

/-- 'typedholeslaw15.LatticeUnifies', WHERE WHAT IT READS IS OF BULK AT MOST 1048576: true; the input reads as it did. -/
def latticeUnifiesUptoRow : OpenClaim := { program := "ythfcfmkdeheicaa", sum := "b82570986ce77896b9d9d7a4d60fd99b7843103031fcdd44900d0b0693d6f279", func := "typedholes/typedholeslaw15.LatticeUnifies", spec := "latticeUnifies", unfollowed := true, recurses := true, apart := false, narrowed := true }
def LatticeUnifiesUptoSaid : Prop := latticeUnifiesUptoRow.holds Try.pinned (OpenSpec.upto latticeUnifiesSpec)

/-- 'typedholeslaw15.LatticePrincipal', WHERE WHAT IT READS IS OF BULK AT MOST 1048576: true; the input reads as it did. -/
def latticePrincipalUptoRow : OpenClaim := { program := "ythfcfmkdeheicaa", sum := "b82570986ce77896b9d9d7a4d60fd99b7843103031fcdd44900d0b0693d6f279", func := "typedholes/typedholeslaw15.LatticePrincipal", spec := "latticePrincipal", unfollowed := true, recurses := true, apart := false, narrowed := true }
def LatticePrincipalUptoSaid : Prop := latticePrincipalUptoRow.holds Try.pinned (OpenSpec.upto latticePrincipalSpec)

/-- 'typedholeslaw15.LatticeOrder', WHERE WHAT IT READS IS OF BULK AT MOST 1048576: true; the input reads as it did. -/
def latticeOrderUptoRow : OpenClaim := { program := "ythfcfmkdeheicaa", sum := "b82570986ce77896b9d9d7a4d60fd99b7843103031fcdd44900d0b0693d6f279", func := "typedholes/typedholeslaw15.LatticeOrder", spec := "latticeOrder", unfollowed := true, recurses := true, apart := false, narrowed := true }
def LatticeOrderUptoSaid : Prop := latticeOrderUptoRow.holds Try.pinned (OpenSpec.upto latticeOrderSpec)

end Rows
end Go.Proofs.Ythfcfmkdeheicaa
