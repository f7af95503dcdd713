/-
  No cell of these rows narrows 'for every input' (looked for: loops, veiled, ifaces, maps, wideKeys, modest, calm, conditions, laid).
  DERIVED. THE GIVEN ROWS OF THIS SEAT. 5 by the template 'for every input the law returns true; each argument reads behind the call as it read before'; 0 by the template 'total and deterministic' (their statements: YtocdkgjpdnamlaaGreatTotals.lean).
  GIVEN WITH THE SEED: the statements are not yours to turn. If you find one false, say at which input.
  Laid BY PROGRAM, IN A SANDBOX (cutbox-rows.mjs): the forced cells as the released guide's own fill.sh prints them over the translation 607371fcf859ecbd… (all of the seat's roots in one cut). By AI agents, Wed Nov 11 2026. No macro, syntax, notation, axiom, sorry.
-/
import Derived.Test.YtocdkgjpdnamlaaGreatChecked
import GoSem.Claim
import GoSem.ClaimJoined
import GoSem.ClaimMapViews
import Derived.JoinedTies
import Derived.KernelRfl
namespace Go.Proofs.YtocdkgjpdnamlaaGreat
/- THE CELL 'sum', in the pinned program and in every row, IS THE sha256 OF THE DUMP (.gsa) THAT YtocdkgjpdnamlaaGreatProg.lean LOADS. Nothing in Lean hashes anything: it is a label: what it is worth is what the hold of that sum in a sandbox is worth. -/
noncomputable def Tryz.pinned : Pinned := { name := "ytocdkgjpdnamlaagreat", sum := "607371fcf859ecbd1b30400054e47958e523dc44516fbfffc706af73ed07ee11", checked := Tryz.checked }
namespace Rows
def none {H : Type} : Left H := { results := [], args := [] }

/-- 'typedholeslaw17.UnifyStores': WHATEVER THE INPUT: true; the input reads as it did. -/
def unifyStoresSpec : ChangeSpec := { name := "unifyStores", fn := fun _ => fun
  | [d1, d2] => { results := [.lit (.bool true)], args := [d1, d2] }
  | _ => none }
def unifyStoresRow : OpenClaim := { program := "ytocdkgjpdnamlaagreat", sum := "607371fcf859ecbd1b30400054e47958e523dc44516fbfffc706af73ed07ee11", func := "typedholes/typedholeslaw17.UnifyStores", spec := "unifyStores", unfollowed := true, recurses := true, apart := false }
def UnifyStoresSaid : Prop := unifyStoresRow.holds Tryz.pinned (OpenSpec.ofChange unifyStoresSpec)

/-- ITS FALSE NEIGHBOUR: 'it returns false'. Refute it at one input. -/
def unifyStoresWrong : ChangeSpec := { name := "unifyStores", fn := fun _ => fun
  | [d1, d2] => { results := [.lit (.bool false)], args := [d1, d2] }
  | _ => none }
def UnifyStoresWrongFalsely : Prop := unifyStoresRow.holds Tryz.pinned (OpenSpec.ofChange unifyStoresWrong)

/-- 'typedholeslaw17.UnifyHomes': WHATEVER THE INPUT: true; the input reads as it did. -/
def unifyHomesSpec : ChangeSpec := { name := "unifyHomes", fn := fun _ => fun
  | [d1, d2] => { results := [.lit (.bool true)], args := [d1, d2] }
  | _ => none }
def unifyHomesRow : OpenClaim := { program := "ytocdkgjpdnamlaagreat", sum := "607371fcf859ecbd1b30400054e47958e523dc44516fbfffc706af73ed07ee11", func := "typedholes/typedholeslaw17.UnifyHomes", spec := "unifyHomes", unfollowed := true, recurses := true, apart := false }
def UnifyHomesSaid : Prop := unifyHomesRow.holds Tryz.pinned (OpenSpec.ofChange unifyHomesSpec)

/-- ITS FALSE NEIGHBOUR: 'it returns false'. Refute it at one input. -/
def unifyHomesWrong : ChangeSpec := { name := "unifyHomes", fn := fun _ => fun
  | [d1, d2] => { results := [.lit (.bool false)], args := [d1, d2] }
  | _ => none }
def UnifyHomesWrongFalsely : Prop := unifyHomesRow.holds Tryz.pinned (OpenSpec.ofChange unifyHomesWrong)

/-- 'typedholeslaw17.UnifySame': WHATEVER THE INPUT: true; the input reads as it did. -/
def unifySameSpec : ChangeSpec := { name := "unifySame", fn := fun _ => fun
  | [d1, d2] => { results := [.lit (.bool true)], args := [d1, d2] }
  | _ => none }
def unifySameRow : OpenClaim := { program := "ytocdkgjpdnamlaagreat", sum := "607371fcf859ecbd1b30400054e47958e523dc44516fbfffc706af73ed07ee11", func := "typedholes/typedholeslaw17.UnifySame", spec := "unifySame", unfollowed := true, recurses := true, apart := false }
def UnifySameSaid : Prop := unifySameRow.holds Tryz.pinned (OpenSpec.ofChange unifySameSpec)

/-- ITS FALSE NEIGHBOUR: 'it returns false'. Refute it at one input. -/
def unifySameWrong : ChangeSpec := { name := "unifySame", fn := fun _ => fun
  | [d1, d2] => { results := [.lit (.bool false)], args := [d1, d2] }
  | _ => none }
def UnifySameWrongFalsely : Prop := unifySameRow.holds Tryz.pinned (OpenSpec.ofChange unifySameWrong)

/-- 'typedholeslaw17.UnifyTurns': WHATEVER THE INPUT: true; the input reads as it did. -/
def unifyTurnsSpec : ChangeSpec := { name := "unifyTurns", fn := fun _ => fun
  | [d1, d2] => { results := [.lit (.bool true)], args := [d1, d2] }
  | _ => none }
def unifyTurnsRow : OpenClaim := { program := "ytocdkgjpdnamlaagreat", sum := "607371fcf859ecbd1b30400054e47958e523dc44516fbfffc706af73ed07ee11", func := "typedholes/typedholeslaw17.UnifyTurns", spec := "unifyTurns", unfollowed := true, recurses := true, apart := false }
def UnifyTurnsSaid : Prop := unifyTurnsRow.holds Tryz.pinned (OpenSpec.ofChange unifyTurnsSpec)

/-- ITS FALSE NEIGHBOUR: 'it returns false'. Refute it at one input. -/
def unifyTurnsWrong : ChangeSpec := { name := "unifyTurns", fn := fun _ => fun
  | [d1, d2] => { results := [.lit (.bool false)], args := [d1, d2] }
  | _ => none }
def UnifyTurnsWrongFalsely : Prop := unifyTurnsRow.holds Tryz.pinned (OpenSpec.ofChange unifyTurnsWrong)

/-- 'typedholeslaw17.UnifyAgrees': WHATEVER THE INPUT: true; the input reads as it did. -/
def unifyAgreesSpec : ChangeSpec := { name := "unifyAgrees", fn := fun _ => fun
  | [d1, d2] => { results := [.lit (.bool true)], args := [d1, d2] }
  | _ => none }
def unifyAgreesRow : OpenClaim := { program := "ytocdkgjpdnamlaagreat", sum := "607371fcf859ecbd1b30400054e47958e523dc44516fbfffc706af73ed07ee11", func := "typedholes/typedholeslaw17.UnifyAgrees", spec := "unifyAgrees", unfollowed := true, recurses := true, apart := false }
def UnifyAgreesSaid : Prop := unifyAgreesRow.holds Tryz.pinned (OpenSpec.ofChange unifyAgreesSpec)

/-- ITS FALSE NEIGHBOUR: 'it returns false'. Refute it at one input. -/
def unifyAgreesWrong : ChangeSpec := { name := "unifyAgrees", fn := fun _ => fun
  | [d1, d2] => { results := [.lit (.bool false)], args := [d1, d2] }
  | _ => none }
def UnifyAgreesWrongFalsely : Prop := unifyAgreesRow.holds Tryz.pinned (OpenSpec.ofChange unifyAgreesWrong)

/- THE SECOND FORM. 'bulk': how many values and letters a reading holds, each counted each time it is reached (what is shared counts as often as it is met; a slice's spare places count too). A statement '..UptoSaid' is the law's where the arguments, and the package variables that the reading takes, are together of bulk at most 1048576: NARROWER than '..Said'. Prove '..Said' where nothing that the law and all that it calls make is longer than what came in: it says more and counts as full. Else prove '..UptoSaid'. A law counts once. -/
mutual
def uptoBulk {H : Type} : DataW H → Nat
  | .lit (.string bytes) => bytes.length + 1
  | .lit _ => 1
  | .nil => 1
  | .ptr d => uptoBulk d + 1
  | .slice elems spare => uptoBulkAll elems + uptoBulkAll spare + 1
  | .agg parts => uptoBulkAll parts + 1
  | .iface _ d => uptoBulk d + 1
  | .map entries => uptoBulkEntries entries + 1
  | .held _ => 1
def uptoBulkAll {H : Type} : List (DataW H) → Nat
  | [] => 0
  | d :: r => uptoBulk d + uptoBulkAll r
def uptoBulkEntries {H : Type} : List (Lit × DataW H) → Nat
  | [] => 0
  | x :: r => uptoBulkEntry x + uptoBulkEntries r
def uptoBulkEntry {H : Type} : Lit × DataW H → Nat
  | (.string bytes, d) => bytes.length + uptoBulk d + 1
  | (_, d) => uptoBulk d + 1
 end
def uptoSmall : (H : Type) → List (DataW H) → Bool := fun _ ds => decide (uptoBulkAll ds ≤ 1048576)
def OpenSpec.upto (s : _root_.Go.ChangeSpec) : _root_.Go.OpenSpec := { _root_.Go.OpenSpec.ofChange s with cond := some uptoSmall }

/-- 'typedholeslaw17.UnifyStores', WHERE WHAT IT READS IS OF BULK AT MOST 1048576: true; the input reads as it did. -/
def unifyStoresUptoRow : OpenClaim := { program := "ytocdkgjpdnamlaagreat", sum := "607371fcf859ecbd1b30400054e47958e523dc44516fbfffc706af73ed07ee11", func := "typedholes/typedholeslaw17.UnifyStores", spec := "unifyStores", unfollowed := true, recurses := true, apart := false, narrowed := true }
def UnifyStoresUptoSaid : Prop := unifyStoresUptoRow.holds Tryz.pinned (OpenSpec.upto unifyStoresSpec)

/-- 'typedholeslaw17.UnifyHomes', WHERE WHAT IT READS IS OF BULK AT MOST 1048576: true; the input reads as it did. -/
def unifyHomesUptoRow : OpenClaim := { program := "ytocdkgjpdnamlaagreat", sum := "607371fcf859ecbd1b30400054e47958e523dc44516fbfffc706af73ed07ee11", func := "typedholes/typedholeslaw17.UnifyHomes", spec := "unifyHomes", unfollowed := true, recurses := true, apart := false, narrowed := true }
def UnifyHomesUptoSaid : Prop := unifyHomesUptoRow.holds Tryz.pinned (OpenSpec.upto unifyHomesSpec)

/-- 'typedholeslaw17.UnifySame', WHERE WHAT IT READS IS OF BULK AT MOST 1048576: true; the input reads as it did. -/
def unifySameUptoRow : OpenClaim := { program := "ytocdkgjpdnamlaagreat", sum := "607371fcf859ecbd1b30400054e47958e523dc44516fbfffc706af73ed07ee11", func := "typedholes/typedholeslaw17.UnifySame", spec := "unifySame", unfollowed := true, recurses := true, apart := false, narrowed := true }
def UnifySameUptoSaid : Prop := unifySameUptoRow.holds Tryz.pinned (OpenSpec.upto unifySameSpec)

/-- 'typedholeslaw17.UnifyTurns', WHERE WHAT IT READS IS OF BULK AT MOST 1048576: true; the input reads as it did. -/
def unifyTurnsUptoRow : OpenClaim := { program := "ytocdkgjpdnamlaagreat", sum := "607371fcf859ecbd1b30400054e47958e523dc44516fbfffc706af73ed07ee11", func := "typedholes/typedholeslaw17.UnifyTurns", spec := "unifyTurns", unfollowed := true, recurses := true, apart := false, narrowed := true }
def UnifyTurnsUptoSaid : Prop := unifyTurnsUptoRow.holds Tryz.pinned (OpenSpec.upto unifyTurnsSpec)

/-- 'typedholeslaw17.UnifyAgrees', WHERE WHAT IT READS IS OF BULK AT MOST 1048576: true; the input reads as it did. -/
def unifyAgreesUptoRow : OpenClaim := { program := "ytocdkgjpdnamlaagreat", sum := "607371fcf859ecbd1b30400054e47958e523dc44516fbfffc706af73ed07ee11", func := "typedholes/typedholeslaw17.UnifyAgrees", spec := "unifyAgrees", unfollowed := true, recurses := true, apart := false, narrowed := true }
def UnifyAgreesUptoSaid : Prop := unifyAgreesUptoRow.holds Tryz.pinned (OpenSpec.upto unifyAgreesSpec)

end Rows
end Go.Proofs.YtocdkgjpdnamlaaGreat
