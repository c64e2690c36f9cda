/-
  No cell of these rows narrows 'for every input' (looked for: loops, veiled, ifaces, maps, wideKeys, modest, calm, conditions, laid).
  DERIVED. THE GIVEN ROWS OF THIS SEAT. 4 by the template 'for every input the law returns true; each argument reads behind the call as it read before'; 0 by the template 'total and deterministic' (their statements: YtbopfhbeegkkaaaTotals.lean).
  GIVEN WITH THE SEED: the statements are not yours to turn. If you find one false, say at which input.
  Laid BY PROGRAM, IN A SANDBOX (cutbox-rows.mjs): the forced cells as the released guide's own fill.sh prints them over the translation 60fe10c95b9cc686… (all of the seat's roots in one cut). By AI agents, Wed Nov 11 2026. No macro, syntax, notation, axiom, sorry.
-/
import Derived.Test.YtbopfhbeegkkaaaChecked
import GoSem.Claim
import GoSem.ClaimJoined
import GoSem.ClaimMapViews
import Derived.JoinedTies
import Derived.KernelRfl
namespace Go.Proofs.Ytbopfhbeegkkaaa
/- THE CELL 'sum', in the pinned program and in every row, IS THE sha256 OF THE DUMP (.gsa) THAT YtbopfhbeegkkaaaProg.lean LOADS. Nothing in Lean hashes anything: it is a label: what it is worth is what the hold of that sum in a sandbox is worth. -/
noncomputable def Try.pinned : Pinned := { name := "ytbopfhbeegkkaaa", sum := "60fe10c95b9cc686c416ab1afdf77538b898d94075747a06de5a52a3b8620b8b", checked := Try.checked }
namespace Rows
def none {H : Type} : Left H := { results := [], args := [] }

/-- 'copsekeep.VectorOrder': WHATEVER THE INPUT: true; the input reads as it did. -/
def vectorOrderSpec : ChangeSpec := { name := "vectorOrder", fn := fun _ => fun
  | [d1, d2, d3] => { results := [.lit (.bool true)], args := [d1, d2, d3] }
  | _ => none }
def vectorOrderRow : OpenClaim := { program := "ytbopfhbeegkkaaa", sum := "60fe10c95b9cc686c416ab1afdf77538b898d94075747a06de5a52a3b8620b8b", func := "copse/copsekeep.VectorOrder", spec := "vectorOrder", unfollowed := true, recurses := true, apart := false }
def VectorOrderSaid : Prop := vectorOrderRow.holds Try.pinned (OpenSpec.ofChange vectorOrderSpec)

/-- ITS FALSE NEIGHBOUR: 'it returns false'. Refute it at one input. -/
def vectorOrderWrong : ChangeSpec := { name := "vectorOrder", fn := fun _ => fun
  | [d1, d2, d3] => { results := [.lit (.bool false)], args := [d1, d2, d3] }
  | _ => none }
def VectorOrderWrongFalsely : Prop := vectorOrderRow.holds Try.pinned (OpenSpec.ofChange vectorOrderWrong)

/-- 'copselaw.VectorMeets': WHATEVER THE INPUT: true; the input reads as it did. -/
def vectorMeetsSpec : ChangeSpec := { name := "vectorMeets", fn := fun _ => fun
  | [d1, d2] => { results := [.lit (.bool true)], args := [d1, d2] }
  | _ => none }
def vectorMeetsRow : OpenClaim := { program := "ytbopfhbeegkkaaa", sum := "60fe10c95b9cc686c416ab1afdf77538b898d94075747a06de5a52a3b8620b8b", func := "copse/copselaw.VectorMeets", spec := "vectorMeets", unfollowed := true, recurses := true, apart := false }
def VectorMeetsSaid : Prop := vectorMeetsRow.holds Try.pinned (OpenSpec.ofChange vectorMeetsSpec)

/-- ITS FALSE NEIGHBOUR: 'it returns false'. Refute it at one input. -/
def vectorMeetsWrong : ChangeSpec := { name := "vectorMeets", fn := fun _ => fun
  | [d1, d2] => { results := [.lit (.bool false)], args := [d1, d2] }
  | _ => none }
def VectorMeetsWrongFalsely : Prop := vectorMeetsRow.holds Try.pinned (OpenSpec.ofChange vectorMeetsWrong)

/-- 'copsekeep.ClockAbove': WHATEVER THE INPUT: true; the input reads as it did. -/
def clockAboveSpec : ChangeSpec := { name := "clockAbove", fn := fun _ => fun
  | [d1, d2, d3, d4] => { results := [.lit (.bool true)], args := [d1, d2, d3, d4] }
  | _ => none }
def clockAboveRow : OpenClaim := { program := "ytbopfhbeegkkaaa", sum := "60fe10c95b9cc686c416ab1afdf77538b898d94075747a06de5a52a3b8620b8b", func := "copse/copsekeep.ClockAbove", spec := "clockAbove", apart := false }
def ClockAboveSaid : Prop := clockAboveRow.holds Try.pinned (OpenSpec.ofChange clockAboveSpec)

/-- ITS FALSE NEIGHBOUR: 'it returns false'. Refute it at one input. -/
def clockAboveWrong : ChangeSpec := { name := "clockAbove", fn := fun _ => fun
  | [d1, d2, d3, d4] => { results := [.lit (.bool false)], args := [d1, d2, d3, d4] }
  | _ => none }
def ClockAboveWrongFalsely : Prop := clockAboveRow.holds Try.pinned (OpenSpec.ofChange clockAboveWrong)

/-- 'copsekeep.WireBack': WHATEVER THE INPUT: true; the input reads as it did. -/
def wireBackSpec : ChangeSpec := { name := "wireBack", fn := fun _ => fun
  | [d1, d2, d3, d4] => { results := [.lit (.bool true)], args := [d1, d2, d3, d4] }
  | _ => none }
def wireBackRow : OpenClaim := { program := "ytbopfhbeegkkaaa", sum := "60fe10c95b9cc686c416ab1afdf77538b898d94075747a06de5a52a3b8620b8b", func := "copse/copsekeep.WireBack", spec := "wireBack", apart := false }
def WireBackSaid : Prop := wireBackRow.holds Try.pinned (OpenSpec.ofChange wireBackSpec)

/-- ITS FALSE NEIGHBOUR: 'it returns false'. Refute it at one input. -/
def wireBackWrong : ChangeSpec := { name := "wireBack", fn := fun _ => fun
  | [d1, d2, d3, d4] => { results := [.lit (.bool false)], args := [d1, d2, d3, d4] }
  | _ => none }
def WireBackWrongFalsely : Prop := wireBackRow.holds Try.pinned (OpenSpec.ofChange wireBackWrong)

/- THE SECOND FORM. 'bulk': how many values and letters a reading holds, each counted each time it is reached (what is shared counts as often as it is met; a slice's spare places count too). A statement '..UptoSaid' is the law's where the arguments, and the package variables that the reading takes, are together of bulk at most 1048576: NARROWER than '..Said'. Prove '..Said' where nothing that the law and all that it calls make is longer than what came in: it says more and counts as full. Else prove '..UptoSaid'. A law counts once. -/
mutual
def uptoBulk {H : Type} : DataW H → Nat
  | .lit (.string bytes) => bytes.length + 1
  | .lit _ => 1
  | .nil => 1
  | .ptr d => uptoBulk d + 1
  | .slice elems spare => uptoBulkAll elems + uptoBulkAll spare + 1
  | .agg parts => uptoBulkAll parts + 1
  | .iface _ d => uptoBulk d + 1
  | .map entries => uptoBulkEntries entries + 1
  | .held _ => 1
def uptoBulkAll {H : Type} : List (DataW H) → Nat
  | [] => 0
  | d :: r => uptoBulk d + uptoBulkAll r
def uptoBulkEntries {H : Type} : List (Lit × DataW H) → Nat
  | [] => 0
  | x :: r => uptoBulkEntry x + uptoBulkEntries r
def uptoBulkEntry {H : Type} : Lit × DataW H → Nat
  | (.string bytes, d) => bytes.length + uptoBulk d + 1
  | (_, d) => uptoBulk d + 1
 end
def uptoSmall : (H : Type) → List (DataW H) → Bool := fun _ ds => decide (uptoBulkAll ds ≤ 1048576)
def OpenSpec.upto (s : _root_.Go.ChangeSpec) : _root_.Go.OpenSpec := { _root_.Go.OpenSpec.ofChange s with cond := some uptoSmall }

/-- 'copsekeep.VectorOrder', WHERE WHAT IT READS IS OF BULK AT MOST 1048576: true; the input reads as it did. -/
def vectorOrderUptoRow : OpenClaim := { program := "ytbopfhbeegkkaaa", sum := "60fe10c95b9cc686c416ab1afdf77538b898d94075747a06de5a52a3b8620b8b", func := "copse/copsekeep.VectorOrder", spec := "vectorOrder", unfollowed := true, recurses := true, apart := false, narrowed := true }
def VectorOrderUptoSaid : Prop := vectorOrderUptoRow.holds Try.pinned (OpenSpec.upto vectorOrderSpec)

/-- 'copselaw.VectorMeets', WHERE WHAT IT READS IS OF BULK AT MOST 1048576: true; the input reads as it did. -/
def vectorMeetsUptoRow : OpenClaim := { program := "ytbopfhbeegkkaaa", sum := "60fe10c95b9cc686c416ab1afdf77538b898d94075747a06de5a52a3b8620b8b", func := "copse/copselaw.VectorMeets", spec := "vectorMeets", unfollowed := true, recurses := true, apart := false, narrowed := true }
def VectorMeetsUptoSaid : Prop := vectorMeetsUptoRow.holds Try.pinned (OpenSpec.upto vectorMeetsSpec)

/-- 'copsekeep.ClockAbove', WHERE WHAT IT READS IS OF BULK AT MOST 1048576: true; the input reads as it did. -/
def clockAboveUptoRow : OpenClaim := { program := "ytbopfhbeegkkaaa", sum := "60fe10c95b9cc686c416ab1afdf77538b898d94075747a06de5a52a3b8620b8b", func := "copse/copsekeep.ClockAbove", spec := "clockAbove", apart := false, narrowed := true }
def ClockAboveUptoSaid : Prop := clockAboveUptoRow.holds Try.pinned (OpenSpec.upto clockAboveSpec)

/-- 'copsekeep.WireBack', WHERE WHAT IT READS IS OF BULK AT MOST 1048576: true; the input reads as it did. -/
def wireBackUptoRow : OpenClaim := { program := "ytbopfhbeegkkaaa", sum := "60fe10c95b9cc686c416ab1afdf77538b898d94075747a06de5a52a3b8620b8b", func := "copse/copsekeep.WireBack", spec := "wireBack", apart := false, narrowed := true }
def WireBackUptoSaid : Prop := wireBackUptoRow.holds Try.pinned (OpenSpec.upto wireBackSpec)

end Rows
end Go.Proofs.Ytbopfhbeegkkaaa
