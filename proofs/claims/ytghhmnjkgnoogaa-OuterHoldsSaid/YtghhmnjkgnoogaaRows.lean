/-
  No cell of these rows narrows 'for every input' (looked for: loops, veiled, ifaces, maps, wideKeys, modest, calm, conditions, laid).
  DERIVED. THE GIVEN ROWS OF THIS SEAT. 3 by the template 'for every input the law returns true; each argument reads behind the call as it read before'; 0 by the template 'total and deterministic' (their statements: YtghhmnjkgnoogaaTotals.lean).
  GIVEN WITH THE SEED: the statements are not yours to turn. If you find one false, say at which input.
  Laid BY PROGRAM, IN A SANDBOX (cutbox-rows.mjs): the forced cells as the released guide's own fill.sh prints them over the translation 46e94f1b3ecdb93a… (all of the seat's roots in one cut). By AI agents, Wed Nov 11 2026. No macro, syntax, notation, axiom, sorry.
-/
import Derived.Test.YtghhmnjkgnoogaaChecked
import GoSem.Claim
import GoSem.ClaimJoined
import GoSem.ClaimMapViews
import Derived.JoinedTies
import Derived.KernelRfl
namespace Go.Proofs.Ytghhmnjkgnoogaa
/- THE CELL 'sum', in the pinned program and in every row, IS THE sha256 OF THE DUMP (.gsa) THAT YtghhmnjkgnoogaaProg.lean LOADS. Nothing in Lean hashes anything: it is a label: what it is worth is what the hold of that sum in a sandbox is worth. -/
noncomputable def Try.pinned : Pinned := { name := "ytghhmnjkgnoogaa", sum := "46e94f1b3ecdb93ad031e2168caa2bbedfc2a9d0edebd0b9522c06da079ad3c6", checked := Try.checked }
namespace Rows
def none {H : Type} : Left H := { results := [], args := [] }

/-- 'mosaiclaw09.OuterEach': WHATEVER THE INPUT: true; the input reads as it did. -/
def outerEachSpec : ChangeSpec := { name := "outerEach", fn := fun _ => fun
  | [d] => { results := [.lit (.bool true)], args := [d] }
  | _ => none }
def outerEachRow : OpenClaim := { program := "ytghhmnjkgnoogaa", sum := "46e94f1b3ecdb93ad031e2168caa2bbedfc2a9d0edebd0b9522c06da079ad3c6", func := "mosaic/mosaiclaw09.OuterEach", spec := "outerEach", inPlace := ["internal/abi.NoEscape"], unfollowed := true, recurses := true, apart := false }
def OuterEachSaid : Prop := outerEachRow.holds Try.pinned (OpenSpec.ofChange outerEachSpec)

/-- ITS FALSE NEIGHBOUR: 'it returns false'. Refute it at one input. -/
def outerEachWrong : ChangeSpec := { name := "outerEach", fn := fun _ => fun
  | [d] => { results := [.lit (.bool false)], args := [d] }
  | _ => none }
def OuterEachWrongFalsely : Prop := outerEachRow.holds Try.pinned (OpenSpec.ofChange outerEachWrong)

/-- 'mosaiclaw09.OuterHolds': WHATEVER THE INPUT: true; the input reads as it did. -/
def outerHoldsSpec : ChangeSpec := { name := "outerHolds", fn := fun _ => fun
  | [d1, d2, d3] => { results := [.lit (.bool true)], args := [d1, d2, d3] }
  | _ => none }
def outerHoldsRow : OpenClaim := { program := "ytghhmnjkgnoogaa", sum := "46e94f1b3ecdb93ad031e2168caa2bbedfc2a9d0edebd0b9522c06da079ad3c6", func := "mosaic/mosaiclaw09.OuterHolds", spec := "outerHolds", inPlace := ["internal/abi.NoEscape", "internal/bytealg.MakeNoZero"], unfollowed := true, recurses := true, apart := false }
def OuterHoldsSaid : Prop := outerHoldsRow.holds Try.pinned (OpenSpec.ofChange outerHoldsSpec)

/-- ITS FALSE NEIGHBOUR: 'it returns false'. Refute it at one input. -/
def outerHoldsWrong : ChangeSpec := { name := "outerHolds", fn := fun _ => fun
  | [d1, d2, d3] => { results := [.lit (.bool false)], args := [d1, d2, d3] }
  | _ => none }
def OuterHoldsWrongFalsely : Prop := outerHoldsRow.holds Try.pinned (OpenSpec.ofChange outerHoldsWrong)

/-- 'mosaiclaw09.OuterBack': WHATEVER THE INPUT: true; the input reads as it did. -/
def outerBackSpec : ChangeSpec := { name := "outerBack", fn := fun _ => fun
  | [d1, d2, d3] => { results := [.lit (.bool true)], args := [d1, d2, d3] }
  | _ => none }
def outerBackRow : OpenClaim := { program := "ytghhmnjkgnoogaa", sum := "46e94f1b3ecdb93ad031e2168caa2bbedfc2a9d0edebd0b9522c06da079ad3c6", func := "mosaic/mosaiclaw09.OuterBack", spec := "outerBack", inPlace := ["internal/abi.NoEscape", "internal/bytealg.MakeNoZero"], unfollowed := true, recurses := true, apart := false }
def OuterBackSaid : Prop := outerBackRow.holds Try.pinned (OpenSpec.ofChange outerBackSpec)

/-- ITS FALSE NEIGHBOUR: 'it returns false'. Refute it at one input. -/
def outerBackWrong : ChangeSpec := { name := "outerBack", fn := fun _ => fun
  | [d1, d2, d3] => { results := [.lit (.bool false)], args := [d1, d2, d3] }
  | _ => none }
def OuterBackWrongFalsely : Prop := outerBackRow.holds Try.pinned (OpenSpec.ofChange outerBackWrong)

/- THE SECOND FORM. 'bulk': how many values and letters a reading holds, each counted each time it is reached (what is shared counts as often as it is met; a slice's spare places count too). A statement '..UptoSaid' is the law's where the arguments, and the package variables that the reading takes, are together of bulk at most 1048576: NARROWER than '..Said'. Prove '..Said' where nothing that the law and all that it calls make is longer than what came in: it says more and counts as full. Else prove '..UptoSaid'. A law counts once. -/
mutual
def uptoBulk {H : Type} : DataW H → Nat
  | .lit (.string bytes) => bytes.length + 1
  | .lit _ => 1
  | .nil => 1
  | .ptr d => uptoBulk d + 1
  | .slice elems spare => uptoBulkAll elems + uptoBulkAll spare + 1
  | .agg parts => uptoBulkAll parts + 1
  | .iface _ d => uptoBulk d + 1
  | .map entries => uptoBulkEntries entries + 1
  | .held _ => 1
def uptoBulkAll {H : Type} : List (DataW H) → Nat
  | [] => 0
  | d :: r => uptoBulk d + uptoBulkAll r
def uptoBulkEntries {H : Type} : List (Lit × DataW H) → Nat
  | [] => 0
  | x :: r => uptoBulkEntry x + uptoBulkEntries r
def uptoBulkEntry {H : Type} : Lit × DataW H → Nat
  | (.string bytes, d) => bytes.length + uptoBulk d + 1
  | (_, d) => uptoBulk d + 1
 end
def uptoSmall : (H : Type) → List (DataW H) → Bool := fun _ ds => decide (uptoBulkAll ds ≤ 1048576)
def OpenSpec.upto (s : _root_.Go.ChangeSpec) : _root_.Go.OpenSpec := { _root_.Go.OpenSpec.ofChange s with cond := some uptoSmall }

/-- 'mosaiclaw09.OuterEach', WHERE WHAT IT READS IS OF BULK AT MOST 1048576: true; the input reads as it did. -/
def outerEachUptoRow : OpenClaim := { program := "ytghhmnjkgnoogaa", sum := "46e94f1b3ecdb93ad031e2168caa2bbedfc2a9d0edebd0b9522c06da079ad3c6", func := "mosaic/mosaiclaw09.OuterEach", spec := "outerEach", inPlace := ["internal/abi.NoEscape"], unfollowed := true, recurses := true, apart := false, narrowed := true }
def OuterEachUptoSaid : Prop := outerEachUptoRow.holds Try.pinned (OpenSpec.upto outerEachSpec)

/-- 'mosaiclaw09.OuterHolds', WHERE WHAT IT READS IS OF BULK AT MOST 1048576: true; the input reads as it did. -/
def outerHoldsUptoRow : OpenClaim := { program := "ytghhmnjkgnoogaa", sum := "46e94f1b3ecdb93ad031e2168caa2bbedfc2a9d0edebd0b9522c06da079ad3c6", func := "mosaic/mosaiclaw09.OuterHolds", spec := "outerHolds", inPlace := ["internal/abi.NoEscape", "internal/bytealg.MakeNoZero"], unfollowed := true, recurses := true, apart := false, narrowed := true }
def OuterHoldsUptoSaid : Prop := outerHoldsUptoRow.holds Try.pinned (OpenSpec.upto outerHoldsSpec)

/-- 'mosaiclaw09.OuterBack', WHERE WHAT IT READS IS OF BULK AT MOST 1048576: true; the input reads as it did. -/
def outerBackUptoRow : OpenClaim := { program := "ytghhmnjkgnoogaa", sum := "46e94f1b3ecdb93ad031e2168caa2bbedfc2a9d0edebd0b9522c06da079ad3c6", func := "mosaic/mosaiclaw09.OuterBack", spec := "outerBack", inPlace := ["internal/abi.NoEscape", "internal/bytealg.MakeNoZero"], unfollowed := true, recurses := true, apart := false, narrowed := true }
def OuterBackUptoSaid : Prop := outerBackUptoRow.holds Try.pinned (OpenSpec.upto outerBackSpec)

end Rows
end Go.Proofs.Ytghhmnjkgnoogaa
