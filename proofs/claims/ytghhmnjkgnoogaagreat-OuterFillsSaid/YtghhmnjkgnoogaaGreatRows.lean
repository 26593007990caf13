/-
  No cell of these rows narrows 'for every input' (looked for: loops, veiled, ifaces, maps, wideKeys, modest, calm, conditions, laid).
  DERIVED. THE GIVEN ROWS OF THIS SEAT. 3 by the template 'for every input the law returns true; each argument reads behind the call as it read before'; 0 by the template 'total and deterministic' (their statements: YtghhmnjkgnoogaaGreatTotals.lean).
  GIVEN WITH THE SEED: the statements are not yours to turn. If you find one false, say at which input.
  Laid BY PROGRAM, IN A SANDBOX (cutbox-rows.mjs): the forced cells as the released guide's own fill.sh prints them over the translation 91eefdc4e0028771… (all of the seat's roots in one cut). By AI agents, Wed Nov 11 2026. No macro, syntax, notation, axiom, sorry.
-/
import Derived.Test.YtghhmnjkgnoogaaGreatChecked
import GoSem.Claim
import GoSem.ClaimJoined
import GoSem.ClaimMapViews
import Derived.JoinedTies
import Derived.KernelRfl
namespace Go.Proofs.YtghhmnjkgnoogaaGreat
/- THE CELL 'sum', in the pinned program and in every row, IS THE sha256 OF THE DUMP (.gsa) THAT YtghhmnjkgnoogaaGreatProg.lean LOADS. Nothing in Lean hashes anything: it is a label: what it is worth is what the hold of that sum in a sandbox is worth. -/
noncomputable def Tryz.pinned : Pinned := { name := "ytghhmnjkgnoogaagreat", sum := "91eefdc4e00287717f6ae873d5a4202ea820f434307670ddfed7513fd1e278b8", checked := Tryz.checked }
namespace Rows
def none {H : Type} : Left H := { results := [], args := [] }

/-- 'mosaiclaw09.OuterPlans': WHATEVER THE INPUT: true; the input reads as it did. -/
def outerPlansSpec : ChangeSpec := { name := "outerPlans", fn := fun _ => fun
  | [d1, d2, d3] => { results := [.lit (.bool true)], args := [d1, d2, d3] }
  | _ => none }
def outerPlansRow : OpenClaim := { program := "ytghhmnjkgnoogaagreat", sum := "91eefdc4e00287717f6ae873d5a4202ea820f434307670ddfed7513fd1e278b8", func := "mosaic/mosaiclaw09.OuterPlans", spec := "outerPlans", inPlace := ["internal/abi.NoEscape"], unfollowed := true, recurses := true, apart := false }
def OuterPlansSaid : Prop := outerPlansRow.holds Tryz.pinned (OpenSpec.ofChange outerPlansSpec)

/-- ITS FALSE NEIGHBOUR: 'it returns false'. Refute it at one input. -/
def outerPlansWrong : ChangeSpec := { name := "outerPlans", fn := fun _ => fun
  | [d1, d2, d3] => { results := [.lit (.bool false)], args := [d1, d2, d3] }
  | _ => none }
def OuterPlansWrongFalsely : Prop := outerPlansRow.holds Tryz.pinned (OpenSpec.ofChange outerPlansWrong)

/-- 'mosaiclaw09.OuterWholes': WHATEVER THE INPUT: true; the input reads as it did. -/
def outerWholesSpec : ChangeSpec := { name := "outerWholes", fn := fun _ => fun
  | [d1, d2, d3] => { results := [.lit (.bool true)], args := [d1, d2, d3] }
  | _ => none }
def outerWholesRow : OpenClaim := { program := "ytghhmnjkgnoogaagreat", sum := "91eefdc4e00287717f6ae873d5a4202ea820f434307670ddfed7513fd1e278b8", func := "mosaic/mosaiclaw09.OuterWholes", spec := "outerWholes", inPlace := ["internal/abi.NoEscape", "internal/bytealg.MakeNoZero"], unfollowed := true, recurses := true, apart := false }
def OuterWholesSaid : Prop := outerWholesRow.holds Tryz.pinned (OpenSpec.ofChange outerWholesSpec)

/-- ITS FALSE NEIGHBOUR: 'it returns false'. Refute it at one input. -/
def outerWholesWrong : ChangeSpec := { name := "outerWholes", fn := fun _ => fun
  | [d1, d2, d3] => { results := [.lit (.bool false)], args := [d1, d2, d3] }
  | _ => none }
def OuterWholesWrongFalsely : Prop := outerWholesRow.holds Tryz.pinned (OpenSpec.ofChange outerWholesWrong)

/-- 'mosaiclaw09.OuterFills': WHATEVER THE INPUT: true; the input reads as it did. -/
def outerFillsSpec : ChangeSpec := { name := "outerFills", fn := fun _ => fun
  | [d1, d2] => { results := [.lit (.bool true)], args := [d1, d2] }
  | _ => none }
def outerFillsRow : OpenClaim := { program := "ytghhmnjkgnoogaagreat", sum := "91eefdc4e00287717f6ae873d5a4202ea820f434307670ddfed7513fd1e278b8", func := "mosaic/mosaiclaw09.OuterFills", spec := "outerFills", inPlace := ["internal/abi.NoEscape", "internal/bytealg.MakeNoZero"], unfollowed := true, recurses := true, apart := false }
def OuterFillsSaid : Prop := outerFillsRow.holds Tryz.pinned (OpenSpec.ofChange outerFillsSpec)

/-- ITS FALSE NEIGHBOUR: 'it returns false'. Refute it at one input. -/
def outerFillsWrong : ChangeSpec := { name := "outerFills", fn := fun _ => fun
  | [d1, d2] => { results := [.lit (.bool false)], args := [d1, d2] }
  | _ => none }
def OuterFillsWrongFalsely : Prop := outerFillsRow.holds Tryz.pinned (OpenSpec.ofChange outerFillsWrong)

/- THE SECOND FORM. 'bulk': how many values and letters a reading holds, each counted each time it is reached (what is shared counts as often as it is met; a slice's spare places count too). A statement '..UptoSaid' is the law's where the arguments, and the package variables that the reading takes, are together of bulk at most 1048576: NARROWER than '..Said'. Prove '..Said' where nothing that the law and all that it calls make is longer than what came in: it says more and counts as full. Else prove '..UptoSaid'. A law counts once. -/
mutual
def uptoBulk {H : Type} : DataW H → Nat
  | .lit (.string bytes) => bytes.length + 1
  | .lit _ => 1
  | .nil => 1
  | .ptr d => uptoBulk d + 1
  | .slice elems spare => uptoBulkAll elems + uptoBulkAll spare + 1
  | .agg parts => uptoBulkAll parts + 1
  | .iface _ d => uptoBulk d + 1
  | .map entries => uptoBulkEntries entries + 1
  | .held _ => 1
def uptoBulkAll {H : Type} : List (DataW H) → Nat
  | [] => 0
  | d :: r => uptoBulk d + uptoBulkAll r
def uptoBulkEntries {H : Type} : List (Lit × DataW H) → Nat
  | [] => 0
  | x :: r => uptoBulkEntry x + uptoBulkEntries r
def uptoBulkEntry {H : Type} : Lit × DataW H → Nat
  | (.string bytes, d) => bytes.length + uptoBulk d + 1
  | (_, d) => uptoBulk d + 1
 end
def uptoSmall : (H : Type) → List (DataW H) → Bool := fun _ ds => decide (uptoBulkAll ds ≤ 1048576)
def OpenSpec.upto (s : _root_.Go.ChangeSpec) : _root_.Go.OpenSpec := { _root_.Go.OpenSpec.ofChange s with cond := some uptoSmall }

/-- 'mosaiclaw09.OuterPlans', WHERE WHAT IT READS IS OF BULK AT MOST 1048576: true; the input reads as it did. -/
def outerPlansUptoRow : OpenClaim := { program := "ytghhmnjkgnoogaagreat", sum := "91eefdc4e00287717f6ae873d5a4202ea820f434307670ddfed7513fd1e278b8", func := "mosaic/mosaiclaw09.OuterPlans", spec := "outerPlans", inPlace := ["internal/abi.NoEscape"], unfollowed := true, recurses := true, apart := false, narrowed := true }
def OuterPlansUptoSaid : Prop := outerPlansUptoRow.holds Tryz.pinned (OpenSpec.upto outerPlansSpec)

/-- 'mosaiclaw09.OuterWholes', WHERE WHAT IT READS IS OF BULK AT MOST 1048576: true; the input reads as it did. -/
def outerWholesUptoRow : OpenClaim := { program := "ytghhmnjkgnoogaagreat", sum := "91eefdc4e00287717f6ae873d5a4202ea820f434307670ddfed7513fd1e278b8", func := "mosaic/mosaiclaw09.OuterWholes", spec := "outerWholes", inPlace := ["internal/abi.NoEscape", "internal/bytealg.MakeNoZero"], unfollowed := true, recurses := true, apart := false, narrowed := true }
def OuterWholesUptoSaid : Prop := outerWholesUptoRow.holds Tryz.pinned (OpenSpec.upto outerWholesSpec)

/-- 'mosaiclaw09.OuterFills', WHERE WHAT IT READS IS OF BULK AT MOST 1048576: true; the input reads as it did. -/
def outerFillsUptoRow : OpenClaim := { program := "ytghhmnjkgnoogaagreat", sum := "91eefdc4e00287717f6ae873d5a4202ea820f434307670ddfed7513fd1e278b8", func := "mosaic/mosaiclaw09.OuterFills", spec := "outerFills", inPlace := ["internal/abi.NoEscape", "internal/bytealg.MakeNoZero"], unfollowed := true, recurses := true, apart := false, narrowed := true }
def OuterFillsUptoSaid : Prop := outerFillsUptoRow.holds Tryz.pinned (OpenSpec.upto outerFillsSpec)

end Rows
end Go.Proofs.YtghhmnjkgnoogaaGreat
