/-
  No cell of these rows narrows 'for every input' (looked for: loops, veiled, ifaces, maps, wideKeys, modest, calm, conditions, laid).
  DERIVED. THE GIVEN ROWS OF THIS SEAT. 7 by the template 'for every input the law returns true; each argument reads behind the call as it read before'; 0 by the template 'total and deterministic' (their statements: YtmebebpnogemdaaTotals.lean).
  GIVEN WITH THE SEED: the statements are not yours to turn. If you find one false, say at which input.
  Laid BY PROGRAM, IN A SANDBOX (cutbox-rows.mjs): the forced cells as the released guide's own fill.sh prints them over the translation bded615fec28f9c4… (all of the seat's roots in one cut). By AI agents, Wed Nov 11 2026. No macro, syntax, notation, axiom, sorry.
-/
import Derived.Test.YtmebebpnogemdaaChecked
import GoSem.Claim
import GoSem.ClaimJoined
import GoSem.ClaimMapViews
import Derived.JoinedTies
import Derived.KernelRfl
namespace Go.Proofs.Ytmebebpnogemdaa
/- THE CELL 'sum', in the pinned program and in every row, IS THE sha256 OF THE DUMP (.gsa) THAT YtmebebpnogemdaaProg.lean LOADS. Nothing in Lean hashes anything: it is a label: what it is worth is what the hold of that sum in a sandbox is worth. -/
noncomputable def Try.pinned : Pinned := { name := "ytmebebpnogemdaa", sum := "bded615fec28f9c4c5da78a525cfec0e5dc3502f9d821c66b0dfff99c2d33a15", checked := Try.checked }
namespace Rows
def none {H : Type} : Left H := { results := [], args := [] }

/-- 'mosaiclaw02.OctOrder': WHATEVER THE INPUT: true; the input reads as it did. -/
def octOrderSpec : ChangeSpec := { name := "octOrder", fn := fun _ => fun
  | [d1, d2, d3] => { results := [.lit (.bool true)], args := [d1, d2, d3] }
  | _ => none }
def octOrderRow : OpenClaim := { program := "ytmebebpnogemdaa", sum := "bded615fec28f9c4c5da78a525cfec0e5dc3502f9d821c66b0dfff99c2d33a15", func := "mosaic/mosaiclaw02.OctOrder", spec := "octOrder", inPlace := ["internal/abi.NoEscape"], apart := false }
def OctOrderSaid : Prop := octOrderRow.holds Try.pinned (OpenSpec.ofChange octOrderSpec)

/-- ITS FALSE NEIGHBOUR: 'it returns false'. Refute it at one input. -/
def octOrderWrong : ChangeSpec := { name := "octOrder", fn := fun _ => fun
  | [d1, d2, d3] => { results := [.lit (.bool false)], args := [d1, d2, d3] }
  | _ => none }
def OctOrderWrongFalsely : Prop := octOrderRow.holds Try.pinned (OpenSpec.ofChange octOrderWrong)

/-- 'mosaiclaw02.OctLong': WHATEVER THE INPUT: true; the input reads as it did. -/
def octLongSpec : ChangeSpec := { name := "octLong", fn := fun _ => fun
  | [d1, d2] => { results := [.lit (.bool true)], args := [d1, d2] }
  | _ => none }
def octLongRow : OpenClaim := { program := "ytmebebpnogemdaa", sum := "bded615fec28f9c4c5da78a525cfec0e5dc3502f9d821c66b0dfff99c2d33a15", func := "mosaic/mosaiclaw02.OctLong", spec := "octLong", inPlace := ["internal/abi.NoEscape"], apart := false }
def OctLongSaid : Prop := octLongRow.holds Try.pinned (OpenSpec.ofChange octLongSpec)

/-- ITS FALSE NEIGHBOUR: 'it returns false'. Refute it at one input. -/
def octLongWrong : ChangeSpec := { name := "octLong", fn := fun _ => fun
  | [d1, d2] => { results := [.lit (.bool false)], args := [d1, d2] }
  | _ => none }
def OctLongWrongFalsely : Prop := octLongRow.holds Try.pinned (OpenSpec.ofChange octLongWrong)

/-- 'mosaiclaw02.OctWrites': WHATEVER THE INPUT: true; the input reads as it did. -/
def octWritesSpec : ChangeSpec := { name := "octWrites", fn := fun _ => fun
  | [d] => { results := [.lit (.bool true)], args := [d] }
  | _ => none }
def octWritesRow : OpenClaim := { program := "ytmebebpnogemdaa", sum := "bded615fec28f9c4c5da78a525cfec0e5dc3502f9d821c66b0dfff99c2d33a15", func := "mosaic/mosaiclaw02.OctWrites", spec := "octWrites", inPlace := ["internal/abi.NoEscape"], apart := false }
def OctWritesSaid : Prop := octWritesRow.holds Try.pinned (OpenSpec.ofChange octWritesSpec)

/-- ITS FALSE NEIGHBOUR: 'it returns false'. Refute it at one input. -/
def octWritesWrong : ChangeSpec := { name := "octWrites", fn := fun _ => fun
  | [d] => { results := [.lit (.bool false)], args := [d] }
  | _ => none }
def OctWritesWrongFalsely : Prop := octWritesRow.holds Try.pinned (OpenSpec.ofChange octWritesWrong)

/-- 'mosaiclaw02.OctNums': WHATEVER THE INPUT: true; the input reads as it did. -/
def octNumsSpec : ChangeSpec := { name := "octNums", fn := fun _ => fun
  | [d1, d2, d3] => { results := [.lit (.bool true)], args := [d1, d2, d3] }
  | _ => none }
def octNumsRow : OpenClaim := { program := "ytmebebpnogemdaa", sum := "bded615fec28f9c4c5da78a525cfec0e5dc3502f9d821c66b0dfff99c2d33a15", func := "mosaic/mosaiclaw02.OctNums", spec := "octNums", inPlace := ["internal/abi.NoEscape"], apart := false }
def OctNumsSaid : Prop := octNumsRow.holds Try.pinned (OpenSpec.ofChange octNumsSpec)

/-- ITS FALSE NEIGHBOUR: 'it returns false'. Refute it at one input. -/
def octNumsWrong : ChangeSpec := { name := "octNums", fn := fun _ => fun
  | [d1, d2, d3] => { results := [.lit (.bool false)], args := [d1, d2, d3] }
  | _ => none }
def OctNumsWrongFalsely : Prop := octNumsRow.holds Try.pinned (OpenSpec.ofChange octNumsWrong)

/-- 'mosaiclaw02.OctReads': WHATEVER THE INPUT: true; the input reads as it did. -/
def octReadsSpec : ChangeSpec := { name := "octReads", fn := fun _ => fun
  | [d1, d2] => { results := [.lit (.bool true)], args := [d1, d2] }
  | _ => none }
def octReadsRow : OpenClaim := { program := "ytmebebpnogemdaa", sum := "bded615fec28f9c4c5da78a525cfec0e5dc3502f9d821c66b0dfff99c2d33a15", func := "mosaic/mosaiclaw02.OctReads", spec := "octReads", inPlace := ["internal/abi.NoEscape"], apart := false }
def OctReadsSaid : Prop := octReadsRow.holds Try.pinned (OpenSpec.ofChange octReadsSpec)

/-- ITS FALSE NEIGHBOUR: 'it returns false'. Refute it at one input. -/
def octReadsWrong : ChangeSpec := { name := "octReads", fn := fun _ => fun
  | [d1, d2] => { results := [.lit (.bool false)], args := [d1, d2] }
  | _ => none }
def OctReadsWrongFalsely : Prop := octReadsRow.holds Try.pinned (OpenSpec.ofChange octReadsWrong)

/-- 'mosaiclaw02.OctNil': WHATEVER THE INPUT: true; the input reads as it did. -/
def octNilSpec : ChangeSpec := { name := "octNil", fn := fun _ => fun
  | [d1, d2, d3] => { results := [.lit (.bool true)], args := [d1, d2, d3] }
  | _ => none }
def octNilRow : OpenClaim := { program := "ytmebebpnogemdaa", sum := "bded615fec28f9c4c5da78a525cfec0e5dc3502f9d821c66b0dfff99c2d33a15", func := "mosaic/mosaiclaw02.OctNil", spec := "octNil", inPlace := ["internal/abi.NoEscape"], apart := false }
def OctNilSaid : Prop := octNilRow.holds Try.pinned (OpenSpec.ofChange octNilSpec)

/-- ITS FALSE NEIGHBOUR: 'it returns false'. Refute it at one input. -/
def octNilWrong : ChangeSpec := { name := "octNil", fn := fun _ => fun
  | [d1, d2, d3] => { results := [.lit (.bool false)], args := [d1, d2, d3] }
  | _ => none }
def OctNilWrongFalsely : Prop := octNilRow.holds Try.pinned (OpenSpec.ofChange octNilWrong)

/-- 'mosaiclaw02.OctBack': WHATEVER THE INPUT: true; the input reads as it did. -/
def octBackSpec : ChangeSpec := { name := "octBack", fn := fun _ => fun
  | [d1, d2] => { results := [.lit (.bool true)], args := [d1, d2] }
  | _ => none }
def octBackRow : OpenClaim := { program := "ytmebebpnogemdaa", sum := "bded615fec28f9c4c5da78a525cfec0e5dc3502f9d821c66b0dfff99c2d33a15", func := "mosaic/mosaiclaw02.OctBack", spec := "octBack", inPlace := ["internal/abi.NoEscape"], apart := false }
def OctBackSaid : Prop := octBackRow.holds Try.pinned (OpenSpec.ofChange octBackSpec)

/-- ITS FALSE NEIGHBOUR: 'it returns false'. Refute it at one input. -/
def octBackWrong : ChangeSpec := { name := "octBack", fn := fun _ => fun
  | [d1, d2] => { results := [.lit (.bool false)], args := [d1, d2] }
  | _ => none }
def OctBackWrongFalsely : Prop := octBackRow.holds Try.pinned (OpenSpec.ofChange octBackWrong)

/- THE SECOND FORM. 'bulk': how many values and letters a reading holds, each counted each time it is reached (what is shared counts as often as it is met; a slice's spare places count too). A statement '..UptoSaid' is the law's where the arguments, and the package variables that the reading takes, are together of bulk at most 1048576: NARROWER than '..Said'. Prove '..Said' where nothing that the law and all that it calls make is longer than what came in: it says more and counts as full. Else prove '..UptoSaid'. A law counts once. -/
mutual
def uptoBulk {H : Type} : DataW H → Nat
  | .lit (.string bytes) => bytes.length + 1
  | .lit _ => 1
  | .nil => 1
  | .ptr d => uptoBulk d + 1
  | .slice elems spare => uptoBulkAll elems + uptoBulkAll spare + 1
  | .agg parts => uptoBulkAll parts + 1
  | .iface _ d => uptoBulk d + 1
  | .map entries => uptoBulkEntries entries + 1
  | .held _ => 1
def uptoBulkAll {H : Type} : List (DataW H) → Nat
  | [] => 0
  | d :: r => uptoBulk d + uptoBulkAll r
def uptoBulkEntries {H : Type} : List (Lit × DataW H) → Nat
  | [] => 0
  | x :: r => uptoBulkEntry x + uptoBulkEntries r
def uptoBulkEntry {H : Type} : Lit × DataW H → Nat
  | (.string bytes, d) => bytes.length + uptoBulk d + 1
  | (_, d) => uptoBulk d + 1
 end
def uptoSmall : (H : Type) → List (DataW H) → Bool := fun _ ds => decide (uptoBulkAll ds ≤ 1048576)
def OpenSpec.upto (s : _root_.Go.ChangeSpec) : _root_.Go.OpenSpec := { _root_.Go.OpenSpec.ofChange s with cond := some uptoSmall }

/-- 'mosaiclaw02.OctOrder', WHERE WHAT IT READS IS OF BULK AT MOST 1048576: true; the input reads as it did. -/
def octOrderUptoRow : OpenClaim := { program := "ytmebebpnogemdaa", sum := "bded615fec28f9c4c5da78a525cfec0e5dc3502f9d821c66b0dfff99c2d33a15", func := "mosaic/mosaiclaw02.OctOrder", spec := "octOrder", inPlace := ["internal/abi.NoEscape"], apart := false, narrowed := true }
def OctOrderUptoSaid : Prop := octOrderUptoRow.holds Try.pinned (OpenSpec.upto octOrderSpec)

/-- 'mosaiclaw02.OctLong', WHERE WHAT IT READS IS OF BULK AT MOST 1048576: true; the input reads as it did. -/
def octLongUptoRow : OpenClaim := { program := "ytmebebpnogemdaa", sum := "bded615fec28f9c4c5da78a525cfec0e5dc3502f9d821c66b0dfff99c2d33a15", func := "mosaic/mosaiclaw02.OctLong", spec := "octLong", inPlace := ["internal/abi.NoEscape"], apart := false, narrowed := true }
def OctLongUptoSaid : Prop := octLongUptoRow.holds Try.pinned (OpenSpec.upto octLongSpec)

/-- 'mosaiclaw02.OctWrites', WHERE WHAT IT READS IS OF BULK AT MOST 1048576: true; the input reads as it did. -/
def octWritesUptoRow : OpenClaim := { program := "ytmebebpnogemdaa", sum := "bded615fec28f9c4c5da78a525cfec0e5dc3502f9d821c66b0dfff99c2d33a15", func := "mosaic/mosaiclaw02.OctWrites", spec := "octWrites", inPlace := ["internal/abi.NoEscape"], apart := false, narrowed := true }
def OctWritesUptoSaid : Prop := octWritesUptoRow.holds Try.pinned (OpenSpec.upto octWritesSpec)

/-- 'mosaiclaw02.OctNums', WHERE WHAT IT READS IS OF BULK AT MOST 1048576: true; the input reads as it did. -/
def octNumsUptoRow : OpenClaim := { program := "ytmebebpnogemdaa", sum := "bded615fec28f9c4c5da78a525cfec0e5dc3502f9d821c66b0dfff99c2d33a15", func := "mosaic/mosaiclaw02.OctNums", spec := "octNums", inPlace := ["internal/abi.NoEscape"], apart := false, narrowed := true }
def OctNumsUptoSaid : Prop := octNumsUptoRow.holds Try.pinned (OpenSpec.upto octNumsSpec)

/-- 'mosaiclaw02.OctReads', WHERE WHAT IT READS IS OF BULK AT MOST 1048576: true; the input reads as it did. -/
def octReadsUptoRow : OpenClaim := { program := "ytmebebpnogemdaa", sum := "bded615fec28f9c4c5da78a525cfec0e5dc3502f9d821c66b0dfff99c2d33a15", func := "mosaic/mosaiclaw02.OctReads", spec := "octReads", inPlace := ["internal/abi.NoEscape"], apart := false, narrowed := true }
def OctReadsUptoSaid : Prop := octReadsUptoRow.holds Try.pinned (OpenSpec.upto octReadsSpec)

/-- 'mosaiclaw02.OctNil', WHERE WHAT IT READS IS OF BULK AT MOST 1048576: true; the input reads as it did. -/
def octNilUptoRow : OpenClaim := { program := "ytmebebpnogemdaa", sum := "bded615fec28f9c4c5da78a525cfec0e5dc3502f9d821c66b0dfff99c2d33a15", func := "mosaic/mosaiclaw02.OctNil", spec := "octNil", inPlace := ["internal/abi.NoEscape"], apart := false, narrowed := true }
def OctNilUptoSaid : Prop := octNilUptoRow.holds Try.pinned (OpenSpec.upto octNilSpec)

/-- 'mosaiclaw02.OctBack', WHERE WHAT IT READS IS OF BULK AT MOST 1048576: true; the input reads as it did. -/
def octBackUptoRow : OpenClaim := { program := "ytmebebpnogemdaa", sum := "bded615fec28f9c4c5da78a525cfec0e5dc3502f9d821c66b0dfff99c2d33a15", func := "mosaic/mosaiclaw02.OctBack", spec := "octBack", inPlace := ["internal/abi.NoEscape"], apart := false, narrowed := true }
def OctBackUptoSaid : Prop := octBackUptoRow.holds Try.pinned (OpenSpec.upto octBackSpec)

end Rows
end Go.Proofs.Ytmebebpnogemdaa
