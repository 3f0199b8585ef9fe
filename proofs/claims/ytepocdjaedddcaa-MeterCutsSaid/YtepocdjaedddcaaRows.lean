/-
  No cell of these rows narrows 'for every input' (looked for: loops, veiled, ifaces, maps, wideKeys, modest, calm, conditions, laid).
  DERIVED. THE GIVEN ROWS OF THIS SEAT. 7 by the template 'for every input the law returns true; each argument reads behind the call as it read before'; 0 by the template 'total and deterministic' (their statements: YtepocdjaedddcaaTotals.lean).
  GIVEN WITH THE SEED: the statements are not yours to turn. If you find one false, say at which input.
  Laid BY PROGRAM, IN A SANDBOX (cutbox-rows.mjs): the forced cells as the released guide's own fill.sh prints them over the translation 6598ea71607434f3… (all of the seat's roots in one cut). By AI agents, Wed Nov 11 2026. No macro, syntax, notation, axiom, sorry.
-/
import Derived.Test.YtepocdjaedddcaaChecked
import GoSem.Claim
import GoSem.ClaimJoined
import GoSem.ClaimMapViews
import Derived.JoinedTies
import Derived.KernelRfl
namespace Go.Proofs.Ytepocdjaedddcaa
/- THE CELL 'sum', in the pinned program and in every row, IS THE sha256 OF THE DUMP (.gsa) THAT YtepocdjaedddcaaProg.lean LOADS. Nothing in Lean hashes anything: it is a label: what it is worth is what the hold of that sum in a sandbox is worth. -/
noncomputable def Try.pinned : Pinned := { name := "ytepocdjaedddcaa", sum := "6598ea71607434f3f7bf6c4d9d294b1b032de6bf8c6234019e4717fc0be4fffb", checked := Try.checked }
namespace Rows
def none {H : Type} : Left H := { results := [], args := [] }

/-- 'dancestudiolaw13.MeterChecks': WHATEVER THE INPUT: true; the input reads as it did. -/
def meterChecksSpec : ChangeSpec := { name := "meterChecks", fn := fun _ => fun
  | [d] => { results := [.lit (.bool true)], args := [d] }
  | _ => none }
def meterChecksRow : OpenClaim := { program := "ytepocdjaedddcaa", sum := "6598ea71607434f3f7bf6c4d9d294b1b032de6bf8c6234019e4717fc0be4fffb", func := "dancestudio/dancestudiolaw13.MeterChecks", spec := "meterChecks", apart := false }
def MeterChecksSaid : Prop := meterChecksRow.holds Try.pinned (OpenSpec.ofChange meterChecksSpec)

/-- ITS FALSE NEIGHBOUR: 'it returns false'. Refute it at one input. -/
def meterChecksWrong : ChangeSpec := { name := "meterChecks", fn := fun _ => fun
  | [d] => { results := [.lit (.bool false)], args := [d] }
  | _ => none }
def MeterChecksWrongFalsely : Prop := meterChecksRow.holds Try.pinned (OpenSpec.ofChange meterChecksWrong)

/-- 'dancestudiolaw13.MeterPlaces': WHATEVER THE INPUT: true; the input reads as it did. -/
def meterPlacesSpec : ChangeSpec := { name := "meterPlaces", fn := fun _ => fun
  | [d1, d2, d3] => { results := [.lit (.bool true)], args := [d1, d2, d3] }
  | _ => none }
def meterPlacesRow : OpenClaim := { program := "ytepocdjaedddcaa", sum := "6598ea71607434f3f7bf6c4d9d294b1b032de6bf8c6234019e4717fc0be4fffb", func := "dancestudio/dancestudiolaw13.MeterPlaces", spec := "meterPlaces", apart := false }
def MeterPlacesSaid : Prop := meterPlacesRow.holds Try.pinned (OpenSpec.ofChange meterPlacesSpec)

/-- ITS FALSE NEIGHBOUR: 'it returns false'. Refute it at one input. -/
def meterPlacesWrong : ChangeSpec := { name := "meterPlaces", fn := fun _ => fun
  | [d1, d2, d3] => { results := [.lit (.bool false)], args := [d1, d2, d3] }
  | _ => none }
def MeterPlacesWrongFalsely : Prop := meterPlacesRow.holds Try.pinned (OpenSpec.ofChange meterPlacesWrong)

/-- 'dancestudiolaw13.MeterParts': WHATEVER THE INPUT: true; the input reads as it did. -/
def meterPartsSpec : ChangeSpec := { name := "meterParts", fn := fun _ => fun
  | [d1, d2, d3] => { results := [.lit (.bool true)], args := [d1, d2, d3] }
  | _ => none }
def meterPartsRow : OpenClaim := { program := "ytepocdjaedddcaa", sum := "6598ea71607434f3f7bf6c4d9d294b1b032de6bf8c6234019e4717fc0be4fffb", func := "dancestudio/dancestudiolaw13.MeterParts", spec := "meterParts", apart := false }
def MeterPartsSaid : Prop := meterPartsRow.holds Try.pinned (OpenSpec.ofChange meterPartsSpec)

/-- ITS FALSE NEIGHBOUR: 'it returns false'. Refute it at one input. -/
def meterPartsWrong : ChangeSpec := { name := "meterParts", fn := fun _ => fun
  | [d1, d2, d3] => { results := [.lit (.bool false)], args := [d1, d2, d3] }
  | _ => none }
def MeterPartsWrongFalsely : Prop := meterPartsRow.holds Try.pinned (OpenSpec.ofChange meterPartsWrong)

/-- 'dancestudiolaw13.MeterTiles': WHATEVER THE INPUT: true; the input reads as it did. -/
def meterTilesSpec : ChangeSpec := { name := "meterTiles", fn := fun _ => fun
  | [d1, d2] => { results := [.lit (.bool true)], args := [d1, d2] }
  | _ => none }
def meterTilesRow : OpenClaim := { program := "ytepocdjaedddcaa", sum := "6598ea71607434f3f7bf6c4d9d294b1b032de6bf8c6234019e4717fc0be4fffb", func := "dancestudio/dancestudiolaw13.MeterTiles", spec := "meterTiles", apart := false }
def MeterTilesSaid : Prop := meterTilesRow.holds Try.pinned (OpenSpec.ofChange meterTilesSpec)

/-- ITS FALSE NEIGHBOUR: 'it returns false'. Refute it at one input. -/
def meterTilesWrong : ChangeSpec := { name := "meterTiles", fn := fun _ => fun
  | [d1, d2] => { results := [.lit (.bool false)], args := [d1, d2] }
  | _ => none }
def MeterTilesWrongFalsely : Prop := meterTilesRow.holds Try.pinned (OpenSpec.ofChange meterTilesWrong)

/-- 'dancestudiolaw13.MeterBeats': WHATEVER THE INPUT: true; the input reads as it did. -/
def meterBeatsSpec : ChangeSpec := { name := "meterBeats", fn := fun _ => fun
  | [d1, d2, d3] => { results := [.lit (.bool true)], args := [d1, d2, d3] }
  | _ => none }
def meterBeatsRow : OpenClaim := { program := "ytepocdjaedddcaa", sum := "6598ea71607434f3f7bf6c4d9d294b1b032de6bf8c6234019e4717fc0be4fffb", func := "dancestudio/dancestudiolaw13.MeterBeats", spec := "meterBeats", apart := false }
def MeterBeatsSaid : Prop := meterBeatsRow.holds Try.pinned (OpenSpec.ofChange meterBeatsSpec)

/-- ITS FALSE NEIGHBOUR: 'it returns false'. Refute it at one input. -/
def meterBeatsWrong : ChangeSpec := { name := "meterBeats", fn := fun _ => fun
  | [d1, d2, d3] => { results := [.lit (.bool false)], args := [d1, d2, d3] }
  | _ => none }
def MeterBeatsWrongFalsely : Prop := meterBeatsRow.holds Try.pinned (OpenSpec.ofChange meterBeatsWrong)

/-- 'dancestudiolaw13.MeterCuts': WHATEVER THE INPUT: true; the input reads as it did. -/
def meterCutsSpec : ChangeSpec := { name := "meterCuts", fn := fun _ => fun
  | [d1, d2, d3] => { results := [.lit (.bool true)], args := [d1, d2, d3] }
  | _ => none }
def meterCutsRow : OpenClaim := { program := "ytepocdjaedddcaa", sum := "6598ea71607434f3f7bf6c4d9d294b1b032de6bf8c6234019e4717fc0be4fffb", func := "dancestudio/dancestudiolaw13.MeterCuts", spec := "meterCuts", apart := false }
def MeterCutsSaid : Prop := meterCutsRow.holds Try.pinned (OpenSpec.ofChange meterCutsSpec)

/-- ITS FALSE NEIGHBOUR: 'it returns false'. Refute it at one input. -/
def meterCutsWrong : ChangeSpec := { name := "meterCuts", fn := fun _ => fun
  | [d1, d2, d3] => { results := [.lit (.bool false)], args := [d1, d2, d3] }
  | _ => none }
def MeterCutsWrongFalsely : Prop := meterCutsRow.holds Try.pinned (OpenSpec.ofChange meterCutsWrong)

/-- 'dancestudiolaw13.MeterMemory': WHATEVER THE INPUT: true; the input reads as it did. -/
def meterMemorySpec : ChangeSpec := { name := "meterMemory", fn := fun _ => fun
  | [d1, d2] => { results := [.lit (.bool true)], args := [d1, d2] }
  | _ => none }
def meterMemoryRow : OpenClaim := { program := "ytepocdjaedddcaa", sum := "6598ea71607434f3f7bf6c4d9d294b1b032de6bf8c6234019e4717fc0be4fffb", func := "dancestudio/dancestudiolaw13.MeterMemory", spec := "meterMemory", apart := false }
def MeterMemorySaid : Prop := meterMemoryRow.holds Try.pinned (OpenSpec.ofChange meterMemorySpec)

/-- ITS FALSE NEIGHBOUR: 'it returns false'. Refute it at one input. -/
def meterMemoryWrong : ChangeSpec := { name := "meterMemory", fn := fun _ => fun
  | [d1, d2] => { results := [.lit (.bool false)], args := [d1, d2] }
  | _ => none }
def MeterMemoryWrongFalsely : Prop := meterMemoryRow.holds Try.pinned (OpenSpec.ofChange meterMemoryWrong)

/- THE SECOND FORM. 'bulk': how many values and letters a reading holds, each counted each time it is reached (what is shared counts as often as it is met; a slice's spare places count too). A statement '..UptoSaid' is the law's where the arguments, and the package variables that the reading takes, are together of bulk at most 1048576: NARROWER than '..Said'. Prove '..Said' where nothing that the law and all that it calls make is longer than what came in: it says more and counts as full. Else prove '..UptoSaid'. A law counts once. -/
mutual
def uptoBulk {H : Type} : DataW H → Nat
  | .lit (.string bytes) => bytes.length + 1
  | .lit _ => 1
  | .nil => 1
  | .ptr d => uptoBulk d + 1
  | .slice elems spare => uptoBulkAll elems + uptoBulkAll spare + 1
  | .agg parts => uptoBulkAll parts + 1
  | .iface _ d => uptoBulk d + 1
  | .map entries => uptoBulkEntries entries + 1
  | .held _ => 1
def uptoBulkAll {H : Type} : List (DataW H) → Nat
  | [] => 0
  | d :: r => uptoBulk d + uptoBulkAll r
def uptoBulkEntries {H : Type} : List (Lit × DataW H) → Nat
  | [] => 0
  | x :: r => uptoBulkEntry x + uptoBulkEntries r
def uptoBulkEntry {H : Type} : Lit × DataW H → Nat
  | (.string bytes, d) => bytes.length + uptoBulk d + 1
  | (_, d) => uptoBulk d + 1
 end
def uptoSmall : (H : Type) → List (DataW H) → Bool := fun _ ds => decide (uptoBulkAll ds ≤ 1048576)
def OpenSpec.upto (s : _root_.Go.ChangeSpec) : _root_.Go.OpenSpec := { _root_.Go.OpenSpec.ofChange s with cond := some uptoSmall }

/-- 'dancestudiolaw13.MeterChecks', WHERE WHAT IT READS IS OF BULK AT MOST 1048576: true; the input reads as it did. -/
def meterChecksUptoRow : OpenClaim := { program := "ytepocdjaedddcaa", sum := "6598ea71607434f3f7bf6c4d9d294b1b032de6bf8c6234019e4717fc0be4fffb", func := "dancestudio/dancestudiolaw13.MeterChecks", spec := "meterChecks", apart := false, narrowed := true }
def MeterChecksUptoSaid : Prop := meterChecksUptoRow.holds Try.pinned (OpenSpec.upto meterChecksSpec)

/-- 'dancestudiolaw13.MeterPlaces', WHERE WHAT IT READS IS OF BULK AT MOST 1048576: true; the input reads as it did. -/
def meterPlacesUptoRow : OpenClaim := { program := "ytepocdjaedddcaa", sum := "6598ea71607434f3f7bf6c4d9d294b1b032de6bf8c6234019e4717fc0be4fffb", func := "dancestudio/dancestudiolaw13.MeterPlaces", spec := "meterPlaces", apart := false, narrowed := true }
def MeterPlacesUptoSaid : Prop := meterPlacesUptoRow.holds Try.pinned (OpenSpec.upto meterPlacesSpec)

/-- 'dancestudiolaw13.MeterParts', WHERE WHAT IT READS IS OF BULK AT MOST 1048576: true; the input reads as it did. -/
def meterPartsUptoRow : OpenClaim := { program := "ytepocdjaedddcaa", sum := "6598ea71607434f3f7bf6c4d9d294b1b032de6bf8c6234019e4717fc0be4fffb", func := "dancestudio/dancestudiolaw13.MeterParts", spec := "meterParts", apart := false, narrowed := true }
def MeterPartsUptoSaid : Prop := meterPartsUptoRow.holds Try.pinned (OpenSpec.upto meterPartsSpec)

/-- 'dancestudiolaw13.MeterTiles', WHERE WHAT IT READS IS OF BULK AT MOST 1048576: true; the input reads as it did. -/
def meterTilesUptoRow : OpenClaim := { program := "ytepocdjaedddcaa", sum := "6598ea71607434f3f7bf6c4d9d294b1b032de6bf8c6234019e4717fc0be4fffb", func := "dancestudio/dancestudiolaw13.MeterTiles", spec := "meterTiles", apart := false, narrowed := true }
def MeterTilesUptoSaid : Prop := meterTilesUptoRow.holds Try.pinned (OpenSpec.upto meterTilesSpec)

/-- 'dancestudiolaw13.MeterBeats', WHERE WHAT IT READS IS OF BULK AT MOST 1048576: true; the input reads as it did. -/
def meterBeatsUptoRow : OpenClaim := { program := "ytepocdjaedddcaa", sum := "6598ea71607434f3f7bf6c4d9d294b1b032de6bf8c6234019e4717fc0be4fffb", func := "dancestudio/dancestudiolaw13.MeterBeats", spec := "meterBeats", apart := false, narrowed := true }
def MeterBeatsUptoSaid : Prop := meterBeatsUptoRow.holds Try.pinned (OpenSpec.upto meterBeatsSpec)

/-- 'dancestudiolaw13.MeterCuts', WHERE WHAT IT READS IS OF BULK AT MOST 1048576: true; the input reads as it did. -/
def meterCutsUptoRow : OpenClaim := { program := "ytepocdjaedddcaa", sum := "6598ea71607434f3f7bf6c4d9d294b1b032de6bf8c6234019e4717fc0be4fffb", func := "dancestudio/dancestudiolaw13.MeterCuts", spec := "meterCuts", apart := false, narrowed := true }
def MeterCutsUptoSaid : Prop := meterCutsUptoRow.holds Try.pinned (OpenSpec.upto meterCutsSpec)

/-- 'dancestudiolaw13.MeterMemory', WHERE WHAT IT READS IS OF BULK AT MOST 1048576: true; the input reads as it did. -/
def meterMemoryUptoRow : OpenClaim := { program := "ytepocdjaedddcaa", sum := "6598ea71607434f3f7bf6c4d9d294b1b032de6bf8c6234019e4717fc0be4fffb", func := "dancestudio/dancestudiolaw13.MeterMemory", spec := "meterMemory", apart := false, narrowed := true }
def MeterMemoryUptoSaid : Prop := meterMemoryUptoRow.holds Try.pinned (OpenSpec.upto meterMemorySpec)

end Rows
end Go.Proofs.Ytepocdjaedddcaa
