/-
  No cell of these rows narrows 'for every input' (looked for: loops, veiled, ifaces, maps, wideKeys, modest, calm, conditions, laid).
  DERIVED. THE GIVEN ROWS OF THIS SEAT. 8 by the template 'for every input the law returns true; each argument reads behind the call as it read before'; 0 by the template 'total and deterministic' (their statements: YtmchbeobljgkeaaTotals.lean).
  GIVEN WITH THE SEED: the statements are not yours to turn. If you find one false, say at which input.
  Laid BY PROGRAM, IN A SANDBOX (cutbox-rows.mjs): the forced cells as the released guide's own fill.sh prints them over the translation cd334bb966656d24… (all of the seat's roots in one cut). By AI agents, Wed Nov 11 2026. No macro, syntax, notation, axiom, sorry.
-/
import Derived.Test.YtmchbeobljgkeaaChecked
import GoSem.Claim
import GoSem.ClaimJoined
import GoSem.ClaimMapViews
import Derived.JoinedTies
import Derived.KernelRfl
namespace Go.Proofs.Ytmchbeobljgkeaa
/- THE CELL 'sum', in the pinned program and in every row, IS THE sha256 OF THE DUMP (.gsa) THAT YtmchbeobljgkeaaProg.lean LOADS. Nothing in Lean hashes anything: it is a label: what it is worth is what the hold of that sum in a sandbox is worth. -/
noncomputable def Try.pinned : Pinned := { name := "ytmchbeobljgkeaa", sum := "cd334bb966656d248d279ebde5d3c942548ac4b9a657f0d49c8d844fba01ab2f", checked := Try.checked }
namespace Rows
def none {H : Type} : Left H := { results := [], args := [] }

/-- 'dancestudiolaw40.LayoutPages': WHATEVER THE INPUT: true; the input reads as it did. -/
def layoutPagesSpec : ChangeSpec := { name := "layoutPages", fn := fun _ => fun
  | [d1, d2] => { results := [.lit (.bool true)], args := [d1, d2] }
  | _ => none }
def layoutPagesRow : OpenClaim := { program := "ytmchbeobljgkeaa", sum := "cd334bb966656d248d279ebde5d3c942548ac4b9a657f0d49c8d844fba01ab2f", func := "dancestudio/dancestudiolaw40.LayoutPages", spec := "layoutPages", apart := false }
def LayoutPagesSaid : Prop := layoutPagesRow.holds Try.pinned (OpenSpec.ofChange layoutPagesSpec)

/-- ITS FALSE NEIGHBOUR: 'it returns false'. Refute it at one input. -/
def layoutPagesWrong : ChangeSpec := { name := "layoutPages", fn := fun _ => fun
  | [d1, d2] => { results := [.lit (.bool false)], args := [d1, d2] }
  | _ => none }
def LayoutPagesWrongFalsely : Prop := layoutPagesRow.holds Try.pinned (OpenSpec.ofChange layoutPagesWrong)

/-- 'dancestudiolaw40.LayoutPlaces': WHATEVER THE INPUT: true; the input reads as it did. -/
def layoutPlacesSpec : ChangeSpec := { name := "layoutPlaces", fn := fun _ => fun
  | [d1, d2, d3] => { results := [.lit (.bool true)], args := [d1, d2, d3] }
  | _ => none }
def layoutPlacesRow : OpenClaim := { program := "ytmchbeobljgkeaa", sum := "cd334bb966656d248d279ebde5d3c942548ac4b9a657f0d49c8d844fba01ab2f", func := "dancestudio/dancestudiolaw40.LayoutPlaces", spec := "layoutPlaces", apart := false }
def LayoutPlacesSaid : Prop := layoutPlacesRow.holds Try.pinned (OpenSpec.ofChange layoutPlacesSpec)

/-- ITS FALSE NEIGHBOUR: 'it returns false'. Refute it at one input. -/
def layoutPlacesWrong : ChangeSpec := { name := "layoutPlaces", fn := fun _ => fun
  | [d1, d2, d3] => { results := [.lit (.bool false)], args := [d1, d2, d3] }
  | _ => none }
def LayoutPlacesWrongFalsely : Prop := layoutPlacesRow.holds Try.pinned (OpenSpec.ofChange layoutPlacesWrong)

/-- 'dancestudiolaw40.LayoutLeasts': WHATEVER THE INPUT: true; the input reads as it did. -/
def layoutLeastsSpec : ChangeSpec := { name := "layoutLeasts", fn := fun _ => fun
  | [d1, d2] => { results := [.lit (.bool true)], args := [d1, d2] }
  | _ => none }
def layoutLeastsRow : OpenClaim := { program := "ytmchbeobljgkeaa", sum := "cd334bb966656d248d279ebde5d3c942548ac4b9a657f0d49c8d844fba01ab2f", func := "dancestudio/dancestudiolaw40.LayoutLeasts", spec := "layoutLeasts", apart := false }
def LayoutLeastsSaid : Prop := layoutLeastsRow.holds Try.pinned (OpenSpec.ofChange layoutLeastsSpec)

/-- ITS FALSE NEIGHBOUR: 'it returns false'. Refute it at one input. -/
def layoutLeastsWrong : ChangeSpec := { name := "layoutLeasts", fn := fun _ => fun
  | [d1, d2] => { results := [.lit (.bool false)], args := [d1, d2] }
  | _ => none }
def LayoutLeastsWrongFalsely : Prop := layoutLeastsRow.holds Try.pinned (OpenSpec.ofChange layoutLeastsWrong)

/-- 'dancestudiolaw40.LayoutLeast': WHATEVER THE INPUT: true; the input reads as it did. -/
def layoutLeastSpec : ChangeSpec := { name := "layoutLeast", fn := fun _ => fun
  | [d1, d2, d3] => { results := [.lit (.bool true)], args := [d1, d2, d3] }
  | _ => none }
def layoutLeastRow : OpenClaim := { program := "ytmchbeobljgkeaa", sum := "cd334bb966656d248d279ebde5d3c942548ac4b9a657f0d49c8d844fba01ab2f", func := "dancestudio/dancestudiolaw40.LayoutLeast", spec := "layoutLeast", apart := false }
def LayoutLeastSaid : Prop := layoutLeastRow.holds Try.pinned (OpenSpec.ofChange layoutLeastSpec)

/-- ITS FALSE NEIGHBOUR: 'it returns false'. Refute it at one input. -/
def layoutLeastWrong : ChangeSpec := { name := "layoutLeast", fn := fun _ => fun
  | [d1, d2, d3] => { results := [.lit (.bool false)], args := [d1, d2, d3] }
  | _ => none }
def LayoutLeastWrongFalsely : Prop := layoutLeastRow.holds Try.pinned (OpenSpec.ofChange layoutLeastWrong)

/-- 'dancestudiolaw40.LayoutCovers': WHATEVER THE INPUT: true; the input reads as it did. -/
def layoutCoversSpec : ChangeSpec := { name := "layoutCovers", fn := fun _ => fun
  | [d1, d2] => { results := [.lit (.bool true)], args := [d1, d2] }
  | _ => none }
def layoutCoversRow : OpenClaim := { program := "ytmchbeobljgkeaa", sum := "cd334bb966656d248d279ebde5d3c942548ac4b9a657f0d49c8d844fba01ab2f", func := "dancestudio/dancestudiolaw40.LayoutCovers", spec := "layoutCovers", apart := false }
def LayoutCoversSaid : Prop := layoutCoversRow.holds Try.pinned (OpenSpec.ofChange layoutCoversSpec)

/-- ITS FALSE NEIGHBOUR: 'it returns false'. Refute it at one input. -/
def layoutCoversWrong : ChangeSpec := { name := "layoutCovers", fn := fun _ => fun
  | [d1, d2] => { results := [.lit (.bool false)], args := [d1, d2] }
  | _ => none }
def LayoutCoversWrongFalsely : Prop := layoutCoversRow.holds Try.pinned (OpenSpec.ofChange layoutCoversWrong)

/-- 'dancestudiolaw40.LayoutHigher': WHATEVER THE INPUT: true; the input reads as it did. -/
def layoutHigherSpec : ChangeSpec := { name := "layoutHigher", fn := fun _ => fun
  | [d1, d2, d3] => { results := [.lit (.bool true)], args := [d1, d2, d3] }
  | _ => none }
def layoutHigherRow : OpenClaim := { program := "ytmchbeobljgkeaa", sum := "cd334bb966656d248d279ebde5d3c942548ac4b9a657f0d49c8d844fba01ab2f", func := "dancestudio/dancestudiolaw40.LayoutHigher", spec := "layoutHigher", apart := false }
def LayoutHigherSaid : Prop := layoutHigherRow.holds Try.pinned (OpenSpec.ofChange layoutHigherSpec)

/-- ITS FALSE NEIGHBOUR: 'it returns false'. Refute it at one input. -/
def layoutHigherWrong : ChangeSpec := { name := "layoutHigher", fn := fun _ => fun
  | [d1, d2, d3] => { results := [.lit (.bool false)], args := [d1, d2, d3] }
  | _ => none }
def LayoutHigherWrongFalsely : Prop := layoutHigherRow.holds Try.pinned (OpenSpec.ofChange layoutHigherWrong)

/-- 'dancestudiolaw40.LayoutInverse': WHATEVER THE INPUT: true; the input reads as it did. -/
def layoutInverseSpec : ChangeSpec := { name := "layoutInverse", fn := fun _ => fun
  | [d1, d2, d3] => { results := [.lit (.bool true)], args := [d1, d2, d3] }
  | _ => none }
def layoutInverseRow : OpenClaim := { program := "ytmchbeobljgkeaa", sum := "cd334bb966656d248d279ebde5d3c942548ac4b9a657f0d49c8d844fba01ab2f", func := "dancestudio/dancestudiolaw40.LayoutInverse", spec := "layoutInverse", apart := false }
def LayoutInverseSaid : Prop := layoutInverseRow.holds Try.pinned (OpenSpec.ofChange layoutInverseSpec)

/-- ITS FALSE NEIGHBOUR: 'it returns false'. Refute it at one input. -/
def layoutInverseWrong : ChangeSpec := { name := "layoutInverse", fn := fun _ => fun
  | [d1, d2, d3] => { results := [.lit (.bool false)], args := [d1, d2, d3] }
  | _ => none }
def LayoutInverseWrongFalsely : Prop := layoutInverseRow.holds Try.pinned (OpenSpec.ofChange layoutInverseWrong)

/-- 'dancestudiolaw40.LayoutRises': WHATEVER THE INPUT: true; the input reads as it did. -/
def layoutRisesSpec : ChangeSpec := { name := "layoutRises", fn := fun _ => fun
  | [d1, d2, d3] => { results := [.lit (.bool true)], args := [d1, d2, d3] }
  | _ => none }
def layoutRisesRow : OpenClaim := { program := "ytmchbeobljgkeaa", sum := "cd334bb966656d248d279ebde5d3c942548ac4b9a657f0d49c8d844fba01ab2f", func := "dancestudio/dancestudiolaw40.LayoutRises", spec := "layoutRises", apart := false }
def LayoutRisesSaid : Prop := layoutRisesRow.holds Try.pinned (OpenSpec.ofChange layoutRisesSpec)

/-- ITS FALSE NEIGHBOUR: 'it returns false'. Refute it at one input. -/
def layoutRisesWrong : ChangeSpec := { name := "layoutRises", fn := fun _ => fun
  | [d1, d2, d3] => { results := [.lit (.bool false)], args := [d1, d2, d3] }
  | _ => none }
def LayoutRisesWrongFalsely : Prop := layoutRisesRow.holds Try.pinned (OpenSpec.ofChange layoutRisesWrong)

/- THE SECOND FORM. 'bulk': how many values and letters a reading holds, each counted each time it is reached (what is shared counts as often as it is met; a slice's spare places count too). A statement '..UptoSaid' is the law's where the arguments, and the package variables that the reading takes, are together of bulk at most 1048576: NARROWER than '..Said'. Prove '..Said' where nothing that the law and all that it calls make is longer than what came in: it says more and counts as full. Else prove '..UptoSaid'. A law counts once. -/
mutual
def uptoBulk {H : Type} : DataW H → Nat
  | .lit (.string bytes) => bytes.length + 1
  | .lit _ => 1
  | .nil => 1
  | .ptr d => uptoBulk d + 1
  | .slice elems spare => uptoBulkAll elems + uptoBulkAll spare + 1
  | .agg parts => uptoBulkAll parts + 1
  | .iface _ d => uptoBulk d + 1
  | .map entries => uptoBulkEntries entries + 1
  | .held _ => 1
def uptoBulkAll {H : Type} : List (DataW H) → Nat
  | [] => 0
  | d :: r => uptoBulk d + uptoBulkAll r
def uptoBulkEntries {H : Type} : List (Lit × DataW H) → Nat
  | [] => 0
  | x :: r => uptoBulkEntry x + uptoBulkEntries r
def uptoBulkEntry {H : Type} : Lit × DataW H → Nat
  | (.string bytes, d) => bytes.length + uptoBulk d + 1
  | (_, d) => uptoBulk d + 1
 end
def uptoSmall : (H : Type) → List (DataW H) → Bool := fun _ ds => decide (uptoBulkAll ds ≤ 1048576)
def OpenSpec.upto (s : _root_.Go.ChangeSpec) : _root_.Go.OpenSpec := { _root_.Go.OpenSpec.ofChange s with cond := some uptoSmall }

/-- 'dancestudiolaw40.LayoutPages', WHERE WHAT IT READS IS OF BULK AT MOST 1048576: true; the input reads as it did. -/
def layoutPagesUptoRow : OpenClaim := { program := "ytmchbeobljgkeaa", sum := "cd334bb966656d248d279ebde5d3c942548ac4b9a657f0d49c8d844fba01ab2f", func := "dancestudio/dancestudiolaw40.LayoutPages", spec := "layoutPages", apart := false, narrowed := true }
def LayoutPagesUptoSaid : Prop := layoutPagesUptoRow.holds Try.pinned (OpenSpec.upto layoutPagesSpec)

/-- 'dancestudiolaw40.LayoutPlaces', WHERE WHAT IT READS IS OF BULK AT MOST 1048576: true; the input reads as it did. -/
def layoutPlacesUptoRow : OpenClaim := { program := "ytmchbeobljgkeaa", sum := "cd334bb966656d248d279ebde5d3c942548ac4b9a657f0d49c8d844fba01ab2f", func := "dancestudio/dancestudiolaw40.LayoutPlaces", spec := "layoutPlaces", apart := false, narrowed := true }
def LayoutPlacesUptoSaid : Prop := layoutPlacesUptoRow.holds Try.pinned (OpenSpec.upto layoutPlacesSpec)

/-- 'dancestudiolaw40.LayoutLeasts', WHERE WHAT IT READS IS OF BULK AT MOST 1048576: true; the input reads as it did. -/
def layoutLeastsUptoRow : OpenClaim := { program := "ytmchbeobljgkeaa", sum := "cd334bb966656d248d279ebde5d3c942548ac4b9a657f0d49c8d844fba01ab2f", func := "dancestudio/dancestudiolaw40.LayoutLeasts", spec := "layoutLeasts", apart := false, narrowed := true }
def LayoutLeastsUptoSaid : Prop := layoutLeastsUptoRow.holds Try.pinned (OpenSpec.upto layoutLeastsSpec)

/-- 'dancestudiolaw40.LayoutLeast', WHERE WHAT IT READS IS OF BULK AT MOST 1048576: true; the input reads as it did. -/
def layoutLeastUptoRow : OpenClaim := { program := "ytmchbeobljgkeaa", sum := "cd334bb966656d248d279ebde5d3c942548ac4b9a657f0d49c8d844fba01ab2f", func := "dancestudio/dancestudiolaw40.LayoutLeast", spec := "layoutLeast", apart := false, narrowed := true }
def LayoutLeastUptoSaid : Prop := layoutLeastUptoRow.holds Try.pinned (OpenSpec.upto layoutLeastSpec)

/-- 'dancestudiolaw40.LayoutCovers', WHERE WHAT IT READS IS OF BULK AT MOST 1048576: true; the input reads as it did. -/
def layoutCoversUptoRow : OpenClaim := { program := "ytmchbeobljgkeaa", sum := "cd334bb966656d248d279ebde5d3c942548ac4b9a657f0d49c8d844fba01ab2f", func := "dancestudio/dancestudiolaw40.LayoutCovers", spec := "layoutCovers", apart := false, narrowed := true }
def LayoutCoversUptoSaid : Prop := layoutCoversUptoRow.holds Try.pinned (OpenSpec.upto layoutCoversSpec)

/-- 'dancestudiolaw40.LayoutHigher', WHERE WHAT IT READS IS OF BULK AT MOST 1048576: true; the input reads as it did. -/
def layoutHigherUptoRow : OpenClaim := { program := "ytmchbeobljgkeaa", sum := "cd334bb966656d248d279ebde5d3c942548ac4b9a657f0d49c8d844fba01ab2f", func := "dancestudio/dancestudiolaw40.LayoutHigher", spec := "layoutHigher", apart := false, narrowed := true }
def LayoutHigherUptoSaid : Prop := layoutHigherUptoRow.holds Try.pinned (OpenSpec.upto layoutHigherSpec)

/-- 'dancestudiolaw40.LayoutInverse', WHERE WHAT IT READS IS OF BULK AT MOST 1048576: true; the input reads as it did. -/
def layoutInverseUptoRow : OpenClaim := { program := "ytmchbeobljgkeaa", sum := "cd334bb966656d248d279ebde5d3c942548ac4b9a657f0d49c8d844fba01ab2f", func := "dancestudio/dancestudiolaw40.LayoutInverse", spec := "layoutInverse", apart := false, narrowed := true }
def LayoutInverseUptoSaid : Prop := layoutInverseUptoRow.holds Try.pinned (OpenSpec.upto layoutInverseSpec)

/-- 'dancestudiolaw40.LayoutRises', WHERE WHAT IT READS IS OF BULK AT MOST 1048576: true; the input reads as it did. -/
def layoutRisesUptoRow : OpenClaim := { program := "ytmchbeobljgkeaa", sum := "cd334bb966656d248d279ebde5d3c942548ac4b9a657f0d49c8d844fba01ab2f", func := "dancestudio/dancestudiolaw40.LayoutRises", spec := "layoutRises", apart := false, narrowed := true }
def LayoutRisesUptoSaid : Prop := layoutRisesUptoRow.holds Try.pinned (OpenSpec.upto layoutRisesSpec)

end Rows
end Go.Proofs.Ytmchbeobljgkeaa
