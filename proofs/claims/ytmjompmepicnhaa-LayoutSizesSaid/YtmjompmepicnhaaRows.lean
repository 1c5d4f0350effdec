/-
  No cell of these rows narrows 'for every input' (looked for: loops, veiled, ifaces, maps, wideKeys, modest, calm, conditions, laid).
  DERIVED. THE GIVEN ROWS OF THIS SEAT. 6 by the template 'for every input the law returns true; each argument reads behind the call as it read before'; 0 by the template 'total and deterministic' (their statements: YtmjompmepicnhaaTotals.lean).
  GIVEN WITH THE SEED: the statements are not yours to turn. If you find one false, say at which input.
  Laid BY PROGRAM, IN A SANDBOX (cutbox-rows.mjs): the forced cells as the released guide's own fill.sh prints them over the translation cedefffa6ba5b9dc… (all of the seat's roots in one cut). By AI agents, Wed Nov 11 2026. No macro, syntax, notation, axiom, sorry.
-/
import Derived.Test.YtmjompmepicnhaaChecked
import GoSem.Claim
import GoSem.ClaimJoined
import GoSem.ClaimMapViews
import Derived.JoinedTies
import Derived.KernelRfl
namespace Go.Proofs.Ytmjompmepicnhaa
/- THE CELL 'sum', in the pinned program and in every row, IS THE sha256 OF THE DUMP (.gsa) THAT YtmjompmepicnhaaProg.lean LOADS. Nothing in Lean hashes anything: it is a label: what it is worth is what the hold of that sum in a sandbox is worth. -/
noncomputable def Try.pinned : Pinned := { name := "ytmjompmepicnhaa", sum := "cedefffa6ba5b9dc145255e9352db0cb8c6c21a604724f4033257e356705cd3d", checked := Try.checked }
namespace Rows
def none {H : Type} : Left H := { results := [], args := [] }

/-- 'budwoodlaw12.LayoutPlaces': WHATEVER THE INPUT: true; the input reads as it did. -/
def layoutPlacesSpec : ChangeSpec := { name := "layoutPlaces", fn := fun _ => fun
  | [d1, d2] => { results := [.lit (.bool true)], args := [d1, d2] }
  | _ => none }
def layoutPlacesRow : OpenClaim := { program := "ytmjompmepicnhaa", sum := "cedefffa6ba5b9dc145255e9352db0cb8c6c21a604724f4033257e356705cd3d", func := "budwood/budwoodlaw12.LayoutPlaces", spec := "layoutPlaces", apart := false }
def LayoutPlacesSaid : Prop := layoutPlacesRow.holds Try.pinned (OpenSpec.ofChange layoutPlacesSpec)

/-- ITS FALSE NEIGHBOUR: 'it returns false'. Refute it at one input. -/
def layoutPlacesWrong : ChangeSpec := { name := "layoutPlaces", fn := fun _ => fun
  | [d1, d2] => { results := [.lit (.bool false)], args := [d1, d2] }
  | _ => none }
def LayoutPlacesWrongFalsely : Prop := layoutPlacesRow.holds Try.pinned (OpenSpec.ofChange layoutPlacesWrong)

/-- 'budwoodlaw12.LayoutApart': WHATEVER THE INPUT: true; the input reads as it did. -/
def layoutApartSpec : ChangeSpec := { name := "layoutApart", fn := fun _ => fun
  | [d1, d2] => { results := [.lit (.bool true)], args := [d1, d2] }
  | _ => none }
def layoutApartRow : OpenClaim := { program := "ytmjompmepicnhaa", sum := "cedefffa6ba5b9dc145255e9352db0cb8c6c21a604724f4033257e356705cd3d", func := "budwood/budwoodlaw12.LayoutApart", spec := "layoutApart", apart := false }
def LayoutApartSaid : Prop := layoutApartRow.holds Try.pinned (OpenSpec.ofChange layoutApartSpec)

/-- ITS FALSE NEIGHBOUR: 'it returns false'. Refute it at one input. -/
def layoutApartWrong : ChangeSpec := { name := "layoutApart", fn := fun _ => fun
  | [d1, d2] => { results := [.lit (.bool false)], args := [d1, d2] }
  | _ => none }
def LayoutApartWrongFalsely : Prop := layoutApartRow.holds Try.pinned (OpenSpec.ofChange layoutApartWrong)

/-- 'budwoodlaw12.LayoutSizes': WHATEVER THE INPUT: true; the input reads as it did. -/
def layoutSizesSpec : ChangeSpec := { name := "layoutSizes", fn := fun _ => fun
  | [d] => { results := [.lit (.bool true)], args := [d] }
  | _ => none }
def layoutSizesRow : OpenClaim := { program := "ytmjompmepicnhaa", sum := "cedefffa6ba5b9dc145255e9352db0cb8c6c21a604724f4033257e356705cd3d", func := "budwood/budwoodlaw12.LayoutSizes", spec := "layoutSizes", apart := false }
def LayoutSizesSaid : Prop := layoutSizesRow.holds Try.pinned (OpenSpec.ofChange layoutSizesSpec)

/-- ITS FALSE NEIGHBOUR: 'it returns false'. Refute it at one input. -/
def layoutSizesWrong : ChangeSpec := { name := "layoutSizes", fn := fun _ => fun
  | [d] => { results := [.lit (.bool false)], args := [d] }
  | _ => none }
def LayoutSizesWrongFalsely : Prop := layoutSizesRow.holds Try.pinned (OpenSpec.ofChange layoutSizesWrong)

/-- 'budwoodlaw12.LayoutPlans': WHATEVER THE INPUT: true; the input reads as it did. -/
def layoutPlansSpec : ChangeSpec := { name := "layoutPlans", fn := fun _ => fun
  | [d1, d2] => { results := [.lit (.bool true)], args := [d1, d2] }
  | _ => none }
def layoutPlansRow : OpenClaim := { program := "ytmjompmepicnhaa", sum := "cedefffa6ba5b9dc145255e9352db0cb8c6c21a604724f4033257e356705cd3d", func := "budwood/budwoodlaw12.LayoutPlans", spec := "layoutPlans", apart := false }
def LayoutPlansSaid : Prop := layoutPlansRow.holds Try.pinned (OpenSpec.ofChange layoutPlansSpec)

/-- ITS FALSE NEIGHBOUR: 'it returns false'. Refute it at one input. -/
def layoutPlansWrong : ChangeSpec := { name := "layoutPlans", fn := fun _ => fun
  | [d1, d2] => { results := [.lit (.bool false)], args := [d1, d2] }
  | _ => none }
def LayoutPlansWrongFalsely : Prop := layoutPlansRow.holds Try.pinned (OpenSpec.ofChange layoutPlansWrong)

/-- 'budwoodlaw12.LayoutSpots': WHATEVER THE INPUT: true; the input reads as it did. -/
def layoutSpotsSpec : ChangeSpec := { name := "layoutSpots", fn := fun _ => fun
  | [d1, d2] => { results := [.lit (.bool true)], args := [d1, d2] }
  | _ => none }
def layoutSpotsRow : OpenClaim := { program := "ytmjompmepicnhaa", sum := "cedefffa6ba5b9dc145255e9352db0cb8c6c21a604724f4033257e356705cd3d", func := "budwood/budwoodlaw12.LayoutSpots", spec := "layoutSpots", apart := false }
def LayoutSpotsSaid : Prop := layoutSpotsRow.holds Try.pinned (OpenSpec.ofChange layoutSpotsSpec)

/-- ITS FALSE NEIGHBOUR: 'it returns false'. Refute it at one input. -/
def layoutSpotsWrong : ChangeSpec := { name := "layoutSpots", fn := fun _ => fun
  | [d1, d2] => { results := [.lit (.bool false)], args := [d1, d2] }
  | _ => none }
def LayoutSpotsWrongFalsely : Prop := layoutSpotsRow.holds Try.pinned (OpenSpec.ofChange layoutSpotsWrong)

/-- 'budwoodlaw12.LayoutAll': WHATEVER THE INPUT: true; the input reads as it did. -/
def layoutAllSpec : ChangeSpec := { name := "layoutAll", fn := fun _ => fun
  | [d] => { results := [.lit (.bool true)], args := [d] }
  | _ => none }
def layoutAllRow : OpenClaim := { program := "ytmjompmepicnhaa", sum := "cedefffa6ba5b9dc145255e9352db0cb8c6c21a604724f4033257e356705cd3d", func := "budwood/budwoodlaw12.LayoutAll", spec := "layoutAll", apart := false }
def LayoutAllSaid : Prop := layoutAllRow.holds Try.pinned (OpenSpec.ofChange layoutAllSpec)

/-- ITS FALSE NEIGHBOUR: 'it returns false'. Refute it at one input. -/
def layoutAllWrong : ChangeSpec := { name := "layoutAll", fn := fun _ => fun
  | [d] => { results := [.lit (.bool false)], args := [d] }
  | _ => none }
def LayoutAllWrongFalsely : Prop := layoutAllRow.holds Try.pinned (OpenSpec.ofChange layoutAllWrong)

/- THE SECOND FORM. 'bulk': how many values and letters a reading holds, each counted each time it is reached (what is shared counts as often as it is met; a slice's spare places count too). A statement '..UptoSaid' is the law's where the arguments, and the package variables that the reading takes, are together of bulk at most 1048576: NARROWER than '..Said'. Prove '..Said' where nothing that the law and all that it calls make is longer than what came in: it says more and counts as full. Else prove '..UptoSaid'. A law counts once. -/
mutual
def uptoBulk {H : Type} : DataW H → Nat
  | .lit (.string bytes) => bytes.length + 1
  | .lit _ => 1
  | .nil => 1
  | .ptr d => uptoBulk d + 1
  | .slice elems spare => uptoBulkAll elems + uptoBulkAll spare + 1
  | .agg parts => uptoBulkAll parts + 1
  | .iface _ d => uptoBulk d + 1
  | .map entries => uptoBulkEntries entries + 1
  | .held _ => 1
def uptoBulkAll {H : Type} : List (DataW H) → Nat
  | [] => 0
  | d :: r => uptoBulk d + uptoBulkAll r
def uptoBulkEntries {H : Type} : List (Lit × DataW H) → Nat
  | [] => 0
  | x :: r => uptoBulkEntry x + uptoBulkEntries r
def uptoBulkEntry {H : Type} : Lit × DataW H → Nat
  | (.string bytes, d) => bytes.length + uptoBulk d + 1
  | (_, d) => uptoBulk d + 1
 end
def uptoSmall : (H : Type) → List (DataW H) → Bool := fun _ ds => decide (uptoBulkAll ds ≤ 1048576)
def OpenSpec.upto (s : _root_.Go.ChangeSpec) : _root_.Go.OpenSpec := { _root_.Go.OpenSpec.ofChange s with cond := some uptoSmall }

/-- 'budwoodlaw12.LayoutPlaces', WHERE WHAT IT READS IS OF BULK AT MOST 1048576: true; the input reads as it did. -/
def layoutPlacesUptoRow : OpenClaim := { program := "ytmjompmepicnhaa", sum := "cedefffa6ba5b9dc145255e9352db0cb8c6c21a604724f4033257e356705cd3d", func := "budwood/budwoodlaw12.LayoutPlaces", spec := "layoutPlaces", apart := false, narrowed := true }
def LayoutPlacesUptoSaid : Prop := layoutPlacesUptoRow.holds Try.pinned (OpenSpec.upto layoutPlacesSpec)

/-- 'budwoodlaw12.LayoutApart', WHERE WHAT IT READS IS OF BULK AT MOST 1048576: true; the input reads as it did. -/
def layoutApartUptoRow : OpenClaim := { program := "ytmjompmepicnhaa", sum := "cedefffa6ba5b9dc145255e9352db0cb8c6c21a604724f4033257e356705cd3d", func := "budwood/budwoodlaw12.LayoutApart", spec := "layoutApart", apart := false, narrowed := true }
def LayoutApartUptoSaid : Prop := layoutApartUptoRow.holds Try.pinned (OpenSpec.upto layoutApartSpec)

/-- 'budwoodlaw12.LayoutSizes', WHERE WHAT IT READS IS OF BULK AT MOST 1048576: true; the input reads as it did. -/
def layoutSizesUptoRow : OpenClaim := { program := "ytmjompmepicnhaa", sum := "cedefffa6ba5b9dc145255e9352db0cb8c6c21a604724f4033257e356705cd3d", func := "budwood/budwoodlaw12.LayoutSizes", spec := "layoutSizes", apart := false, narrowed := true }
def LayoutSizesUptoSaid : Prop := layoutSizesUptoRow.holds Try.pinned (OpenSpec.upto layoutSizesSpec)

/-- 'budwoodlaw12.LayoutPlans', WHERE WHAT IT READS IS OF BULK AT MOST 1048576: true; the input reads as it did. -/
def layoutPlansUptoRow : OpenClaim := { program := "ytmjompmepicnhaa", sum := "cedefffa6ba5b9dc145255e9352db0cb8c6c21a604724f4033257e356705cd3d", func := "budwood/budwoodlaw12.LayoutPlans", spec := "layoutPlans", apart := false, narrowed := true }
def LayoutPlansUptoSaid : Prop := layoutPlansUptoRow.holds Try.pinned (OpenSpec.upto layoutPlansSpec)

/-- 'budwoodlaw12.LayoutSpots', WHERE WHAT IT READS IS OF BULK AT MOST 1048576: true; the input reads as it did. -/
def layoutSpotsUptoRow : OpenClaim := { program := "ytmjompmepicnhaa", sum := "cedefffa6ba5b9dc145255e9352db0cb8c6c21a604724f4033257e356705cd3d", func := "budwood/budwoodlaw12.LayoutSpots", spec := "layoutSpots", apart := false, narrowed := true }
def LayoutSpotsUptoSaid : Prop := layoutSpotsUptoRow.holds Try.pinned (OpenSpec.upto layoutSpotsSpec)

/-- 'budwoodlaw12.LayoutAll', WHERE WHAT IT READS IS OF BULK AT MOST 1048576: true; the input reads as it did. -/
def layoutAllUptoRow : OpenClaim := { program := "ytmjompmepicnhaa", sum := "cedefffa6ba5b9dc145255e9352db0cb8c6c21a604724f4033257e356705cd3d", func := "budwood/budwoodlaw12.LayoutAll", spec := "layoutAll", apart := false, narrowed := true }
def LayoutAllUptoSaid : Prop := layoutAllUptoRow.holds Try.pinned (OpenSpec.upto layoutAllSpec)

end Rows
end Go.Proofs.Ytmjompmepicnhaa
