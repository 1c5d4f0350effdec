/-
  No cell of these rows narrows 'for every input' (looked for: loops, veiled, ifaces, maps, wideKeys, modest, calm, conditions, laid).
  DERIVED. THE GIVEN ROWS OF THIS SEAT. 6 by the template 'for every input the law returns true; each argument reads behind the call as it read before'; 0 by the template 'total and deterministic' (their statements: YtiobbceadcgohaaTotals.lean).
  GIVEN WITH THE SEED: the statements are not yours to turn. If you find one false, say at which input.
  Laid BY PROGRAM, IN A SANDBOX (cutbox-rows.mjs): the forced cells as the released guide's own fill.sh prints them over the translation 3b77fb6b68e83cde… (all of the seat's roots in one cut). By AI agents, Wed Nov 11 2026. No macro, syntax, notation, axiom, sorry.
-/
import Derived.Test.YtiobbceadcgohaaChecked
import GoSem.Claim
import GoSem.ClaimJoined
import GoSem.ClaimMapViews
import Derived.JoinedTies
import Derived.KernelRfl
namespace Go.Proofs.Ytiobbceadcgohaa
/- THE CELL 'sum', in the pinned program and in every row, IS THE sha256 OF THE DUMP (.gsa) THAT YtiobbceadcgohaaProg.lean LOADS. Nothing in Lean hashes anything: it is a label: what it is worth is what the hold of that sum in a sandbox is worth. -/
noncomputable def Try.pinned : Pinned := { name := "ytiobbceadcgohaa", sum := "3b77fb6b68e83cde1614b49c2203a2d366ba0557e6dbef975cd94c709cd959a8", checked := Try.checked }
namespace Rows
def none {H : Type} : Left H := { results := [], args := [] }

/-- 'budwoodlaw07.AllocFinds': WHATEVER THE INPUT: true; the input reads as it did. -/
def allocFindsSpec : ChangeSpec := { name := "allocFinds", fn := fun _ => fun
  | [d1, d2] => { results := [.lit (.bool true)], args := [d1, d2] }
  | _ => none }
def allocFindsRow : OpenClaim := { program := "ytiobbceadcgohaa", sum := "3b77fb6b68e83cde1614b49c2203a2d366ba0557e6dbef975cd94c709cd959a8", func := "budwood/budwoodlaw07.AllocFinds", spec := "allocFinds", unfollowed := true, recurses := true, apart := false }
def AllocFindsSaid : Prop := allocFindsRow.holds Try.pinned (OpenSpec.ofChange allocFindsSpec)

/-- ITS FALSE NEIGHBOUR: 'it returns false'. Refute it at one input. -/
def allocFindsWrong : ChangeSpec := { name := "allocFinds", fn := fun _ => fun
  | [d1, d2] => { results := [.lit (.bool false)], args := [d1, d2] }
  | _ => none }
def AllocFindsWrongFalsely : Prop := allocFindsRow.holds Try.pinned (OpenSpec.ofChange allocFindsWrong)

/-- 'budwoodlaw07.AllocRoom': WHATEVER THE INPUT: true; the input reads as it did. -/
def allocRoomSpec : ChangeSpec := { name := "allocRoom", fn := fun _ => fun
  | [d1, d2] => { results := [.lit (.bool true)], args := [d1, d2] }
  | _ => none }
def allocRoomRow : OpenClaim := { program := "ytiobbceadcgohaa", sum := "3b77fb6b68e83cde1614b49c2203a2d366ba0557e6dbef975cd94c709cd959a8", func := "budwood/budwoodlaw07.AllocRoom", spec := "allocRoom", unfollowed := true, recurses := true, apart := false }
def AllocRoomSaid : Prop := allocRoomRow.holds Try.pinned (OpenSpec.ofChange allocRoomSpec)

/-- ITS FALSE NEIGHBOUR: 'it returns false'. Refute it at one input. -/
def allocRoomWrong : ChangeSpec := { name := "allocRoom", fn := fun _ => fun
  | [d1, d2] => { results := [.lit (.bool false)], args := [d1, d2] }
  | _ => none }
def AllocRoomWrongFalsely : Prop := allocRoomRow.holds Try.pinned (OpenSpec.ofChange allocRoomWrong)

/-- 'budwoodlaw07.AllocMore': WHATEVER THE INPUT: true; the input reads as it did. -/
def allocMoreSpec : ChangeSpec := { name := "allocMore", fn := fun _ => fun
  | [d1, d2, d3] => { results := [.lit (.bool true)], args := [d1, d2, d3] }
  | _ => none }
def allocMoreRow : OpenClaim := { program := "ytiobbceadcgohaa", sum := "3b77fb6b68e83cde1614b49c2203a2d366ba0557e6dbef975cd94c709cd959a8", func := "budwood/budwoodlaw07.AllocMore", spec := "allocMore", unfollowed := true, recurses := true, apart := false }
def AllocMoreSaid : Prop := allocMoreRow.holds Try.pinned (OpenSpec.ofChange allocMoreSpec)

/-- ITS FALSE NEIGHBOUR: 'it returns false'. Refute it at one input. -/
def allocMoreWrong : ChangeSpec := { name := "allocMore", fn := fun _ => fun
  | [d1, d2, d3] => { results := [.lit (.bool false)], args := [d1, d2, d3] }
  | _ => none }
def AllocMoreWrongFalsely : Prop := allocMoreRow.holds Try.pinned (OpenSpec.ofChange allocMoreWrong)

/-- 'budwoodlaw07.AllocRuns': WHATEVER THE INPUT: true; the input reads as it did. -/
def allocRunsSpec : ChangeSpec := { name := "allocRuns", fn := fun _ => fun
  | [d] => { results := [.lit (.bool true)], args := [d] }
  | _ => none }
def allocRunsRow : OpenClaim := { program := "ytiobbceadcgohaa", sum := "3b77fb6b68e83cde1614b49c2203a2d366ba0557e6dbef975cd94c709cd959a8", func := "budwood/budwoodlaw07.AllocRuns", spec := "allocRuns", unfollowed := true, recurses := true, apart := false }
def AllocRunsSaid : Prop := allocRunsRow.holds Try.pinned (OpenSpec.ofChange allocRunsSpec)

/-- ITS FALSE NEIGHBOUR: 'it returns false'. Refute it at one input. -/
def allocRunsWrong : ChangeSpec := { name := "allocRuns", fn := fun _ => fun
  | [d] => { results := [.lit (.bool false)], args := [d] }
  | _ => none }
def AllocRunsWrongFalsely : Prop := allocRunsRow.holds Try.pinned (OpenSpec.ofChange allocRunsWrong)

/-- 'budwoodlaw07.AllocCounts': WHATEVER THE INPUT: true; the input reads as it did. -/
def allocCountsSpec : ChangeSpec := { name := "allocCounts", fn := fun _ => fun
  | [d] => { results := [.lit (.bool true)], args := [d] }
  | _ => none }
def allocCountsRow : OpenClaim := { program := "ytiobbceadcgohaa", sum := "3b77fb6b68e83cde1614b49c2203a2d366ba0557e6dbef975cd94c709cd959a8", func := "budwood/budwoodlaw07.AllocCounts", spec := "allocCounts", unfollowed := true, recurses := true, apart := false }
def AllocCountsSaid : Prop := allocCountsRow.holds Try.pinned (OpenSpec.ofChange allocCountsSpec)

/-- ITS FALSE NEIGHBOUR: 'it returns false'. Refute it at one input. -/
def allocCountsWrong : ChangeSpec := { name := "allocCounts", fn := fun _ => fun
  | [d] => { results := [.lit (.bool false)], args := [d] }
  | _ => none }
def AllocCountsWrongFalsely : Prop := allocCountsRow.holds Try.pinned (OpenSpec.ofChange allocCountsWrong)

/-- 'budwoodlaw07.AllocFits': WHATEVER THE INPUT: true; the input reads as it did. -/
def allocFitsSpec : ChangeSpec := { name := "allocFits", fn := fun _ => fun
  | [d1, d2] => { results := [.lit (.bool true)], args := [d1, d2] }
  | _ => none }
def allocFitsRow : OpenClaim := { program := "ytiobbceadcgohaa", sum := "3b77fb6b68e83cde1614b49c2203a2d366ba0557e6dbef975cd94c709cd959a8", func := "budwood/budwoodlaw07.AllocFits", spec := "allocFits", unfollowed := true, recurses := true, apart := false }
def AllocFitsSaid : Prop := allocFitsRow.holds Try.pinned (OpenSpec.ofChange allocFitsSpec)

/-- ITS FALSE NEIGHBOUR: 'it returns false'. Refute it at one input. -/
def allocFitsWrong : ChangeSpec := { name := "allocFits", fn := fun _ => fun
  | [d1, d2] => { results := [.lit (.bool false)], args := [d1, d2] }
  | _ => none }
def AllocFitsWrongFalsely : Prop := allocFitsRow.holds Try.pinned (OpenSpec.ofChange allocFitsWrong)

/- THE SECOND FORM. 'bulk': how many values and letters a reading holds, each counted each time it is reached (what is shared counts as often as it is met; a slice's spare places count too). A statement '..UptoSaid' is the law's where the arguments, and the package variables that the reading takes, are together of bulk at most 1048576: NARROWER than '..Said'. Prove '..Said' where nothing that the law and all that it calls make is longer than what came in: it says more and counts as full. Else prove '..UptoSaid'. A law counts once. -/
mutual
def uptoBulk {H : Type} : DataW H → Nat
  | .lit (.string bytes) => bytes.length + 1
  | .lit _ => 1
  | .nil => 1
  | .ptr d => uptoBulk d + 1
  | .slice elems spare => uptoBulkAll elems + uptoBulkAll spare + 1
  | .agg parts => uptoBulkAll parts + 1
  | .iface _ d => uptoBulk d + 1
  | .map entries => uptoBulkEntries entries + 1
  | .held _ => 1
def uptoBulkAll {H : Type} : List (DataW H) → Nat
  | [] => 0
  | d :: r => uptoBulk d + uptoBulkAll r
def uptoBulkEntries {H : Type} : List (Lit × DataW H) → Nat
  | [] => 0
  | x :: r => uptoBulkEntry x + uptoBulkEntries r
def uptoBulkEntry {H : Type} : Lit × DataW H → Nat
  | (.string bytes, d) => bytes.length + uptoBulk d + 1
  | (_, d) => uptoBulk d + 1
 end
def uptoSmall : (H : Type) → List (DataW H) → Bool := fun _ ds => decide (uptoBulkAll ds ≤ 1048576)
def OpenSpec.upto (s : _root_.Go.ChangeSpec) : _root_.Go.OpenSpec := { _root_.Go.OpenSpec.ofChange s with cond := some uptoSmall }

/-- 'budwoodlaw07.AllocFinds', WHERE WHAT IT READS IS OF BULK AT MOST 1048576: true; the input reads as it did. -/
def allocFindsUptoRow : OpenClaim := { program := "ytiobbceadcgohaa", sum := "3b77fb6b68e83cde1614b49c2203a2d366ba0557e6dbef975cd94c709cd959a8", func := "budwood/budwoodlaw07.AllocFinds", spec := "allocFinds", unfollowed := true, recurses := true, apart := false, narrowed := true }
def AllocFindsUptoSaid : Prop := allocFindsUptoRow.holds Try.pinned (OpenSpec.upto allocFindsSpec)

/-- 'budwoodlaw07.AllocRoom', WHERE WHAT IT READS IS OF BULK AT MOST 1048576: true; the input reads as it did. -/
def allocRoomUptoRow : OpenClaim := { program := "ytiobbceadcgohaa", sum := "3b77fb6b68e83cde1614b49c2203a2d366ba0557e6dbef975cd94c709cd959a8", func := "budwood/budwoodlaw07.AllocRoom", spec := "allocRoom", unfollowed := true, recurses := true, apart := false, narrowed := true }
def AllocRoomUptoSaid : Prop := allocRoomUptoRow.holds Try.pinned (OpenSpec.upto allocRoomSpec)

/-- 'budwoodlaw07.AllocMore', WHERE WHAT IT READS IS OF BULK AT MOST 1048576: true; the input reads as it did. -/
def allocMoreUptoRow : OpenClaim := { program := "ytiobbceadcgohaa", sum := "3b77fb6b68e83cde1614b49c2203a2d366ba0557e6dbef975cd94c709cd959a8", func := "budwood/budwoodlaw07.AllocMore", spec := "allocMore", unfollowed := true, recurses := true, apart := false, narrowed := true }
def AllocMoreUptoSaid : Prop := allocMoreUptoRow.holds Try.pinned (OpenSpec.upto allocMoreSpec)

/-- 'budwoodlaw07.AllocRuns', WHERE WHAT IT READS IS OF BULK AT MOST 1048576: true; the input reads as it did. -/
def allocRunsUptoRow : OpenClaim := { program := "ytiobbceadcgohaa", sum := "3b77fb6b68e83cde1614b49c2203a2d366ba0557e6dbef975cd94c709cd959a8", func := "budwood/budwoodlaw07.AllocRuns", spec := "allocRuns", unfollowed := true, recurses := true, apart := false, narrowed := true }
def AllocRunsUptoSaid : Prop := allocRunsUptoRow.holds Try.pinned (OpenSpec.upto allocRunsSpec)

/-- 'budwoodlaw07.AllocCounts', WHERE WHAT IT READS IS OF BULK AT MOST 1048576: true; the input reads as it did. -/
def allocCountsUptoRow : OpenClaim := { program := "ytiobbceadcgohaa", sum := "3b77fb6b68e83cde1614b49c2203a2d366ba0557e6dbef975cd94c709cd959a8", func := "budwood/budwoodlaw07.AllocCounts", spec := "allocCounts", unfollowed := true, recurses := true, apart := false, narrowed := true }
def AllocCountsUptoSaid : Prop := allocCountsUptoRow.holds Try.pinned (OpenSpec.upto allocCountsSpec)

/-- 'budwoodlaw07.AllocFits', WHERE WHAT IT READS IS OF BULK AT MOST 1048576: true; the input reads as it did. -/
def allocFitsUptoRow : OpenClaim := { program := "ytiobbceadcgohaa", sum := "3b77fb6b68e83cde1614b49c2203a2d366ba0557e6dbef975cd94c709cd959a8", func := "budwood/budwoodlaw07.AllocFits", spec := "allocFits", unfollowed := true, recurses := true, apart := false, narrowed := true }
def AllocFitsUptoSaid : Prop := allocFitsUptoRow.holds Try.pinned (OpenSpec.upto allocFitsSpec)

end Rows
end Go.Proofs.Ytiobbceadcgohaa
