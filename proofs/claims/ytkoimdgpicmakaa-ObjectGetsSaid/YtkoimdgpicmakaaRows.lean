/-
  No cell of these rows narrows 'for every input' (looked for: loops, veiled, ifaces, maps, wideKeys, modest, calm, conditions, laid).
  DERIVED. THE GIVEN ROWS OF THIS SEAT. 6 by the template 'for every input the law returns true; each argument reads behind the call as it read before'; 0 by the template 'total and deterministic' (their statements: YtkoimdgpicmakaaTotals.lean).
  GIVEN WITH THE SEED: the statements are not yours to turn. If you find one false, say at which input.
  Laid BY PROGRAM, IN A SANDBOX (cutbox-rows.mjs): the forced cells as the released guide's own fill.sh prints them over the translation a39a82345fc47bfe… (all of the seat's roots in one cut). By AI agents, Wed Nov 11 2026. No macro, syntax, notation, axiom, sorry.
-/
import Derived.Test.YtkoimdgpicmakaaChecked
import GoSem.Claim
import GoSem.ClaimJoined
import GoSem.ClaimMapViews
import Derived.JoinedTies
import Derived.KernelRfl
namespace Go.Proofs.Ytkoimdgpicmakaa
/- THE CELL 'sum', in the pinned program and in every row, IS THE sha256 OF THE DUMP (.gsa) THAT YtkoimdgpicmakaaProg.lean LOADS. Nothing in Lean hashes anything: it is a label: what it is worth is what the hold of that sum in a sandbox is worth. -/
noncomputable def Try.pinned : Pinned := { name := "ytkoimdgpicmakaa", sum := "a39a82345fc47bfe48354a608942ef410b59a80221e239ed02645633b94126ca", checked := Try.checked }
namespace Rows
def none {H : Type} : Left H := { results := [], args := [] }

/-- 'budwoodlaw10.ObjectPuts': WHATEVER THE INPUT: true; the input reads as it did. -/
def objectPutsSpec : ChangeSpec := { name := "objectPuts", fn := fun _ => fun
  | [d] => { results := [.lit (.bool true)], args := [d] }
  | _ => none }
def objectPutsRow : OpenClaim := { program := "ytkoimdgpicmakaa", sum := "a39a82345fc47bfe48354a608942ef410b59a80221e239ed02645633b94126ca", func := "budwood/budwoodlaw10.ObjectPuts", spec := "objectPuts", unfollowed := true, recurses := true, apart := false }
def ObjectPutsSaid : Prop := objectPutsRow.holds Try.pinned (OpenSpec.ofChange objectPutsSpec)

/-- ITS FALSE NEIGHBOUR: 'it returns false'. Refute it at one input. -/
def objectPutsWrong : ChangeSpec := { name := "objectPuts", fn := fun _ => fun
  | [d] => { results := [.lit (.bool false)], args := [d] }
  | _ => none }
def ObjectPutsWrongFalsely : Prop := objectPutsRow.holds Try.pinned (OpenSpec.ofChange objectPutsWrong)

/-- 'budwoodlaw10.ObjectGets': WHATEVER THE INPUT: true; the input reads as it did. -/
def objectGetsSpec : ChangeSpec := { name := "objectGets", fn := fun _ => fun
  | [d] => { results := [.lit (.bool true)], args := [d] }
  | _ => none }
def objectGetsRow : OpenClaim := { program := "ytkoimdgpicmakaa", sum := "a39a82345fc47bfe48354a608942ef410b59a80221e239ed02645633b94126ca", func := "budwood/budwoodlaw10.ObjectGets", spec := "objectGets", unfollowed := true, recurses := true, apart := false }
def ObjectGetsSaid : Prop := objectGetsRow.holds Try.pinned (OpenSpec.ofChange objectGetsSpec)

/-- ITS FALSE NEIGHBOUR: 'it returns false'. Refute it at one input. -/
def objectGetsWrong : ChangeSpec := { name := "objectGets", fn := fun _ => fun
  | [d] => { results := [.lit (.bool false)], args := [d] }
  | _ => none }
def ObjectGetsWrongFalsely : Prop := objectGetsRow.holds Try.pinned (OpenSpec.ofChange objectGetsWrong)

/-- 'budwoodlaw10.ObjectBack': WHATEVER THE INPUT: true; the input reads as it did. -/
def objectBackSpec : ChangeSpec := { name := "objectBack", fn := fun _ => fun
  | [d1, d2] => { results := [.lit (.bool true)], args := [d1, d2] }
  | _ => none }
def objectBackRow : OpenClaim := { program := "ytkoimdgpicmakaa", sum := "a39a82345fc47bfe48354a608942ef410b59a80221e239ed02645633b94126ca", func := "budwood/budwoodlaw10.ObjectBack", spec := "objectBack", unfollowed := true, recurses := true, apart := false }
def ObjectBackSaid : Prop := objectBackRow.holds Try.pinned (OpenSpec.ofChange objectBackSpec)

/-- ITS FALSE NEIGHBOUR: 'it returns false'. Refute it at one input. -/
def objectBackWrong : ChangeSpec := { name := "objectBack", fn := fun _ => fun
  | [d1, d2] => { results := [.lit (.bool false)], args := [d1, d2] }
  | _ => none }
def ObjectBackWrongFalsely : Prop := objectBackRow.holds Try.pinned (OpenSpec.ofChange objectBackWrong)

/-- 'budwoodlaw10.ObjectBounds': WHATEVER THE INPUT: true; the input reads as it did. -/
def objectBoundsSpec : ChangeSpec := { name := "objectBounds", fn := fun _ => fun
  | [d1, d2] => { results := [.lit (.bool true)], args := [d1, d2] }
  | _ => none }
def objectBoundsRow : OpenClaim := { program := "ytkoimdgpicmakaa", sum := "a39a82345fc47bfe48354a608942ef410b59a80221e239ed02645633b94126ca", func := "budwood/budwoodlaw10.ObjectBounds", spec := "objectBounds", unfollowed := true, recurses := true, apart := false }
def ObjectBoundsSaid : Prop := objectBoundsRow.holds Try.pinned (OpenSpec.ofChange objectBoundsSpec)

/-- ITS FALSE NEIGHBOUR: 'it returns false'. Refute it at one input. -/
def objectBoundsWrong : ChangeSpec := { name := "objectBounds", fn := fun _ => fun
  | [d1, d2] => { results := [.lit (.bool false)], args := [d1, d2] }
  | _ => none }
def ObjectBoundsWrongFalsely : Prop := objectBoundsRow.holds Try.pinned (OpenSpec.ofChange objectBoundsWrong)

/-- 'budwoodlaw10.ObjectApart': WHATEVER THE INPUT: true; the input reads as it did. -/
def objectApartSpec : ChangeSpec := { name := "objectApart", fn := fun _ => fun
  | [d1, d2] => { results := [.lit (.bool true)], args := [d1, d2] }
  | _ => none }
def objectApartRow : OpenClaim := { program := "ytkoimdgpicmakaa", sum := "a39a82345fc47bfe48354a608942ef410b59a80221e239ed02645633b94126ca", func := "budwood/budwoodlaw10.ObjectApart", spec := "objectApart", unfollowed := true, recurses := true, apart := false }
def ObjectApartSaid : Prop := objectApartRow.holds Try.pinned (OpenSpec.ofChange objectApartSpec)

/-- ITS FALSE NEIGHBOUR: 'it returns false'. Refute it at one input. -/
def objectApartWrong : ChangeSpec := { name := "objectApart", fn := fun _ => fun
  | [d1, d2] => { results := [.lit (.bool false)], args := [d1, d2] }
  | _ => none }
def ObjectApartWrongFalsely : Prop := objectApartRow.holds Try.pinned (OpenSpec.ofChange objectApartWrong)

/-- 'budwoodlaw10.ObjectSames': WHATEVER THE INPUT: true; the input reads as it did. -/
def objectSamesSpec : ChangeSpec := { name := "objectSames", fn := fun _ => fun
  | [d1, d2] => { results := [.lit (.bool true)], args := [d1, d2] }
  | _ => none }
def objectSamesRow : OpenClaim := { program := "ytkoimdgpicmakaa", sum := "a39a82345fc47bfe48354a608942ef410b59a80221e239ed02645633b94126ca", func := "budwood/budwoodlaw10.ObjectSames", spec := "objectSames", unfollowed := true, recurses := true, apart := false }
def ObjectSamesSaid : Prop := objectSamesRow.holds Try.pinned (OpenSpec.ofChange objectSamesSpec)

/-- ITS FALSE NEIGHBOUR: 'it returns false'. Refute it at one input. -/
def objectSamesWrong : ChangeSpec := { name := "objectSames", fn := fun _ => fun
  | [d1, d2] => { results := [.lit (.bool false)], args := [d1, d2] }
  | _ => none }
def ObjectSamesWrongFalsely : Prop := objectSamesRow.holds Try.pinned (OpenSpec.ofChange objectSamesWrong)

/- THE SECOND FORM. 'bulk': how many values and letters a reading holds, each counted each time it is reached (what is shared counts as often as it is met; a slice's spare places count too). A statement '..UptoSaid' is the law's where the arguments, and the package variables that the reading takes, are together of bulk at most 1048576: NARROWER than '..Said'. Prove '..Said' where nothing that the law and all that it calls make is longer than what came in: it says more and counts as full. Else prove '..UptoSaid'. A law counts once. -/
mutual
def uptoBulk {H : Type} : DataW H → Nat
  | .lit (.string bytes) => bytes.length + 1
  | .lit _ => 1
  | .nil => 1
  | .ptr d => uptoBulk d + 1
  | .slice elems spare => uptoBulkAll elems + uptoBulkAll spare + 1
  | .agg parts => uptoBulkAll parts + 1
  | .iface _ d => uptoBulk d + 1
  | .map entries => uptoBulkEntries entries + 1
  | .held _ => 1
def uptoBulkAll {H : Type} : List (DataW H) → Nat
  | [] => 0
  | d :: r => uptoBulk d + uptoBulkAll r
def uptoBulkEntries {H : Type} : List (Lit × DataW H) → Nat
  | [] => 0
  | x :: r => uptoBulkEntry x + uptoBulkEntries r
def uptoBulkEntry {H : Type} : Lit × DataW H → Nat
  | (.string bytes, d) => bytes.length + uptoBulk d + 1
  | (_, d) => uptoBulk d + 1
 end
def uptoSmall : (H : Type) → List (DataW H) → Bool := fun _ ds => decide (uptoBulkAll ds ≤ 1048576)
def OpenSpec.upto (s : _root_.Go.ChangeSpec) : _root_.Go.OpenSpec := { _root_.Go.OpenSpec.ofChange s with cond := some uptoSmall }

/-- 'budwoodlaw10.ObjectPuts', WHERE WHAT IT READS IS OF BULK AT MOST 1048576: true; the input reads as it did. -/
def objectPutsUptoRow : OpenClaim := { program := "ytkoimdgpicmakaa", sum := "a39a82345fc47bfe48354a608942ef410b59a80221e239ed02645633b94126ca", func := "budwood/budwoodlaw10.ObjectPuts", spec := "objectPuts", unfollowed := true, recurses := true, apart := false, narrowed := true }
def ObjectPutsUptoSaid : Prop := objectPutsUptoRow.holds Try.pinned (OpenSpec.upto objectPutsSpec)

/-- 'budwoodlaw10.ObjectGets', WHERE WHAT IT READS IS OF BULK AT MOST 1048576: true; the input reads as it did. -/
def objectGetsUptoRow : OpenClaim := { program := "ytkoimdgpicmakaa", sum := "a39a82345fc47bfe48354a608942ef410b59a80221e239ed02645633b94126ca", func := "budwood/budwoodlaw10.ObjectGets", spec := "objectGets", unfollowed := true, recurses := true, apart := false, narrowed := true }
def ObjectGetsUptoSaid : Prop := objectGetsUptoRow.holds Try.pinned (OpenSpec.upto objectGetsSpec)

/-- 'budwoodlaw10.ObjectBack', WHERE WHAT IT READS IS OF BULK AT MOST 1048576: true; the input reads as it did. -/
def objectBackUptoRow : OpenClaim := { program := "ytkoimdgpicmakaa", sum := "a39a82345fc47bfe48354a608942ef410b59a80221e239ed02645633b94126ca", func := "budwood/budwoodlaw10.ObjectBack", spec := "objectBack", unfollowed := true, recurses := true, apart := false, narrowed := true }
def ObjectBackUptoSaid : Prop := objectBackUptoRow.holds Try.pinned (OpenSpec.upto objectBackSpec)

/-- 'budwoodlaw10.ObjectBounds', WHERE WHAT IT READS IS OF BULK AT MOST 1048576: true; the input reads as it did. -/
def objectBoundsUptoRow : OpenClaim := { program := "ytkoimdgpicmakaa", sum := "a39a82345fc47bfe48354a608942ef410b59a80221e239ed02645633b94126ca", func := "budwood/budwoodlaw10.ObjectBounds", spec := "objectBounds", unfollowed := true, recurses := true, apart := false, narrowed := true }
def ObjectBoundsUptoSaid : Prop := objectBoundsUptoRow.holds Try.pinned (OpenSpec.upto objectBoundsSpec)

/-- 'budwoodlaw10.ObjectApart', WHERE WHAT IT READS IS OF BULK AT MOST 1048576: true; the input reads as it did. -/
def objectApartUptoRow : OpenClaim := { program := "ytkoimdgpicmakaa", sum := "a39a82345fc47bfe48354a608942ef410b59a80221e239ed02645633b94126ca", func := "budwood/budwoodlaw10.ObjectApart", spec := "objectApart", unfollowed := true, recurses := true, apart := false, narrowed := true }
def ObjectApartUptoSaid : Prop := objectApartUptoRow.holds Try.pinned (OpenSpec.upto objectApartSpec)

/-- 'budwoodlaw10.ObjectSames', WHERE WHAT IT READS IS OF BULK AT MOST 1048576: true; the input reads as it did. -/
def objectSamesUptoRow : OpenClaim := { program := "ytkoimdgpicmakaa", sum := "a39a82345fc47bfe48354a608942ef410b59a80221e239ed02645633b94126ca", func := "budwood/budwoodlaw10.ObjectSames", spec := "objectSames", unfollowed := true, recurses := true, apart := false, narrowed := true }
def ObjectSamesUptoSaid : Prop := objectSamesUptoRow.holds Try.pinned (OpenSpec.upto objectSamesSpec)

end Rows
end Go.Proofs.Ytkoimdgpicmakaa
