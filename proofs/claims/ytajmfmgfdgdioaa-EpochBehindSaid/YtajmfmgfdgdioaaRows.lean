/-
  No cell of these rows narrows 'for every input' (looked for: loops, veiled, ifaces, maps, wideKeys, modest, calm, conditions, laid).
  DERIVED. THE GIVEN ROWS OF THIS SEAT. 5 by the template 'for every input the law returns true; each argument reads behind the call as it read before'; 0 by the template 'total and deterministic' (their statements: YtajmfmgfdgdioaaTotals.lean).
  GIVEN WITH THE SEED: the statements are not yours to turn. If you find one false, say at which input.
  Laid BY PROGRAM, IN A SANDBOX (cutbox-rows.mjs): the forced cells as the released guide's own fill.sh prints them over the translation 26d51256bde7b56b… (all of the seat's roots in one cut). By AI agents, Wed Nov 11 2026. No macro, syntax, notation, axiom, sorry.
-/
import Derived.Test.YtajmfmgfdgdioaaChecked
import GoSem.Claim
import GoSem.ClaimJoined
import GoSem.ClaimMapViews
import Derived.JoinedTies
import Derived.KernelRfl
namespace Go.Proofs.Ytajmfmgfdgdioaa
/- THE CELL 'sum', in the pinned program and in every row, IS THE sha256 OF THE DUMP (.gsa) THAT YtajmfmgfdgdioaaProg.lean LOADS. Nothing in Lean hashes anything: it is a label: what it is worth is what the hold of that sum in a sandbox is worth. -/
noncomputable def Try.pinned : Pinned := { name := "ytajmfmgfdgdioaa", sum := "26d51256bde7b56b17fb2cb373ac598b3de92107577adc81c0d120fc5055e8c7", checked := Try.checked }
namespace Rows
def none {H : Type} : Left H := { results := [], args := [] }

/-- 'budwoodlaw17.EpochLeasts': WHATEVER THE INPUT: true; the input reads as it did. -/
def epochLeastsSpec : ChangeSpec := { name := "epochLeasts", fn := fun _ => fun
  | [d1, d2] => { results := [.lit (.bool true)], args := [d1, d2] }
  | _ => none }
def epochLeastsRow : OpenClaim := { program := "ytajmfmgfdgdioaa", sum := "26d51256bde7b56b17fb2cb373ac598b3de92107577adc81c0d120fc5055e8c7", func := "budwood/budwoodlaw17.EpochLeasts", spec := "epochLeasts", unfollowed := true, recurses := true, apart := false }
def EpochLeastsSaid : Prop := epochLeastsRow.holds Try.pinned (OpenSpec.ofChange epochLeastsSpec)

/-- ITS FALSE NEIGHBOUR: 'it returns false'. Refute it at one input. -/
def epochLeastsWrong : ChangeSpec := { name := "epochLeasts", fn := fun _ => fun
  | [d1, d2] => { results := [.lit (.bool false)], args := [d1, d2] }
  | _ => none }
def EpochLeastsWrongFalsely : Prop := epochLeastsRow.holds Try.pinned (OpenSpec.ofChange epochLeastsWrong)

/-- 'budwoodlaw17.EpochPlays': WHATEVER THE INPUT: true; the input reads as it did. -/
def epochPlaysSpec : ChangeSpec := { name := "epochPlays", fn := fun _ => fun
  | [d] => { results := [.lit (.bool true)], args := [d] }
  | _ => none }
def epochPlaysRow : OpenClaim := { program := "ytajmfmgfdgdioaa", sum := "26d51256bde7b56b17fb2cb373ac598b3de92107577adc81c0d120fc5055e8c7", func := "budwood/budwoodlaw17.EpochPlays", spec := "epochPlays", unfollowed := true, recurses := true, apart := false }
def EpochPlaysSaid : Prop := epochPlaysRow.holds Try.pinned (OpenSpec.ofChange epochPlaysSpec)

/-- ITS FALSE NEIGHBOUR: 'it returns false'. Refute it at one input. -/
def epochPlaysWrong : ChangeSpec := { name := "epochPlays", fn := fun _ => fun
  | [d] => { results := [.lit (.bool false)], args := [d] }
  | _ => none }
def EpochPlaysWrongFalsely : Prop := epochPlaysRow.holds Try.pinned (OpenSpec.ofChange epochPlaysWrong)

/-- 'budwoodlaw17.EpochBehind': WHATEVER THE INPUT: true; the input reads as it did. -/
def epochBehindSpec : ChangeSpec := { name := "epochBehind", fn := fun _ => fun
  | [d1, d2] => { results := [.lit (.bool true)], args := [d1, d2] }
  | _ => none }
def epochBehindRow : OpenClaim := { program := "ytajmfmgfdgdioaa", sum := "26d51256bde7b56b17fb2cb373ac598b3de92107577adc81c0d120fc5055e8c7", func := "budwood/budwoodlaw17.EpochBehind", spec := "epochBehind", unfollowed := true, recurses := true, apart := false }
def EpochBehindSaid : Prop := epochBehindRow.holds Try.pinned (OpenSpec.ofChange epochBehindSpec)

/-- ITS FALSE NEIGHBOUR: 'it returns false'. Refute it at one input. -/
def epochBehindWrong : ChangeSpec := { name := "epochBehind", fn := fun _ => fun
  | [d1, d2] => { results := [.lit (.bool false)], args := [d1, d2] }
  | _ => none }
def EpochBehindWrongFalsely : Prop := epochBehindRow.holds Try.pinned (OpenSpec.ofChange epochBehindWrong)

/-- 'budwoodlaw17.EpochTurns': WHATEVER THE INPUT: true; the input reads as it did. -/
def epochTurnsSpec : ChangeSpec := { name := "epochTurns", fn := fun _ => fun
  | [d] => { results := [.lit (.bool true)], args := [d] }
  | _ => none }
def epochTurnsRow : OpenClaim := { program := "ytajmfmgfdgdioaa", sum := "26d51256bde7b56b17fb2cb373ac598b3de92107577adc81c0d120fc5055e8c7", func := "budwood/budwoodlaw17.EpochTurns", spec := "epochTurns", unfollowed := true, recurses := true, apart := false }
def EpochTurnsSaid : Prop := epochTurnsRow.holds Try.pinned (OpenSpec.ofChange epochTurnsSpec)

/-- ITS FALSE NEIGHBOUR: 'it returns false'. Refute it at one input. -/
def epochTurnsWrong : ChangeSpec := { name := "epochTurns", fn := fun _ => fun
  | [d] => { results := [.lit (.bool false)], args := [d] }
  | _ => none }
def EpochTurnsWrongFalsely : Prop := epochTurnsRow.holds Try.pinned (OpenSpec.ofChange epochTurnsWrong)

/-- 'budwoodlaw17.EpochForks': WHATEVER THE INPUT: true; the input reads as it did. -/
def epochForksSpec : ChangeSpec := { name := "epochForks", fn := fun _ => fun
  | [d1, d2] => { results := [.lit (.bool true)], args := [d1, d2] }
  | _ => none }
def epochForksRow : OpenClaim := { program := "ytajmfmgfdgdioaa", sum := "26d51256bde7b56b17fb2cb373ac598b3de92107577adc81c0d120fc5055e8c7", func := "budwood/budwoodlaw17.EpochForks", spec := "epochForks", unfollowed := true, recurses := true, apart := false }
def EpochForksSaid : Prop := epochForksRow.holds Try.pinned (OpenSpec.ofChange epochForksSpec)

/-- ITS FALSE NEIGHBOUR: 'it returns false'. Refute it at one input. -/
def epochForksWrong : ChangeSpec := { name := "epochForks", fn := fun _ => fun
  | [d1, d2] => { results := [.lit (.bool false)], args := [d1, d2] }
  | _ => none }
def EpochForksWrongFalsely : Prop := epochForksRow.holds Try.pinned (OpenSpec.ofChange epochForksWrong)

/- THE SECOND FORM. 'bulk': how many values and letters a reading holds, each counted each time it is reached (what is shared counts as often as it is met; a slice's spare places count too). A statement '..UptoSaid' is the law's where the arguments, and the package variables that the reading takes, are together of bulk at most 1048576: NARROWER than '..Said'. Prove '..Said' where nothing that the law and all that it calls make is longer than what came in: it says more and counts as full. Else prove '..UptoSaid'. A law counts once. -/
mutual
def uptoBulk {H : Type} : DataW H → Nat
  | .lit (.string bytes) => bytes.length + 1
  | .lit _ => 1
  | .nil => 1
  | .ptr d => uptoBulk d + 1
  | .slice elems spare => uptoBulkAll elems + uptoBulkAll spare + 1
  | .agg parts => uptoBulkAll parts + 1
  | .iface _ d => uptoBulk d + 1
  | .map entries => uptoBulkEntries entries + 1
  | .held _ => 1
def uptoBulkAll {H : Type} : List (DataW H) → Nat
  | [] => 0
  | d :: r => uptoBulk d + uptoBulkAll r
def uptoBulkEntries {H : Type} : List (Lit × DataW H) → Nat
  | [] => 0
  | x :: r => uptoBulkEntry x + uptoBulkEntries r
def uptoBulkEntry {H : Type} : Lit × DataW H → Nat
  | (.string bytes, d) => bytes.length + uptoBulk d + 1
  | (_, d) => uptoBulk d + 1
 end
def uptoSmall : (H : Type) → List (DataW H) → Bool := fun _ ds => decide (uptoBulkAll ds ≤ 1048576)
def OpenSpec.upto (s : _root_.Go.ChangeSpec) : _root_.Go.OpenSpec := { _root_.Go.OpenSpec.ofChange s with cond := some uptoSmall }

/-- 'budwoodlaw17.EpochLeasts', WHERE WHAT IT READS IS OF BULK AT MOST 1048576: true; the input reads as it did. -/
def epochLeastsUptoRow : OpenClaim := { program := "ytajmfmgfdgdioaa", sum := "26d51256bde7b56b17fb2cb373ac598b3de92107577adc81c0d120fc5055e8c7", func := "budwood/budwoodlaw17.EpochLeasts", spec := "epochLeasts", unfollowed := true, recurses := true, apart := false, narrowed := true }
def EpochLeastsUptoSaid : Prop := epochLeastsUptoRow.holds Try.pinned (OpenSpec.upto epochLeastsSpec)

/-- 'budwoodlaw17.EpochPlays', WHERE WHAT IT READS IS OF BULK AT MOST 1048576: true; the input reads as it did. -/
def epochPlaysUptoRow : OpenClaim := { program := "ytajmfmgfdgdioaa", sum := "26d51256bde7b56b17fb2cb373ac598b3de92107577adc81c0d120fc5055e8c7", func := "budwood/budwoodlaw17.EpochPlays", spec := "epochPlays", unfollowed := true, recurses := true, apart := false, narrowed := true }
def EpochPlaysUptoSaid : Prop := epochPlaysUptoRow.holds Try.pinned (OpenSpec.upto epochPlaysSpec)

/-- 'budwoodlaw17.EpochBehind', WHERE WHAT IT READS IS OF BULK AT MOST 1048576: true; the input reads as it did. -/
def epochBehindUptoRow : OpenClaim := { program := "ytajmfmgfdgdioaa", sum := "26d51256bde7b56b17fb2cb373ac598b3de92107577adc81c0d120fc5055e8c7", func := "budwood/budwoodlaw17.EpochBehind", spec := "epochBehind", unfollowed := true, recurses := true, apart := false, narrowed := true }
def EpochBehindUptoSaid : Prop := epochBehindUptoRow.holds Try.pinned (OpenSpec.upto epochBehindSpec)

/-- 'budwoodlaw17.EpochTurns', WHERE WHAT IT READS IS OF BULK AT MOST 1048576: true; the input reads as it did. -/
def epochTurnsUptoRow : OpenClaim := { program := "ytajmfmgfdgdioaa", sum := "26d51256bde7b56b17fb2cb373ac598b3de92107577adc81c0d120fc5055e8c7", func := "budwood/budwoodlaw17.EpochTurns", spec := "epochTurns", unfollowed := true, recurses := true, apart := false, narrowed := true }
def EpochTurnsUptoSaid : Prop := epochTurnsUptoRow.holds Try.pinned (OpenSpec.upto epochTurnsSpec)

/-- 'budwoodlaw17.EpochForks', WHERE WHAT IT READS IS OF BULK AT MOST 1048576: true; the input reads as it did. -/
def epochForksUptoRow : OpenClaim := { program := "ytajmfmgfdgdioaa", sum := "26d51256bde7b56b17fb2cb373ac598b3de92107577adc81c0d120fc5055e8c7", func := "budwood/budwoodlaw17.EpochForks", spec := "epochForks", unfollowed := true, recurses := true, apart := false, narrowed := true }
def EpochForksUptoSaid : Prop := epochForksUptoRow.holds Try.pinned (OpenSpec.upto epochForksSpec)

end Rows
end Go.Proofs.Ytajmfmgfdgdioaa
