/- What every right program lays and reads, in the form in which the printed walks call it. -/
import Derived.Test.YtglcbaellbhogaaAwake
namespace Go.Proofs.Ytglcbaellbhogaa.X
open Go.RowKit
def budwoodlaw03_awake.f : Option Bool := some true
theorem budwoodlaw03_awake.calls (r : Bool) (w : World) (h : budwoodlaw03_awake.f = some r) : Calls Try.prog 10 #[] w fun e w' => e = .returned (.bool r) ∧ Below w.heap.size w w' := by
  obtain rfl := Option.some.inj h
  exact Awake.awake_calls w
end Go.Proofs.Ytglcbaellbhogaa.X
