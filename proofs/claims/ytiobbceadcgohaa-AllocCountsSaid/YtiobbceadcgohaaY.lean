/- Longest, Free and Runs of a row, and what every right program finds, in the form in which the printed walks call them. -/
import Derived.Test.YtiobbceadcgohaaPCx0
import Derived.Test.YtiobbceadcgohaaPBx1
import Derived.Test.YtiobbceadcgohaaCollect
namespace Go.Proofs.Ytiobbceadcgohaa.Y
open Go.RowKit Go.Proofs.YtiobbceadcgohaaW.PrintWords Go.Proofs.YtiobbceadcgohaaW.PrintLast Go.Proofs.YtiobbceadcgohaaW.PrintMore
open Go.Proofs.Ytiobbceadcgohaa.Pure Go.Proofs.Ytiobbceadcgohaa.Runs Go.Proofs.Ytiobbceadcgohaa.Callers Go.Proofs.Ytiobbceadcgohaa.PC
set_option linter.unusedVariables false
set_option linter.unusedSimpArgs false
def budwoodlaw07_awake.f : Option Bool := PB.budwoodlaw07_awake.f
theorem budwoodlaw07_awake.calls (r : Bool) (w : World) (h : budwoodlaw07_awake.f = some r) : Calls Try.prog 9 #[] w fun e w' => e = .returned (.bool r) ∧ Below w.heap.size w w' := PB.budwoodlaw07_awake.calls r w h
def alloc_Longest.f := X.alloc_Longest.f
theorem alloc_Longest.calls (A0 : Option Addr) (c0 : Nat) (l0 : List Bool) (r : Int) (w : World) (hr0 : Kd.C Kd.bool w A0 l0.length l0) (hc0 : l0.length ≤ c0) (h : alloc_Longest.f l0 = some r) :
    Calls Try.prog 13 #[.slice A0 l0.length c0] w fun e w' => e = .returned (.int .i64 r) ∧ Below w.heap.size w w' := X.alloc_Longest.calls A0 c0 l0 r w hr0 hc0 h
def alloc_Free.f := X.alloc_Free.f
theorem alloc_Free.calls (A0 : Option Addr) (c0 : Nat) (l0 : List Bool) (r : Int) (w : World) (hr0 : Kd.C Kd.bool w A0 l0.length l0) (hc0 : l0.length ≤ c0) (h : alloc_Free.f l0 = some r) :
    Calls Try.prog 14 #[.slice A0 l0.length c0] w fun e w' => e = .returned (.int .i64 r) ∧ Below w.heap.size w w' := X.alloc_Free.calls A0 c0 l0 r w hr0 hc0 h
def s36 (xs : List (Nat × Nat)) : List S36 := xs.map fun x => ⟨(x.1 : Int), (x.2 : Int)⟩
theorem reps36 (w : World) (base : Nat) (ok : Nat → Prop) (xs : List (Nat × Nat)) : Reps (k36.M w base ok) 2 (s36 xs) (cells2 xs) := by
  refine ⟨?_, fun j p hj => ?_⟩
  · simp [s36, cells2, List.length_flatMap]
    induction xs with
    | nil => rfl
    | cons x xs ih => simp; omega
  · induction xs generalizing j with
    | nil => simp [s36] at hj
    | cons x xs ih =>
      cases j with
      | zero =>
        simp [s36] at hj
        subst hj
        simp only [cells2, List.flatMap_cons, Nat.zero_mul, List.drop_zero]
        exact k36_mkM w base ok ⟨(x.1 : Int), (x.2 : Int)⟩
      | succ j =>
        have := ih j (by simpa [s36] using hj)
        rw [show (j + 1) * 2 = j * 2 + 2 from by omega]
        simpa [cells2] using this
def alloc_Runs.f (l0 : List Bool) : Option (List S36) := if l0.length ≤ 1000000 then some (s36 (runsL l0)) else none
theorem alloc_Runs.calls (A0 : Option Addr) (c0 : Nat) (l0 : List Bool) (r : List S36) (w : World) (hr0 : Kd.C Kd.bool w A0 l0.length l0) (hc0 : l0.length ≤ c0) (h : alloc_Runs.f l0 = some r) :
    Calls Try.prog 15 #[.slice A0 l0.length c0] w fun e w' => ∃ v0_ : Value, e = .returned (v0_) ∧ Kd.R k36 36 w' w.heap.size (fun _ => True) v0_ r ∧ Below w.heap.size w w' := by
  unfold alloc_Runs.f at h
  by_cases hl : l0.length ≤ 1000000
  · rw [if_pos hl] at h
    obtain rfl := Option.some.inj h
    refine (callsIn_wide.1 (collect_in Fence.wide 3 trivial trivial trivial rfl (Nat.le_refl _) A0 l0.length c0 l0 hl w (X.bools_of_C hr0))).mono ?_
    rintro e w' ⟨v, rfl, hrow, hB⟩
    refine ⟨v, rfl, ⟨fun _ _ => trivial, cells2 (runsL l0), ?_, reps36 _ _ _ _⟩, hB⟩
    have e : (s36 (runsL l0)).length = (runsL l0).length := by simp [s36]
    rw [e]; exact hrow
  · rw [if_neg hl] at h; cases h
end Go.Proofs.Ytiobbceadcgohaa.Y
