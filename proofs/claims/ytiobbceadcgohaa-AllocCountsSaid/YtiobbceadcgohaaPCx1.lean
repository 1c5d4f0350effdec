-- The walks of single Go functions, laid by a program (ppx.py over the kit's print.py).
import Derived.Test.YtiobbceadcgohaaY
import Derived.Test.YtiobbceadcgohaaPCx0
namespace Go.Proofs.Ytiobbceadcgohaa.PC
open Go.Proofs.Ytiobbceadcgohaa.Y
open Go.RowKit Go.Proofs.YtiobbceadcgohaaW.PrintWords Go.Proofs.YtiobbceadcgohaaW.PrintLast Go.Proofs.YtiobbceadcgohaaW.PrintMore
attribute [local go_sem] max2_int min2_int max_two min_two max_three min_three max_four min_four   -- for this text's walks alone
set_option linter.unusedVariables false
set_option linter.unusedSimpArgs false

theorem eqA36 (d : Nat) (w : World) (x0 y0 : Int) (x1 y1 : Int) :
    (Op.equalIn (d + 2) 36 (.agg #[.int .i64 x0, .int .i64 x1]) (.agg #[.int .i64 y0, .int .i64 y1])).run Try.prog w = .ok (x0 == y0 && (x1 == y1)) w := by
  have hr : List.range' 0 2 = [0, 1] := rfl
  have e : ∀ (x y : Int) (w : World), (Op.equalIn (d + 1) 3 (.int .i64 x) (.int .i64 y)).run Try.prog w = .ok (x == y) w := by
    intro x y w
    unfold Op.equalIn
    go_simp
  unfold Op.equalIn
  go_simp
  by_cases h0 : x0 = y0 <;> by_cases h1 : x1 = y1 <;> simp [h0, h1]
end Go.Proofs.Ytiobbceadcgohaa.PC
