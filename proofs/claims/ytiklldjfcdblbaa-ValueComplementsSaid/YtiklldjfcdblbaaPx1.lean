/- What Go functions of the given program return, told as Lean functions, and the walks that show it; written by a program of this session (the print of the kit, turned). Conditions: the hypotheses that stand at each theorem. -/
import Derived.Test.YtiklldjfcdblbaaPx0
namespace Go.Proofs.Ytiklldjfcdblbaa.P
open Go.RowKit Go.Proofs.YtiklldjfcdblbaaW.PrintWords Go.Proofs.YtiklldjfcdblbaaW.PrintLast Go.Proofs.YtiklldjfcdblbaaW.PrintMore
attribute [local go_sem] max2_int min2_int max_two min_two max_three min_three max_four min_four Go.Proofs.YtiklldjfcdblbaaQ.str_gtr Go.Proofs.YtiklldjfcdblbaaQ.str_leq Go.Proofs.YtiklldjfcdblbaaQ.str_geq   -- for this text's walks alone
set_option linter.unusedVariables false
set_option linter.unusedSimpArgs false

theorem eqA23 (d : Nat) (w : World) (x0 y0 : Int) (x1 y1 : Int) (x2 y2 : ByteArray) :
    (Op.equalIn (d + 2) 23 (.agg #[.int .i64 x0, .int .i64 x1, .string x2]) (.agg #[.int .i64 y0, .int .i64 y1, .string y2])).run Try.prog w = .ok (x0 == y0 && (x1 == y1 && (x2.toList == y2.toList))) w := by
  refine eqA_of Try.underlying23 (by kernel_rfl) ?_
  refine eqf_cons (by rfl) (by go_simp; rfl) (by go_simp; rfl) (by go_simp) ?_
  refine eqf_cons (by rfl) (by go_simp; rfl) (by go_simp; rfl) (by go_simp) ?_
  exact eqf_last (by rfl) (by go_simp; rfl) (by go_simp; rfl) (by go_simp)
end Go.Proofs.Ytiklldjfcdblbaa.P
