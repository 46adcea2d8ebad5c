import Derived.Test.YtdcikbhfoplkmaaPHx0
-- Written by a program of the prover's (mp.py). Not trusted: Lean checks it.
namespace Go.Proofs.Ytdcikbhfoplkmaa.PH
open Go.RowKit Go.Proofs.YtdcikbhfoplkmaaW.PrintWords Go.Proofs.YtdcikbhfoplkmaaW.PrintLast Go.Proofs.YtdcikbhfoplkmaaW.PrintMore
set_option linter.unusedVariables false
set_option linter.unusedSimpArgs false

theorem eqA100 (d : Nat) (w : World) (x0 y0 : Int) (x1 y1 : Int) (x2 y2 : Int) :
    (Op.equalIn (d + 2) 100 (.agg #[.int .i64 x0, .int .i64 x1, .int .i64 x2]) (.agg #[.int .i64 y0, .int .i64 y1, .int .i64 y2])).run Try.prog w = .ok (x0 == y0 && (x1 == y1 && (x2 == y2))) w := by
  refine eqA_of Try.underlying100 (by kernel_rfl) ?_
  refine eqf_cons (by rfl) (by go_simp; rfl) (by go_simp; rfl) (by go_simp) ?_
  refine eqf_cons (by rfl) (by go_simp; rfl) (by go_simp; rfl) (by go_simp) ?_
  exact eqf_last (by rfl) (by go_simp; rfl) (by go_simp; rfl) (by go_simp)
end Go.Proofs.Ytdcikbhfoplkmaa.PH
