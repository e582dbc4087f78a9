-- Written by a patched print (wip/mkprint.py), for this claim.
import Derived.Test.YtclkdnpfiolahaaDoorPEventPutsx0
namespace Go.Proofs.YtclkdnpfiolahaaDoor.PEventPuts
open Go.RowKit Go.Proofs.YtclkdnpfiolahaaDoorW.PrintWords Go.Proofs.YtclkdnpfiolahaaDoorW.PrintLast Go.Proofs.YtclkdnpfiolahaaDoorW.PrintMore
attribute [local go_sem] max2_int min2_int max_two min_two max_three min_three max_four min_four   -- for this text's walks alone
set_option linter.unusedVariables false
set_option linter.unusedSimpArgs false

theorem eqA44 (d : Nat) (w : World) (x0 y0 : Int) (x1 y1 : Bool) (x2 y2 : Int) :
    (Op.equalIn (d + 2) 44 (.agg #[.int .i64 x0, .bool x1, .int .i64 x2]) (.agg #[.int .i64 y0, .bool y1, .int .i64 y2])).run Tryd.prog w = .ok (x0 == y0 && (x1 == y1 && (x2 == y2))) w := by
  refine eqA_of Tryd.underlying44 (by kernel_rfl) ?_
  refine eqf_cons (by rfl) (by go_simp; rfl) (by go_simp; rfl) (by go_simp) ?_
  refine eqf_cons (by rfl) (by go_simp; rfl) (by go_simp; rfl) (by go_simp) ?_
  exact eqf_last (by rfl) (by go_simp; rfl) (by go_simp; rfl) (by go_simp)
end Go.Proofs.YtclkdnpfiolahaaDoor.PEventPuts
