import Derived.Test.YtjiblcncadekcaaQAxPAx0
namespace Go.Proofs.Ytjiblcncadekcaa.PA
open Go.Proofs.Ytjiblcncadekcaa.PL
open Go.RowKit Go.Proofs.YtjiblcncadekcaaW.PrintWords Go.Proofs.YtjiblcncadekcaaW.PrintLast Go.Proofs.YtjiblcncadekcaaW.PrintMore
attribute [local go_sem] max2_int min2_int bl_leq max_two min_two max_three min_three max_four min_four
set_option linter.unusedVariables false
set_option linter.unusedSimpArgs false
theorem eqA68 (d : Nat) (w : World) (x0 y0 : ByteArray) (x1 y1 : ByteArray) :
    (Op.equalIn (d + 2) 68 (.agg #[.string x0, .string x1]) (.agg #[.string y0, .string y1])).run Try.prog w = .ok (x0.toList == y0.toList && (x1.toList == y1.toList)) w := by
  refine eqA_of Try.underlying68 (by kernel_rfl) ?_
  refine eqf_cons (by rfl) (by go_simp; rfl) (by go_simp; rfl) (by go_simp) ?_
  exact eqf_last (by rfl) (by go_simp; rfl) (by go_simp; rfl) (by go_simp)
end Go.Proofs.Ytjiblcncadekcaa.PA

