import Derived.Test.YtodikgjanhihhaaSUxPAx0
namespace Go.Proofs.Ytodikgjanhihhaa.PA
open Go.Proofs.Ytodikgjanhihhaa.PL
open Go.RowKit Go.Proofs.YtodikgjanhihhaaW.PrintWords Go.Proofs.YtodikgjanhihhaaW.PrintLast Go.Proofs.YtodikgjanhihhaaW.PrintMore
attribute [local go_sem] max2_int min2_int max_two min_two max_three min_three max_four min_four
set_option linter.unusedVariables false
set_option linter.unusedSimpArgs false
def armoireref04_Check.j0 : Nat → Bool → Int → Int → ByteArray → Option (Int)
  | 0, _, _, _, _ => none
  | k + 1, x10, x178000, x178001, x178002 => if x10 = true then (some 18) else (if (x178002.size : Int) > 44 then (some 3) else (some 0))
def armoireref04_Check.f (k : Nat) (a0_0 : Int) (a0_1 : Int) (a0_2 : ByteArray) : Option (Int) := if a0_0 < 1 then (armoireref04_Check.j0 k true a0_0 a0_1 a0_2) else (armoireref04_Check.j0 k (decide (a0_0 > 1099511627776)) a0_0 a0_1 a0_2)
end Go.Proofs.Ytodikgjanhihhaa.PA

