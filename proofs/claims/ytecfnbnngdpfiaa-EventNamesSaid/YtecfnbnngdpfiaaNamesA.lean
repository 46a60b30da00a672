/- A row of the number -1, read. -/
import Derived.Test.YtecfnbnngdpfiaaNamesx1
import Derived.LoopTactic
namespace Go.Proofs.Ytecfnbnngdpfiaa.PEventNames
open Go.RowKit Go.Proofs.YtecfnbnngdpfiaaW.PrintWords Go.Proofs.YtecfnbnngdpfiaaW.PrintLast Go.Proofs.YtecfnbnngdpfiaaW.PrintMore
attribute [local go_sem] max2_int min2_int max_two min_two max_three min_three max_four min_four
set_option linter.unusedVariables false
set_option linter.unusedSimpArgs false
theorem rd_rep {n j : Nat} (h : j < n) : rd (List.replicate n (-1)) (j : Int) = -1 := by
  unfold rd
  rw [Int.toNat_natCast, List.getD_eq_getElem?_getD, List.getElem?_replicate, if_pos h]
  rfl
end Go.Proofs.Ytecfnbnngdpfiaa.PEventNames
