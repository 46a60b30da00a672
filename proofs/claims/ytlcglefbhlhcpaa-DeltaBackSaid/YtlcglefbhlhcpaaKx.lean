/- Bytes that come in. -/
import Derived.Test.YtlcglefbhlhcpaaKr
import Derived.Test.YtlcglefbhlhcpaaDeP
import Derived.Lib.SmallJoins
namespace Go.Proofs.Ytlcglefbhlhcpaa.K
open Go.RowKit Go.ChangeShapes Go.WideShapes Go.Deep Go.Joins
set_option linter.unusedVariables false
set_option maxRecDepth 100000
section
variable {H : Type} {enc : TypeId × Value → H} {w : World} {base : Nat} {spare : Nat → Bool} {held : Bool}
def u8c (x : Nat) : List Value := [.int .u8 (x : Int)]
theorem flat_u8c (l : List Nat) : l.flatMap u8c = u8s l := by
  induction l with
  | nil => rfl
  | cons x l ih => rw [List.flatMap_cons, ih]; rfl
/-- A byte that came in. -/
theorem read_u8 (fuel : Nat) (cs : List Value) (x : DataW H × List MemPlace) (hl : cs.length = 1) (h : DataW.trod enc Try.prog w base spare held fuel 5 cs = some x) (_ : ∀ n ∈ x.1.weights Try.prog 5, n ≤ reachBytes) : ∃ n : Nat, cs = u8c n ∧ n < 256 := by
  obtain ⟨n, h1, _, h2⟩ := DataW.trod_int Try.underlying5 h
  have h4 : IntKind.u8.min ≤ n ∧ n ≤ IntKind.u8.max := by simpa [Lit.wf] using h2
  have h3 : 0 ≤ n ∧ n ≤ 255 := h4
  exact ⟨n.toNat, by rw [h1]; show _ = [Value.int .u8 ((n.toNat : Nat) : Int)]; rw [Int.toNat_of_nonneg h3.1], by omega⟩
end
end Go.Proofs.Ytlcglefbhlhcpaa.K
