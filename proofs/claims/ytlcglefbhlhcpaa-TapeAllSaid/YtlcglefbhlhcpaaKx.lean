/- Bytes that come in. -/
import Derived.Test.YtlcglefbhlhcpaaKr
import Derived.Test.YtlcglefbhlhcpaaDeP
import Derived.Lib.SmallJoins
namespace Go.Proofs.Ytlcglefbhlhcpaa.K
open Go.RowKit Go.ChangeShapes Go.WideShapes Go.Deep Go.Joins
set_option linter.unusedVariables false
set_option maxRecDepth 100000
section
variable {H : Type} {enc : TypeId × Value → H} {w : World} {base : Nat} {spare : Nat → Bool} {held : Bool}
def u8c (x : Nat) : List Value := [.int .u8 (x : Int)]
theorem flat_u8c (l : List Nat) : l.flatMap u8c = u8s l := by
  induction l with
  | nil => rfl
  | cons x l ih => rw [List.flatMap_cons, ih]; rfl
/-- A byte that came in. -/
theorem read_u8 (fuel : Nat) (cs : List Value) (x : DataW H × List MemPlace) (hl : cs.length = 1) (h : DataW.trod enc Try.prog w base spare held fuel 5 cs = some x) (_ : ∀ n ∈ x.1.weights Try.prog 5, n ≤ reachBytes) : ∃ n : Nat, cs = u8c n ∧ n < 256 := by
  obtain ⟨n, h1, _, h2⟩ := DataW.trod_int Try.underlying5 h
  have h4 : IntKind.u8.min ≤ n ∧ n ≤ IntKind.u8.max := by simpa [Lit.wf] using h2
  have h3 : 0 ≤ n ∧ n ≤ 255 := h4
  exact ⟨n.toNat, by rw [h1]; show _ = [Value.int .u8 ((n.toNat : Nat) : Int)]; rw [Int.toNat_of_nonneg h3.1], by omega⟩
end
theorem len3 {cs : List Value} {a b c : Value} (hl : cs.length = 3) (h0 : cs[0]? = some a) (h1 : cs[1]? = some b) (h2 : cs[2]? = some c) : cs = [a, b, c] := by
  match cs, hl with
  | [x0, x1, x2], _ => simp at h0 h1 h2; simp [*]
/-- A shape that came in. -/
theorem arg_shape {H : Type} {enc : TypeId × Value → H} {w : World} {base : Nat} {spare : Nat → Bool} {held : Bool} {r : Reach} {b0 : Nat} {v : Value} {d : DataW H} {p : List MemPlace} (hv : Value.okWide Try.prog w r b0 102 v) (h : DataW.Trod enc Try.prog w base spare held 102 v d p) :
    ∃ a b c : Int, v = .agg #[.int .i64 a, .int .i64 b, .int .i64 c] := by
  obtain ⟨cs, rfl, hsz⟩ := okWide_struct Try.underlying102 hv
  obtain ⟨fuel, hh⟩ := h
  have hC : Try.prog.cellsOf 102 = 3 := by kernel_rfl
  have hl : cs.toList.length = 3 := by simp only [Array.length_toList]; rw [hsz, hC]
  obtain ⟨xs, n, _, _, _, hxl, hf⟩ := DataW.trod_struct Try.underlying102 hh
  have get : ∀ i, i < 3 → ∃ y, xs[i]? = some y := fun i hi => ⟨_, List.getElem?_eq_getElem (by rw [hxl]; exact hi)⟩
  obtain ⟨y0, q0⟩ := get 0 (by decide); obtain ⟨y1, q1⟩ := get 1 (by decide); obtain ⟨y2, q2⟩ := get 2 (by decide)
  obtain ⟨n0, r0, _⟩ := read_int Try.underlying3 c3 ((hf 0 _ rfl).trans q0)
  obtain ⟨n1, r1, _⟩ := read_int Try.underlying3 c3 ((hf 1 _ rfl).trans q1)
  obtain ⟨n2, r2, _⟩ := read_int Try.underlying3 c3 ((hf 2 _ rfl).trans q2)
  refine ⟨n0, n1, n2, ?_⟩
  have h3 := len3 hl r0 r1 r2
  have : cs = (#[.int .i64 n0, .int .i64 n1, .int .i64 n2] : Array Value) := by
    rw [← Array.toArray_toList (xs := cs)]
    have h4 : cs.toList = [.int .i64 n0, .int .i64 n1, .int .i64 n2] := h3
    rw [h4]
  rw [this]
end Go.Proofs.Ytlcglefbhlhcpaa.K
