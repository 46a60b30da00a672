/- A state: plain. -/
import Derived.Test.YtlcglefbhlhcpaaKj
namespace Go.Proofs.Ytlcglefbhlhcpaa.K
open Go.RowKit
set_option linter.unusedVariables false
/-- A state of a walk. -/
structure Sta where
  (kind node phase pos start depth org : Int) (caps : List Int)
  deriving DecidableEq
def Sta.nums (s : Sta) : List Int := [s.kind, s.node, s.phase, s.pos, s.start, s.depth, s.org]
theorem Sta.ext_iff' (s t : Sta) : s = t ↔ s.nums = t.nums ∧ s.caps = t.caps := by
  cases s; cases t; simp [Sta.nums, and_assoc]
def Sta.val (s : Sta) (A : Option Addr) (c : Nat) : Value := .agg #[.int .i64 s.kind, .int .i64 s.node, .int .i64 s.phase, .int .i64 s.pos, .int .i64 s.start, .int .i64 s.depth, .int .i64 s.org, .slice A s.caps.length c]
def Sta.blank (n : Nat) : Sta := ⟨0, 0, 0, 0, 0, 0, -1, List.replicate n (-1)⟩
theorem ints_rep (i : Nat) (x : Int) : ints (List.replicate i x) ++ [.int .i64 x] = ints (List.replicate (i + 1) x) := by
  rw [ints_snoc, List.replicate_succ']
theorem list_eq_of {l m : List Int} (hn : l.length = m.length) {i : Nat} (hi : l.length ≤ i) (h : ∀ j, j < i → l[j]? = m[j]?) : l = m := by
  apply List.ext_getElem?
  intro j
  by_cases hj : j < i
  · exact h j hj
  · rw [List.getElem?_eq_none (by omega), List.getElem?_eq_none (by omega)]
theorem ints_one (l : List Int) : ∀ u ∈ ints l, u.oneCell' = true := by
  intro u hu
  simp only [ints, List.mem_map] at hu
  obtain ⟨x, _, rfl⟩ := hu
  rfl
theorem eq_step {l m : List Int} {i : Nat} (h : ∀ j, j < i → l[j]? = m[j]?) (e : l[i]? = m[i]?) : ∀ j, j < i + 1 → l[j]? = m[j]? := by
  intro j hj
  by_cases hji : j = i
  · subst hji; exact e
  · exact h j (by omega)
theorem run_eq91s (x y : Operand) (s t : Sta) (w : World) : (do eqGuard .eql 91 x y (.agg #[.int .i64 s.kind, .int .i64 s.node, .int .i64 s.phase, .int .i64 s.pos, .int .i64 s.start, .int .i64 s.depth, .int .i64 s.org]) (.agg #[.int .i64 t.kind, .int .i64 t.node, .int .i64 t.phase, .int .i64 t.pos, .int .i64 t.start, .int .i64 t.depth, .int .i64 t.org]); binOp .eql 91 (.agg #[.int .i64 s.kind, .int .i64 s.node, .int .i64 s.phase, .int .i64 s.pos, .int .i64 s.start, .int .i64 s.depth, .int .i64 s.org]) (.agg #[.int .i64 t.kind, .int .i64 t.node, .int .i64 t.phase, .int .i64 t.pos, .int .i64 t.start, .int .i64 t.depth, .int .i64 t.org]) : Sem Value).run Try.prog w = .ok (.bool (decide (s.nums = t.nums))) w :=
  run_eq91 x y s.nums t.nums rfl rfl w
end Go.Proofs.Ytlcglefbhlhcpaa.K
