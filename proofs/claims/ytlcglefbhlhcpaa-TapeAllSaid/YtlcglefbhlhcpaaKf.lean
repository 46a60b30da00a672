/- How lists lie in memory. -/
import Derived.Test.YtlcglefbhlhcpaaKe
namespace Go.Proofs.Ytlcglefbhlhcpaa.K
open Go.RowKit
def ints (l : List Int) : List Value := l.map (.int .i64)
theorem ints_len (l : List Int) : (ints l).length = l.length := by simp [ints]
theorem ints_get (l : List Int) {i : Nat} (h : i < l.length) : (ints l)[i]? = some (.int .i64 (l[i])) := by simp [ints, h]
theorem ints_snoc (l : List Int) (x : Int) : ints l ++ [.int .i64 x] = ints (l ++ [x]) := by simp [ints]
theorem ints_take (l : List Int) (n : Nat) : (ints l).take n = ints (l.take n) := by simp [ints]
/-- An entry of a pile. -/
structure Ent where
  (bar : Bool) (pc pos mark org val : Int)
  deriving DecidableEq
def Ent.cells (e : Ent) : List Value := [.bool e.bar, .int .i64 e.pc, .int .i64 e.pos, .int .i64 e.mark, .int .i64 e.org, .int .i64 e.val]
def Ent.none : Ent := ⟨false, 0, 0, 0, 0, 0⟩
def ents (l : List Ent) : List Value := l.flatMap Ent.cells
theorem flat_len {α : Type} (f : α → List Value) (k : Nat) (hf : ∀ x, (f x).length = k) : ∀ l : List α, (l.flatMap f).length = l.length * k
  | [] => by simp
  | x :: l => by rw [List.flatMap_cons, List.length_append, hf, flat_len f k hf l, List.length_cons, Nat.succ_mul]; omega
theorem flat_get {α : Type} (f : α → List Value) (k : Nat) (hf : ∀ x, (f x).length = k) : ∀ (l : List α) (i j : Nat) (h : i < l.length), j < k → (l.flatMap f)[i * k + j]? = (f (l[i]))[j]?
  | [], i, j, h, _ => by simp at h
  | x :: l, 0, j, _, hj => by
    rw [List.flatMap_cons, List.getElem?_append_left (by rw [hf]; omega)]
    simp
  | x :: l, i + 1, j, h, hj => by
    have e : (i + 1) * k + j - (f x).length = i * k + j := by rw [hf, Nat.succ_mul]; omega
    rw [List.flatMap_cons, List.getElem?_append_right (by rw [hf, Nat.succ_mul]; omega), e, flat_get f k hf l i j (by simpa using h) hj]
    simp
theorem flat_take {α : Type} (f : α → List Value) (k : Nat) (hf : ∀ x, (f x).length = k) : ∀ (l : List α) (n : Nat), (l.flatMap f).take (n * k) = (l.take n).flatMap f
  | [], n => by simp
  | x :: l, 0 => by simp
  | x :: l, n + 1 => by
    have e : (n + 1) * k = (f x).length + n * k := by rw [hf, Nat.succ_mul]; omega
    rw [List.flatMap_cons, List.take_succ_cons, List.flatMap_cons, e, List.take_length_add_append, flat_take f k hf l n]
theorem Ent.len (e : Ent) : e.cells.length = 6 := rfl
theorem ents_len (l : List Ent) : (ents l).length = l.length * 6 := flat_len _ 6 Ent.len l
theorem ents_snoc (l : List Ent) (e : Ent) : ents l ++ e.cells = ents (l ++ [e]) := by simp [ents]
theorem ents_take (l : List Ent) (n : Nat) : (ents l).take (n * 6) = ents (l.take n) := flat_take _ 6 Ent.len l n
/-- The cells of the i-th of a list of things. -/
theorem flat_at {α : Type} (f : α → List Value) (k : Nat) (hf : ∀ x, (f x).length = k) (l : List α) (i : Nat) (h : i < l.length) : ∀ j v, (f (l[i]))[j]? = some v → (l.flatMap f)[i * k + j]? = some v := by
  intro j v hv
  have : j < k := by rw [← hf (l[i])]; exact (List.getElem?_eq_some_iff.1 hv).1
  rw [flat_get f k hf l i j h this]
  exact hv
theorem ents_at (l : List Ent) (i : Nat) (h : i < l.length) : ∀ j v, (l[i]).cells[j]? = some v → (ents l)[i * 6 + j]? = some v := flat_at _ 6 Ent.len l i h
end Go.Proofs.Ytlcglefbhlhcpaa.K
