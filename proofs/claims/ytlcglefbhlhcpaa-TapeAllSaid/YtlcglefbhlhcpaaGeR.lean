/- The places are read: plain. -/
import Derived.Test.YtlcglefbhlhcpaaGeB
namespace Go.Proofs.Ytlcglefbhlhcpaa.K
open Go.RowKit
set_option linter.unusedVariables false
/-- A number that is no address: in the machine's range. -/
def inr (x : Int) : Prop := -9223372036854775808 ≤ x ∧ x ≤ 9223372036854775807
theorem inr_wrap (x : Int) : inr (IntKind.i64.wrap x) := by unfold inr; rw [wrap_i64]; omega
/-- So many places are read, from a place in the list on. -/
def plS (b : List Nat) : Nat → Int → Nat → Nat → List Int → Int × Nat × List Int
  | 0, a, e, _, l => (a, e, l)
  | k + 1, a, e, idx, l =>
    if (numR b a e (max ((l.length : Int) - 1 - idx) 0)).2.1 ≠ 0 then ((numR b a e (max ((l.length : Int) - 1 - idx) 0)).1, (numR b a e (max ((l.length : Int) - 1 - idx) 0)).2.1, l)
    else if l.length ≤ idx then ((numR b a e (max ((l.length : Int) - 1 - idx) 0)).1, 11, l)
    else plS b k (morR b (numR b a e (max ((l.length : Int) - 1 - idx) 0)).1 0).1 (morR b (numR b a e (max ((l.length : Int) - 1 - idx) 0)).1 0).2.1 (idx + (numR b a e (max ((l.length : Int) - 1 - idx) 0)).2.2.toNat + 1)
      (l.set (idx + (numR b a e (max ((l.length : Int) - 1 - idx) 0)).2.2.toNat) (IntKind.i64.wrap ((l[idx + (numR b a e (max ((l.length : Int) - 1 - idx) 0)).2.2.toNat]?).getD 0 + (morR b (numR b a e (max ((l.length : Int) - 1 - idx) 0)).1 0).2.2)))
def plR (b : List Nat) (a : Int) (e : Nat) (l : List Int) : Int × Nat × List Int :=
  plS b (numR b a e l.length).2.2.toNat (numR b a e l.length).1 (if (numR b a e l.length).2.2 = 0 ∧ (numR b a e l.length).2.1 = 0 then 11 else (numR b a e l.length).2.1) 0 l
theorem numR_ge (b : List Nat) (a : Int) (e : Nat) (m : Int) (hm : 0 ≤ m) : 0 ≤ (numR b a e m).2.2 ∧ (numR b a e m).2.2 ≤ m := by
  unfold numR
  split
  · exact ⟨Int.le_refl _, hm⟩
  · split
    · exact ⟨Int.le_refl _, hm⟩
    · split
      · exact ⟨Int.le_refl _, hm⟩
      · simp; omega
theorem plS_err {b : List Nat} {k : Nat} {a : Int} {e idx : Nat} {l : List Int} {a' : Int} {e' : Nat} {v : Int} (h : numR b a e (max ((l.length : Int) - 1 - idx) 0) = (a', e', v)) (he : e' ≠ 0) : plS b (k + 1) a e idx l = (a', e', l) := by
  rw [plS, h, if_pos he]
theorem plS_far {b : List Nat} {k : Nat} {a : Int} {e idx : Nat} {l : List Int} {a' : Int} {e' : Nat} {v : Int} (h : numR b a e (max ((l.length : Int) - 1 - idx) 0) = (a', e', v)) (he : e' = 0) (hi : l.length ≤ idx) : plS b (k + 1) a e idx l = (a', 11, l) := by
  rw [plS, h, if_neg (by simpa using he), if_pos hi]
theorem plS_go {b : List Nat} {k : Nat} {a : Int} {e idx : Nat} {l : List Int} {a' : Int} {e' : Nat} {v : Int} {x : Int} (h : numR b a e (max ((l.length : Int) - 1 - idx) 0) = (a', e', v)) (he : e' = 0) (hi : idx < l.length) (hx : l[idx + v.toNat]? = some x) : plS b (k + 1) a e idx l = plS b k (morR b a' 0).1 (morR b a' 0).2.1 (idx + v.toNat + 1) (l.set (idx + v.toNat) (IntKind.i64.wrap (x + (morR b a' 0).2.2))) := by
  rw [plS, h, if_neg (by simpa using he), if_neg (by omega), hx]; rfl
end Go.Proofs.Ytlcglefbhlhcpaa.K
