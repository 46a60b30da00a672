/- The reading, as the reference goes: plain. -/
import Derived.Test.YtlcglefbhlhcpaaGeD
namespace Go.Proofs.Ytlcglefbhlhcpaa.K
open Go.RowKit
set_option linter.unusedVariables false
theorem numR_bad {b : List Nat} {a : Int} {e : Nat} {m : Int} (h : e ≠ 0) : numR b a e m = (a, e, 0) := by unfold numR; rw [if_pos h]
theorem morR_bad {b : List Nat} {a : Int} {e : Nat} (h : e ≠ 0) : morR b a e = (a, e, 0) := by unfold morR; rw [if_pos h]
theorem numR_err {b : List Nat} {a : Int} {e : Nat} {m : Int} {a' : Int} {e' : Nat} {v : Int} (h : numR b a e m = (a', e', v)) (he : e' ≠ 0) : a' = a ∧ v = 0 := by
  unfold numR at h
  split at h
  · cases h; exact ⟨rfl, rfl⟩
  · split at h
    · cases h; exact ⟨rfl, rfl⟩
    · split at h
      · cases h; exact ⟨rfl, rfl⟩
      · cases h; exact absurd rfl he
theorem morR_err {b : List Nat} {a : Int} {e : Nat} {a' : Int} {e' : Nat} {v : Int} (h : morR b a e = (a', e', v)) (he : e' ≠ 0) : a' = a ∧ v = 0 := by
  unfold morR at h
  split at h
  · cases h; exact ⟨rfl, rfl⟩
  · split at h
    · cases h; exact ⟨rfl, rfl⟩
    · split at h
      · cases h; exact ⟨rfl, rfl⟩
      · cases h; exact absurd rfl he
theorem plS_bad {b : List Nat} {k : Nat} {a : Int} {e idx : Nat} {l : List Int} (h : e ≠ 0) : plS b k a e idx l = (a, e, l) := by
  cases k with
  | zero => rfl
  | succ k => exact plS_err (numR_bad h) h
theorem wrap_inr {x : Int} (h : inr x) : IntKind.i64.wrap x = x := by unfold inr at h; rw [wrap_i64]; omega
theorem set_self {l : List Int} {i : Nat} {x : Int} (h : l[i]? = some x) : l.set i x = l := by
  apply List.ext_getElem?
  intro j
  rw [List.getElem?_set]
  split
  · rename_i h1; subst h1
    split
    · exact h.symm
    · rename_i h2; rw [List.getElem?_eq_none (by omega)] at h; cases h
  · rfl
/-- A round that the second number ends: nothing is changed. -/
theorem plS_stop {b : List Nat} {k : Nat} {a : Int} {e idx : Nat} {l : List Int} {a' : Int} {e' : Nat} {v : Int} {x : Int} {a2 : Int} {e2 : Nat} {u : Int} (h : numR b a e (max ((l.length : Int) - 1 - idx) 0) = (a', e', v)) (he : e' = 0) (hi : idx < l.length) (hx : l[idx + v.toNat]? = some x) (hr : inr x) (hm : morR b a' 0 = (a2, e2, u)) (h2 : e2 ≠ 0) : plS b (k + 1) a e idx l = (a2, e2, l) := by
  rw [plS_go h he hi hx, hm]
  obtain ⟨-, hu⟩ := morR_err hm h2
  dsimp only
  rw [plS_bad h2, hu, Int.add_zero, wrap_inr hr, set_self hx]
theorem plR_bad {b : List Nat} {a : Int} {e : Nat} {l : List Int} (h : e ≠ 0) : plR b a e l = (a, e, l) := by
  unfold plR; rw [numR_bad h]; dsimp only; rw [if_neg (by omega)]; rfl
end Go.Proofs.Ytlcglefbhlhcpaa.K
