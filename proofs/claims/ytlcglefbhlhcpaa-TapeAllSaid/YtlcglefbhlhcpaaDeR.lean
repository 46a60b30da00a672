/- A state's record: plain. -/
import Derived.Test.YtlcglefbhlhcpaaDeB
namespace Go.Proofs.Ytlcglefbhlhcpaa.K
open Go.RowKit
set_option linter.unusedVariables false
/-- The places that are other ones, of the first i: their bytes, how many, behind the last. -/
def mvS (l m : List Int) : Nat → List Nat × Nat × Nat
  | 0 => ([], 0, 0)
  | i + 1 => if m[i]? = l[i]? then mvS l m i else ((mvS l m i).1 ++ vb (i - (mvS l m i).2.2) ++ vb (zig ((m[i]?).getD 0 - (l[i]?).getD 0)), (mvS l m i).2.1 + 1, i + 1)
theorem mvS_same {l m : List Int} {i : Nat} {o : List Nat} {n la : Nat} (h : mvS l m i = (o, n, la)) (e : m[i]? = l[i]?) : mvS l m (i + 1) = (o, n, la) := by
  rw [mvS, if_pos e]; exact h
theorem mvS_step {l m : List Int} {i : Nat} {o : List Nat} {n la : Nat} {x y : Int} (h : mvS l m i = (o, n, la)) (hx : m[i]? = some x) (hy : l[i]? = some y) (e : x ≠ y) : mvS l m (i + 1) = (o ++ vb (i - la) ++ vb (zig (x - y)), n + 1, i + 1) := by
  rw [mvS, if_neg (by rw [hx, hy]; simpa using e), h, hx, hy]; rfl
theorem mvS_le (l m : List Int) : ∀ i, (mvS l m i).2.2 ≤ i ∧ (mvS l m i).2.1 ≤ i
  | 0 => ⟨Nat.le_refl _, Nat.le_refl _⟩
  | i + 1 => by
    have := mvS_le l m i
    rw [mvS]; split
    · omega
    · exact ⟨Nat.le_refl _, by simp; omega⟩
def small (x : Int) : Prop := -1 ≤ x ∧ x ≤ 1048576
theorem zig_small {x y : Int} (hx : small x) (hy : small y) : -1099511627776 ≤ x - y ∧ x - y ≤ 1099511627776 := by
  unfold small at hx hy; omega
theorem mvS_len {l m : List Int} (hl : ∀ x ∈ l, small x) (hm : ∀ x ∈ m, small x) (hb : m.length ≤ 65536) (hlen : l.length = m.length) : ∀ i, i ≤ m.length → (mvS l m i).1.length ≤ 20 * i
  | 0, _ => by simp [mvS]
  | i + 1, hi => by
    have ih := mvS_len hl hm hb hlen i (by omega)
    have h2 := mvS_le l m i
    rw [mvS]; split
    · omega
    · have hx : m[i]? = some (m[i]'(by omega)) := List.getElem?_eq_getElem _
      have hy : l[i]? = some (l[i]'(by omega)) := List.getElem?_eq_getElem _
      rw [hx, hy]
      have hz := zig_small (hm _ (List.getElem_mem (by omega : i < m.length))) (hl _ (List.getElem_mem (by omega : i < l.length)))
      have h3 := vb_len10 (zig_le hz.1 hz.2)
      have h5 : (vb (i - (mvS l m i).2.2)).length ≤ 10 := vb_len10 (by omega)
      simp only [List.length_append, Option.getD_some]
      omega
/-- What stands for the places. -/
def mvR (l m : List Int) : List Nat := vb (mvS l m m.length).2.1 ++ (mvS l m m.length).1
theorem mvS_of {l m : List Int} {i : Nat} {o : List Nat} {n la : Nat} (h : mvS l m i = (o, n, la)) (hl : ∀ x ∈ l, small x) (hm : ∀ x ∈ m, small x) (hb : m.length ≤ 65536) (hlen : l.length = m.length) (hi : i ≤ m.length) : la ≤ i ∧ n ≤ i ∧ o.length ≤ 20 * i := by
  have h1 := mvS_le l m i
  have h2 := mvS_len hl hm hb hlen i hi
  rw [h] at h1 h2
  exact ⟨h1.1, h1.2, h2⟩
theorem mvR_of {l m : List Int} {i : Nat} {o : List Nat} {n la : Nat} (h : mvS l m i = (o, n, la)) (hi : i = m.length) : vb n ++ o = mvR l m := by
  subst hi; unfold mvR; rw [h]
/-- The numbers that are other ones, of the first i: their bytes, and which. -/
def numS (a b : List Int) : Nat → List Nat × Nat
  | 0 => ([], 0)
  | i + 1 => if a[i]? = b[i]? then numS a b i else ((numS a b i).1 ++ vb (zig ((b[i]?).getD 0 - (a[i]?).getD 0)), (numS a b i).2 + 2 ^ i)
theorem numS_same {a b : List Int} {i : Nat} {o : List Nat} {k : Nat} (h : numS a b i = (o, k)) (e : a[i]? = b[i]?) : numS a b (i + 1) = (o, k) := by
  rw [numS, if_pos e]; exact h
theorem numS_step {a b : List Int} {i : Nat} {o : List Nat} {k : Nat} {x y : Int} (h : numS a b i = (o, k)) (hx : b[i]? = some x) (hy : a[i]? = some y) (e : y ≠ x) : numS a b (i + 1) = (o ++ vb (zig (x - y)), k + 2 ^ i) := by
  rw [numS, if_neg (by rw [hx, hy]; simpa using e), h, hx, hy]; rfl
theorem numS_lt (a b : List Int) : ∀ i, (numS a b i).2 < 2 ^ i
  | 0 => by simp [numS]
  | i + 1 => by
    have := numS_lt a b i
    rw [numS, Nat.pow_succ]; split
    · omega
    · simp; omega
/-- A state's record behind another one. -/
def rec18 (s t : Sta) : List Nat :=
  vb t.kind.toNat ++ vb ((numS s.nums.tail t.nums.tail 6).2 + if 0 < (mvS s.caps t.caps t.caps.length).2.1 then 64 else 0) ++ ((numS s.nums.tail t.nums.tail 6).1 ++ if 0 < (mvS s.caps t.caps t.caps.length).2.1 then mvR s.caps t.caps else [])
theorem or_pow : ∀ i : Nat, i < 6 → ∀ m : Nat, m < 64 → m < 2 ^ i → bits .or .u64 (m : Int) ((2 ^ i : Nat) : Int) = ((m + 2 ^ i : Nat) : Int) := by decide +kernel
theorem or_64 : ∀ m : Nat, m < 64 → bits .or .u64 (m : Int) 64 = ((m + 64 : Nat) : Int) := by decide +kernel
theorem shl_one : ∀ i : Nat, i < 6 → IntKind.u64.wrap (1 * 2 ^ i) = ((2 ^ i : Nat) : Int) := by decide +kernel
end Go.Proofs.Ytlcglefbhlhcpaa.K
