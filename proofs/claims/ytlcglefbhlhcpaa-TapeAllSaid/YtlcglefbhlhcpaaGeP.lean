/- A number is read: plain. -/
import Derived.Test.YtlcglefbhlhcpaaDeC
namespace Go.Proofs.Ytlcglefbhlhcpaa.K
open Go.RowKit
set_option linter.unusedVariables false
/-- What the i-th byte, and those behind it, tell: the number, how many bytes, an error. -/
def gv (i acc : Nat) : List Nat → Nat × Nat × Nat
  | [] => if i < 10 then (0, 0, 14) else (0, 0, 11)
  | x :: bs =>
    if 10 ≤ i then (0, 0, 11)
    else if (i = 9 ∧ 1 < x % 128) ∨ (0 < i ∧ x = 0) ∨ (i = 9 ∧ 128 ≤ x) then (0, 0, 11)
    else if x < 128 then (acc + x % 128 * 128 ^ i, i + 1, 0)
    else gv (i + 1) (acc + x % 128 * 128 ^ i) bs
theorem gv_ten {i acc : Nat} (h : 10 ≤ i) (bs : List Nat) : gv i acc bs = (0, 0, 11) := by
  cases bs with
  | nil => rw [gv, if_neg (by omega)]
  | cons x bs => rw [gv, if_pos h]
/-- What is read at a place. -/
def getV (b : List Nat) (at_ : Int) : Nat × Nat × Nat := if at_ < 0 ∨ (b.length : Int) < at_ then (0, 0, 10) else gv 0 0 (b.drop at_.toNat)
theorem gv_drop {b : List Nat} {k i acc : Nat} {x : Nat} (hx : b[k + i]? = some x) : gv i acc (b.drop (k + i)) = if 10 ≤ i then (0, 0, 11) else if (i = 9 ∧ 1 < x % 128) ∨ (0 < i ∧ x = 0) ∨ (i = 9 ∧ 128 ≤ x) then (0, 0, 11) else if x < 128 then (acc + x % 128 * 128 ^ i, i + 1, 0) else gv (i + 1) (acc + x % 128 * 128 ^ i) (b.drop (k + (i + 1))) := by
  obtain ⟨hlt, he⟩ := List.getElem?_eq_some_iff.1 hx
  rw [List.drop_eq_getElem_cons hlt, he, gv]
  rfl
theorem gv_end {b : List Nat} {k i acc : Nat} (h : b.length ≤ k + i) : gv i acc (b.drop (k + i)) = if i < 10 then (0, 0, 14) else (0, 0, 11) := by
  rw [List.drop_of_length_le h, gv]
/-- How many bits a number has, up to 127. -/
def wid (n : Nat) : Nat := if n = 0 then 0 else if n < 2 then 1 else if n < 4 then 2 else if n < 8 then 3 else if n < 16 then 4 else if n < 32 then 5 else if n < 64 then 6 else 7
theorem wid_half' : ∀ n : Nat, n < 128 → 0 < n → wid n = wid (n / 2) + 1 := by decide +kernel
theorem wid_half {n : Nat} (h : 0 < n) (hn : n < 128) : wid n = wid (n / 2) + 1 := wid_half' n hn h
theorem wid_le {n : Nat} : wid n ≤ 7 := by
  unfold wid; repeat (split; omega)
  omega
theorem wid_one {n : Nat} : 1 < wid n ↔ 2 ≤ n := by
  unfold wid
  split
  · omega
  · split
    · omega
    · repeat (split; omega)
      omega
theorem pow_le9 {i : Nat} (h : i < 9) : 128 ^ i * 128 ≤ 9223372036854775808 := by
  have : 128 ^ i * 128 = 128 ^ (i + 1) := (Nat.pow_succ ..).symm
  rw [this]
  have := Nat.pow_le_pow_right (show 0 < 128 by decide) (show i + 1 ≤ 9 by omega)
  exact this
theorem mul_pow {y i : Nat} (hy : y < 128) (hi : i ≤ 9) (h9 : i = 9 → y ≤ 1) : y * 128 ^ i ≤ 9223372036854775808 := by
  by_cases h : i = 9
  · subst h
    have := h9 rfl
    have h2 : 128 ^ 9 = 9223372036854775808 := by decide
    rw [h2]
    have : y * 9223372036854775808 ≤ 1 * 9223372036854775808 := Nat.mul_le_mul_right _ this
    omega
  · have h1 := pow_le9 (show i < 9 by omega)
    have : y * 128 ^ i ≤ 128 * 128 ^ i := Nat.mul_le_mul_right _ (by omega)
    rw [Nat.mul_comm 128] at this
    omega
theorem acc_lt {acc y i : Nat} (ha : acc < 128 ^ i) (hy : y < 128) : acc + y * 128 ^ i < 128 ^ (i + 1) := by
  rw [Nat.pow_succ]
  have : y * 128 ^ i ≤ 127 * 128 ^ i := Nat.mul_le_mul_right _ (by omega)
  omega
theorem pow_le63 {i : Nat} (h : i ≤ 9) : 128 ^ i ≤ 9223372036854775808 := Nat.pow_le_pow_right (n := 128) (by decide) h
theorem shl7 {y i : Nat} (hy : y < 128) (hi : i ≤ 9) (h9 : i = 9 → y ≤ 1) : IntKind.u64.wrap ((y : Int) * 2 ^ (7 * i)) = ((y * 128 ^ i : Nat) : Int) := by
  have h1 := mul_pow hy hi h9
  have h2 : (2 : Int) ^ (7 * i) = ((128 ^ i : Nat) : Int) := by
    rw [Int.pow_mul]; simp
  rw [h2, ← Int.natCast_mul]
  exact u64_ok (by omega)
theorem or_add {acc y i : Nat} (ha : acc < 128 ^ i) (hy : y < 128) (hi : i ≤ 9) (h9 : i = 9 → y ≤ 1) : bits .or .u64 (acc : Int) ((y * 128 ^ i : Nat) : Int) = ((acc + y * 128 ^ i : Nat) : Int) := by
  have h1 := mul_pow hy hi h9
  have h2 := pow_le63 hi
  have e1 : (BitVec.ofInt 64 (acc : Int)).toNat = acc := by simp; omega
  have e2 : (BitVec.ofInt 64 ((y * 128 ^ i : Nat) : Int)).toNat = y * 128 ^ i := by
    rw [BitVec.toNat_ofInt]
    omega
  have hp : 128 ^ i = 2 ^ (7 * i) := by rw [Nat.pow_mul]
  have e3 : acc ||| y * 128 ^ i = acc + y * 128 ^ i := by
    rw [hp] at ha ⊢
    rw [Nat.or_comm, Nat.mul_comm, ← Nat.two_pow_add_eq_or_of_lt ha y, Nat.add_comm]
  show IntKind.u64.wrap (BitVec.ofInt 64 _ ||| BitVec.ofInt 64 _).toNat = _
  rw [BitVec.toNat_or, e1, e2, e3]
  exact u64_ok (by omega)
theorem pow9 : 128 ^ 9 = 9223372036854775808 := by decide
end Go.Proofs.Ytlcglefbhlhcpaa.K
