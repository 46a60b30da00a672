/- Numbers as bytes: plain. -/
import Derived.Test.YtlcglefbhlhcpaaEvA
import Derived.Test.YtlcglefbhlhcpaaKw
namespace Go.Proofs.Ytlcglefbhlhcpaa.K
open Go.RowKit
set_option linter.unusedVariables false
/-- A number's bytes. -/
def vb (n : Nat) : List Nat := if h : n < 128 then [n] else (n % 128 + 128) :: vb (n / 128)
termination_by n
decreasing_by omega
theorem vb_low {n : Nat} (h : n < 128) : vb n = [n] := by rw [vb, dif_pos h]
theorem vb_high {n : Nat} (h : 128 ≤ n) : vb n = (n % 128 + 128) :: vb (n / 128) := by rw [vb, dif_neg (by omega)]
theorem vb_step {o : List Nat} {m n : Nat} (h : o ++ vb m = vb n) (hm : 128 ≤ m) : (o ++ [m % 128 + 128]) ++ vb (m / 128) = vb n := by
  rw [← h, vb_high hm]; simp
theorem vb_end {o : List Nat} {m n : Nat} (h : o ++ vb m = vb n) (hm : m < 128) : o ++ [m] = vb n := by
  rw [← h, vb_low hm]
theorem vb_pos (n : Nat) : 0 < (vb n).length := by
  rw [vb]; split <;> simp
/-- No number has more than ten bytes. -/
theorem vb_len (k : Nat) : ∀ n : Nat, n < 128 ^ (k + 1) → (vb n).length ≤ k + 1 := by
  induction k with
  | zero => intro n h; rw [vb_low (by simpa using h)]; exact Nat.le_refl _
  | succ k ih =>
    intro n h
    by_cases hn : n < 128
    · rw [vb_low hn]; simp
    · rw [vb_high (by omega), List.length_cons]
      have := ih (n / 128) (by rw [Nat.pow_succ] at h; omega)
      omega
theorem vb_len10 {n : Nat} (h : n ≤ 18446744073709551615) : (vb n).length ≤ 10 := vb_len 9 n (by omega)
def u8s (l : List Nat) : List Value := l.map (fun x : Nat => Value.int .u8 (x : Int))
theorem u8s_len (l : List Nat) : (u8s l).length = l.length := by simp [u8s]
theorem u8s_append (l m : List Nat) : u8s l ++ u8s m = u8s (l ++ m) := by simp [u8s]
theorem u8s_snoc (l : List Nat) (x : Nat) : u8s l ++ [.int .u8 (x : Int)] = u8s (l ++ [x]) := by simp [u8s]
theorem u8s_cons (l : List Nat) (x : Nat) : [Value.int .u8 (x : Int)] ++ u8s l = u8s (x :: l) := by simp [u8s]
theorem u8s_one (l : List Nat) : ∀ u ∈ u8s l, u.oneCell' = true := by
  intro u hu
  simp only [u8s, List.mem_map] at hu
  obtain ⟨x, _, rfl⟩ := hu
  rfl
theorem or128 : ∀ a : Nat, a < 128 → bits .or .u64 (a : Int) 128 = ((a + 128 : Nat) : Int) := by decide +kernel
theorem or128' (m : Nat) : bits .or .u64 ((m : Int) % 128) 128 = ((m % 128 + 128 : Nat) : Int) := by
  have := or128 (m % 128) (Nat.mod_lt _ (by decide))
  rw [← this]; rfl
theorem u64_xor_zero (k : Nat) (hk : k < 18446744073709551616) : bits .xor .u64 (k : Int) 0 = (k : Int) := by
  have h1 : (BitVec.ofInt 64 (k : Int)).toNat = k := by simp; omega
  show IntKind.u64.wrap (BitVec.ofInt 64 _ ^^^ BitVec.ofInt 64 0).toNat = _
  have h2 : BitVec.ofInt 64 0 = 0#64 := by rfl
  rw [h2, BitVec.xor_zero, h1]
  exact u64_ok (by omega)
theorem u64_xor_ones (k : Nat) (hk : k < 18446744073709551616) : bits .xor .u64 (k : Int) 18446744073709551615 = ((18446744073709551615 - k : Nat) : Int) := by
  have h1 : (BitVec.ofInt 64 (k : Int)).toNat = k := by simp; omega
  show IntKind.u64.wrap (BitVec.ofInt 64 _ ^^^ BitVec.ofInt 64 18446744073709551615).toNat = _
  have h2 : BitVec.ofInt 64 18446744073709551615 = BitVec.allOnes 64 := by rfl
  rw [h2, BitVec.xor_allOnes, BitVec.toNat_not, h1]
  exact u64_ok (by omega)
theorem wrap_neg (k : Nat) (hk : k ≤ 1099511627776) : IntKind.u64.wrap (-(k : Int) - 1) = ((18446744073709551615 - k : Nat) : Int) := by
  show (-(k : Int) - 1) % 18446744073709551616 = _
  omega
theorem wrap_dbl (k : Nat) (hk : k ≤ 1099511627776) : IntKind.u64.wrap (((18446744073709551615 - k : Nat) : Int) * 2 ^ 1) = ((18446744073709551614 - 2 * k : Nat) : Int) := by
  show (((18446744073709551615 - k : Nat) : Int) * 2 ^ 1) % 18446744073709551616 = _
  omega
theorem fdiv_neg (k : Nat) (hk : k ≤ 1099511627776) : (-(k : Int) - 1).fdiv (2 ^ 63) = -1 := by
  rw [Int.fdiv_eq_ediv_of_nonneg _ (by decide)]
  omega
/-- A number with a sign, as one without. -/
def zig (x : Int) : Nat := if 0 ≤ x then (2 * x).toNat else (-2 * x - 1).toNat
end Go.Proofs.Ytlcglefbhlhcpaa.K
