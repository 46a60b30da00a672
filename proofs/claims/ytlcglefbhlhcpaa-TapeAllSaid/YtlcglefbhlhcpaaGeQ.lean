/- A reader: plain. -/
import Derived.Test.YtlcglefbhlhcpaaGeA
namespace Go.Proofs.Ytlcglefbhlhcpaa.K
open Go.RowKit
set_option linter.unusedVariables false
def zag (n : Nat) : Int := if n % 2 = 0 then ((n / 2 : Nat) : Int) else -((n / 2 : Nat) : Int) - 1
theorem gv_le : ∀ (bs : List Nat) (i acc : Nat), (i ≤ 9 → acc < 128 ^ i) → (gv i acc bs).1 ≤ 18446744073709551615
  | [], i, acc, h => by rw [gv]; split <;> simp
  | x :: bs, i, acc, h => by
    rw [gv]
    split
    · simp
    · split
      · simp
      · rename_i h1 h2
        have ha := h (by omega)
        have hy : x % 128 < 128 := Nat.mod_lt _ (by decide)
        have h3 := mul_pow hy (show i ≤ 9 by omega) (fun h9 => by omega)
        have h4 := pow_le63 (show i ≤ 9 by omega)
        split
        · show acc + x % 128 * 128 ^ i ≤ _; omega
        · exact gv_le bs (i + 1) _ (fun hi => acc_lt ha hy)
theorem getV_le (b : List Nat) (a : Int) : (getV b a).1 ≤ 18446744073709551615 := by
  unfold getV; split
  · simp
  · exact gv_le _ 0 0 (fun _ => by decide)
theorem gv_many : ∀ (bs : List Nat) (i acc : Nat), (gv i acc bs).2.1 ≤ i + bs.length
  | [], i, acc => by rw [gv]; split <;> simp
  | x :: bs, i, acc => by
    rw [gv]
    split
    · simp
    · split
      · simp
      · split
        · show i + 1 ≤ i + (bs.length + 1); omega
        · have := gv_many bs (i + 1) (acc + x % 128 * 128 ^ i); simp; omega
theorem gv_err : ∀ (bs : List Nat) (i acc : Nat), (gv i acc bs).2.2 ≠ 0 → (gv i acc bs).1 = 0 ∧ (gv i acc bs).2.1 = 0
  | [], i, acc => by rw [gv]; split <;> simp
  | x :: bs, i, acc => by
    rw [gv]
    split
    · simp
    · split
      · simp
      · split
        · simp
        · exact gv_err bs (i + 1) _
theorem getV_err {b : List Nat} {a : Int} (h : (getV b a).2.2 ≠ 0) : (getV b a).1 = 0 ∧ (getV b a).2.1 = 0 := by
  unfold getV at h ⊢
  split
  · simp
  · rename_i hn; rw [if_neg hn] at h; exact gv_err _ _ _ h
/-- How many bytes are read: no more than there are. -/
theorem getV_many {b : List Nat} {a : Int} (h : (getV b a).2.2 = 0) : 0 ≤ a ∧ a + ((getV b a).2.1 : Int) ≤ (b.length : Int) := by
  unfold getV at h ⊢
  split
  · rename_i hc; rw [if_pos hc] at h; simp at h
  · rename_i hn
    have := gv_many (b.drop a.toNat) 0 0
    simp only [List.length_drop, Nat.zero_add] at this
    omega
theorem i64_xor_zero (k : Nat) (hk : k < 9223372036854775808) : bits .xor .i64 (k : Int) 0 = (k : Int) := by
  have h1 : (BitVec.ofInt 64 (k : Int)).toNat = k := by simp; omega
  show IntKind.i64.wrap (BitVec.ofInt 64 _ ^^^ BitVec.ofInt 64 0).toNat = _
  have h2 : BitVec.ofInt 64 0 = 0#64 := by rfl
  rw [h2, BitVec.xor_zero, h1]
  exact i64_ok (by omega)
theorem wrap_i64 (n : Int) : IntKind.i64.wrap n = (n + 9223372036854775808) % 18446744073709551616 - 9223372036854775808 := by
  have e : IntKind.i64.wrap n = if (true && decide (n % 18446744073709551616 ≥ 9223372036854775808)) = true then n % 18446744073709551616 - 18446744073709551616 else n % 18446744073709551616 := rfl
  rw [e]
  by_cases h : n % 18446744073709551616 ≥ 9223372036854775808
  · rw [if_pos (by rw [decide_eq_true h]; rfl)]; omega
  · rw [if_neg (by rw [decide_eq_false h]; decide)]; omega
theorem i64_xor_ones (k : Nat) (hk : k < 9223372036854775808) : bits .xor .i64 (k : Int) (-1) = -(k : Int) - 1 := by
  have h1 : (BitVec.ofInt 64 (k : Int)).toNat = k := by simp; omega
  show IntKind.i64.wrap (BitVec.ofInt 64 _ ^^^ BitVec.ofInt 64 (-1)).toNat = _
  have h2 : BitVec.ofInt 64 (-1) = BitVec.allOnes 64 := by rfl
  rw [h2, BitVec.xor_allOnes, BitVec.toNat_not, h1]
  have h3 : ∀ n : Int, 9223372036854775808 ≤ n → n ≤ 18446744073709551615 → IntKind.i64.wrap n = n - 18446744073709551616 := by
    intro n h4 h5
    have e : IntKind.i64.wrap n = (n + 9223372036854775808) % 18446744073709551616 - 9223372036854775808 := wrap_i64 n
    rw [e]; omega
  rw [h3 _ (by omega) (by omega)]
  omega
theorem Rd.chg {F : List Nat} {w w' : World} {A : Option Addr} {n sz : Nat} {xs : List Value} (h : Rd w A n sz xs) (hc : Chg F w w') (hA : 0 < n → ∀ b o, A = some ⟨b, o, none⟩ → b ∉ F) : Rd w' A n sz xs :=
  ⟨h.1, fun h0 => by obtain ⟨b, o, e, hh⟩ := h.2 h0; exact ⟨b, o, e, fun j v hj => hc.cell (hA h0 b o e) (hh j v hj)⟩⟩
/-- A reader's place and error, and what is read: a number no more than another one. -/
def numR (b : List Nat) (a : Int) (e : Nat) (most : Int) : Int × Nat × Int :=
  if e ≠ 0 then (a, e, 0)
  else if (getV b a).2.2 ≠ 0 then (a, (getV b a).2.2, 0)
  else if most < ((getV b a).1 : Int) then (a, 11, 0)
  else (a + ((getV b a).2.1 : Int), 0, ((getV b a).1 : Int))
/-- .. how much more it is than it was. -/
def morR (b : List Nat) (a : Int) (e : Nat) : Int × Nat × Int :=
  if e ≠ 0 then (a, e, 0)
  else if (getV b a).2.2 ≠ 0 then (a, (getV b a).2.2, 0)
  else if (getV b a).1 = 0 then (a, 11, 0)
  else (a + ((getV b a).2.1 : Int), 0, zag (getV b a).1)
theorem zag_zero {n : Nat} : zag n = 0 ↔ n = 0 := by unfold zag; split <;> omega
end Go.Proofs.Ytlcglefbhlhcpaa.K
