/- The bytes that vint.Bytes writes for a number are the reference's, and vint.Get reads the number from them again, wherever they stand between other bytes. Conditions: none beyond the given row's. -/
import Derived.Test.YtecfnbnngdpfiaaBytesW
import Derived.Lib.VarintBits
import Derived.Lib.Zigzag
import Derived.Laws.Bits64
import Derived.OpenShut
namespace Go.Proofs.Ytecfnbnngdpfiaa.Pure
open Go.RowKit Go.Proofs.Ytecfnbnngdpfiaa.PVintBytes Go.Proofs.YtecfnbnngdpfiaaW.PrintWords Go.Proofs.YtecfnbnngdpfiaaW.PrintLast Go.Proofs.YtecfnbnngdpfiaaW.PrintMore
open Go (IntKind Lit maxLen World Addr)

/-! ### numbers as bytes, in plain Lean -/
def enc (n : Nat) : List Int := if _h : n < 128 then [(n : Int)] else ((n % 128 + 128 : Nat) : Int) :: enc (n / 128)
termination_by n
decreasing_by omega

theorem enc_small {n : Nat} (h : n < 128) : enc n = [(n : Int)] := by rw [enc, dif_pos h]
theorem enc_big {n : Nat} (h : ¬ n < 128) : enc n = ((n % 128 + 128 : Nat) : Int) :: enc (n / 128) := by rw [enc, dif_neg h]

theorem enc_len (d : Nat) : ∀ n, n < 128 ^ (d + 1) → 1 ≤ (enc n).length ∧ (enc n).length ≤ d + 1 := by
  induction d with
  | zero => intro n h; rw [enc_small (by omega)]; simp
  | succ d ih =>
    intro n h
    by_cases hn : n < 128
    · rw [enc_small hn]; simp
    · rw [enc_big hn]
      have := ih (n / 128) (by rw [Nat.pow_succ] at h; exact Nat.div_lt_of_lt_mul (by omega))
      simp only [List.length_cons]; omega

theorem pow10 : (128 : Nat) ^ 10 = 1180591620717411303424 := by decide
theorem enc_len10 {n : Nat} (h : n < 18446744073709551616) : 1 ≤ (enc n).length ∧ (enc n).length ≤ 10 := enc_len 9 n (by rw [pow10]; omega)

/-- What is read: the number, how many bytes it has, the error; 'i' bytes are behind, which make 'acc'. -/
def dec : Nat → Nat → List Int → Int × Int × Int
  | i, _, [] => if i < 10 then (0, 0, 14) else (0, 0, 11)
  | i, acc, c :: bs =>
    if 10 ≤ i then (0, 0, 11)
    else if (i = 9 ∧ 2 ≤ c) ∨ (0 < i ∧ c = 0) then (0, 0, 11)
    else if c < 128 then (((acc + c.toNat * 128 ^ i : Nat) : Int), (i : Int) + 1, 0)
    else dec (i + 1) (acc + (c.toNat - 128) * 128 ^ i) bs

theorem dec_enc : ∀ (n i acc : Nat) (tail : List Int), n * 128 ^ i < 18446744073709551616 → (0 < i → 0 < n) → i ≤ 9 →
    dec i acc (enc n ++ tail) = (((acc + n * 128 ^ i : Nat) : Int), ((i + (enc n).length : Nat) : Int), 0) := by
  intro n
  induction n using Nat.strongRecOn with
  | ind n ih =>
    intro i acc tail hn h0 hi
    have h9 : i = 9 → n < 2 := by
      rintro rfl
      have : (128 : Nat) ^ 9 = 9223372036854775808 := by decide
      rw [this] at hn; omega
    by_cases h : n < 128
    · rw [enc_small h]
      simp only [List.cons_append, List.nil_append, dec]
      have hneg : ¬ ((i = 9 ∧ 2 ≤ (n : Int)) ∨ (0 < i ∧ (n : Int) = 0)) := by
        rintro (⟨a, b⟩ | ⟨a, b⟩)
        · have := h9 a; omega
        · have := h0 a; omega
      rw [if_neg (show ¬ 10 ≤ i by omega), if_neg hneg, if_pos (show (n : Int) < 128 by omega)]
      simp only [Int.toNat_natCast, List.length_cons, List.length_nil, Nat.zero_add, Int.natCast_add, Int.natCast_one]
    · rw [enc_big h]
      have hi9 : i ≠ 9 := fun e => by have := h9 e; omega
      simp only [List.cons_append, dec]
      rw [if_neg (by omega), if_neg (by omega), if_neg (by omega)]
      have e1 : ((n % 128 + 128 : Nat) : Int).toNat - 128 = n % 128 := by omega
      have e2 : n / 128 * 128 ^ (i + 1) = n / 128 * 128 * 128 ^ i := by rw [Nat.pow_succ, Nat.mul_comm (128 ^ i), Nat.mul_assoc]
      have e3 : n % 128 * 128 ^ i + n / 128 * 128 ^ (i + 1) = n * 128 ^ i := by
        rw [e2, ← Nat.add_mul, Nat.mod_add_div']
      rw [e1, ih (n / 128) (by omega) (i + 1) _ tail (by omega) (fun _ => by omega) (by omega)]
      rw [show acc + n % 128 * 128 ^ i + n / 128 * 128 ^ (i + 1) = acc + n * 128 ^ i by omega]
      simp only [List.length_cons]
      rw [Nat.add_assoc i 1, Nat.add_comm 1]

theorem dec_bad : ∀ (bs : List Int) (i acc : Nat), (dec i acc bs).2.2 ≠ 0 → (dec i acc bs).1 = 0 ∧ (dec i acc bs).2.1 = 0 := by
  intro bs
  induction bs with
  | nil => intro i acc h; unfold dec; split <;> exact ⟨rfl, rfl⟩
  | cons c bs ih =>
    intro i acc h
    unfold dec at h ⊢
    split
    · exact ⟨rfl, rfl⟩
    · rename_i h1; rw [if_neg h1] at h
      split
      · exact ⟨rfl, rfl⟩
      · rename_i h2; rw [if_neg h2] at h
        split
        · rename_i h3; rw [if_pos h3] at h; exact absurd rfl h
        · rename_i h3; rw [if_neg h3] at h; exact ih _ _ h

/-- What is read stood there as a number's bytes. -/
theorem dec_good : ∀ (bs : List Int) (i acc : Nat), (∀ x ∈ bs, 0 ≤ x ∧ x ≤ 255) → (dec i acc bs).2.2 = 0 → i ≤ 9 ∧
    ∃ m : Nat, (dec i acc bs).1 = ((acc + m * 128 ^ i : Nat) : Int) ∧ (dec i acc bs).2.1 = ((i + (enc m).length : Nat) : Int) ∧ m * 128 ^ i < 18446744073709551616 ∧ (0 < i → 0 < m) ∧ (enc m).length ≤ bs.length ∧ bs.take (enc m).length = enc m := by
  intro bs
  induction bs with
  | nil => intro i acc _ h; unfold dec at h; split at h <;> simp at h
  | cons c bs ih =>
    intro i acc hb h
    have hc := hb c (by simp)
    unfold dec at h ⊢
    by_cases h1 : 10 ≤ i
    · rw [if_pos h1] at h; simp at h
    · rw [if_neg h1] at h ⊢
      by_cases h2 : (i = 9 ∧ 2 ≤ c) ∨ (0 < i ∧ c = 0)
      · rw [if_pos h2] at h; simp at h
      · rw [if_neg h2] at h ⊢
        have hp : (128 : Nat) ^ i ≤ 128 ^ 9 := Nat.pow_le_pow_right (by decide) (by omega)
        have hp9 : (128 : Nat) ^ 9 = 9223372036854775808 := by decide
        by_cases h3 : c < 128
        · rw [if_pos h3] at h ⊢
          refine ⟨by omega, c.toNat, ?_, ?_, ?_, ?_, ?_, ?_⟩
          · rfl
          · rw [enc_small (by omega)]; simp
          · by_cases h9 : i = 9
            · subst h9; rw [hp9]; omega
            · have hp8 : (128 : Nat) ^ i ≤ 128 ^ 8 := Nat.pow_le_pow_right (by decide) (by omega)
              have h8 : (128 : Nat) ^ 8 = 72057594037927936 := by decide
              calc c.toNat * 128 ^ i ≤ 127 * 128 ^ 8 := Nat.mul_le_mul (by omega) hp8
                _ < _ := by rw [h8]; omega
          · omega
          · rw [enc_small (by omega)]; simp
          · rw [enc_small (by omega)]; simp; omega
        · rw [if_neg h3] at h ⊢
          obtain ⟨hi, m, g1, g2, g3, g4, g5, g6⟩ := ih (i + 1) _ (fun x hx => hb x (by simp [hx])) h
          have hm : 0 < m := g4 (by omega)
          have e2 : m * 128 ^ (i + 1) = m * 128 * 128 ^ i := by rw [Nat.pow_succ, Nat.mul_comm (128 ^ i), Nat.mul_assoc]
          have hq : (128 : Nat) ^ i > 0 := Nat.pow_pos (by decide)
          have e3 : (c.toNat - 128 + m * 128) * 128 ^ i = (c.toNat - 128) * 128 ^ i + m * 128 ^ (i + 1) := by rw [e2, Nat.add_mul]
          have e4 : enc (c.toNat - 128 + m * 128) = c :: enc m := by
            rw [enc_big (by omega), show (c.toNat - 128 + m * 128) / 128 = m by omega, show (c.toNat - 128 + m * 128) % 128 + 128 = c.toNat by omega]
            congr 1; omega
          refine ⟨by omega, c.toNat - 128 + m * 128, ?_, ?_, ?_, ?_, ?_, ?_⟩
          · rw [g1, e3]; congr 1; omega
          · rw [g2, e4]; simp only [List.length_cons]; congr 1; omega
          · rw [e3]
            have hp8 : (128 : Nat) ^ i ≤ 128 ^ 8 := Nat.pow_le_pow_right (by decide) (by omega)
            have h8 : (128 : Nat) ^ 8 = 72057594037927936 := by decide
            -- the last digit's place
            have hlt : (c.toNat - 128) * 128 ^ i < 128 ^ (i + 1) := by rw [Nat.pow_succ, Nat.mul_comm]; exact Nat.mul_lt_mul_of_pos_left (by omega) hq
            have hdv : 128 ^ (i + 1) ∣ 18446744073709551616 := by
              rw [show 18446744073709551616 = 2 ^ 64 by decide, show (128 : Nat) = 2 ^ 7 by decide, ← Nat.pow_mul]
              exact Nat.pow_dvd_pow 2 (by omega)
            obtain ⟨z, hz⟩ := hdv
            rw [hz, Nat.mul_comm] at g3
            rw [hz]
            have hmz : m + 1 ≤ z := Nat.lt_of_mul_lt_mul_left g3
            calc (c.toNat - 128) * 128 ^ i + m * 128 ^ (i + 1) < 128 ^ (i + 1) + m * 128 ^ (i + 1) := by omega
              _ = 128 ^ (i + 1) * (m + 1) := by rw [Nat.mul_add, Nat.mul_comm m]; omega
              _ ≤ 128 ^ (i + 1) * z := Nat.mul_le_mul_left _ hmz
          · omega
          · rw [e4]; simp only [List.length_cons]; omega
          · rw [e4]; simp only [List.length_cons, List.take_succ_cons, g6]

/-! ### the program's and the reference's bytes -/
theorem tmod_nat (n m : Nat) : Int.tmod (n : Int) (m : Int) = ((n % m : Nat) : Int) := by
  rw [Int.tmod_eq_emod_of_nonneg (by omega)]; rfl
theorem tdiv_nat (n m : Nat) : Int.tdiv (n : Int) (m : Int) = ((n / m : Nat) : Int) := by
  rw [Int.tdiv_eq_ediv_of_nonneg (by omega)]; rfl

theorem bytes_l0 (d : Nat) : ∀ (n : Nat) (out : List Int) (k : Nat), n < 128 ^ (d + 1) → d < k → out.length + d ≤ 1000 →
    vint_Bytes.l0 k (n : Int) out = some (out ++ enc n) := by
  induction d with
  | zero =>
    intro n out k hn hk ho
    obtain ⟨k, rfl⟩ : ∃ m, k = m + 1 := ⟨k - 1, by omega⟩
    simp only [vint_Bytes.l0]
    rw [if_neg (by omega), if_pos (by omega), enc_small (by omega), Int.emod_eq_of_lt (by omega) (by omega)]
  | succ d ih =>
    intro n out k hn hk ho
    obtain ⟨k, rfl⟩ : ∃ m, k = m + 1 := ⟨k - 1, by omega⟩
    by_cases h : n < 128
    · simp only [vint_Bytes.l0]
      rw [if_neg (by omega), if_pos (by omega), enc_small (by omega), Int.emod_eq_of_lt (by omega) (by omega)]
    · simp only [vint_Bytes.l0]
      rw [if_pos (by omega), if_pos (by omega)]
      have e1 : Go.bits .or .u64 (Int.tmod (n : Int) 128) 128 = ((n % 128 + 128 : Nat) : Int) := by
        have := tmod_nat n 128
        rw [show (128 : Int) = ((128 : Nat) : Int) from rfl, this]
        rw [Go.u64_orv7 _ _ (by omega) (by omega) (by omega) (by decide) (by omega)]; rfl
      rw [e1, Int.emod_eq_of_lt (by omega) (by omega)]
      have e2 : (n : Int) / 128 = ((n / 128 : Nat) : Int) := rfl
      rw [e2, ih (n / 128) _ k (by rw [Nat.pow_succ] at hn; exact Nat.div_lt_of_lt_mul (by omega)) (by omega) (by simp only [List.length_append, List.length_cons, List.length_nil]; omega)]
      rw [enc_big h, List.append_assoc]; rfl

theorem bytes_f (n : Nat) (k : Nat) (hn : n < 18446744073709551616) (hk : 10 ≤ k) : vint_Bytes.f k (n : Int) = some (enc n) := by
  unfold vint_Bytes.f
  rw [bytes_l0 9 n [] k (by rw [pow10]; omega) (by omega) (by simp)]; rfl

theorem refbytes_d (d : Nat) : ∀ (n : Nat) (k : Nat), n < 128 ^ (d + 1) → n < 18446744073709551616 → d < k → d ≤ 1000 →
    clewref04_Bytes.f k (n : Int) = some (enc n) := by
  induction d with
  | zero =>
    intro n k hn _ hk _
    obtain ⟨k, rfl⟩ : ∃ m, k = m + 1 := ⟨k - 1, by omega⟩
    simp only [clewref04_Bytes.f]
    rw [if_pos (by omega), enc_small (by omega), Int.emod_eq_of_lt (by omega) (by omega)]
  | succ d ih =>
    intro n k hn hm hk hd
    obtain ⟨k, rfl⟩ : ∃ m, k = m + 1 := ⟨k - 1, by omega⟩
    by_cases h : n < 128
    · simp only [clewref04_Bytes.f]
      rw [if_pos (by omega), enc_small (by omega), Int.emod_eq_of_lt (by omega) (by omega)]
    · simp only [clewref04_Bytes.f]
      have hd' : n / 128 < 128 ^ (d + 1) := by rw [Nat.pow_succ] at hn; exact Nat.div_lt_of_lt_mul (by omega)
      have e1 : Int.tmod (n : Int) 128 = ((n % 128 : Nat) : Int) := tmod_nat n 128
      have e2 : Int.tdiv (n : Int) 128 = ((n / 128 : Nat) : Int) := tdiv_nat n 128
      rw [if_neg (by omega), e1, e2, Go.wraps_u64 ((n / 128 : Nat) : Int) (by omega) (by omega), ih (n / 128) k hd' (by omega) (by omega) (by omega), Go.wraps_u64 _ (by omega) (by omega)]
      have hl := (enc_len d (n / 128) hd').2
      simp only [Option.bind_some, List.length_cons, List.length_nil]
      rw [if_pos (by omega), enc_big h, Int.emod_eq_of_lt (by omega) (by omega)]; rfl
theorem refbytes_f (n : Nat) (k : Nat) (hn : n < 18446744073709551616) (hk : 10 ≤ k) : clewref04_Bytes.f k (n : Int) = some (enc n) :=
  refbytes_d 9 n k (by rw [pow10]; omega) hn (by omega) (by omega)

/-! ### zig and zag -/
def zig (x : Int) : Nat := if 0 ≤ x then (2 * x).toNat else (-2 * x - 1).toNat
def zag (u : Nat) : Int := if u % 2 = 0 then ((u / 2 : Nat) : Int) else -1 - ((u / 2 : Nat) : Int)
theorem zag_zig (x : Int) : zag (zig x) = x := by unfold zag zig; split <;> split <;> omega
theorem zig_zag (u : Nat) : zig (zag u) = u := by unfold zag zig; split <;> split <;> omega
theorem zig_lt {x : Int} (h0 : -9223372036854775808 ≤ x) (h1 : x ≤ 9223372036854775807) : zig x < 18446744073709551616 := by unfold zig; split <;> omega
theorem zag_in {u : Nat} (h : u < 18446744073709551616) : -9223372036854775808 ≤ zag u ∧ zag u ≤ 9223372036854775807 := by unfold zag; split <;> omega

theorem zig_f (x : Int) (h0 : -9223372036854775808 ≤ x) (h1 : x ≤ 9223372036854775807) : vint_Zig.f x = some ((zig x : Nat) : Int) := by
  unfold vint_Zig.f
  congr 1
  by_cases hx : 0 ≤ x
  · have e1 : IntKind.u64.wrap (x / 9223372036854775808) = ((0 : Nat) : Int) := by rw [Go.IntKind.wrap_u64]; omega
    have e2 : IntKind.u64.wrap (IntKind.u64.wrap x * 2) = ((zig x : Nat) : Int) := by
      rw [Go.IntKind.wrap_u64, Go.IntKind.wrap_u64]; unfold zig; rw [if_pos hx]; omega
    rw [e1, e2, Go.bits_xor_u64_nat _ _ (zig_lt h0 h1) (by decide), Nat.xor_zero]
  · have e1 : IntKind.u64.wrap (x / 9223372036854775808) = ((2 ^ 64 - 1 : Nat) : Int) := by rw [Go.IntKind.wrap_u64]; omega
    have e2 : IntKind.u64.wrap (IntKind.u64.wrap x * 2) = (((2 * x + 18446744073709551616).toNat : Nat) : Int) := by
      rw [Go.IntKind.wrap_u64, Go.IntKind.wrap_u64]; omega
    rw [e1, e2, Go.bits_xor_u64_nat _ _ (by omega) (by decide), Nat.xor_comm, Go.Lib.xor_ones64 _ (by omega)]
    unfold zig; rw [if_neg hx]; omega

/-! ### the anchor -/
theorem signed_f (x : Int) (k : Nat) (h0 : -9223372036854775808 ≤ x) (h1 : x ≤ 9223372036854775807) (hk : 10 ≤ k) : vint_Signed.f k x = some (enc (zig x)) := by
  unfold vint_Signed.f
  rw [zig_f x h0 h1, Option.bind_some, bytes_f _ k (zig_lt h0 h1) hk]; rfl
theorem anchor_f (k : Nat) (hk : 10 ≤ k) : clewlaw04_anchor.f k = some true := by
  unfold clewlaw04_anchor.f
  have e1 : vint_Bytes.f k 300 = some (enc 300) := bytes_f 300 k (by decide) hk
  have e2 : vint_Signed.f k (-1) = some (enc 1) := signed_f (-1) k (by decide) (by decide) hk
  have a1 : enc 300 = [172, 2] := by rw [enc_big (by decide), show 300 / 128 = 2 by decide, enc_small (by decide)]; rfl
  have a2 : enc 1 = [1] := by rw [enc_small (by decide)]; rfl
  rw [e1, e2, a1, a2]
  decide +kernel

/-! ### the program's Get -/
theorem width_l0 (d : Nat) : ∀ (x : Nat) (w : Nat) (k : Nat), x < 2 ^ d → d < k → w + d ≤ 1000 → ∃ t : Nat, vint_width.l0 k (x : Int) (w : Int) = some (t : Int) ∧ w ≤ t ∧ t ≤ w + d := by
  induction d with
  | zero =>
    intro x w k hx hk _
    obtain ⟨k, rfl⟩ : ∃ m, k = m + 1 := ⟨k - 1, by omega⟩
    refine ⟨w, ?_, by omega, by omega⟩
    simp only [vint_width.l0]
    rw [if_neg (by omega)]
  | succ d ih =>
    intro x w k hx hk hw
    obtain ⟨k, rfl⟩ : ∃ m, k = m + 1 := ⟨k - 1, by omega⟩
    by_cases h : x = 0
    · refine ⟨w, ?_, by omega, by omega⟩
      simp only [vint_width.l0]
      rw [if_neg (by omega)]
    · obtain ⟨t, ht, h1, h2⟩ := ih (x / 2) (w + 1) k (by rw [Nat.pow_succ] at hx; omega) (by omega) (by omega)
      refine ⟨t, ?_, by omega, by omega⟩
      simp only [vint_width.l0]
      rw [if_pos (by omega)]
      have e : wrap64 ((w : Int) + 1) = ((w + 1 : Nat) : Int) := by unfold wrap64; omega
      rw [e]
      exact ht
theorem width_f (x k : Nat) (hx : x < 128) (hk : 8 ≤ k) : ∃ t : Nat, vint_width.f k (x : Int) = some (t : Int) ∧ t ≤ 7 ∧ (t ≤ 1 ↔ x ≤ 1) := by
  unfold vint_width.f
  by_cases h : x ≤ 1
  · obtain ⟨t, ht, h1, h2⟩ := width_l0 1 x 0 k (by omega) (by omega) (by omega)
    exact ⟨t, ht, by omega, by omega⟩
  · obtain ⟨k, rfl⟩ : ∃ m, k = m + 1 := ⟨k - 1, by omega⟩
    obtain ⟨k, rfl⟩ : ∃ m, k = m + 1 := ⟨k - 1, by omega⟩
    obtain ⟨t, ht, h1, h2⟩ := width_l0 5 (x / 2 / 2) 2 k (by omega) (by omega) (by omega)
    refine ⟨t, ?_, by omega, by omega⟩
    simp only [vint_width.l0]
    rw [if_pos (by omega), if_pos (by omega), show wrap64 (wrap64 (0 + 1) + 1) = ((2 : Nat) : Int) by unfold wrap64; omega]
    exact ht

theorem pow7 (i : Nat) : (2 : Nat) ^ (7 * i) = 128 ^ i := by rw [Nat.pow_mul]
theorem dvd64 {j : Nat} (h : j ≤ 9) : (128 : Nat) ^ j ≤ 9223372036854775808 := by
  have : (128 : Nat) ^ j ≤ 128 ^ 9 := Nat.pow_le_pow_right (by decide) h
  have e : (128 : Nat) ^ 9 = 9223372036854775808 := by decide
  omega
theorem place_lt {low i : Nat} (hl : low < 128) (hi : i ≤ 9) (h9 : i = 9 → low ≤ 1) : low * 128 ^ i < 18446744073709551616 := by
  by_cases h : i = 9
  · subst h
    have e : (128 : Nat) ^ 9 = 9223372036854775808 := by decide
    rw [e]; have := h9 rfl; omega
  · have : (128 : Nat) ^ i ≤ 128 ^ 8 := Nat.pow_le_pow_right (by decide) (by omega)
    have e : (128 : Nat) ^ 8 = 72057594037927936 := by decide
    have : low * 128 ^ i ≤ 127 * 128 ^ 8 := Nat.mul_le_mul (by omega) this
    omega
theorem or_place {acc low i : Nat} (ha : acc < 128 ^ i) (hl : low < 128) (hi : i ≤ 9) (h9 : i = 9 → low ≤ 1) :
    Go.bits .or .u64 (acc : Int) (shl .u64 (low : Int) ((7 * i : Nat) : Int)) = ((acc + low * 128 ^ i : Nat) : Int) := by
  have hp := place_lt hl hi h9
  have e1 : shl .u64 (low : Int) ((7 * i : Nat) : Int) = ((low * 128 ^ i : Nat) : Int) := by
    unfold shl
    rw [Int.toNat_natCast, show min (7 * i) IntKind.u64.bits = 7 * i by simp [IntKind.bits]; omega]
    rw [show (low : Int) * 2 ^ (7 * i) = ((low * 128 ^ i : Nat) : Int) by rw [← pow7]; simp]
    exact Go.wraps_u64 _ (by omega) (by omega)
  rw [e1]
  have h64 := dvd64 hi
  rw [Go.bits_join_low .u64 64 (by decide) Go.wraps_u64 (7 * i) (acc : Int) _ (by omega) (by rw [show (2 : Int) ^ (7 * i) = ((2 ^ (7 * i) : Nat) : Int) by simp, pow7]; omega) (by omega) (by omega)
    (by rw [show (2 : Int) ^ (7 * i) = ((2 ^ (7 * i) : Nat) : Int) by simp, pow7]
        rw [← Int.natCast_emod, Nat.mul_mod_left]; rfl) (by omega)]
  rfl
theorem rd_drop {b : List Int} {j : Nat} (h : j < b.length) : b.drop j = rd b (j : Int) :: b.drop (j + 1) := by
  rw [List.drop_eq_getElem_cons h]
  congr 1
  unfold rd
  rw [Int.toNat_natCast, List.getD_eq_getElem?_getD, List.getElem?_eq_getElem h]; rfl
theorem rd_in {b : List Int} (hb : ∀ x ∈ b, (Lit.int .u8 x).wf = true) (j : Nat) : ∃ c : Nat, rd b (j : Int) = (c : Int) ∧ c ≤ 255 := by
  have h := range_u8 hb j
  refine ⟨(rd b (j : Int)).toNat, ?_, ?_⟩
  all_goals
    unfold rd
    rw [Int.toNat_natCast, List.getD_eq_getElem?_getD]
    omega

theorem get_end (b : List Int) (at_ : Nat) (hn : b.length ≤ 140737488351232) (ha : at_ ≤ b.length) (k : Nat) (hk : 1 ≤ k) (acc i : Int) (m : Nat) (hi : ¬ i < (m : Int)) :
    vint_Get.l0 k b (at_ : Int) acc (m : Int) i = some (if b.length - at_ < 10 then (0, 0, 14) else (0, 0, 11)) := by
  obtain ⟨k, rfl⟩ : ∃ m, k = m + 1 := ⟨k - 1, by omega⟩
  have ew : wrap64 ((b.length : Int) - (at_ : Int)) = ((b.length - at_ : Nat) : Int) := by unfold wrap64; omega
  simp only [vint_Get.l0]
  rw [if_neg hi, ew]
  by_cases h : b.length - at_ < 10
  · rw [if_pos (by omega), if_pos h]
  · rw [if_neg (by omega), if_neg h]

theorem get_ar (L at_ i c : Nat) (hL : L ≤ 140737488351232) (hl : at_ + i < L) (hi : i ≤ 9) (hc : c ≤ 255) :
    Aside0 (wrap64 ((at_ : Int) + (i : Int)) = ((at_ + i : Nat) : Int)) ∧ Aside0 (IntKind.u64.wrap ((c : Nat) : Int) = (c : Int)) ∧ Aside0 (wrap64 (7 * (i : Int)) = ((7 * i : Nat) : Int)) ∧ Aside0 (wrap64 ((i : Int) + 1) = ((i + 1 : Nat) : Int)) ∧ ∀ t : Nat, t ≤ 7 → Aside0 (wrap64 (((7 * i : Nat) : Int) + (t : Int)) = ((7 * i + t : Nat) : Int)) := by
  refine ⟨⟨by unfold wrap64; omega⟩, ⟨Go.wraps_u64 _ (by omega) (by omega)⟩, ⟨by unfold wrap64; omega⟩, ⟨by unfold wrap64; omega⟩, fun t ht => ⟨by unfold wrap64; omega⟩⟩

theorem get_l0 (b : List Int) (hb : ∀ x ∈ b, (Lit.int .u8 x).wf = true) (hn : b.length ≤ 140737488351232) (at_ m : Nat) (hm : m = min (b.length - at_) 10) (d : Nat) :
    ∀ (i acc k : Nat), i + d = 10 → at_ + i ≤ b.length → acc < 128 ^ i → 20 ≤ k + i →
      vint_Get.l0 k b (at_ : Int) (acc : Int) (m : Int) (i : Int) = some (dec i acc (b.drop (at_ + i))) := by
  induction d with
  | zero =>
    intro i acc k hi hl hacc hk
    clear hacc
    obtain rfl : i = 10 := by omega
    rw [get_end b at_ hn (by omega) k (by omega) _ _ _ (by omega), if_neg (by omega)]
    unfold dec
    split
    · rw [if_neg (by omega)]
    · rw [if_pos (by omega)]
  | succ d ih =>
    intro i acc k hi hl hacc0 hk
    have hacc := Aside0.mk hacc0
    clear hacc0
    by_cases hlt : at_ + i < b.length
    · obtain ⟨k, rfl⟩ : ∃ m, k = m + 1 := ⟨k - 1, by omega⟩
      obtain ⟨c, hc, hc255⟩ := rd_in hb (at_ + i)
      rw [rd_drop hlt, hc]
      obtain ⟨e1, e2, e4, e6, e50⟩ := get_ar b.length at_ i c hn hlt (by omega) hc255
      have e3 : Int.tmod (c : Int) 128 = ((c % 128 : Nat) : Int) := tmod_nat c 128
      obtain ⟨t, ht, ht7, ht1⟩ := width_f (c % 128) k (by omega) (by omega)
      have e5 := e50 t ht7
      simp only [vint_Get.l0]
      rw [if_pos (show (i : Int) < (m : Int) by omega), e1.out, if_pos (show (0 : Int) ≤ ((at_ + i : Nat) : Int) by omega), if_pos (show ((at_ + i : Nat) : Int) < (b.length : Int) by omega), hc, e2.out, e3, e4.out, ht, Option.bind_some, e5.out, e6.out]
      unfold dec
      rw [if_neg (show ¬ 10 ≤ i by omega)]
      by_cases h9 : i = 9 ∧ 2 ≤ c % 128
      · rw [if_pos (by omega), if_pos (by omega)]
      · rw [if_neg (by omega), if_pos (by omega)]
        have h9' : i = 9 → c % 128 ≤ 1 := fun e => by omega
        rw [or_place hacc.out (Nat.mod_lt _ (by decide)) (by omega) h9']
        by_cases h128 : c < 128
        · rw [if_pos (by omega)]
          by_cases hc0 : c = 0
          · rw [if_pos (by omega)]
            by_cases hi0 : 0 < i
            · rw [if_pos (by omega), if_pos (by omega)]
            · rw [if_neg (by omega), if_neg (by omega), if_pos (by omega)]
              rw [Nat.mod_eq_of_lt h128, Int.toNat_natCast]; rfl
          · rw [if_neg (by omega), if_neg (by omega), if_pos (by omega)]
            rw [Nat.mod_eq_of_lt h128, Int.toNat_natCast]; rfl
        · rw [if_neg (by omega)]
          by_cases hi9 : i = 9
          · rw [if_pos (by omega), get_end b at_ hn (by omega) k (by omega) _ _ _ (by omega), if_neg (by omega)]
          · rw [if_neg (by omega), if_neg (by omega)]
            have hq : c % 128 = (c : Int).toNat - 128 := by omega
            rw [hq]
            have hacc2 : acc + ((c : Int).toNat - 128) * 128 ^ i < 128 ^ (i + 1) := by
              rw [Nat.pow_succ]
              have h1 : ((c : Int).toNat - 128) * 128 ^ i ≤ 127 * 128 ^ i := Nat.mul_le_mul_right _ (by omega)
              have h2 := hacc.out
              clear e3
              omega
            exact ih (i + 1) _ k (by omega) (by omega) hacc2 (by omega)
    · rw [get_end b at_ hn (by omega) k (by omega) _ _ _ (by omega), if_pos (by omega), List.drop_eq_nil_of_le (by omega)]
      unfold dec
      rw [if_pos (by omega)]

/-- The answer at any place: the number, how many bytes, the error. -/
def getAt (b : List Int) (i : Int) : Int × Int × Int := if i < 0 ∨ (b.length : Int) < i then (0, 0, 10) else dec 0 0 (b.drop i.toNat)

theorem get_f (b : List Int) (i : Int) (k : Nat) (hb : ∀ x ∈ b, (Lit.int .u8 x).wf = true) (hn : b.length ≤ 140737488351232) (hk : 21 ≤ k) : vint_Get.f k b i = some (getAt b i) := by
  obtain ⟨k, rfl⟩ : ∃ m, k = m + 1 := ⟨k - 1, by omega⟩
  unfold vint_Get.f getAt
  by_cases h0 : i < 0
  · rw [if_pos h0, if_pos (.inl h0)]; simp only [vint_Get.j0]; rw [if_pos trivial]
  · rw [if_neg h0]
    by_cases h1 : (b.length : Int) < i
    · rw [if_pos (.inr h1)]; simp only [vint_Get.j0]; rw [if_pos (by simpa using h1)]
    · rw [if_neg (by omega)]
      simp only [vint_Get.j0]
      rw [if_neg (by simp; omega)]
      obtain ⟨a, rfl⟩ := Int.eq_ofNat_of_zero_le (show 0 ≤ i by omega)
      have ew : wrap64 ((b.length : Int) - (a : Int)) = ((b.length - a : Nat) : Int) := by unfold wrap64; omega
      rw [ew]
      clear ew
      have em : mn ((b.length - a : Nat) : Int) 10 = ((min (b.length - a) 10 : Nat) : Int) := by unfold mn; split <;> omega
      rw [em]
      exact get_l0 b hb hn a _ rfl 10 0 0 k (by omega) (by omega) (by simp) (by omega)
theorem getAt_bad {b : List Int} {i : Int} (h : (getAt b i).2.2 ≠ 0) : (getAt b i).1 = 0 ∧ (getAt b i).2.1 = 0 := by
  unfold getAt at h ⊢
  split
  · exact ⟨rfl, rfl⟩
  · rename_i h1; rw [if_neg h1] at h; exact dec_bad _ _ _ h
theorem getAt_good {b : List Int} {i : Int} (hb : ∀ x ∈ b, (Lit.int .u8 x).wf = true) (h : (getAt b i).2.2 = 0) : 0 ≤ i ∧ i ≤ b.length ∧
    ∃ m : Nat, m < 18446744073709551616 ∧ (getAt b i).1 = (m : Int) ∧ (getAt b i).2.1 = ((enc m).length : Int) ∧ (enc m).length ≤ b.length - i.toNat ∧ (b.drop i.toNat).take (enc m).length = enc m := by
  unfold getAt at h ⊢
  by_cases h1 : i < 0 ∨ (b.length : Int) < i
  · rw [if_pos h1] at h; simp at h
  · rw [if_neg h1] at h ⊢
    obtain ⟨_, m, g1, g2, g3, _, g5, g6⟩ := dec_good (b.drop i.toNat) 0 0 (fun x hx => bounds_u8 (hb x (List.mem_of_mem_drop hx))) h
    rw [Nat.pow_zero, Nat.mul_one] at g1 g3
    rw [Nat.zero_add] at g1 g2
    rw [List.length_drop] at g5
    exact ⟨by omega, by omega, m, g3, g1, g2, g5, g6⟩


theorem enc_in : ∀ (n : Nat) (y : Int), y ∈ enc n → 0 ≤ y ∧ y ≤ 255 := by
  intro n
  induction n using Nat.strongRecOn with
  | ind n ih =>
    intro y hy
    by_cases h : n < 128
    · rw [enc_small h] at hy
      have := List.mem_singleton.1 hy
      omega
    · rw [enc_big h] at hy
      rcases List.mem_cons.1 hy with hy | hy
      · omega
      · exact ih (n / 128) (by omega) y hy

theorem VintBytes : clewlaw04_VintBytes.Pure := by
  intro x l1 l2 hx hm1 hn1 hb1 hm2 hn2 hb2
  have bx := bounds_u64 hx
  obtain ⟨n, rfl⟩ := Int.eq_ofNat_of_zero_le bx.1
  have hn : n < 18446744073709551616 := by omega
  refine ⟨41, ?_⟩
  have hl := enc_len10 hn
  have hj0 : clewlaw04_VintBytes.j0 41 (n : Int) l1 l2 true = some true := by
    rw [show (41 : Nat) = 40 + 1 from rfl]
    simp only [clewlaw04_VintBytes.j0]
    rw [if_pos trivial]
  unfold clewlaw04_VintBytes.f
  rw [anchor_f 41 (by decide), Option.bind_some, if_pos rfl]
  by_cases h1 : (l1.length : Int) > 1000
  · rw [if_pos h1]; exact hj0
  · rw [if_neg h1]
    by_cases h2 : (l2.length : Int) > 1000
    · rw [decide_eq_true h2]; exact hj0
    · rw [decide_eq_false h2, show (41 : Nat) = 40 + 1 from rfl]
      have hw : ∀ y ∈ ([] ++ l1 ++ enc n ++ l2), (Lit.int .u8 y).wf = true := by
        intro y hy
        simp only [List.nil_append, List.mem_append] at hy
        rcases hy with (hy | hy) | hy
        · exact hb1 y hy
        · have := enc_in n y hy
          have h3 := wf_wrap .u8 y
          rw [Go.IntKind.wrap_u8, Int.emod_eq_of_lt this.1 (by omega)] at h3
          exact h3
        · exact hb2 y hy
      have hg := get_f ([] ++ l1 ++ enc n ++ l2) (l1.length : Int) 40 hw (by simp only [List.length_append, List.length_nil]; omega) (by decide)
      have ha : getAt ([] ++ l1 ++ enc n ++ l2) (l1.length : Int) = ((n : Int), ((enc n).length : Int), 0) := by
        unfold getAt
        rw [if_neg (by simp only [List.length_append, List.length_nil]; omega), Int.toNat_natCast]
        rw [show (([] : List Int) ++ l1 ++ enc n ++ l2).drop l1.length = enc n ++ l2 by rw [List.nil_append, List.append_assoc, List.drop_left]]
        rw [dec_enc n 0 0 l2 (by rw [Nat.pow_zero]; omega) (by omega) (by omega)]
        rw [Nat.pow_zero, Nat.mul_one, Nat.zero_add, Nat.zero_add]
      rw [ha] at hg
      simp only [clewlaw04_VintBytes.j0]
      rw [if_neg (by decide), bytes_f n 40 hn (by decide), Option.bind_some, Option.bind_some]
      rw [if_pos (by simp only [List.length_nil]; omega), Option.bind_some, if_pos (by simp only [List.length_nil, List.length_append]; omega), Option.bind_some, if_pos (by simp only [List.length_nil, List.length_append]; omega)]
      rw [hg, Option.bind_some, refbytes_f n 40 hn (by decide), Option.bind_some, if_pos rfl, if_pos rfl, if_pos rfl]
      rfl
end Go.Proofs.Ytecfnbnngdpfiaa.Pure
