/- vint.Zig and vint.Zag are turned over by each other, agree with the reference, and near nought the bytes are one: the law clewlaw04.VintSigns answers true at every pair of numbers. Conditions: none beyond the given row's. -/
import Derived.Test.YtecfnbnngdpfiaaSignsW
import Derived.Lib.VarintBits
import Derived.Lib.Zigzag
import Derived.Laws.Bits64
import Derived.OpenShut
namespace Go.Proofs.Ytecfnbnngdpfiaa.Pure
open Go.RowKit Go.Proofs.Ytecfnbnngdpfiaa.PVintSigns Go.Proofs.YtecfnbnngdpfiaaW.PrintWords Go.Proofs.YtecfnbnngdpfiaaW.PrintLast Go.Proofs.YtecfnbnngdpfiaaW.PrintMore
open Go (IntKind Lit maxLen World Addr)

/-! ### numbers as bytes, in plain Lean -/
def enc (n : Nat) : List Int := if _h : n < 128 then [(n : Int)] else ((n % 128 + 128 : Nat) : Int) :: enc (n / 128)
termination_by n
decreasing_by omega

theorem enc_small {n : Nat} (h : n < 128) : enc n = [(n : Int)] := by rw [enc, dif_pos h]
theorem enc_big {n : Nat} (h : ¬ n < 128) : enc n = ((n % 128 + 128 : Nat) : Int) :: enc (n / 128) := by rw [enc, dif_neg h]

theorem enc_len (d : Nat) : ∀ n, n < 128 ^ (d + 1) → 1 ≤ (enc n).length ∧ (enc n).length ≤ d + 1 := by
  induction d with
  | zero => intro n h; rw [enc_small (by omega)]; simp
  | succ d ih =>
    intro n h
    by_cases hn : n < 128
    · rw [enc_small hn]; simp
    · rw [enc_big hn]
      have := ih (n / 128) (by rw [Nat.pow_succ] at h; exact Nat.div_lt_of_lt_mul (by omega))
      simp only [List.length_cons]; omega

theorem pow10 : (128 : Nat) ^ 10 = 1180591620717411303424 := by decide
theorem enc_len10 {n : Nat} (h : n < 18446744073709551616) : 1 ≤ (enc n).length ∧ (enc n).length ≤ 10 := enc_len 9 n (by rw [pow10]; omega)

/-- What is read: the number, how many bytes it has, the error; 'i' bytes are behind, which make 'acc'. -/
def dec : Nat → Nat → List Int → Int × Int × Int
  | i, _, [] => if i < 10 then (0, 0, 14) else (0, 0, 11)
  | i, acc, c :: bs =>
    if 10 ≤ i then (0, 0, 11)
    else if (i = 9 ∧ 2 ≤ c) ∨ (0 < i ∧ c = 0) then (0, 0, 11)
    else if c < 128 then (((acc + c.toNat * 128 ^ i : Nat) : Int), (i : Int) + 1, 0)
    else dec (i + 1) (acc + (c.toNat - 128) * 128 ^ i) bs

theorem dec_enc : ∀ (n i acc : Nat) (tail : List Int), n * 128 ^ i < 18446744073709551616 → (0 < i → 0 < n) → i ≤ 9 →
    dec i acc (enc n ++ tail) = (((acc + n * 128 ^ i : Nat) : Int), ((i + (enc n).length : Nat) : Int), 0) := by
  intro n
  induction n using Nat.strongRecOn with
  | ind n ih =>
    intro i acc tail hn h0 hi
    have h9 : i = 9 → n < 2 := by
      rintro rfl
      have : (128 : Nat) ^ 9 = 9223372036854775808 := by decide
      rw [this] at hn; omega
    by_cases h : n < 128
    · rw [enc_small h]
      simp only [List.cons_append, List.nil_append, dec]
      have hneg : ¬ ((i = 9 ∧ 2 ≤ (n : Int)) ∨ (0 < i ∧ (n : Int) = 0)) := by
        rintro (⟨a, b⟩ | ⟨a, b⟩)
        · have := h9 a; omega
        · have := h0 a; omega
      rw [if_neg (show ¬ 10 ≤ i by omega), if_neg hneg, if_pos (show (n : Int) < 128 by omega)]
      simp only [Int.toNat_natCast, List.length_cons, List.length_nil, Nat.zero_add, Int.natCast_add, Int.natCast_one]
    · rw [enc_big h]
      have hi9 : i ≠ 9 := fun e => by have := h9 e; omega
      simp only [List.cons_append, dec]
      rw [if_neg (by omega), if_neg (by omega), if_neg (by omega)]
      have e1 : ((n % 128 + 128 : Nat) : Int).toNat - 128 = n % 128 := by omega
      have e2 : n / 128 * 128 ^ (i + 1) = n / 128 * 128 * 128 ^ i := by rw [Nat.pow_succ, Nat.mul_comm (128 ^ i), Nat.mul_assoc]
      have e3 : n % 128 * 128 ^ i + n / 128 * 128 ^ (i + 1) = n * 128 ^ i := by
        rw [e2, ← Nat.add_mul, Nat.mod_add_div']
      rw [e1, ih (n / 128) (by omega) (i + 1) _ tail (by omega) (fun _ => by omega) (by omega)]
      rw [show acc + n % 128 * 128 ^ i + n / 128 * 128 ^ (i + 1) = acc + n * 128 ^ i by omega]
      simp only [List.length_cons]
      rw [Nat.add_assoc i 1, Nat.add_comm 1]

theorem dec_bad : ∀ (bs : List Int) (i acc : Nat), (dec i acc bs).2.2 ≠ 0 → (dec i acc bs).1 = 0 ∧ (dec i acc bs).2.1 = 0 := by
  intro bs
  induction bs with
  | nil => intro i acc h; unfold dec; split <;> exact ⟨rfl, rfl⟩
  | cons c bs ih =>
    intro i acc h
    unfold dec at h ⊢
    split
    · exact ⟨rfl, rfl⟩
    · rename_i h1; rw [if_neg h1] at h
      split
      · exact ⟨rfl, rfl⟩
      · rename_i h2; rw [if_neg h2] at h
        split
        · rename_i h3; rw [if_pos h3] at h; exact absurd rfl h
        · rename_i h3; rw [if_neg h3] at h; exact ih _ _ h

/-- What is read stood there as a number's bytes. -/
theorem dec_good : ∀ (bs : List Int) (i acc : Nat), (∀ x ∈ bs, 0 ≤ x ∧ x ≤ 255) → (dec i acc bs).2.2 = 0 → i ≤ 9 ∧
    ∃ m : Nat, (dec i acc bs).1 = ((acc + m * 128 ^ i : Nat) : Int) ∧ (dec i acc bs).2.1 = ((i + (enc m).length : Nat) : Int) ∧ m * 128 ^ i < 18446744073709551616 ∧ (0 < i → 0 < m) ∧ (enc m).length ≤ bs.length ∧ bs.take (enc m).length = enc m := by
  intro bs
  induction bs with
  | nil => intro i acc _ h; unfold dec at h; split at h <;> simp at h
  | cons c bs ih =>
    intro i acc hb h
    have hc := hb c (by simp)
    unfold dec at h ⊢
    by_cases h1 : 10 ≤ i
    · rw [if_pos h1] at h; simp at h
    · rw [if_neg h1] at h ⊢
      by_cases h2 : (i = 9 ∧ 2 ≤ c) ∨ (0 < i ∧ c = 0)
      · rw [if_pos h2] at h; simp at h
      · rw [if_neg h2] at h ⊢
        have hp : (128 : Nat) ^ i ≤ 128 ^ 9 := Nat.pow_le_pow_right (by decide) (by omega)
        have hp9 : (128 : Nat) ^ 9 = 9223372036854775808 := by decide
        by_cases h3 : c < 128
        · rw [if_pos h3] at h ⊢
          refine ⟨by omega, c.toNat, ?_, ?_, ?_, ?_, ?_, ?_⟩
          · rfl
          · rw [enc_small (by omega)]; simp
          · by_cases h9 : i = 9
            · subst h9; rw [hp9]; omega
            · have hp8 : (128 : Nat) ^ i ≤ 128 ^ 8 := Nat.pow_le_pow_right (by decide) (by omega)
              have h8 : (128 : Nat) ^ 8 = 72057594037927936 := by decide
              calc c.toNat * 128 ^ i ≤ 127 * 128 ^ 8 := Nat.mul_le_mul (by omega) hp8
                _ < _ := by rw [h8]; omega
          · omega
          · rw [enc_small (by omega)]; simp
          · rw [enc_small (by omega)]; simp; omega
        · rw [if_neg h3] at h ⊢
          obtain ⟨hi, m, g1, g2, g3, g4, g5, g6⟩ := ih (i + 1) _ (fun x hx => hb x (by simp [hx])) h
          have hm : 0 < m := g4 (by omega)
          have e2 : m * 128 ^ (i + 1) = m * 128 * 128 ^ i := by rw [Nat.pow_succ, Nat.mul_comm (128 ^ i), Nat.mul_assoc]
          have hq : (128 : Nat) ^ i > 0 := Nat.pow_pos (by decide)
          have e3 : (c.toNat - 128 + m * 128) * 128 ^ i = (c.toNat - 128) * 128 ^ i + m * 128 ^ (i + 1) := by rw [e2, Nat.add_mul]
          have e4 : enc (c.toNat - 128 + m * 128) = c :: enc m := by
            rw [enc_big (by omega), show (c.toNat - 128 + m * 128) / 128 = m by omega, show (c.toNat - 128 + m * 128) % 128 + 128 = c.toNat by omega]
            congr 1; omega
          refine ⟨by omega, c.toNat - 128 + m * 128, ?_, ?_, ?_, ?_, ?_, ?_⟩
          · rw [g1, e3]; congr 1; omega
          · rw [g2, e4]; simp only [List.length_cons]; congr 1; omega
          · rw [e3]
            have hp8 : (128 : Nat) ^ i ≤ 128 ^ 8 := Nat.pow_le_pow_right (by decide) (by omega)
            have h8 : (128 : Nat) ^ 8 = 72057594037927936 := by decide
            -- the last digit's place
            have hlt : (c.toNat - 128) * 128 ^ i < 128 ^ (i + 1) := by rw [Nat.pow_succ, Nat.mul_comm]; exact Nat.mul_lt_mul_of_pos_left (by omega) hq
            have hdv : 128 ^ (i + 1) ∣ 18446744073709551616 := by
              rw [show 18446744073709551616 = 2 ^ 64 by decide, show (128 : Nat) = 2 ^ 7 by decide, ← Nat.pow_mul]
              exact Nat.pow_dvd_pow 2 (by omega)
            obtain ⟨z, hz⟩ := hdv
            rw [hz, Nat.mul_comm] at g3
            rw [hz]
            have hmz : m + 1 ≤ z := Nat.lt_of_mul_lt_mul_left g3
            calc (c.toNat - 128) * 128 ^ i + m * 128 ^ (i + 1) < 128 ^ (i + 1) + m * 128 ^ (i + 1) := by omega
              _ = 128 ^ (i + 1) * (m + 1) := by rw [Nat.mul_add, Nat.mul_comm m]; omega
              _ ≤ 128 ^ (i + 1) * z := Nat.mul_le_mul_left _ hmz
          · omega
          · rw [e4]; simp only [List.length_cons]; omega
          · rw [e4]; simp only [List.length_cons, List.take_succ_cons, g6]

/-! ### the program's and the reference's bytes -/
theorem tmod_nat (n m : Nat) : Int.tmod (n : Int) (m : Int) = ((n % m : Nat) : Int) := by
  rw [Int.tmod_eq_emod_of_nonneg (by omega)]; rfl
theorem tdiv_nat (n m : Nat) : Int.tdiv (n : Int) (m : Int) = ((n / m : Nat) : Int) := by
  rw [Int.tdiv_eq_ediv_of_nonneg (by omega)]; rfl

theorem bytes_l0 (d : Nat) : ∀ (n : Nat) (out : List Int) (k : Nat), n < 128 ^ (d + 1) → d < k → out.length + d ≤ 1000 →
    vint_Bytes.l0 k (n : Int) out = some (out ++ enc n) := by
  induction d with
  | zero =>
    intro n out k hn hk ho
    obtain ⟨k, rfl⟩ : ∃ m, k = m + 1 := ⟨k - 1, by omega⟩
    simp only [vint_Bytes.l0]
    rw [if_neg (by omega), if_pos (by omega), enc_small (by omega), Int.emod_eq_of_lt (by omega) (by omega)]
  | succ d ih =>
    intro n out k hn hk ho
    obtain ⟨k, rfl⟩ : ∃ m, k = m + 1 := ⟨k - 1, by omega⟩
    by_cases h : n < 128
    · simp only [vint_Bytes.l0]
      rw [if_neg (by omega), if_pos (by omega), enc_small (by omega), Int.emod_eq_of_lt (by omega) (by omega)]
    · simp only [vint_Bytes.l0]
      rw [if_pos (by omega), if_pos (by omega)]
      have e1 : Go.bits .or .u64 (Int.tmod (n : Int) 128) 128 = ((n % 128 + 128 : Nat) : Int) := by
        have := tmod_nat n 128
        rw [show (128 : Int) = ((128 : Nat) : Int) from rfl, this]
        rw [Go.u64_orv7 _ _ (by omega) (by omega) (by omega) (by decide) (by omega)]; rfl
      rw [e1, Int.emod_eq_of_lt (by omega) (by omega)]
      have e2 : (n : Int) / 128 = ((n / 128 : Nat) : Int) := rfl
      rw [e2, ih (n / 128) _ k (by rw [Nat.pow_succ] at hn; exact Nat.div_lt_of_lt_mul (by omega)) (by omega) (by simp only [List.length_append, List.length_cons, List.length_nil]; omega)]
      rw [enc_big h, List.append_assoc]; rfl

theorem bytes_f (n : Nat) (k : Nat) (hn : n < 18446744073709551616) (hk : 10 ≤ k) : vint_Bytes.f k (n : Int) = some (enc n) := by
  unfold vint_Bytes.f
  rw [bytes_l0 9 n [] k (by rw [pow10]; omega) (by omega) (by simp)]; rfl

theorem refbytes_d (d : Nat) : ∀ (n : Nat) (k : Nat), n < 128 ^ (d + 1) → n < 18446744073709551616 → d < k → d ≤ 1000 →
    clewref04_Bytes.f k (n : Int) = some (enc n) := by
  induction d with
  | zero =>
    intro n k hn _ hk _
    obtain ⟨k, rfl⟩ : ∃ m, k = m + 1 := ⟨k - 1, by omega⟩
    simp only [clewref04_Bytes.f]
    rw [if_pos (by omega), enc_small (by omega), Int.emod_eq_of_lt (by omega) (by omega)]
  | succ d ih =>
    intro n k hn hm hk hd
    obtain ⟨k, rfl⟩ : ∃ m, k = m + 1 := ⟨k - 1, by omega⟩
    by_cases h : n < 128
    · simp only [clewref04_Bytes.f]
      rw [if_pos (by omega), enc_small (by omega), Int.emod_eq_of_lt (by omega) (by omega)]
    · simp only [clewref04_Bytes.f]
      have hd' : n / 128 < 128 ^ (d + 1) := by rw [Nat.pow_succ] at hn; exact Nat.div_lt_of_lt_mul (by omega)
      have e1 : Int.tmod (n : Int) 128 = ((n % 128 : Nat) : Int) := tmod_nat n 128
      have e2 : Int.tdiv (n : Int) 128 = ((n / 128 : Nat) : Int) := tdiv_nat n 128
      rw [if_neg (by omega), e1, e2, Go.wraps_u64 ((n / 128 : Nat) : Int) (by omega) (by omega), ih (n / 128) k hd' (by omega) (by omega) (by omega), Go.wraps_u64 _ (by omega) (by omega)]
      have hl := (enc_len d (n / 128) hd').2
      simp only [Option.bind_some, List.length_cons, List.length_nil]
      rw [if_pos (by omega), enc_big h, Int.emod_eq_of_lt (by omega) (by omega)]; rfl
theorem refbytes_f (n : Nat) (k : Nat) (hn : n < 18446744073709551616) (hk : 10 ≤ k) : clewref04_Bytes.f k (n : Int) = some (enc n) :=
  refbytes_d 9 n k (by rw [pow10]; omega) hn (by omega) (by omega)

/-! ### zig and zag -/
def zig (x : Int) : Nat := if 0 ≤ x then (2 * x).toNat else (-2 * x - 1).toNat
def zag (u : Nat) : Int := if u % 2 = 0 then ((u / 2 : Nat) : Int) else -1 - ((u / 2 : Nat) : Int)
theorem zag_zig (x : Int) : zag (zig x) = x := by unfold zag zig; split <;> split <;> omega
theorem zig_zag (u : Nat) : zig (zag u) = u := by unfold zag zig; split <;> split <;> omega
theorem zig_lt {x : Int} (h0 : -9223372036854775808 ≤ x) (h1 : x ≤ 9223372036854775807) : zig x < 18446744073709551616 := by unfold zig; split <;> omega
theorem zag_in {u : Nat} (h : u < 18446744073709551616) : -9223372036854775808 ≤ zag u ∧ zag u ≤ 9223372036854775807 := by unfold zag; split <;> omega

theorem zig_f (x : Int) (h0 : -9223372036854775808 ≤ x) (h1 : x ≤ 9223372036854775807) : vint_Zig.f x = some ((zig x : Nat) : Int) := by
  unfold vint_Zig.f
  congr 1
  by_cases hx : 0 ≤ x
  · have e1 : IntKind.u64.wrap (x / 9223372036854775808) = ((0 : Nat) : Int) := by rw [Go.IntKind.wrap_u64]; omega
    have e2 : IntKind.u64.wrap (IntKind.u64.wrap x * 2) = ((zig x : Nat) : Int) := by
      rw [Go.IntKind.wrap_u64, Go.IntKind.wrap_u64]; unfold zig; rw [if_pos hx]; omega
    rw [e1, e2, Go.bits_xor_u64_nat _ _ (zig_lt h0 h1) (by decide), Nat.xor_zero]
  · have e1 : IntKind.u64.wrap (x / 9223372036854775808) = ((2 ^ 64 - 1 : Nat) : Int) := by rw [Go.IntKind.wrap_u64]; omega
    have e2 : IntKind.u64.wrap (IntKind.u64.wrap x * 2) = (((2 * x + 18446744073709551616).toNat : Nat) : Int) := by
      rw [Go.IntKind.wrap_u64, Go.IntKind.wrap_u64]; omega
    rw [e1, e2, Go.bits_xor_u64_nat _ _ (by omega) (by decide), Nat.xor_comm, Go.Lib.xor_ones64 _ (by omega)]
    unfold zig; rw [if_neg hx]; omega

theorem xor_zero_i64 (x : Nat) (hx : x < 9223372036854775808) : Go.bits .xor .i64 (x : Int) 0 = (x : Int) := by
  show IntKind.i64.wrap ((BitVec.ofInt 64 (x : Int) ^^^ BitVec.ofInt 64 0).toNat : Int) = _
  have h1 : BitVec.ofInt 64 0 = 0#64 := by decide
  rw [h1, BitVec.xor_zero, BitVec.ofInt_natCast, BitVec.toNat_ofNat, Nat.mod_eq_of_lt (by omega), Go.IntKind.wrap_i64]
  omega
theorem xor_ones_i64 (x : Nat) (hx : x < 9223372036854775808) : Go.bits .xor .i64 (x : Int) (-1) = -1 - (x : Int) := by
  have h := Go.Lib.i64_not x hx
  have e : Go.bits .xor .i64 (x : Int) (-1) = Go.bits .xor .i64 (-1) (x : Int) := by
    show IntKind.i64.wrap ((BitVec.ofInt 64 (x : Int) ^^^ BitVec.ofInt 64 (-1)).toNat : Int) = IntKind.i64.wrap ((BitVec.ofInt 64 (-1) ^^^ BitVec.ofInt 64 (x : Int)).toNat : Int)
    rw [BitVec.xor_comm]
  rw [e, h]; omega

theorem zag_f (u : Nat) (h : u < 18446744073709551616) : vint_Zag.f (u : Int) = some (zag u) := by
  unfold vint_Zag.f
  congr 1
  rw [Go.Lib.u64_and1 _ (by omega) (by omega)]
  have e0 : wrap64 ((u : Int) / 2) = ((u / 2 : Nat) : Int) := by unfold wrap64; omega
  have e1 : wrap64 ((u : Int) % 2) = ((u % 2 : Nat) : Int) := by unfold wrap64; omega
  rw [e0, e1]
  unfold zag
  by_cases hu : u % 2 = 0
  · rw [if_pos hu, hu, show wrap64 (-((0 : Nat) : Int)) = 0 by unfold wrap64; omega, xor_zero_i64 _ (by omega)]
  · have h1 : u % 2 = 1 := by omega
    rw [if_neg hu, h1, show wrap64 (-((1 : Nat) : Int)) = -1 by unfold wrap64; omega, xor_ones_i64 _ (by omega)]

theorem refzag_f (u : Nat) (h : u < 18446744073709551616) : clewref04_Zag.f (u : Int) = some (zag u) := by
  unfold clewref04_Zag.f
  have e1 : Int.tmod (u : Int) 2 = ((u % 2 : Nat) : Int) := tmod_nat u 2
  have e2 : Int.tdiv (u : Int) 2 = ((u / 2 : Nat) : Int) := tdiv_nat u 2
  rw [e1, e2, Go.wraps_u64 ((u / 2 : Nat) : Int) (by omega) (by omega)]
  have e3 : wrap64 ((u / 2 : Nat) : Int) = ((u / 2 : Nat) : Int) := by unfold wrap64; omega
  rw [e3]
  unfold zag
  by_cases hu : u % 2 = 0
  · rw [if_pos (by omega), if_pos hu]
  · rw [if_neg (by omega), if_neg hu]; congr 1; unfold wrap64; omega

/-! ### the anchor -/
theorem signed_f (x : Int) (k : Nat) (h0 : -9223372036854775808 ≤ x) (h1 : x ≤ 9223372036854775807) (hk : 10 ≤ k) : vint_Signed.f k x = some (enc (zig x)) := by
  unfold vint_Signed.f
  rw [zig_f x h0 h1, Option.bind_some, bytes_f _ k (zig_lt h0 h1) hk]; rfl
theorem anchor_f (k : Nat) (hk : 10 ≤ k) : clewlaw04_anchor.f k = some true := by
  unfold clewlaw04_anchor.f
  have e1 : vint_Bytes.f k 300 = some (enc 300) := bytes_f 300 k (by decide) hk
  have e2 : vint_Signed.f k (-1) = some (enc 1) := signed_f (-1) k (by decide) (by decide) hk
  have a1 : enc 300 = [172, 2] := by rw [enc_big (by decide), show 300 / 128 = 2 by decide, enc_small (by decide)]; rfl
  have a2 : enc 1 = [1] := by rw [enc_small (by decide)]; rfl
  rw [e1, e2, a1, a2]
  decide +kernel


theorem signs_row (x u : Int) (w : World) (hx : (Lit.int .i64 x).wf = true) (hu : (Lit.int .u64 u).wf = true) :
    Go.Calls Try.prog 3 #[.int .i64 x, .int .u64 u] w fun e w' => e = .returned (.bool true) ∧ Below w.heap.size w w' := by
  have bx := bounds_i64 hx
  have bu := bounds_u64 hu
  obtain ⟨u, rfl⟩ := Int.eq_ofNat_of_zero_le bu.1
  have hu' : u < 18446744073709551616 := by omega
  have hz := zag_in hu'
  have z1 := zig_f x bx.1 bx.2
  have z2 : vint_Zag.f ((zig x : Nat) : Int) = some x := by rw [zag_f _ (zig_lt bx.1 bx.2), zag_zig]
  have z3 := zag_f u hu'
  have z4 : vint_Zig.f (zag u) = some (u : Int) := by rw [zig_f _ hz.1 hz.2, zig_zag]
  have z5 := refzag_f u hu'
  have z6 := signed_f x 11 bx.1 bx.2 (by decide)
  have z7 := refbytes_f (zig x) 11 (zig_lt bx.1 bx.2) (by decide)
  have z8 := anchor_f 11 (by decide)
  by_cases h1 : 64 ≤ x
  · exact signs_big 11 x u _ _ _ w (decide_eq_true h1) z1 z2 z3 z4 z5 z6 z7 z8
  · by_cases h2 : x < -64
    · exact signs_low 11 x u _ _ _ w (decide_eq_false h1) (decide_eq_true h2) z1 z2 z3 z4 z5 z6 z7 z8
    · have h3 : enc (zig x) = [((zig x : Nat) : Int)] := enc_small (by unfold zig; split <;> omega)
      exact signs_mid 11 x u _ _ _ w (decide_eq_false h1) (decide_eq_false h2) (by rw [h3]; rfl) z1 z2 z3 z4 z5 z6 z7 z8
end Go.Proofs.Ytecfnbnngdpfiaa.Pure
