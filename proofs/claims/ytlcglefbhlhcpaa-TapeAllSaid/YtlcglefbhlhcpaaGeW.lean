/- The reading's contracts, told apart; bytes are bytes. -/
import Derived.Test.YtlcglefbhlhcpaaGeV
namespace Go.Proofs.Ytlcglefbhlhcpaa.K
open Go.RowKit
set_option linter.unusedVariables false
theorem vb_byte (n : Nat) : ∀ x ∈ vb n, x < 256 := by
  induction n using Nat.strongRecOn with
  | ind n ih =>
    intro x hx
    by_cases h : n < 128
    · rw [vb_low h] at hx; simp at hx; omega
    · rw [vb_high (by omega)] at hx
      rcases List.mem_cons.1 hx with rfl | hx
      · omega
      · exact ih (n / 128) (by omega) x hx
theorem byte_app {a b : List Nat} (ha : ∀ x ∈ a, x < 256) (hb : ∀ x ∈ b, x < 256) : ∀ x ∈ a ++ b, x < 256 := fun x hx => by
  rcases List.mem_append.1 hx with h | h
  · exact ha x h
  · exact hb x h
theorem numS_byte (a b : List Int) : ∀ i, ∀ x ∈ (numS a b i).1, x < 256
  | 0, x, h => by simp [numS] at h
  | i + 1, x, h => by
    rw [numS] at h; split at h
    · exact numS_byte a b i x h
    · exact byte_app (numS_byte a b i) (vb_byte _) x h
theorem mvS_byte (a b : List Int) : ∀ i, ∀ x ∈ (mvS a b i).1, x < 256
  | 0, x, h => by simp [mvS] at h
  | i + 1, x, h => by
    rw [mvS] at h; split at h
    · exact mvS_byte a b i x h
    · exact byte_app (byte_app (mvS_byte a b i) (vb_byte _)) (vb_byte _) x h
theorem rec18_byte (s t : Sta) : ∀ x ∈ rec18 s t, x < 256 := by
  unfold rec18
  refine byte_app (byte_app (vb_byte _) (vb_byte _)) (byte_app (numS_byte _ _ _) ?_)
  split
  · exact byte_app (vb_byte _) (mvS_byte _ _ _)
  · simp
theorem Rd.takeB {w : World} {A : Option Addr} {b : List Nat} (h : Rd w A b.length 1 (u8s b)) {n : Nat} (hn : n ≤ b.length) : Rd w A n 1 (u8s (b.take n)) := by
  refine ⟨by simp [u8s_len]; omega, fun h0 => ?_⟩
  obtain ⟨b_, o, hA, hc⟩ := h.2 (by omega)
  refine ⟨b_, o, hA, fun j v hj => hc j v ?_⟩
  have : u8s (b.take n) = (u8s b).take n := by simp [u8s, List.map_take]
  rw [this, List.getElem?_take] at hj
  split at hj
  · exact hj
  · cases hj
def Sta.zero : Sta := ⟨0, 0, 0, 0, 0, 0, 0, []⟩
section
variable {w0 : World} {A C : Option Addr} {c d : Nat} {b : List Nat} {at_ : Int} {s t : Sta}
theorem read_err (H1 : Rd w0 A b.length 1 (u8s b)) (hb8 : ∀ x ∈ b, x < 256) (hl : b.length ≤ 140737488355328) (H2 : Rd w0 C s.caps.length 1 (ints s.caps)) (hB : s.base) (h0 : 0 ≤ at_) (h1 : at_ ≤ (b.length : Int)) (hs200 : s.caps.length ≤ 202) {a' : Int} {er : Nat} (h : rdF s b at_ = (a', er, t)) (he : er ≠ 0) : Calls Try.prog 66 [.agg #[.int .i64 s.kind, .int .i64 s.node, .int .i64 s.phase, .int .i64 s.pos, .int .i64 s.start, .int .i64 s.depth, .int .i64 s.org, .slice C s.caps.length d], .slice A b.length c, .int .i64 at_].toArray w0 (fun r w' => r = .returned (.tuple #[.agg #[.int .i64 0, .int .i64 0, .int .i64 0, .int .i64 0, .int .i64 0, .int .i64 0, .int .i64 0, .slice none 0 0], .int .i64 0, .int .i64 (er : Int)]) ∧ Bel w0 w') := by
  have := read_walk (c := c) (d := d) H1 hb8 hl H2 (by omega) hB h0 h1 hs200
  rw [h] at this
  refine this.mono fun r w' hh => ?_
  rcases hh with ⟨e2, h2 | ⟨h2, _⟩, h3, h4⟩ | ⟨h2, _⟩
  · obtain rfl : er = e2 := h2.1
    exact ⟨h3, h4⟩
  · exact absurd h2 he
  · exact absurd h2 he
theorem read_nor (H1 : Rd w0 A b.length 1 (u8s b)) (hb8 : ∀ x ∈ b, x < 256) (hl : b.length ≤ 140737488355328) (H2 : Rd w0 C s.caps.length 1 (ints s.caps)) (hB : s.base) (h0 : 0 ≤ at_) (h1 : at_ ≤ (b.length : Int)) (hs200 : s.caps.length ≤ 202) {a' : Int} (h : rdF s b at_ = (a', 0, t)) (hR : ¬ t.Right s.groups) : Calls Try.prog 66 [.agg #[.int .i64 s.kind, .int .i64 s.node, .int .i64 s.phase, .int .i64 s.pos, .int .i64 s.start, .int .i64 s.depth, .int .i64 s.org, .slice C s.caps.length d], .slice A b.length c, .int .i64 at_].toArray w0 (fun r w' => r = .returned (.tuple #[.agg #[.int .i64 0, .int .i64 0, .int .i64 0, .int .i64 0, .int .i64 0, .int .i64 0, .int .i64 0, .slice none 0 0], .int .i64 0, .int .i64 11]) ∧ Bel w0 w') := by
  have := read_walk (c := c) (d := d) H1 hb8 hl H2 (by omega) hB h0 h1 hs200
  rw [h] at this
  refine this.mono fun r w' hh => ?_
  rcases hh with ⟨e2, h2 | ⟨h2, h3, rfl⟩, h4, h5⟩ | ⟨h2, h3, _⟩
  · exact absurd h2.1.symm h2.2
  · exact ⟨h4, h5⟩
  · exact absurd h3 hR
theorem read_ok (H1 : Rd w0 A b.length 1 (u8s b)) (hb8 : ∀ x ∈ b, x < 256) (hl : b.length ≤ 140737488355328) (H2 : Rd w0 C s.caps.length 1 (ints s.caps)) (hB : s.base) (h0 : 0 ≤ at_) (h1 : at_ ≤ (b.length : Int)) (hs200 : s.caps.length ≤ 202) {a' : Int} (h : rdF s b at_ = (a', 0, t)) (hR : t.Right s.groups) : Calls Try.prog 66 [.agg #[.int .i64 s.kind, .int .i64 s.node, .int .i64 s.phase, .int .i64 s.pos, .int .i64 s.start, .int .i64 s.depth, .int .i64 s.org, .slice C s.caps.length d], .slice A b.length c, .int .i64 at_].toArray w0 (fun r w' => ∃ D e, r = .returned (.tuple #[.agg #[.int .i64 t.kind, .int .i64 t.node, .int .i64 t.phase, .int .i64 t.pos, .int .i64 t.start, .int .i64 t.depth, .int .i64 t.org, .slice D t.caps.length e], .int .i64 (IntKind.i64.wrap (a' - at_)), .int .i64 0]) ∧ St [] w0 w' [.row (.slice D t.caps.length e) 3 1 t.caps.length (ints t.caps)]) := by
  have := read_walk (c := c) (d := d) H1 hb8 hl H2 (by omega) hB h0 h1 hs200
  rw [h] at this
  refine this.mono fun r w' hh => ?_
  rcases hh with ⟨e2, h2 | ⟨h2, h3, rfl⟩, h4, h5⟩ | ⟨h2, h3, D, e, h4, h5⟩
  · exact absurd h2.1.symm h2.2
  · exact absurd hR h3
  · exact ⟨D, e, h4, h5⟩
end
theorem rdF_len {s t : Sta} {b : List Nat} {at_ a' : Int} {er : Nat} (h : rdF s b at_ = (a', er, t)) : t.caps.length = s.caps.length := by
  have h2 : (rdF s b at_).2.2 = t := by rw [h]
  rw [← h2]
  unfold rdF
  dsimp only
  split
  · rfl
  · unfold plR; exact (plS_keep _ _ _ _ _ _).1
theorem vb_small {n k : Nat} (h : n < 128 ^ (k + 1)) : (vb n).length ≤ k + 1 := vb_len k n h
theorem numS_len {a b : List Int} (ha : ∀ x ∈ a, small x) (hb : ∀ x ∈ b, small x) (hl : a.length = b.length) : ∀ i, i ≤ a.length → (numS a b i).1.length ≤ 10 * i
  | 0, _ => by simp [numS]
  | i + 1, hi => by
    have ih := numS_len ha hb hl i (by omega)
    rw [numS]; split
    · omega
    · have hx : b[i]? = some (b[i]'(by omega)) := List.getElem?_eq_getElem _
      have hy : a[i]? = some (a[i]'(by omega)) := List.getElem?_eq_getElem _
      have hz := zig_small (hb _ (List.getElem_mem (by omega : i < b.length))) (ha _ (List.getElem_mem (by omega : i < a.length)))
      have h3 := vb_len10 (zig_le hz.1 hz.2)
      rw [hx, hy]
      simp only [List.length_append, Option.getD_some]
      omega
theorem rec18_len (s t : Sta) (hB : s.base) (hR : t.Right s.groups) : (rec18 s t).length ≤ 5000 := by
  obtain ⟨hsn, hsc⟩ := base_small hB
  obtain ⟨htn, htc⟩ := right_small hR
  obtain ⟨hlen, h200, hk1, hk14⟩ := right_len hB hR
  have h1 : (vb t.kind.toNat).length ≤ 1 := vb_len 0 _ (by omega)
  have h2 := numS_lt s.nums.tail t.nums.tail 6
  have h3 : (numS s.nums.tail t.nums.tail 6).1.length ≤ 60 := numS_len (tail_small hsn) (tail_small htn) (by simp [Sta.nums]) 6 (by simp [Sta.nums])
  have h4 := mvS_len hsc htc (by omega) hlen t.caps.length (Nat.le_refl _)
  have h5 := (mvS_le s.caps t.caps t.caps.length).2
  have h6 : (vb (mvS s.caps t.caps t.caps.length).2.1).length ≤ 10 := vb_len10 (by omega)
  unfold rec18 mvR
  split
  · have h7 : (vb ((numS s.nums.tail t.nums.tail 6).2 + 64)).length ≤ 1 := vb_len 0 _ (by omega)
    simp only [List.length_append]; omega
  · have h7 : (vb ((numS s.nums.tail t.nums.tail 6).2 + 0)).length ≤ 1 := vb_len 0 _ (by omega)
    simp only [List.length_append, List.length_nil]; omega
theorem base_len {s : Sta} (h : s.base) : s.caps.length ≤ 202 := by
  rcases h with ⟨g1, g2, _⟩ | ⟨g1, g2, _⟩ <;> omega
end Go.Proofs.Ytlcglefbhlhcpaa.K
