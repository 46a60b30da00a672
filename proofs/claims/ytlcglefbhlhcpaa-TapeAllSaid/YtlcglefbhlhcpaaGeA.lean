/- Numbers are read. -/
import Derived.Test.YtlcglefbhlhcpaaKg
import Derived.Test.YtlcglefbhlhcpaaGeP
namespace Go.Proofs.Ytlcglefbhlhcpaa.K
open Go.RowKit
set_option linter.unusedVariables false
set_option maxRecDepth 100000
set_option maxHeartbeats 400000

section
variable {w0 : World} {A : Option Addr} {c : Nat} {b : List Nat} {at_ : Int}

theorem width_walk {n : Nat} (hn : n < 128) : Calls Try.prog 120 [.int .u64 (n : Int)].toArray w0 (fun r w' => r = .returned (.int .i64 (wid n : Int)) ∧ Bel w0 w') := by
  have S := St.nil [] w0
  refine fn_start Try.func120 rfl 11 rfl rfl [(0, _)] ⟨rfl, trivial⟩ ?_; intro a E
  refine wp_seq ?_
  refine region_plain (n := 1) [(0, .p)] rfl rfl ?_
  refine Run.assign rfl E rfl rfl rfl ?_; clear E a; intro a E
  refine Run.nil ?_
  refine then_n ?_
  refine wp_seq ?_
  refine region_plain (n := 1) [(0, .p)] rfl rfl ?_
  refine Run.assign rfl E rfl rfl rfl ?_; clear E a; intro a E
  refine Run.nil ?_
  refine then_n ?_
  refine wp_seq ?_
  refine wp_block ?_
  refine wp_loop_ghost (fun n_ a w => ∃ k : Nat, ∃ m : Nat, m = n_ ∧ Env 11 [(0, .int .u64 (m : Int)), (2, .int .i64 0), (3, .int .i64 (k : Int))] a ∧ St _ _ w [] ∧ (k + wid m = wid n) ∧ (m < 128)) _ ⟨0, n, rfl, E.keeps [(0, _), (2, _), (3, _)] ⟨rfl, rfl, rfl, trivial⟩, S, Nat.zero_add _, hn⟩ ?_
  clear E a S
  rintro n_ a w ⟨k, m, rfl, E, S, hw, hm⟩
  refine wp_seq ?_
  refine wp_seq ?_
  refine region_plain (n := 2) [(0, .p), (1, .p)] rfl rfl ?_
  refine Run.move rfl E rfl rfl rfl ?_; clear E a; intro a E
  by_cases h0 : 0 < m
  · skip
    have hwl := @wid_le n
    refine Run.gtr rfl E rfl rfl rfl rfl (decide_eq_true (by omega)) ?_; clear E a; intro a E
    refine Run.nil ?_
    refine then_n ?_
    refine cond_T E rfl ?_
    refine wp_skip ?_
    refine then_n ?_
    refine wp_seq ?_
    refine wp_block ?_
    refine region_plain (n := 3) [(0, .p), (1, .p), (2, .p)] rfl rfl ?_
    refine Run.move rfl E rfl rfl rfl ?_; clear E a; intro a E
    refine Run.add rfl E rfl rfl rfl rfl (i64_ok (by omega)) ?_; clear E a; intro a E
    refine Run.assign rfl E rfl rfl rfl ?_; clear E a; intro a E
    refine Run.nil ?_
    refine blk_n ?_
    refine then_n ?_
    refine region_plain (n := 3) [(0, .p), (1, .p), (2, .p)] rfl rfl ?_
    refine Run.move rfl E rfl rfl rfl ?_; clear E a; intro a E
    refine Run.shr (n := 1) rfl E rfl rfl rfl rfl (by kernel_rfl) (q := ((m / 2 : Nat) : Int)) (fdiv_pow m 1) ?_; clear E a; intro a E
    refine Run.assign rfl E rfl rfl rfl ?_; clear E a; intro a E
    refine Run.nil ?_
    refine then_n ?_
    replace E := E.setv 3 rfl (show Value.int .i64 ((k : Int) + 1) = .int .i64 ((k + 1 : Nat) : Int) from rfl)
    exact ⟨_, (by omega), (k + 1), (m / 2), rfl, E.keeps [(0, _), (2, _), (3, _)] ⟨rfl, rfl, rfl, trivial⟩, S, (by rw [← hw, wid_half h0 hm]; omega), (by omega)⟩
  · skip
    refine Run.gtr rfl E rfl rfl rfl rfl (decide_eq_false (by omega)) ?_; clear E a; intro a E
    refine Run.nil ?_
    refine then_n ?_
    refine cond_F E rfl ?_
    refine wp_exit ?_
    refine then_x ?_
    refine then_x ?_
    refine blk_x ?_
    refine then_n ?_
    refine wp_seq ?_
    refine region_plain (n := 2) [(0, .p), (1, .p)] rfl rfl ?_
    refine Run.move rfl E rfl rfl rfl ?_; clear E a; intro a E
    refine Run.assign rfl E rfl rfl rfl ?_; clear E a; intro a E
    refine Run.nil ?_
    refine then_n ?_
    refine wp_ret ?_
    have h00 : m = 0 := by omega
    subst h00
    have hk : k = wid n := by rw [← hw]; rfl
    exact ret1 E Try.results120 rfl ⟨by rw [hk], S.belT⟩

theorem get_low (h : at_ < 0) : Calls Try.prog 112 [.slice A b.length c, .int .i64 at_].toArray w0 (fun r w' => r = .returned (.tuple #[.int .u64 ((getV b at_).1 : Int), .int .i64 ((getV b at_).2.1 : Int), .int .i64 ((getV b at_).2.2 : Int)]) ∧ Bel w0 w') := by
  have S := St.nil [] w0
  refine fn_start Try.func112 rfl 65 rfl rfl [(0, _), (1, _)] ⟨rfl, rfl, trivial⟩ ?_; intro a E
  refine wp_seq ?_
  refine region_plain (n := 3) [(0, .p), (1, .p), (2, .p)] rfl rfl ?_
  refine Run.assign rfl E rfl rfl rfl ?_; clear E a; intro a E
  refine Run.assign rfl E rfl rfl rfl ?_; clear E a; intro a E
  refine Run.assign rfl E rfl rfl rfl ?_; clear E a; intro a E
  refine Run.nil ?_
  refine then_n ?_
  refine wp_seq ?_
  refine wp_seq ?_
  refine region_plain (n := 8) [(0, .p), (1, .p), (2, .p), (3, .p), (4, .p), (5, .p), (6, .p), (7, .p)] rfl rfl ?_
  refine Run.move rfl E rfl rfl rfl ?_; clear E a; intro a E
  refine Run.lss rfl E rfl rfl rfl rfl (decide_eq_true (by omega)) ?_; clear E a; intro a E
  refine Run.move rfl E rfl rfl rfl ?_; clear E a; intro a E
  refine Run.off rfl E rfl rfl ?_; clear E a; intro a E
  refine Run.off rfl E rfl rfl ?_; clear E a; intro a E
  refine Run.off rfl E rfl rfl ?_; clear E a; intro a E
  refine Run.off rfl E rfl rfl ?_; clear E a; intro a E
  refine Run.pickT rfl E rfl rfl rfl rfl ?_; clear E a; intro a E
  refine Run.nil ?_
  refine then_n ?_
  refine cond_T E rfl ?_
  refine wp_seq ?_
  refine region_plain (n := 3) [(0, .p), (1, .p), (2, .p)] rfl rfl ?_
  refine Run.assign rfl E rfl rfl rfl ?_; clear E a; intro a E
  refine Run.assign rfl E rfl rfl rfl ?_; clear E a; intro a E
  refine Run.assign rfl E rfl rfl rfl ?_; clear E a; intro a E
  refine Run.nil ?_
  refine then_n ?_
  refine wp_ret ?_
  refine then_r ?_
  have hg : getV b at_ = (0, 0, 10) := if_pos (.inl h)
  rw [hg]; exact retN E (vs := [.int .u64 0, .int .i64 0, .int .i64 10]) Try.results112 (.tmp (E.slot _ _ rfl) (.tmp (E.slot _ _ rfl) (.tmp (E.slot _ _ rfl) .nil))) rfl ⟨rfl, S.belT⟩

theorem get_high (h0 : 0 ≤ at_) (h : (b.length : Int) < at_) : Calls Try.prog 112 [.slice A b.length c, .int .i64 at_].toArray w0 (fun r w' => r = .returned (.tuple #[.int .u64 ((getV b at_).1 : Int), .int .i64 ((getV b at_).2.1 : Int), .int .i64 ((getV b at_).2.2 : Int)]) ∧ Bel w0 w') := by
  have S := St.nil [] w0
  refine fn_start Try.func112 rfl 65 rfl rfl [(0, _), (1, _)] ⟨rfl, rfl, trivial⟩ ?_; intro a E
  refine wp_seq ?_
  refine region_plain (n := 3) [(0, .p), (1, .p), (2, .p)] rfl rfl ?_
  refine Run.assign rfl E rfl rfl rfl ?_; clear E a; intro a E
  refine Run.assign rfl E rfl rfl rfl ?_; clear E a; intro a E
  refine Run.assign rfl E rfl rfl rfl ?_; clear E a; intro a E
  refine Run.nil ?_
  refine then_n ?_
  refine wp_seq ?_
  refine wp_seq ?_
  refine region_plain (n := 8) [(0, .p), (1, .p), (2, .p), (3, .p), (4, .p), (5, .p), (6, .p), (7, .p)] rfl rfl ?_
  refine Run.move rfl E rfl rfl rfl ?_; clear E a; intro a E
  refine Run.lss rfl E rfl rfl rfl rfl (decide_eq_false (by omega)) ?_; clear E a; intro a E
  refine Run.move rfl E rfl rfl rfl ?_; clear E a; intro a E
  refine Run.move rfl E rfl rfl rfl ?_; clear E a; intro a E
  refine Run.move rfl E rfl rfl rfl ?_; clear E a; intro a E
  refine Run.len rfl E rfl rfl rfl Try.underlying22 ?_; clear E a; intro a E
  refine Run.gtr rfl E rfl rfl rfl rfl (decide_eq_true (by omega)) ?_; clear E a; intro a E
  refine Run.pickF rfl E rfl rfl rfl rfl ?_; clear E a; intro a E
  refine Run.nil ?_
  refine then_n ?_
  refine cond_T E rfl ?_
  refine wp_seq ?_
  refine region_plain (n := 3) [(0, .p), (1, .p), (2, .p)] rfl rfl ?_
  refine Run.assign rfl E rfl rfl rfl ?_; clear E a; intro a E
  refine Run.assign rfl E rfl rfl rfl ?_; clear E a; intro a E
  refine Run.assign rfl E rfl rfl rfl ?_; clear E a; intro a E
  refine Run.nil ?_
  refine then_n ?_
  refine wp_ret ?_
  refine then_r ?_
  have hg : getV b at_ = (0, 0, 10) := if_pos (.inr h)
  rw [hg]; exact retN E (vs := [.int .u64 0, .int .i64 0, .int .i64 10]) Try.results112 (.tmp (E.slot _ _ rfl) (.tmp (E.slot _ _ rfl) (.tmp (E.slot _ _ rfl) .nil))) rfl ⟨rfl, S.belT⟩

theorem getV_at {b : List Nat} {k : Nat} (hk : k ≤ b.length) : getV b (k : Int) = gv 0 0 (b.drop k) := by
  unfold getV; rw [if_neg (by omega), Int.toNat_natCast]

theorem gv_go {b : List Nat} {k i acc x : Nat} (hx : b[k + i]? = some x) (hi : i < 10) (h1 : ¬ (i = 9 ∧ 1 < x % 128)) (h2 : 128 ≤ x) : gv i acc (b.drop (k + i)) = gv (i + 1) (acc + x % 128 * 128 ^ i) (b.drop (k + (i + 1))) := by
  rw [gv_drop hx, if_neg (by omega)]
  by_cases h9 : i = 9
  · rw [if_pos (by omega), gv_ten (by omega)]
  · rw [if_neg (by omega), if_neg (by omega)]

theorem u8s_get {l : List Nat} {i x : Nat} (h : l[i]? = some x) : (u8s l)[i]? = some (.int .u8 (x : Int)) := by simp [u8s, h]

theorem get_mid {k : Nat} (H1 : Rd w0 A b.length 1 (u8s b)) (hb8 : ∀ x ∈ b, x < 256) (hl : b.length ≤ 140737488355328) (hk : k ≤ b.length) : Calls Try.prog 112 [.slice A b.length c, .int .i64 (k : Int)].toArray w0 (fun r w' => r = .returned (.tuple #[.int .u64 ((getV b (k : Int)).1 : Int), .int .i64 ((getV b (k : Int)).2.1 : Int), .int .i64 ((getV b (k : Int)).2.2 : Int)]) ∧ Bel w0 w') := by
  have S := St.nil [] w0
  obtain ⟨lim, hlim⟩ : ∃ lim : Nat, lim = min (b.length - k) 10 := ⟨_, rfl⟩
  refine fn_start Try.func112 rfl 65 rfl rfl [(0, _), (1, _)] ⟨rfl, rfl, trivial⟩ ?_; intro a E
  refine wp_seq ?_
  refine region_plain (n := 3) [(0, .p), (1, .p), (2, .p)] rfl rfl ?_
  refine Run.assign rfl E rfl rfl rfl ?_; clear E a; intro a E
  refine Run.assign rfl E rfl rfl rfl ?_; clear E a; intro a E
  refine Run.assign rfl E rfl rfl rfl ?_; clear E a; intro a E
  refine Run.nil ?_
  refine then_n ?_
  refine wp_seq ?_
  refine wp_seq ?_
  refine region_plain (n := 8) [(0, .p), (1, .p), (2, .p), (3, .p), (4, .p), (5, .p), (6, .p), (7, .p)] rfl rfl ?_
  refine Run.move rfl E rfl rfl rfl ?_; clear E a; intro a E
  refine Run.lss rfl E rfl rfl rfl rfl (decide_eq_false (by omega)) ?_; clear E a; intro a E
  refine Run.move rfl E rfl rfl rfl ?_; clear E a; intro a E
  refine Run.move rfl E rfl rfl rfl ?_; clear E a; intro a E
  refine Run.move rfl E rfl rfl rfl ?_; clear E a; intro a E
  refine Run.len rfl E rfl rfl rfl Try.underlying22 ?_; clear E a; intro a E
  refine Run.gtr rfl E rfl rfl rfl rfl (decide_eq_false (by omega)) ?_; clear E a; intro a E
  refine Run.pickF rfl E rfl rfl rfl rfl ?_; clear E a; intro a E
  refine Run.nil ?_
  refine then_n ?_
  refine cond_F E rfl ?_
  refine wp_skip ?_
  refine then_n ?_
  refine wp_seq ?_
  refine region_plain (n := 1) [(0, .p)] rfl rfl ?_
  refine Run.assign rfl E rfl rfl rfl ?_; clear E a; intro a E
  refine Run.nil ?_
  refine then_n ?_
  refine wp_seq ?_
  refine wp_seq ?_
  refine region_plain (n := 6) [(0, .p), (1, .p), (2, .p), (3, .p), (4, .p), (5, .p)] rfl rfl ?_
  refine Run.move rfl E rfl rfl rfl ?_; clear E a; intro a E
  refine Run.len rfl E rfl rfl rfl Try.underlying22 ?_; clear E a; intro a E
  refine Run.move rfl E rfl rfl rfl ?_; clear E a; intro a E
  refine Run.sub rfl E rfl rfl rfl rfl (i64_ok (by omega)) ?_; clear E a; intro a E
  refine Run.min rfl E rfl rfl rfl rfl (q := (lim : Int)) (by split <;> omega) ?_; clear E a; intro a E
  refine Run.move rfl E rfl rfl rfl ?_; clear E a; intro a E
  refine Run.nil ?_
  refine then_n ?_
  refine wp_block ?_
  refine wp_loop_ghost (fun n_ a w => ∃ i : Nat, ∃ acc : Nat, lim - i = n_ ∧ Env 65 [(0, .slice A b.length c), (1, .int .i64 (k : Int)), (7, .int .u64 (acc : Int)), (23, .int .i64 (lim : Int)), (24, .int .i64 (i : Int))] a ∧ St _ _ w [] ∧ (i ≤ lim) ∧ (gv 0 0 (b.drop k) = gv i acc (b.drop (k + i))) ∧ (acc < 128 ^ i)) _ ⟨0, 0, rfl, E.keeps [(0, _), (1, _), (7, _), (23, _), (24, _)] ⟨rfl, rfl, rfl, rfl, rfl, trivial⟩, S, Nat.zero_le _, rfl, by decide⟩ ?_
  clear E a S
  rintro n_ a w ⟨i, acc, rfl, E, S, hi, hgv, hac⟩
  refine wp_seq ?_
  refine region_plain (n := 1) [(0, .p)] rfl rfl ?_
  by_cases hlt : i < lim
  · skip
    have hki : k + i < b.length := by omega
    have hx : b[k + i]? = some (b[k + i]'hki) := List.getElem?_eq_getElem hki
    have hx8 := hb8 _ (List.getElem_mem hki)
    have hy : (b[k + i]'hki) % 128 < 128 := Nat.mod_lt _ (by decide)
    have hwl := @wid_le ((b[k + i]'hki) % 128)
    have hw1 := @wid_one ((b[k + i]'hki) % 128)
    obtain ⟨bA, oA, rfl, hA⟩ := H1.place (by omega)
    refine Run.lss rfl E rfl rfl rfl rfl (decide_eq_true (by omega)) ?_; clear E a; intro a E
    refine Run.nil ?_
    refine then_n ?_
    refine wp_seq ?_
    refine cond_T E rfl ?_
    refine wp_skip ?_
    refine then_n ?_
    refine wp_seq ?_
    refine wp_block ?_
    refine wp_seq ?_
    refine region_plain (n := 2) [(0, .p), (1, .p)] rfl rfl ?_
    refine Run.move rfl E rfl rfl rfl ?_; clear E a; intro a E
    refine Run.assign rfl E rfl rfl rfl ?_; clear E a; intro a E
    refine Run.nil ?_
    refine then_n ?_
    refine wp_seq ?_
    refine region_plain (n := 8) [(0, .p), (1, .p), (2, .p), (3, .p), (4, .p), (5, .l), (6, .p), (7, .p)] rfl rfl ?_
    refine Run.move rfl E rfl rfl rfl ?_; clear E a; intro a E
    refine Run.move rfl E rfl rfl rfl ?_; clear E a; intro a E
    refine Run.move rfl E rfl rfl rfl ?_; clear E a; intro a E
    refine Run.add rfl E rfl rfl rfl rfl (i64_ok (by omega)) ?_; clear E a; intro a E
    refine Run.indexAddr rfl E rfl rfl rfl rfl Try.underlying22 sz5 (by omega) (ix_at1 (m' := (k + i)) (by omega)) ?_; clear E a; intro a E
    refine Run.load1 rfl rfl E S rfl rfl rfl one5 (fun _ s_ => rdAt1 hA s_ (u8s_get hx)) ?_; clear E a; intro a E
    refine Run.conv rfl E rfl rfl rfl Try.underlying5 Try.underlying145 (u64_ok (by omega)) ?_; clear E a; intro a E
    refine Run.assign rfl E rfl rfl rfl ?_; clear E a; intro a E
    refine Run.nil ?_
    refine then_n ?_
    refine wp_seq ?_
    refine region_plain (n := 3) [(0, .p), (1, .p), (2, .p)] rfl rfl ?_
    refine Run.move rfl E rfl rfl rfl ?_; clear E a; intro a E
    refine Run.rem rfl E rfl rfl rfl rfl (by decide) (q := (((b[k + i]'hki) % 128 : Nat) : Int)) ((IntWalk.rem_in _ _ (by omega)).trans rfl) ?_; clear E a; intro a E
    refine Run.assign rfl E rfl rfl rfl ?_; clear E a; intro a E
    refine Run.nil ?_
    refine then_n ?_
    refine wp_seq ?_
    refine wp_seq ?_
    refine region_plain (n := 6) [(0, .p), (1, .p), (2, .p), (3, .e), (4, .p), (5, .p)] rfl rfl ?_
    refine Run.move rfl E rfl rfl rfl ?_; clear E a; intro a E
    refine Run.mul rfl E rfl rfl rfl rfl (i64_ok (by omega)) ?_; clear E a; intro a E
    refine Run.move rfl E rfl rfl rfl ?_; clear E a; intro a E
    refine Run.call (args := [.int .u64 (((b[k + i]'hki) % 128 : Nat) : Int)]) rfl rfl E rfl rfl Try.func120 nm120 rfl rfl (width_walk (n := (b[k + i]'hki) % 128) hy) ?_; rintro e_ w ⟨rfl, B_⟩; refine ⟨_, rfl, fun _ => B_, ?_⟩; clear E a; replace S := S.bel B_; intro a E
    clear B_
    refine Run.add rfl E rfl rfl rfl rfl (i64_ok (by omega)) ?_; clear E a; intro a E
    by_cases how : 64 < 7 * (i : Int) + (wid ((b[k + i]'hki) % 128) : Int)
    · skip
      refine Run.gtr rfl E rfl rfl rfl rfl (decide_eq_true (by omega)) ?_; clear E a; intro a E
      refine Run.nil ?_
      refine then_n ?_
      refine cond_T E rfl ?_
      refine wp_seq ?_
      refine region_plain (n := 3) [(0, .p), (1, .p), (2, .p)] rfl rfl ?_
      refine Run.assign rfl E rfl rfl rfl ?_; clear E a; intro a E
      refine Run.assign rfl E rfl rfl rfl ?_; clear E a; intro a E
      refine Run.assign rfl E rfl rfl rfl ?_; clear E a; intro a E
      refine Run.nil ?_
      refine then_n ?_
      refine wp_ret ?_
      refine then_r ?_
      refine blk_r ?_
      refine then_r ?_
      refine then_r ?_
      refine blk_r ?_
      refine then_r ?_
      have hg : getV b (k : Int) = (0, 0, 11) := by rw [getV_at hk, hgv]; rw [gv_drop hx, if_neg (by omega), if_pos (by omega)]
      rw [hg]; exact retN E (vs := [.int .u64 0, .int .i64 0, .int .i64 11]) Try.results112 (.tmp (E.slot _ _ rfl) (.tmp (E.slot _ _ rfl) (.tmp (E.slot _ _ rfl) .nil))) rfl ⟨rfl, S.belT⟩
    · skip
      refine Run.gtr rfl E rfl rfl rfl rfl (decide_eq_false (by omega)) ?_; clear E a; intro a E
      refine Run.nil ?_
      refine then_n ?_
      refine cond_F E rfl ?_
      refine wp_skip ?_
      refine then_n ?_
      refine wp_seq ?_
      refine region_plain (n := 7) [(0, .p), (1, .p), (2, .p), (3, .p), (4, .p), (5, .p), (6, .p)] rfl rfl ?_
      refine Run.move rfl E rfl rfl rfl ?_; clear E a; intro a E
      refine Run.move rfl E rfl rfl rfl ?_; clear E a; intro a E
      refine Run.move rfl E rfl rfl rfl ?_; clear E a; intro a E
      refine Run.mul rfl E rfl rfl rfl rfl (i64_ok (by omega)) ?_; clear E a; intro a E
      refine Run.shl (n := (7 * i)) rfl E rfl rfl rfl rfl (by rw [Nat.ble_eq]; show 7 * i ≤ 64; omega) (q := (((b[k + i]'hki) % 128 * 128 ^ i : Nat) : Int)) (shl7 hy (by omega) (fun h => by omega)) ?_; clear E a; intro a E
      refine Run.or rfl E rfl rfl rfl rfl (q := ((acc + (b[k + i]'hki) % 128 * 128 ^ i : Nat) : Int)) (or_add hac hy (by omega) (fun h => by omega)) ?_; clear E a; intro a E
      refine Run.assign rfl E rfl rfl rfl ?_; clear E a; intro a E
      refine Run.nil ?_
      refine then_n ?_
      refine wp_seq ?_
      refine region_plain (n := 2) [(0, .p), (1, .p)] rfl rfl ?_
      refine Run.move rfl E rfl rfl rfl ?_; clear E a; intro a E
      by_cases h128 : (b[k + i]'hki) < 128
      · skip
        refine Run.lss rfl E rfl rfl rfl rfl (decide_eq_true (by omega)) ?_; clear E a; intro a E
        refine Run.nil ?_
        refine then_n ?_
        refine cond_T E rfl ?_
        refine wp_seq ?_
        refine wp_seq ?_
        refine region_plain (n := 6) [(0, .p), (1, .p), (2, .p), (3, .p), (4, .p), (5, .p)] rfl rfl ?_
        refine Run.move rfl E rfl rfl rfl ?_; clear E a; intro a E
        by_cases hz : (b[k + i]'hki) = 0
        · skip
          refine Run.eqi rfl E rfl rfl rfl rfl (decide_eq_true (by omega)) ?_; clear E a; intro a E
          refine Run.move rfl E rfl rfl rfl ?_; clear E a; intro a E
          refine Run.move rfl E rfl rfl rfl ?_; clear E a; intro a E
          by_cases hi0 : 0 < i
          · skip
            refine Run.gtr rfl E rfl rfl rfl rfl (decide_eq_true (by omega)) ?_; clear E a; intro a E
            refine Run.pickT rfl E rfl rfl rfl rfl ?_; clear E a; intro a E
            refine Run.nil ?_
            refine then_n ?_
            refine cond_T E rfl ?_
            refine wp_seq ?_
            refine region_plain (n := 3) [(0, .p), (1, .p), (2, .p)] rfl rfl ?_
            refine Run.assign rfl E rfl rfl rfl ?_; clear E a; intro a E
            refine Run.assign rfl E rfl rfl rfl ?_; clear E a; intro a E
            refine Run.assign rfl E rfl rfl rfl ?_; clear E a; intro a E
            refine Run.nil ?_
            refine then_n ?_
            refine wp_ret ?_
            refine then_r ?_
            refine blk_r ?_
            refine then_r ?_
            refine then_r ?_
            refine blk_r ?_
            refine then_r ?_
            have hg : getV b (k : Int) = (0, 0, 11) := by rw [getV_at hk, hgv]; rw [gv_drop hx, if_neg (by omega), if_pos (by omega)]
            rw [hg]; exact retN E (vs := [.int .u64 0, .int .i64 0, .int .i64 11]) Try.results112 (.tmp (E.slot _ _ rfl) (.tmp (E.slot _ _ rfl) (.tmp (E.slot _ _ rfl) .nil))) rfl ⟨rfl, S.belT⟩
          · skip
            refine Run.gtr rfl E rfl rfl rfl rfl (decide_eq_false (by omega)) ?_; clear E a; intro a E
            refine Run.pickT rfl E rfl rfl rfl rfl ?_; clear E a; intro a E
            refine Run.nil ?_
            refine then_n ?_
            refine cond_F E rfl ?_
            refine wp_skip ?_
            refine then_n ?_
            refine wp_seq ?_
            refine region_plain (n := 6) [(0, .p), (1, .p), (2, .p), (3, .p), (4, .p), (5, .p)] rfl rfl ?_
            refine Run.move rfl E rfl rfl rfl ?_; clear E a; intro a E
            refine Run.move rfl E rfl rfl rfl ?_; clear E a; intro a E
            refine Run.add rfl E rfl rfl rfl rfl (i64_ok (by omega)) ?_; clear E a; intro a E
            refine Run.assign rfl E rfl rfl rfl ?_; clear E a; intro a E
            refine Run.assign rfl E rfl rfl rfl ?_; clear E a; intro a E
            refine Run.assign rfl E rfl rfl rfl ?_; clear E a; intro a E
            refine Run.nil ?_
            refine then_n ?_
            refine wp_ret ?_
            refine blk_r ?_
            refine then_r ?_
            refine then_r ?_
            refine blk_r ?_
            refine then_r ?_
            have hg : getV b (k : Int) = (acc + (b[k + i]'hki) % 128 * 128 ^ i, i + 1, 0) := by rw [getV_at hk, hgv]; rw [gv_drop hx, if_neg (by omega), if_neg (by omega), if_pos (by omega)]
            rw [hg]; exact retN E (vs := [.int .u64 ((acc + (b[k + i]'hki) % 128 * 128 ^ i : Nat) : Int), .int .i64 ((i : Int) + 1), .int .i64 0]) Try.results112 (.tmp (E.slot _ _ rfl) (.tmp (E.slot _ _ rfl) (.tmp (E.slot _ _ rfl) .nil))) rfl ⟨rfl, S.belT⟩
        · skip
          refine Run.eqi rfl E rfl rfl rfl rfl (decide_eq_false (by omega)) ?_; clear E a; intro a E
          refine Run.move rfl E rfl rfl rfl ?_; clear E a; intro a E
          refine Run.off rfl E rfl rfl ?_; clear E a; intro a E
          refine Run.off rfl E rfl rfl ?_; clear E a; intro a E
          refine Run.pickF rfl E rfl rfl rfl rfl ?_; clear E a; intro a E
          refine Run.nil ?_
          refine then_n ?_
          refine cond_F E rfl ?_
          refine wp_skip ?_
          refine then_n ?_
          refine wp_seq ?_
          refine region_plain (n := 6) [(0, .p), (1, .p), (2, .p), (3, .p), (4, .p), (5, .p)] rfl rfl ?_
          refine Run.move rfl E rfl rfl rfl ?_; clear E a; intro a E
          refine Run.move rfl E rfl rfl rfl ?_; clear E a; intro a E
          refine Run.add rfl E rfl rfl rfl rfl (i64_ok (by omega)) ?_; clear E a; intro a E
          refine Run.assign rfl E rfl rfl rfl ?_; clear E a; intro a E
          refine Run.assign rfl E rfl rfl rfl ?_; clear E a; intro a E
          refine Run.assign rfl E rfl rfl rfl ?_; clear E a; intro a E
          refine Run.nil ?_
          refine then_n ?_
          refine wp_ret ?_
          refine blk_r ?_
          refine then_r ?_
          refine then_r ?_
          refine blk_r ?_
          refine then_r ?_
          have hg : getV b (k : Int) = (acc + (b[k + i]'hki) % 128 * 128 ^ i, i + 1, 0) := by rw [getV_at hk, hgv]; rw [gv_drop hx, if_neg (by omega), if_neg (by omega), if_pos (by omega)]
          rw [hg]; exact retN E (vs := [.int .u64 ((acc + (b[k + i]'hki) % 128 * 128 ^ i : Nat) : Int), .int .i64 ((i : Int) + 1), .int .i64 0]) Try.results112 (.tmp (E.slot _ _ rfl) (.tmp (E.slot _ _ rfl) (.tmp (E.slot _ _ rfl) .nil))) rfl ⟨rfl, S.belT⟩
      · skip
        refine Run.lss rfl E rfl rfl rfl rfl (decide_eq_false (by omega)) ?_; clear E a; intro a E
        refine Run.nil ?_
        refine then_n ?_
        refine cond_F E rfl ?_
        refine wp_skip ?_
        refine blk_n ?_
        refine then_n ?_
        refine region_plain (n := 2) [(0, .p), (1, .p)] rfl rfl ?_
        refine Run.add rfl E rfl rfl rfl rfl (i64_ok (by omega)) ?_; clear E a; intro a E
        refine Run.move rfl E rfl rfl rfl ?_; clear E a; intro a E
        refine Run.nil ?_
        refine then_n ?_
        replace E := E.setv 24 rfl (show Value.int .i64 ((i : Int) + 1) = .int .i64 ((i + 1 : Nat) : Int) from rfl)
        exact ⟨_, (by omega), (i + 1), (acc + (b[k + i]'hki) % 128 * 128 ^ i), rfl, E.keeps [(0, _), (1, _), (7, _), (23, _), (24, _)] ⟨rfl, rfl, rfl, rfl, rfl, trivial⟩, S, (by omega), (hgv.trans (gv_go hx (by omega) (by omega) (by omega))), (acc_lt hac hy)⟩
  · skip
    refine Run.lss rfl E rfl rfl rfl rfl (decide_eq_false (by omega)) ?_; clear E a; intro a E
    refine Run.nil ?_
    refine then_n ?_
    refine wp_seq ?_
    refine cond_F E rfl ?_
    refine wp_exit ?_
    refine then_x ?_
    refine then_x ?_
    refine blk_x ?_
    refine then_n ?_
    refine wp_seq ?_
    refine wp_seq ?_
    refine region_plain (n := 5) [(0, .p), (1, .p), (2, .p), (3, .p), (4, .p)] rfl rfl ?_
    refine Run.move rfl E rfl rfl rfl ?_; clear E a; intro a E
    refine Run.len rfl E rfl rfl rfl Try.underlying22 ?_; clear E a; intro a E
    refine Run.move rfl E rfl rfl rfl ?_; clear E a; intro a E
    refine Run.sub rfl E rfl rfl rfl rfl (i64_ok (by omega)) ?_; clear E a; intro a E
    by_cases hsh : b.length < k + 10
    · skip
      refine Run.lss rfl E rfl rfl rfl rfl (decide_eq_true (by omega)) ?_; clear E a; intro a E
      refine Run.nil ?_
      refine then_n ?_
      refine cond_T E rfl ?_
      refine wp_seq ?_
      refine region_plain (n := 3) [(0, .p), (1, .p), (2, .p)] rfl rfl ?_
      refine Run.assign rfl E rfl rfl rfl ?_; clear E a; intro a E
      refine Run.assign rfl E rfl rfl rfl ?_; clear E a; intro a E
      refine Run.assign rfl E rfl rfl rfl ?_; clear E a; intro a E
      refine Run.nil ?_
      refine then_n ?_
      refine wp_ret ?_
      refine then_r ?_
      have hg : getV b (k : Int) = (0, 0, 14) := by rw [getV_at hk, hgv]; rw [gv_end (by omega), if_pos (by omega)]
      rw [hg]; exact retN E (vs := [.int .u64 0, .int .i64 0, .int .i64 14]) Try.results112 (.tmp (E.slot _ _ rfl) (.tmp (E.slot _ _ rfl) (.tmp (E.slot _ _ rfl) .nil))) rfl ⟨rfl, S.belT⟩
    · skip
      refine Run.lss rfl E rfl rfl rfl rfl (decide_eq_false (by omega)) ?_; clear E a; intro a E
      refine Run.nil ?_
      refine then_n ?_
      refine cond_F E rfl ?_
      refine wp_skip ?_
      refine then_n ?_
      refine wp_seq ?_
      refine region_plain (n := 3) [(0, .p), (1, .p), (2, .p)] rfl rfl ?_
      refine Run.assign rfl E rfl rfl rfl ?_; clear E a; intro a E
      refine Run.assign rfl E rfl rfl rfl ?_; clear E a; intro a E
      refine Run.assign rfl E rfl rfl rfl ?_; clear E a; intro a E
      refine Run.nil ?_
      refine then_n ?_
      refine wp_ret ?_
      have hg : getV b (k : Int) = (0, 0, 11) := by rw [getV_at hk, hgv]; rw [gv_ten (by omega)]
      rw [hg]; exact retN E (vs := [.int .u64 0, .int .i64 0, .int .i64 11]) Try.results112 (.tmp (E.slot _ _ rfl) (.tmp (E.slot _ _ rfl) (.tmp (E.slot _ _ rfl) .nil))) rfl ⟨rfl, S.belT⟩

theorem get_walk (H1 : Rd w0 A b.length 1 (u8s b)) (hb8 : ∀ x ∈ b, x < 256) (hl : b.length ≤ 140737488355328) : Calls Try.prog 112 [.slice A b.length c, .int .i64 at_].toArray w0 (fun r w' => r = .returned (.tuple #[.int .u64 ((getV b at_).1 : Int), .int .i64 ((getV b at_).2.1 : Int), .int .i64 ((getV b at_).2.2 : Int)]) ∧ Bel w0 w') := by
  rcases Int.lt_or_le at_ 0 with h | h0
  · exact get_low h
  · rcases Int.lt_or_le (b.length : Int) at_ with h | h1
    · exact get_high h0 h
    · obtain ⟨k, rfl⟩ : ∃ k : Nat, at_ = (k : Int) := ⟨at_.toNat, by omega⟩
      exact get_mid H1 hb8 hl (by omega)
end
end Go.Proofs.Ytlcglefbhlhcpaa.K
