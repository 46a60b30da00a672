/- Numbers as bytes: Bytes, Zig, Signed; the document's bytes. -/
import Derived.Test.YtlcglefbhlhcpaaKg
import Derived.Test.YtlcglefbhlhcpaaDeP
namespace Go.Proofs.Ytlcglefbhlhcpaa.K
open Go.RowKit
set_option linter.unusedVariables false
set_option maxRecDepth 100000
set_option maxHeartbeats 400000

section
variable {w0 : World}

theorem vb_walk {n : Nat} (hn : n ≤ 18446744073709551615) : Calls Try.prog 100 [.int .u64 (n : Int)].toArray w0 (fun r w' => ∃ A c, r = .returned (.slice A (vb n).length c) ∧ St [] w0 w' [.row (.slice A (vb n).length c) 5 1 (vb n).length (u8s (vb n))]) := by
  have S := St.nil [] w0
  refine fn_start Try.func100 rfl 20 rfl rfl [(0, _)] ⟨rfl, trivial⟩ ?_; intro a E
  refine wp_seq ?_
  refine region_plain (n := 1) [(0, .p)] rfl rfl ?_
  refine Run.assign rfl E rfl rfl rfl ?_; clear E a; intro a E
  refine Run.nil ?_
  refine then_n ?_
  refine wp_seq ?_
  refine region_plain (n := 1) [(0, .p)] rfl rfl ?_
  refine Run.assign rfl E rfl rfl rfl ?_; clear E a; intro a E
  refine Run.nil ?_
  refine then_n ?_
  refine wp_seq ?_
  refine wp_block ?_
  replace S := S.addNil 5 1
  refine wp_loop_ghost (fun n_ a w => ∃ o : List Nat, ∃ m : Nat, ∃ A : Option Addr, ∃ e : Nat, m = n_ ∧ Env 20 [(0, .int .u64 (m : Int)), (2, .slice none 0 0), (3, .slice A o.length e)] a ∧ St _ _ w [.row (.slice A o.length e) 5 1 o.length (u8s o)] ∧ (o ++ vb m = vb n) ∧ (m ≤ 18446744073709551615)) _ ⟨[], n, none, 0, rfl, E.keeps [(0, _), (2, _), (3, _)] ⟨rfl, rfl, rfl, trivial⟩, S, rfl, hn⟩ ?_
  clear E a S
  rintro n_ a w ⟨o, m, A, e, rfl, E, S, ho, hm⟩
  refine wp_seq ?_
  refine wp_seq ?_
  refine region_plain (n := 2) [(0, .p), (1, .p)] rfl rfl ?_
  refine Run.move rfl E rfl rfl rfl ?_; clear E a; intro a E
  by_cases hge : 128 ≤ m
  · skip
    have hol : o.length ≤ 10 := by have h1 := congrArg List.length ho; rw [List.length_append] at h1; have := vb_len10 hn; omega
    refine Run.geq rfl E rfl rfl rfl rfl (decide_eq_true (by omega)) ?_; clear E a; intro a E
    refine Run.nil ?_
    refine then_n ?_
    refine cond_T E rfl ?_
    refine wp_skip ?_
    refine then_n ?_
    refine wp_seq ?_
    refine wp_block ?_
    refine region_plain (n := 8) [(0, .p), (1, .p), (2, .p), (3, .p), (4, .p), (5, .e), (6, .l), (7, .p)] rfl rfl ?_
    refine Run.move rfl E rfl rfl rfl ?_; clear E a; intro a E
    refine Run.move rfl E rfl rfl rfl ?_; clear E a; intro a E
    refine Run.rem rfl E rfl rfl rfl rfl (by decide) (IntWalk.rem_in _ _ (by omega)) ?_; clear E a; intro a E
    refine Run.or rfl E rfl rfl rfl rfl (q := ((m % 128 + 128 : Nat) : Int)) (or128' m) ?_; clear E a; intro a E
    refine Run.conv rfl E rfl rfl rfl Try.underlying145 Try.underlying5 (u8_ok (by omega)) ?_; clear E a; intro a E
    refine Run.buildSlice (cs := [.int .u8 ((m % 128 + 128 : Nat) : Int)]) [(0, .int .u8 ((m % 128 + 128 : Nat) : Int))] rfl rfl E S rfl rfl rfl Try.underlying22 (by kernel_rfl) ?_; clear E a S; intro b1 w a E S B_; clear B_
    refine Run.append (news := [.int .u8 ((m % 128 + 128 : Nat) : Int)]) (nm := (o ++ [m % 128 + 128]).length) 1 rfl E S rfl rfl rfl rfl rfl Try.underlying22 I5 rfl rfl rfl (objNews S 0 rfl) (by simp [Value.oneCell']) (by simp) (by simp; omega) (by simp; omega) ?_; clear E a S; intro A2 c3 w a E S
    rw [u8s_snoc] at S
    replace S : St _ _ _ [.obj _ _ [_], _] := S
    refine Run.assign rfl E rfl rfl rfl ?_; clear E a; intro a E
    refine Run.nil ?_
    refine blk_n ?_
    refine then_n ?_
    refine region_plain (n := 3) [(0, .p), (1, .p), (2, .p)] rfl rfl ?_
    refine Run.move rfl E rfl rfl rfl ?_; clear E a; intro a E
    refine Run.shr (n := 7) rfl E rfl rfl rfl rfl (by kernel_rfl) (q := ((m / 128 : Nat) : Int)) (fdiv_pow m 7) ?_; clear E a; intro a E
    refine Run.assign rfl E rfl rfl rfl ?_; clear E a; intro a E
    refine Run.nil ?_
    refine then_n ?_
    have S : St _ _ _ [_, _] := S.sel [0, 1] _ rfl rfl
    have S := S.drop1
    exact ⟨_, (by omega), (o ++ [m % 128 + 128]), (m / 128), A2, c3, rfl, E.keeps [(0, _), (2, _), (3, _)] ⟨rfl, rfl, rfl, trivial⟩, S, (vb_step ho hge), (by omega)⟩
  · skip
    have hol : o.length ≤ 10 := by have h1 := congrArg List.length ho; rw [List.length_append] at h1; have := vb_len10 hn; omega
    refine Run.geq rfl E rfl rfl rfl rfl (decide_eq_false (by omega)) ?_; clear E a; intro a E
    refine Run.nil ?_
    refine then_n ?_
    refine cond_F E rfl ?_
    refine wp_exit ?_
    refine then_x ?_
    refine then_x ?_
    refine blk_x ?_
    refine then_n ?_
    refine wp_seq ?_
    refine region_plain (n := 6) [(0, .p), (1, .p), (2, .p), (3, .e), (4, .l), (5, .p)] rfl rfl ?_
    refine Run.move rfl E rfl rfl rfl ?_; clear E a; intro a E
    refine Run.move rfl E rfl rfl rfl ?_; clear E a; intro a E
    refine Run.conv rfl E rfl rfl rfl Try.underlying145 Try.underlying5 (u8_ok (by omega)) ?_; clear E a; intro a E
    refine Run.buildSlice (cs := [.int .u8 (m : Int)]) [(0, .int .u8 (m : Int))] rfl rfl E S rfl rfl rfl Try.underlying22 (by kernel_rfl) ?_; clear E a S; intro b4 w a E S B_; clear B_
    refine Run.append (news := [.int .u8 (m : Int)]) (nm := (o ++ [m]).length) 1 rfl E S rfl rfl rfl rfl rfl Try.underlying22 I5 rfl rfl rfl (objNews S 0 rfl) (by simp [Value.oneCell']) (by simp) (by simp; omega) (by simp; omega) ?_; clear E a S; intro A5 c6 w a E S
    rw [u8s_snoc] at S
    replace S : St _ _ _ [.obj _ _ [_], _] := S
    refine Run.assign rfl E rfl rfl rfl ?_; clear E a; intro a E
    refine Run.nil ?_
    refine then_n ?_
    refine wp_ret ?_
    have he := vb_end ho (show m < 128 by omega)
    rw [he] at E S
    refine ret1 E Try.results100 rfl ⟨A5, c6, rfl, ?_⟩
    have S : St _ _ _ [_, _] := S.sel [0, 1] _ rfl rfl
    have S := S.drop1
    exact S

theorem rb_walk : ∀ (n : Nat) {w0 : World}, n ≤ 18446744073709551615 → Calls Try.prog 103 [.int .u64 (n : Int)].toArray w0 (fun r w' => ∃ A c, r = .returned (.slice A (vb n).length c) ∧ St [] w0 w' [.row (.slice A (vb n).length c) 5 1 (vb n).length (u8s (vb n))]) := by
  intro n
  induction n using Nat.strongRecOn with
  | _ n ih =>
  intro w0 hn
  have S := St.nil [] w0
  refine fn_start Try.func103 rfl 17 rfl rfl [(0, _)] ⟨rfl, trivial⟩ ?_; intro a E
  refine wp_seq ?_
  refine region_plain (n := 1) [(0, .p)] rfl rfl ?_
  refine Run.assign rfl E rfl rfl rfl ?_; clear E a; intro a E
  refine Run.nil ?_
  refine then_n ?_
  refine wp_seq ?_
  refine wp_seq ?_
  refine region_plain (n := 2) [(0, .p), (1, .p)] rfl rfl ?_
  refine Run.move rfl E rfl rfl rfl ?_; clear E a; intro a E
  by_cases h : n < 128
  · skip
    refine Run.lss rfl E rfl rfl rfl rfl (decide_eq_true (by omega)) ?_; clear E a; intro a E
    refine Run.nil ?_
    refine then_n ?_
    refine cond_T E rfl ?_
    refine wp_seq ?_
    refine region_plain (n := 4) [(0, .p), (1, .p), (2, .e), (3, .p)] rfl rfl ?_
    refine Run.move rfl E rfl rfl rfl ?_; clear E a; intro a E
    refine Run.conv rfl E rfl rfl rfl Try.underlying145 Try.underlying5 (u8_ok (by omega)) ?_; clear E a; intro a E
    refine Run.buildSlice (cs := [.int .u8 (n : Int)]) [(0, .int .u8 (n : Int))] rfl rfl E S rfl rfl rfl Try.underlying22 (by kernel_rfl) ?_; clear E a S; intro b1 w a E S B_; clear B_
    refine Run.assign rfl E rfl rfl rfl ?_; clear E a; intro a E
    refine Run.nil ?_
    refine then_n ?_
    refine wp_ret ?_
    refine then_r ?_
    have S : St _ _ _ [_] := S.sel [0] _ rfl rfl
    have S := S.objRow (sz := 1) (n := 1) 0 rfl rfl (by decide) rfl
    rw [vb_low h]; exact ret1 E Try.results103 rfl ⟨some ⟨b1, 0, none⟩, 1, rfl, S⟩
  · skip
    refine Run.lss rfl E rfl rfl rfl rfl (decide_eq_false (by omega)) ?_; clear E a; intro a E
    refine Run.nil ?_
    refine then_n ?_
    refine cond_F E rfl ?_
    refine wp_skip ?_
    refine then_n ?_
    refine wp_seq ?_
    refine region_plain (n := 10) [(0, .p), (1, .p), (2, .p), (3, .p), (4, .e), (5, .p), (6, .p), (7, .e), (8, .l), (9, .p)] rfl rfl ?_
    refine Run.move rfl E rfl rfl rfl ?_; clear E a; intro a E
    refine Run.rem rfl E rfl rfl rfl rfl (by decide) (IntWalk.rem_in _ _ (by omega)) ?_; clear E a; intro a E
    refine Run.add rfl E rfl rfl rfl rfl (q := ((n % 128 + 128 : Nat) : Int)) (by rw [Int.natCast_add]; exact u64_ok (by omega)) ?_; clear E a; intro a E
    refine Run.conv rfl E rfl rfl rfl Try.underlying145 Try.underlying5 (u8_ok (by omega)) ?_; clear E a; intro a E
    refine Run.buildSlice (cs := [.int .u8 ((n % 128 + 128 : Nat) : Int)]) [(0, .int .u8 ((n % 128 + 128 : Nat) : Int))] rfl rfl E S rfl rfl rfl Try.underlying22 (by kernel_rfl) ?_; clear E a S; intro b2 w a E S B_; clear B_
    refine Run.move rfl E rfl rfl rfl ?_; clear E a; intro a E
    refine Run.quo rfl E rfl rfl rfl rfl (by decide) (q := ((n / 128 : Nat) : Int)) ((IntWalk.u64_quo _ _ (by omega)).trans (by simp)) ?_; clear E a; intro a E
    refine Run.call (args := [.int .u64 ((n / 128 : Nat) : Int)]) rfl rfl E rfl rfl Try.func103 nm103 rfl rfl (ih (n / 128) (by omega) (by omega)) ?_; rintro e_ w ⟨A3, c4, rfl, S_⟩; refine ⟨_, rfl, (fun _ => S_.belT), ?_⟩; clear E a; intro a E
    replace S : St _ _ _ [_, .obj _ _ [_]] := St.call (A := []) (R := [_]) S S_; clear S_
    replace S : St _ _ _ [_, _] := S.objRow (sz := 1) (n := 1) 1 rfl rfl (by decide) rfl
    refine Run.appendRd (news := u8s (vb (n / 128))) (nm := ((n % 128 + 128) :: vb (n / 128)).length) 1 rfl E S rfl rfl rfl rfl rfl Try.underlying22 I5 rfl rfl (S.rd 0 rfl) (u8s_one _) (by simp; omega) (by have := vb_len10 (n := n / 128) (by omega); simp; omega) (by have := vb_len10 (n := n / 128) (by omega); simp; omega) ?_; clear E a S; intro A5 c6 w a E S
    rw [show [Value.int .u8 ((n % 128 + 128 : Nat) : Int)] ++ u8s (vb (n / 128)) = u8s ((n % 128 + 128) :: vb (n / 128)) from u8s_cons _ _] at S
    replace S : St _ _ _ [_, _] := S
    refine Run.assign rfl E rfl rfl rfl ?_; clear E a; intro a E
    refine Run.nil ?_
    refine then_n ?_
    refine wp_ret ?_
    rw [vb_high (by omega : 128 ≤ n)]; refine ret1 E Try.results103 rfl ⟨A5, c6, rfl, ?_⟩
    have S : St _ _ _ [_, _] := S.sel [0, 1] _ rfl rfl
    have S := S.drop1
    exact S

theorem zig_pos {x : Int} (h1 : -1099511627776 ≤ x) (h2 : x ≤ 1099511627776) (hx : 0 ≤ x) : Calls Try.prog 116 [.int .i64 x].toArray w0 (fun r w' => r = .returned (.int .u64 ((zig x : Nat) : Int)) ∧ Bel w0 w') := by
  have S := St.nil [] w0
  obtain ⟨k, hk⟩ : ∃ k : Nat, x = (k : Int) := ⟨x.toNat, by omega⟩
  refine fn_start Try.func116 rfl 10 rfl rfl [(0, _)] ⟨rfl, trivial⟩ ?_; intro a E
  refine wp_seq ?_
  refine region_plain (n := 1) [(0, .p)] rfl rfl ?_
  refine Run.assign rfl E rfl rfl rfl ?_; clear E a; intro a E
  refine Run.nil ?_
  refine then_n ?_
  refine wp_seq ?_
  refine region_plain (n := 8) [(0, .p), (1, .p), (2, .p), (3, .p), (4, .p), (5, .p), (6, .p), (7, .p)] rfl rfl ?_
  refine Run.move rfl E rfl rfl rfl ?_; clear E a; intro a E
  refine Run.conv rfl E rfl rfl rfl Try.underlying3 Try.underlying145 (u64_ok (by omega)) ?_; clear E a; intro a E
  refine Run.shl (n := 1) rfl E rfl rfl rfl rfl (by kernel_rfl) (q := ((k + k : Nat) : Int)) ((u64_ok (by omega)).trans (by omega)) ?_; clear E a; intro a E
  refine Run.move rfl E rfl rfl rfl ?_; clear E a; intro a E
  refine Run.shr (n := 63) rfl E rfl rfl rfl rfl (by kernel_rfl) (q := 0) (by rw [hk]; exact (fdiv_pow k 63).trans (by rw [Nat.div_eq_of_lt (by omega)]; rfl)) ?_; clear E a; intro a E
  refine Run.conv rfl E rfl rfl rfl Try.underlying3 Try.underlying145 (u64_ok (by omega)) ?_; clear E a; intro a E
  refine Run.xor rfl E rfl rfl rfl rfl (q := ((k + k : Nat) : Int)) (u64_xor_zero _ (by omega)) ?_; clear E a; intro a E
  refine Run.assign rfl E rfl rfl rfl ?_; clear E a; intro a E
  refine Run.nil ?_
  refine then_n ?_
  refine wp_ret ?_
  have hz : zig x = k + k := by unfold zig; rw [if_pos (by omega)]; omega
  rw [hz]; exact ret1 E Try.results116 rfl ⟨rfl, S.belT⟩

theorem zig_neg {x : Int} (h1 : -1099511627776 ≤ x) (h2 : x ≤ 1099511627776) (hx : x < 0) : Calls Try.prog 116 [.int .i64 x].toArray w0 (fun r w' => r = .returned (.int .u64 ((zig x : Nat) : Int)) ∧ Bel w0 w') := by
  have S := St.nil [] w0
  obtain ⟨k, hk⟩ : ∃ k : Nat, x = -(k : Int) - 1 := ⟨(-x - 1).toNat, by omega⟩
  refine fn_start Try.func116 rfl 10 rfl rfl [(0, _)] ⟨rfl, trivial⟩ ?_; intro a E
  refine wp_seq ?_
  refine region_plain (n := 1) [(0, .p)] rfl rfl ?_
  refine Run.assign rfl E rfl rfl rfl ?_; clear E a; intro a E
  refine Run.nil ?_
  refine then_n ?_
  refine wp_seq ?_
  refine region_plain (n := 8) [(0, .p), (1, .p), (2, .p), (3, .p), (4, .p), (5, .p), (6, .p), (7, .p)] rfl rfl ?_
  refine Run.move rfl E rfl rfl rfl ?_; clear E a; intro a E
  refine Run.conv rfl E rfl rfl rfl Try.underlying3 Try.underlying145 (q := ((18446744073709551615 - k : Nat) : Int)) (by rw [hk]; exact wrap_neg k (by omega)) ?_; clear E a; intro a E
  refine Run.shl (n := 1) rfl E rfl rfl rfl rfl (by kernel_rfl) (q := ((18446744073709551614 - 2 * k : Nat) : Int)) (wrap_dbl k (by omega)) ?_; clear E a; intro a E
  refine Run.move rfl E rfl rfl rfl ?_; clear E a; intro a E
  refine Run.shr (n := 63) rfl E rfl rfl rfl rfl (by kernel_rfl) (q := -1) (by rw [hk]; exact fdiv_neg k (by omega)) ?_; clear E a; intro a E
  refine Run.conv rfl E rfl rfl rfl Try.underlying3 Try.underlying145 (q := 18446744073709551615) (by kernel_rfl) ?_; clear E a; intro a E
  refine Run.xor rfl E rfl rfl rfl rfl (q := ((2 * k + 1 : Nat) : Int)) ((u64_xor_ones _ (by omega)).trans (by omega)) ?_; clear E a; intro a E
  refine Run.assign rfl E rfl rfl rfl ?_; clear E a; intro a E
  refine Run.nil ?_
  refine then_n ?_
  refine wp_ret ?_
  have hz : zig x = 2 * k + 1 := by unfold zig; rw [if_neg (by omega)]; omega
  rw [hz]; exact ret1 E Try.results116 rfl ⟨rfl, S.belT⟩

theorem zig_walk {x : Int} (h1 : -1099511627776 ≤ x) (h2 : x ≤ 1099511627776) : Calls Try.prog 116 [.int .i64 x].toArray w0 (fun r w' => r = .returned (.int .u64 ((zig x : Nat) : Int)) ∧ Bel w0 w') := by
  rcases Int.lt_or_le x 0 with h | h
  · exact zig_neg h1 h2 h
  · exact zig_pos h1 h2 h

theorem zig_le {x : Int} (h1 : -1099511627776 ≤ x) (h2 : x ≤ 1099511627776) : zig x ≤ 18446744073709551615 := by unfold zig; split <;> omega

theorem signed_walk {x : Int} (h1 : -1099511627776 ≤ x) (h2 : x ≤ 1099511627776) : Calls Try.prog 98 [.int .i64 x].toArray w0 (fun r w' => ∃ A c, r = .returned (.slice A (vb (zig x)).length c) ∧ St [] w0 w' [.row (.slice A (vb (zig x)).length c) 5 1 (vb (zig x)).length (u8s (vb (zig x)))]) := by
  have S := St.nil [] w0
  refine fn_start Try.func98 rfl 6 rfl rfl [(0, _)] ⟨rfl, trivial⟩ ?_; intro a E
  refine wp_seq ?_
  refine region_plain (n := 1) [(0, .p)] rfl rfl ?_
  refine Run.assign rfl E rfl rfl rfl ?_; clear E a; intro a E
  refine Run.nil ?_
  refine then_n ?_
  refine wp_seq ?_
  refine region_plain (n := 4) [(0, .p), (1, .e), (2, .e), (3, .p)] rfl rfl ?_
  refine Run.move rfl E rfl rfl rfl ?_; clear E a; intro a E
  refine Run.call (args := [.int .i64 x]) rfl rfl E rfl rfl Try.func116 nm116 rfl rfl (zig_walk h1 h2) ?_; rintro e_ w ⟨rfl, B_⟩; refine ⟨_, rfl, fun _ => B_, ?_⟩; clear E a; replace S := S.bel B_; intro a E
  clear B_
  refine Run.call (args := [.int .u64 ((zig x : Nat) : Int)]) rfl rfl E rfl rfl Try.func100 nm100 rfl rfl (vb_walk (n := zig x) (zig_le h1 h2)) ?_; rintro e_ w ⟨A1, c2, rfl, S_⟩; refine ⟨_, rfl, (fun _ => S_.belT), ?_⟩; clear E a; intro a E
  replace S : St _ _ _ [_] := St.call (A := []) (R := []) S S_; clear S_
  refine Run.assign rfl E rfl rfl rfl ?_; clear E a; intro a E
  refine Run.nil ?_
  refine then_n ?_
  refine wp_ret ?_
  exact ret1 E Try.results98 rfl ⟨A1, c2, rfl, S⟩

theorem rsigned_pos {x : Int} (h1 : -1099511627776 ≤ x) (h2 : x ≤ 1099511627776) (hx : 0 ≤ x) : Calls Try.prog 102 [.int .i64 x].toArray w0 (fun r w' => ∃ A c, r = .returned (.slice A (vb (zig x)).length c) ∧ St [] w0 w' [.row (.slice A (vb (zig x)).length c) 5 1 (vb (zig x)).length (u8s (vb (zig x)))]) := by
  have S := St.nil [] w0
  obtain ⟨k, hk⟩ : ∃ k : Nat, x = (k : Int) := ⟨x.toNat, by omega⟩
  have hz : zig x = 2 * k := by unfold zig; rw [if_pos (by omega)]; omega
  refine fn_start Try.func102 rfl 16 rfl rfl [(0, _)] ⟨rfl, trivial⟩ ?_; intro a E
  refine wp_seq ?_
  refine region_plain (n := 1) [(0, .p)] rfl rfl ?_
  refine Run.assign rfl E rfl rfl rfl ?_; clear E a; intro a E
  refine Run.nil ?_
  refine then_n ?_
  refine wp_seq ?_
  refine wp_seq ?_
  refine region_plain (n := 2) [(0, .p), (1, .p)] rfl rfl ?_
  refine Run.move rfl E rfl rfl rfl ?_; clear E a; intro a E
  refine Run.geq rfl E rfl rfl rfl rfl (decide_eq_true (by omega)) ?_; clear E a; intro a E
  refine Run.nil ?_
  refine then_n ?_
  refine cond_T E rfl ?_
  refine wp_seq ?_
  refine region_plain (n := 5) [(0, .p), (1, .p), (2, .p), (3, .e), (4, .p)] rfl rfl ?_
  refine Run.move rfl E rfl rfl rfl ?_; clear E a; intro a E
  refine Run.conv rfl E rfl rfl rfl Try.underlying3 Try.underlying145 (q := (k : Int)) ((u64_ok (by omega)).trans (by omega)) ?_; clear E a; intro a E
  refine Run.mul rfl E rfl rfl rfl rfl (q := ((2 * k : Nat) : Int)) ((u64_ok (by omega)).trans (by omega)) ?_; clear E a; intro a E
  refine Run.call (args := [.int .u64 ((2 * k : Nat) : Int)]) rfl rfl E rfl rfl Try.func103 nm103 rfl rfl (rb_walk (2 * k) (by omega)) ?_; rintro e_ w ⟨A1, c2, rfl, S_⟩; refine ⟨_, rfl, (fun _ => S_.belT), ?_⟩; clear E a; intro a E
  replace S : St _ _ _ [_] := St.call (A := []) (R := []) S S_; clear S_
  refine Run.assign rfl E rfl rfl rfl ?_; clear E a; intro a E
  refine Run.nil ?_
  refine then_n ?_
  refine wp_ret ?_
  refine then_r ?_
  rw [hz]; exact ret1 E Try.results102 rfl ⟨A1, c2, rfl, S⟩

theorem rsigned_neg {x : Int} (h1 : -1099511627776 ≤ x) (h2 : x ≤ 1099511627776) (hx : x < 0) : Calls Try.prog 102 [.int .i64 x].toArray w0 (fun r w' => ∃ A c, r = .returned (.slice A (vb (zig x)).length c) ∧ St [] w0 w' [.row (.slice A (vb (zig x)).length c) 5 1 (vb (zig x)).length (u8s (vb (zig x)))]) := by
  have S := St.nil [] w0
  obtain ⟨k, hk⟩ : ∃ k : Nat, x = -(k : Int) - 1 := ⟨(-x - 1).toNat, by omega⟩
  have hz : zig x = 2 * k + 1 := by unfold zig; rw [if_neg (by omega)]; omega
  refine fn_start Try.func102 rfl 16 rfl rfl [(0, _)] ⟨rfl, trivial⟩ ?_; intro a E
  refine wp_seq ?_
  refine region_plain (n := 1) [(0, .p)] rfl rfl ?_
  refine Run.assign rfl E rfl rfl rfl ?_; clear E a; intro a E
  refine Run.nil ?_
  refine then_n ?_
  refine wp_seq ?_
  refine wp_seq ?_
  refine region_plain (n := 2) [(0, .p), (1, .p)] rfl rfl ?_
  refine Run.move rfl E rfl rfl rfl ?_; clear E a; intro a E
  refine Run.geq rfl E rfl rfl rfl rfl (decide_eq_false (by omega)) ?_; clear E a; intro a E
  refine Run.nil ?_
  refine then_n ?_
  refine cond_F E rfl ?_
  refine wp_skip ?_
  refine then_n ?_
  refine wp_seq ?_
  refine region_plain (n := 8) [(0, .p), (1, .p), (2, .p), (3, .p), (4, .p), (5, .p), (6, .e), (7, .p)] rfl rfl ?_
  refine Run.move rfl E rfl rfl rfl ?_; clear E a; intro a E
  refine Run.add rfl E rfl rfl rfl rfl (i64_ok (by omega)) ?_; clear E a; intro a E
  refine Run.neg rfl E rfl rfl rfl (i64_ok (by omega)) ?_; clear E a; intro a E
  refine Run.conv rfl E rfl rfl rfl Try.underlying3 Try.underlying145 (q := (k : Int)) ((u64_ok (by omega)).trans (by omega)) ?_; clear E a; intro a E
  refine Run.mul rfl E rfl rfl rfl rfl (q := ((2 * k : Nat) : Int)) ((u64_ok (by omega)).trans (by omega)) ?_; clear E a; intro a E
  refine Run.add rfl E rfl rfl rfl rfl (q := ((2 * k + 1 : Nat) : Int)) ((u64_ok (by omega)).trans (by omega)) ?_; clear E a; intro a E
  refine Run.call (args := [.int .u64 ((2 * k + 1 : Nat) : Int)]) rfl rfl E rfl rfl Try.func103 nm103 rfl rfl (rb_walk (2 * k + 1) (by omega)) ?_; rintro e_ w ⟨A1, c2, rfl, S_⟩; refine ⟨_, rfl, (fun _ => S_.belT), ?_⟩; clear E a; intro a E
  replace S : St _ _ _ [_] := St.call (A := []) (R := []) S S_; clear S_
  refine Run.assign rfl E rfl rfl rfl ?_; clear E a; intro a E
  refine Run.nil ?_
  refine then_n ?_
  refine wp_ret ?_
  rw [hz]; exact ret1 E Try.results102 rfl ⟨A1, c2, rfl, S⟩

theorem rsigned_walk {x : Int} (h1 : -1099511627776 ≤ x) (h2 : x ≤ 1099511627776) : Calls Try.prog 102 [.int .i64 x].toArray w0 (fun r w' => ∃ A c, r = .returned (.slice A (vb (zig x)).length c) ∧ St [] w0 w' [.row (.slice A (vb (zig x)).length c) 5 1 (vb (zig x)).length (u8s (vb (zig x)))]) := by
  rcases Int.lt_or_le x 0 with h | h
  · exact rsigned_neg h1 h2 h
  · exact rsigned_pos h1 h2 h

end
end Go.Proofs.Ytlcglefbhlhcpaa.K
