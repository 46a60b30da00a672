/- A book: Repeat, New, Set, Part, Mark, Len, Get; same. -/
import Derived.Test.YtlcglefbhlhcpaaKg
import Derived.Test.YtlcglefbhlhcpaaUnP
namespace Go.Proofs.Ytlcglefbhlhcpaa.K
open Go.RowKit
set_option linter.unusedVariables false
set_option maxRecDepth 100000
set_option maxHeartbeats 2000000

section
variable {w0 : World} {g c d : Nat} {A B : Option Addr} {now : List Int} {trail : List Note}

theorem mul64_one {k : Nat} (hk : k ≤ 65536) : Calls Try.prog 122 [.int .u64 1, .int .u64 (k : Int)].toArray w0 (fun r w' => r = .returned (.tuple #[.int .u64 0, .int .u64 (k : Int)]) ∧ Bel w0 w') := by
  have S := St.nil [] w0
  refine fn_start Try.func122 rfl 51 rfl rfl [(0, _), (1, _)] ⟨rfl, rfl, trivial⟩ ?_; intro a E
  refine wp_seq ?_
  refine region_plain (n := 2) [(0, .p), (1, .p)] rfl rfl ?_
  refine Run.assign rfl E rfl rfl rfl ?_; clear E a; intro a E
  refine Run.assign rfl E rfl rfl rfl ?_; clear E a; intro a E
  refine Run.nil ?_
  refine then_n ?_
  refine wp_seq ?_
  refine region_plain (n := 3) [(0, .p), (1, .p), (2, .p)] rfl rfl ?_
  refine Run.move rfl E rfl rfl rfl ?_; clear E a; intro a E
  refine Run.and rfl E rfl rfl rfl rfl (q := 1) (by kernel_rfl) ?_; clear E a; intro a E
  refine Run.assign rfl E rfl rfl rfl ?_; clear E a; intro a E
  refine Run.nil ?_
  refine then_n ?_
  refine wp_seq ?_
  refine region_plain (n := 3) [(0, .p), (1, .p), (2, .p)] rfl rfl ?_
  refine Run.move rfl E rfl rfl rfl ?_; clear E a; intro a E
  refine Run.shr (n := 32) rfl E rfl rfl rfl rfl (by kernel_rfl) (q := 0) (by kernel_rfl) ?_; clear E a; intro a E
  refine Run.assign rfl E rfl rfl rfl ?_; clear E a; intro a E
  refine Run.nil ?_
  refine then_n ?_
  refine wp_seq ?_
  refine region_plain (n := 3) [(0, .p), (1, .p), (2, .p)] rfl rfl ?_
  refine Run.move rfl E rfl rfl rfl ?_; clear E a; intro a E
  refine Run.and rfl E rfl rfl rfl rfl (q := (k : Int)) ((u64_and_mask k 32 (by omega) (by decide)).trans (by rw [Nat.mod_eq_of_lt (by omega)])) ?_; clear E a; intro a E
  refine Run.assign rfl E rfl rfl rfl ?_; clear E a; intro a E
  refine Run.nil ?_
  refine then_n ?_
  refine wp_seq ?_
  refine region_plain (n := 3) [(0, .p), (1, .p), (2, .p)] rfl rfl ?_
  refine Run.move rfl E rfl rfl rfl ?_; clear E a; intro a E
  refine Run.shr (n := 32) rfl E rfl rfl rfl rfl (by kernel_rfl) (q := 0) ((fdiv_pow k 32).trans (by rw [Nat.div_eq_of_lt (by omega)]; rfl)) ?_; clear E a; intro a E
  refine Run.assign rfl E rfl rfl rfl ?_; clear E a; intro a E
  refine Run.nil ?_
  refine then_n ?_
  refine wp_seq ?_
  refine region_plain (n := 4) [(0, .p), (1, .p), (2, .p), (3, .p)] rfl rfl ?_
  refine Run.move rfl E rfl rfl rfl ?_; clear E a; intro a E
  refine Run.move rfl E rfl rfl rfl ?_; clear E a; intro a E
  refine Run.mul rfl E rfl rfl rfl rfl (q := (k : Int)) (by rw [Int.one_mul]; exact u64_ok (by omega)) ?_; clear E a; intro a E
  refine Run.assign rfl E rfl rfl rfl ?_; clear E a; intro a E
  refine Run.nil ?_
  refine then_n ?_
  refine wp_seq ?_
  refine region_plain (n := 7) [(0, .p), (1, .p), (2, .p), (3, .p), (4, .p), (5, .p), (6, .p)] rfl rfl ?_
  refine Run.move rfl E rfl rfl rfl ?_; clear E a; intro a E
  refine Run.move rfl E rfl rfl rfl ?_; clear E a; intro a E
  refine Run.mul rfl E rfl rfl rfl rfl (q := 0) (by rw [Int.zero_mul]; rfl) ?_; clear E a; intro a E
  refine Run.move rfl E rfl rfl rfl ?_; clear E a; intro a E
  refine Run.shr (n := 32) rfl E rfl rfl rfl rfl (by kernel_rfl) (q := 0) ((fdiv_pow k 32).trans (by rw [Nat.div_eq_of_lt (by omega)]; rfl)) ?_; clear E a; intro a E
  refine Run.add rfl E rfl rfl rfl rfl (q := 0) (by kernel_rfl) ?_; clear E a; intro a E
  refine Run.assign rfl E rfl rfl rfl ?_; clear E a; intro a E
  refine Run.nil ?_
  refine then_n ?_
  refine wp_seq ?_
  refine region_plain (n := 3) [(0, .p), (1, .p), (2, .p)] rfl rfl ?_
  refine Run.move rfl E rfl rfl rfl ?_; clear E a; intro a E
  refine Run.and rfl E rfl rfl rfl rfl (q := 0) (by kernel_rfl) ?_; clear E a; intro a E
  refine Run.assign rfl E rfl rfl rfl ?_; clear E a; intro a E
  refine Run.nil ?_
  refine then_n ?_
  refine wp_seq ?_
  refine region_plain (n := 3) [(0, .p), (1, .p), (2, .p)] rfl rfl ?_
  refine Run.move rfl E rfl rfl rfl ?_; clear E a; intro a E
  refine Run.shr (n := 32) rfl E rfl rfl rfl rfl (by kernel_rfl) (q := 0) (by kernel_rfl) ?_; clear E a; intro a E
  refine Run.assign rfl E rfl rfl rfl ?_; clear E a; intro a E
  refine Run.nil ?_
  refine then_n ?_
  refine wp_seq ?_
  refine region_plain (n := 6) [(0, .p), (1, .p), (2, .p), (3, .p), (4, .p), (5, .p)] rfl rfl ?_
  refine Run.move rfl E rfl rfl rfl ?_; clear E a; intro a E
  refine Run.move rfl E rfl rfl rfl ?_; clear E a; intro a E
  refine Run.move rfl E rfl rfl rfl ?_; clear E a; intro a E
  refine Run.mul rfl E rfl rfl rfl rfl (q := 0) (by kernel_rfl) ?_; clear E a; intro a E
  refine Run.add rfl E rfl rfl rfl rfl (q := 0) (by kernel_rfl) ?_; clear E a; intro a E
  refine Run.assign rfl E rfl rfl rfl ?_; clear E a; intro a E
  refine Run.nil ?_
  refine then_n ?_
  refine wp_seq ?_
  refine region_plain (n := 9) [(0, .p), (1, .p), (2, .p), (3, .p), (4, .p), (5, .p), (6, .p), (7, .p), (8, .p)] rfl rfl ?_
  refine Run.move rfl E rfl rfl rfl ?_; clear E a; intro a E
  refine Run.move rfl E rfl rfl rfl ?_; clear E a; intro a E
  refine Run.mul rfl E rfl rfl rfl rfl (q := 0) (by kernel_rfl) ?_; clear E a; intro a E
  refine Run.move rfl E rfl rfl rfl ?_; clear E a; intro a E
  refine Run.add rfl E rfl rfl rfl rfl (q := 0) (by kernel_rfl) ?_; clear E a; intro a E
  refine Run.move rfl E rfl rfl rfl ?_; clear E a; intro a E
  refine Run.shr (n := 32) rfl E rfl rfl rfl rfl (by kernel_rfl) (q := 0) (by kernel_rfl) ?_; clear E a; intro a E
  refine Run.add rfl E rfl rfl rfl rfl (q := 0) (by kernel_rfl) ?_; clear E a; intro a E
  refine Run.assign rfl E rfl rfl rfl ?_; clear E a; intro a E
  refine Run.nil ?_
  refine then_n ?_
  refine wp_seq ?_
  refine region_plain (n := 4) [(0, .p), (1, .p), (2, .p), (3, .p)] rfl rfl ?_
  refine Run.move rfl E rfl rfl rfl ?_; clear E a; intro a E
  refine Run.move rfl E rfl rfl rfl ?_; clear E a; intro a E
  refine Run.mul rfl E rfl rfl rfl rfl (q := (k : Int)) (by rw [Int.one_mul]; exact u64_ok (by omega)) ?_; clear E a; intro a E
  refine Run.assign rfl E rfl rfl rfl ?_; clear E a; intro a E
  refine Run.nil ?_
  refine then_n ?_
  refine wp_ret ?_
  exact ret2 E Try.results122 rfl rfl ⟨rfl, S.belT⟩

theorem mul_one {k : Nat} (hk : k ≤ 65536) : Calls Try.prog 114 [.int .u64 1, .int .u64 (k : Int)].toArray w0 (fun r w' => r = .returned (.tuple #[.int .u64 0, .int .u64 (k : Int)]) ∧ Bel w0 w') := by
  have S := St.nil [] w0
  refine fn_start Try.func114 rfl 30 rfl rfl [(0, _), (1, _)] ⟨rfl, rfl, trivial⟩ ?_; intro a E
  refine wp_seq ?_
  refine region_plain (n := 2) [(0, .p), (1, .p)] rfl rfl ?_
  refine Run.assign rfl E rfl rfl rfl ?_; clear E a; intro a E
  refine Run.assign rfl E rfl rfl rfl ?_; clear E a; intro a E
  refine Run.nil ?_
  refine then_n ?_
  refine wp_seq ?_
  refine cond_F E rfl ?_
  refine wp_skip ?_
  refine then_n ?_
  refine wp_seq ?_
  refine region_plain (n := 8) [(0, .p), (1, .p), (2, .e), (3, .p), (4, .p), (5, .p), (6, .p), (7, .p)] rfl rfl ?_
  refine Run.move rfl E rfl rfl rfl ?_; clear E a; intro a E
  refine Run.move rfl E rfl rfl rfl ?_; clear E a; intro a E
  refine Run.call (args := [.int .u64 1, .int .u64 (k : Int)]) rfl rfl E rfl rfl Try.func122 nm122 rfl rfl (mul64_one hk) ?_; rintro e_ w ⟨rfl, B_⟩; refine ⟨_, rfl, fun _ => B_, ?_⟩; clear E a; replace S := S.bel B_; intro a E
  clear B_
  refine Run.move rfl E rfl rfl rfl ?_; clear E a; intro a E
  refine Run.extract rfl E rfl rfl rfl rfl ?_; clear E a; intro a E
  refine Run.extract rfl E rfl rfl rfl rfl ?_; clear E a; intro a E
  refine Run.assign rfl E rfl rfl rfl ?_; clear E a; intro a E
  refine Run.assign rfl E rfl rfl rfl ?_; clear E a; intro a E
  refine Run.nil ?_
  refine then_n ?_
  refine wp_seq ?_
  refine region_plain (n := 4) [(0, .p), (1, .p), (2, .p), (3, .p)] rfl rfl ?_
  refine Run.move rfl E rfl rfl rfl ?_; clear E a; intro a E
  refine Run.move rfl E rfl rfl rfl ?_; clear E a; intro a E
  refine Run.assign rfl E rfl rfl rfl ?_; clear E a; intro a E
  refine Run.assign rfl E rfl rfl rfl ?_; clear E a; intro a E
  refine Run.nil ?_
  refine then_n ?_
  refine wp_ret ?_
  exact ret2 E Try.results114 rfl rfl ⟨rfl, S.belT⟩

theorem repeat_walk {xb k : Nat} {v : Int} (hk : k ≤ 65536) (hx : w0.cell? ⟨xb, 0, none⟩ = some (.int .i64 v)) : Calls Try.prog 93 [.slice (some ⟨xb, 0, none⟩) 1 1, .int .i64 (k : Int)].toArray w0 (fun r w' => ∃ A c, r = .returned (.slice A k c) ∧ St [] w0 w' [.row (.slice A k c) 3 1 k (ints (List.replicate k v))]) := by
  have S := St.nil [] w0
  obtain ⟨m0, hm0⟩ : ∃ m0 : Nat, m0 = min 1 k := ⟨_, rfl⟩
  refine fn_start Try.func93 rfl 48 rfl rfl [(0, _), (1, _)] ⟨rfl, rfl, trivial⟩ ?_; intro a E
  refine wp_seq ?_
  refine region_plain (n := 1) [(0, .p)] rfl rfl ?_
  refine Run.assign rfl E rfl rfl rfl ?_; clear E a; intro a E
  refine Run.nil ?_
  refine then_n ?_
  refine wp_seq ?_
  refine wp_seq ?_
  refine region_plain (n := 2) [(0, .p), (1, .p)] rfl rfl ?_
  refine Run.move rfl E rfl rfl rfl ?_; clear E a; intro a E
  refine Run.lss rfl E rfl rfl rfl rfl (decide_eq_false (by omega)) ?_; clear E a; intro a E
  refine Run.nil ?_
  refine then_n ?_
  refine cond_F E rfl ?_
  refine wp_skip ?_
  refine then_n ?_
  refine wp_seq ?_
  refine region_plain (n := 11) [(0, .p), (1, .p), (2, .p), (3, .p), (4, .p), (5, .e), (6, .p), (7, .p), (8, .p), (9, .p), (10, .p)] rfl rfl ?_
  refine Run.move rfl E rfl rfl rfl ?_; clear E a; intro a E
  refine Run.len rfl E rfl rfl rfl Try.underlying32 ?_; clear E a; intro a E
  refine Run.conv rfl E rfl rfl rfl Try.underlying3 Try.underlying167 (u64_ok (by omega)) ?_; clear E a; intro a E
  refine Run.move rfl E rfl rfl rfl ?_; clear E a; intro a E
  refine Run.conv rfl E rfl rfl rfl Try.underlying3 Try.underlying167 (u64_ok (by omega)) ?_; clear E a; intro a E
  refine Run.call (args := [.int .u64 1, .int .u64 (k : Int)]) rfl rfl E rfl rfl Try.func114 nm114 rfl rfl (mul_one hk) ?_; rintro e_ w ⟨rfl, B_⟩; refine ⟨_, rfl, fun _ => B_, ?_⟩; clear E a; replace S := S.bel B_; intro a E
  clear B_
  refine Run.move rfl E rfl rfl rfl ?_; clear E a; intro a E
  refine Run.extract rfl E rfl rfl rfl rfl ?_; clear E a; intro a E
  refine Run.extract rfl E rfl rfl rfl rfl ?_; clear E a; intro a E
  refine Run.assign rfl E rfl rfl rfl ?_; clear E a; intro a E
  refine Run.assign rfl E rfl rfl rfl ?_; clear E a; intro a E
  refine Run.nil ?_
  refine then_n ?_
  refine wp_seq ?_
  refine wp_seq ?_
  refine region_plain (n := 6) [(0, .p), (1, .p), (2, .p), (3, .p), (4, .p), (5, .p)] rfl rfl ?_
  refine Run.move rfl E rfl rfl rfl ?_; clear E a; intro a E
  refine Run.gtr rfl E rfl rfl rfl rfl (b := false) (by decide) ?_; clear E a; intro a E
  refine Run.move rfl E rfl rfl rfl ?_; clear E a; intro a E
  refine Run.move rfl E rfl rfl rfl ?_; clear E a; intro a E
  refine Run.gtr rfl E rfl rfl rfl rfl (decide_eq_false (by omega)) ?_; clear E a; intro a E
  refine Run.pickF rfl E rfl rfl rfl rfl ?_; clear E a; intro a E
  refine Run.nil ?_
  refine then_n ?_
  refine cond_F E rfl ?_
  refine wp_skip ?_
  refine then_n ?_
  refine wp_seq ?_
  refine region_plain (n := 4) [(0, .p), (1, .p), (2, .e), (3, .p)] rfl rfl ?_
  refine Run.move rfl E rfl rfl rfl ?_; clear E a; intro a E
  refine Run.conv rfl E rfl rfl rfl Try.underlying167 Try.underlying3 (i64_ok (by omega)) ?_; clear E a; intro a E
  refine Run.makeSlice (n := k) rfl rfl E S rfl rfl rfl rfl (by omega) (by omega) Try.underlying32 I3 (by omega) (by omega) ?_; clear E a S; intro b1 w a E S B_; clear B_
  replace S : St _ _ _ [_] := S
  refine Run.assign rfl E rfl rfl rfl ?_; clear E a; intro a E
  refine Run.nil ?_
  refine then_n ?_
  refine wp_seq ?_
  refine region_plain (n := 4) [(0, .p), (1, .p), (2, .l), (3, .p)] rfl rfl ?_
  refine Run.move rfl E rfl rfl rfl ?_; clear E a; intro a E
  refine Run.move rfl E rfl rfl rfl ?_; clear E a; intro a E
  refine Run.copy (news := List.replicate m0 (.int .i64 v)) 0 rfl E S rfl rfl rfl rfl rfl Try.underlying32 sz3 (by simp; omega) (by simp; omega) (fun j u hj => ?_) (fun u hu => by rw [(List.mem_replicate.1 hu).2]; rfl) ?_
  · have hj0 : j = 0 := by have := (List.getElem?_eq_some_iff.1 hj).1; simp at this; omega
    subst hj0
    have hu : u = .int .i64 v := by have := List.mem_of_getElem? hj; exact (List.mem_replicate.1 this).2
    subst hu
    exact roCell hx S
  clear E a S; intro w a E S
  replace E := E.setv 33 rfl (show Value.int .i64 ((List.replicate m0 (Value.int .i64 v)).length : Int) = .int .i64 (m0 : Int) by simp)
  obtain ⟨xs0, hxs0⟩ : ∃ xs0, xs0 = (madeCells (Value.int .i64 0).cells (k * 1)).toList.take 0 ++ List.replicate m0 (Value.int .i64 v) ++ (madeCells (Value.int .i64 0).cells (k * 1)).toList.drop (0 + (List.replicate m0 (Value.int .i64 v)).length) := ⟨_, rfl⟩
  rw [← hxs0] at S
  have hm0x : xs0.take m0 = List.replicate m0 (.int .i64 v) := by rw [hxs0]; simp
  clear hxs0
  replace S : St _ _ _ [_] := S
  refine Run.assign rfl E rfl rfl rfl ?_; clear E a; intro a E
  refine Run.nil ?_
  refine then_n ?_
  refine wp_seq ?_
  refine wp_block ?_
  have S : St _ _ _ [_] := S.sel [0] _ rfl rfl
  refine wp_loop_ghost (fun n_ a w => ∃ m : Nat, ∃ xs : List Value, k - m = n_ ∧ Env 48 [(4, .slice none 0 0), (7, .slice (some ⟨b1, 0, none⟩) k k), (8, .int .i64 (m : Int))] a ∧ St _ _ w [.row (.slice (some ⟨b1, 0, none⟩) k k) 3 1 k xs] ∧ (xs.take m = List.replicate m (.int .i64 v)) ∧ (0 < k → 0 < m) ∧ (m ≤ k)) _ ⟨m0, xs0, rfl, E.keeps [(4, _), (7, _), (8, _)] ⟨rfl, rfl, rfl, trivial⟩, S, hm0x, (fun h => by omega), (by omega)⟩ ?_
  clear E a S
  rintro n_ a w ⟨m, xs, rfl, E, S, hm, h1, hmk⟩
  refine wp_seq ?_
  refine wp_seq ?_
  refine region_plain (n := 4) [(0, .p), (1, .p), (2, .p), (3, .p)] rfl rfl ?_
  refine Run.move rfl E rfl rfl rfl ?_; clear E a; intro a E
  refine Run.move rfl E rfl rfl rfl ?_; clear E a; intro a E
  refine Run.len rfl E rfl rfl rfl Try.underlying32 ?_; clear E a; intro a E
  by_cases hlt : m < k
  · skip
    refine Run.lss rfl E rfl rfl rfl rfl (decide_eq_true (by omega)) ?_; clear E a; intro a E
    refine Run.nil ?_
    refine then_n ?_
    refine cond_T E rfl ?_
    refine wp_skip ?_
    refine then_n ?_
    refine wp_block ?_
    refine region_drawS (n := 10) [(0, .p), (1, .p), (2, .p), (3, .p), (4, .p), (5, .p), (6, .p), (7, .l), (8, .p), (9, .p)] [0, 0, 0, 6, 0, 0, 48, 126, 255, 511] S mixed rfl rfl (by kernel_rfl) (fun _ _ _ _ _ h => h) ?_; clear S; intro w S B_; clear B_
    refine Run.move rfl E rfl rfl rfl ?_; clear E a; intro a E
    refine Run.move rfl E rfl rfl rfl ?_; clear E a; intro a E
    refine Run.move rfl E rfl rfl rfl ?_; clear E a; intro a E
    refine Run.subL (A' := some ⟨b1, m, none⟩) rfl E rfl rfl rfl rfl Try.underlying32 sz3 (by omega) (q := m) (by omega) (by rw [sub_addr _ _ _ _ _ (by omega)]; simp) ?_; clear E a; intro a E
    refine Run.move rfl E rfl rfl rfl ?_; clear E a; intro a E
    refine Run.move rfl E rfl rfl rfl ?_; clear E a; intro a E
    refine Run.sliceH rfl E rfl rfl rfl rfl Try.underlying32 sz3 (by omega) (q := m) (by omega) ?_; clear E a; intro a E
    have hxl : xs.length = k * 1 := (S.row 0 rfl).1
    obtain ⟨cnt, hcnt⟩ : ∃ cnt, cnt = min m (k - m) := ⟨_, rfl⟩
    refine Run.copy (news := (xs.drop 0).take cnt) (n := k) (c := k) (xs := xs) 0 rfl E S rfl rfl rfl rfl rfl Try.underlying32 sz3 (by simp; omega) (by simp; omega) (fun j u hj => ?_) (fun u hu => ?_) ?_
    · rw [add_at]; refine S.rowCell 0 rfl ?_
      rw [List.getElem?_take] at hj; split at hj
      · simpa using hj
      · cases hj
    · have hu2 : u ∈ xs.take m := by
        have := List.mem_of_mem_take hu; rw [List.drop_zero] at hu
        have e : xs.take cnt = (xs.take m).take cnt := by rw [List.take_take, Nat.min_eq_left (by omega)]
        rw [e] at hu; exact List.mem_of_mem_take hu
      rw [hm] at hu2; rw [(List.mem_replicate.1 hu2).2]; rfl
    clear E a S; intro w a E S
    have hnl : ((xs.drop 0).take cnt).length = cnt := by simp; omega
    have hx2 := rep_step hm (show cnt ≤ m by omega) (show m + cnt ≤ xs.length by omega)
    rw [hnl] at E S
    replace S : St _ _ _ [_] := S
    refine Run.add rfl E rfl rfl rfl rfl (i64_ok (by omega)) ?_; clear E a; intro a E
    refine Run.assign rfl E rfl rfl rfl ?_; clear E a; intro a E
    refine Run.nil ?_
    refine blk_n ?_
    refine then_n ?_
    replace E := E.setv 8 rfl (show Value.int .i64 ((m : Int) + (cnt : Int)) = .int .i64 ((m + cnt : Nat) : Int) by rw [Int.natCast_add])
    exact ⟨_, (by omega), (m + cnt), (xs.take m ++ (xs.drop 0).take cnt ++ xs.drop (m + cnt)), rfl, E.keeps [(4, _), (7, _), (8, _)] ⟨rfl, rfl, rfl, trivial⟩, S, hx2, (fun h => by omega), (by omega)⟩
  · skip
    have hkm : m = k := by omega
    subst hkm
    refine Run.lss rfl E rfl rfl rfl rfl (decide_eq_false (by omega)) ?_; clear E a; intro a E
    refine Run.nil ?_
    refine then_n ?_
    refine cond_F E rfl ?_
    refine wp_exit ?_
    refine then_x ?_
    refine then_x ?_
    refine blk_x ?_
    refine then_n ?_
    refine wp_seq ?_
    refine region_plain (n := 2) [(0, .p), (1, .p)] rfl rfl ?_
    refine Run.move rfl E rfl rfl rfl ?_; clear E a; intro a E
    refine Run.assign rfl E rfl rfl rfl ?_; clear E a; intro a E
    refine Run.nil ?_
    refine then_n ?_
    refine wp_ret ?_
    have hxl : xs.length = m * 1 := (S.row 0 rfl).1
    have hfin : xs = ints (List.replicate m v) := by rw [ints_rep', ← hm]; exact (List.take_of_length_le (by omega)).symm
    rw [hfin] at S
    exact ret1 E Try.results93 rfl ⟨some ⟨b1, 0, none⟩, m, rfl, S⟩

theorem un_new_low {k v : Int} (h : k < 0) : Calls Try.prog 49 [.int .i64 k, .int .i64 v].toArray w0 (fun r w' => r = .returned (.tuple #[.pointer none, .int .i64 10]) ∧ Bel w0 w') := by
  have S := St.nil [] w0
  refine fn_start Try.func49 rfl 18 rfl rfl [(0, _), (1, _)] ⟨rfl, rfl, trivial⟩ ?_; intro a E
  refine wp_seq ?_
  refine region_plain (n := 2) [(0, .p), (1, .p)] rfl rfl ?_
  refine Run.assign rfl E rfl rfl rfl ?_; clear E a; intro a E
  refine Run.assign rfl E rfl rfl rfl ?_; clear E a; intro a E
  refine Run.nil ?_
  refine then_n ?_
  refine wp_seq ?_
  refine wp_seq ?_
  refine region_plain (n := 6) [(0, .p), (1, .p), (2, .p), (3, .p), (4, .p), (5, .p)] rfl rfl ?_
  refine Run.move rfl E rfl rfl rfl ?_; clear E a; intro a E
  refine Run.lss rfl E rfl rfl rfl rfl (decide_eq_true (by omega)) ?_; clear E a; intro a E
  refine Run.move rfl E rfl rfl rfl ?_; clear E a; intro a E
  refine Run.off rfl E rfl rfl ?_; clear E a; intro a E
  refine Run.off rfl E rfl rfl ?_; clear E a; intro a E
  refine Run.pickT rfl E rfl rfl rfl rfl ?_; clear E a; intro a E
  refine Run.nil ?_
  refine then_n ?_
  refine cond_T E rfl ?_
  refine wp_seq ?_
  refine region_plain (n := 2) [(0, .p), (1, .p)] rfl rfl ?_
  refine Run.assign rfl E rfl rfl rfl ?_; clear E a; intro a E
  refine Run.assign rfl E rfl rfl rfl ?_; clear E a; intro a E
  refine Run.nil ?_
  refine then_n ?_
  refine wp_ret ?_
  refine then_r ?_
  exact ret2 E Try.results49 rfl rfl ⟨rfl, S.belT⟩

theorem un_new_high {k v : Int} (h : 65536 < k) : Calls Try.prog 49 [.int .i64 k, .int .i64 v].toArray w0 (fun r w' => r = .returned (.tuple #[.pointer none, .int .i64 10]) ∧ Bel w0 w') := by
  have S := St.nil [] w0
  refine fn_start Try.func49 rfl 18 rfl rfl [(0, _), (1, _)] ⟨rfl, rfl, trivial⟩ ?_; intro a E
  refine wp_seq ?_
  refine region_plain (n := 2) [(0, .p), (1, .p)] rfl rfl ?_
  refine Run.assign rfl E rfl rfl rfl ?_; clear E a; intro a E
  refine Run.assign rfl E rfl rfl rfl ?_; clear E a; intro a E
  refine Run.nil ?_
  refine then_n ?_
  refine wp_seq ?_
  refine wp_seq ?_
  refine region_plain (n := 6) [(0, .p), (1, .p), (2, .p), (3, .p), (4, .p), (5, .p)] rfl rfl ?_
  refine Run.move rfl E rfl rfl rfl ?_; clear E a; intro a E
  refine Run.lss rfl E rfl rfl rfl rfl (decide_eq_false (by omega)) ?_; clear E a; intro a E
  refine Run.move rfl E rfl rfl rfl ?_; clear E a; intro a E
  refine Run.move rfl E rfl rfl rfl ?_; clear E a; intro a E
  refine Run.gtr rfl E rfl rfl rfl rfl (decide_eq_true (by omega)) ?_; clear E a; intro a E
  refine Run.pickF rfl E rfl rfl rfl rfl ?_; clear E a; intro a E
  refine Run.nil ?_
  refine then_n ?_
  refine cond_T E rfl ?_
  refine wp_seq ?_
  refine region_plain (n := 2) [(0, .p), (1, .p)] rfl rfl ?_
  refine Run.assign rfl E rfl rfl rfl ?_; clear E a; intro a E
  refine Run.assign rfl E rfl rfl rfl ?_; clear E a; intro a E
  refine Run.nil ?_
  refine then_n ?_
  refine wp_ret ?_
  refine then_r ?_
  exact ret2 E Try.results49 rfl rfl ⟨rfl, S.belT⟩

theorem un_new {k : Nat} {v : Int} (hk : k ≤ 65536) : Calls Try.prog 49 [.int .i64 (k : Int), .int .i64 v].toArray w0 (fun r w' => ∃ g A c, r = .returned (.tuple #[.pointer (some ⟨g, 0, none⟩), .int .i64 0]) ∧ St [] w0 w' (Book g A c none 0 (List.replicate k v) [])) := by
  have S := St.nil [] w0
  refine fn_start Try.func49 rfl 18 rfl rfl [(0, _), (1, _)] ⟨rfl, rfl, trivial⟩ ?_; intro a E
  refine wp_seq ?_
  refine region_plain (n := 2) [(0, .p), (1, .p)] rfl rfl ?_
  refine Run.assign rfl E rfl rfl rfl ?_; clear E a; intro a E
  refine Run.assign rfl E rfl rfl rfl ?_; clear E a; intro a E
  refine Run.nil ?_
  refine then_n ?_
  refine wp_seq ?_
  refine wp_seq ?_
  refine region_plain (n := 6) [(0, .p), (1, .p), (2, .p), (3, .p), (4, .p), (5, .p)] rfl rfl ?_
  refine Run.move rfl E rfl rfl rfl ?_; clear E a; intro a E
  refine Run.lss rfl E rfl rfl rfl rfl (decide_eq_false (by omega)) ?_; clear E a; intro a E
  refine Run.move rfl E rfl rfl rfl ?_; clear E a; intro a E
  refine Run.move rfl E rfl rfl rfl ?_; clear E a; intro a E
  refine Run.gtr rfl E rfl rfl rfl rfl (decide_eq_false (by omega)) ?_; clear E a; intro a E
  refine Run.pickF rfl E rfl rfl rfl rfl ?_; clear E a; intro a E
  refine Run.nil ?_
  refine then_n ?_
  refine cond_F E rfl ?_
  refine wp_skip ?_
  refine then_n ?_
  refine wp_seq ?_
  refine region_plain (n := 8) [(0, .p), (1, .e), (2, .p), (3, .e), (4, .p), (5, .e), (6, .p), (7, .p)] rfl rfl ?_
  refine Run.move rfl E rfl rfl rfl ?_; clear E a; intro a E
  refine Run.buildSlice (cs := [.int .i64 v]) [(0, .int .i64 v)] rfl rfl E S rfl rfl rfl Try.underlying32 (by kernel_rfl) ?_; clear E a S; intro b1 w a E S B_; clear B_
  refine Run.move rfl E rfl rfl rfl ?_; clear E a; intro a E
  refine Run.call (args := [.slice (some ⟨b1, 0, none⟩) 1 1, .int .i64 (k : Int)]) rfl rfl E rfl rfl Try.func93 nm93 rfl rfl (repeat_walk hk (S.objCell 0 0 rfl rfl)) ?_; rintro e_ w ⟨A2, c3, rfl, S_⟩; refine ⟨_, rfl, (fun _ => S_.belT), ?_⟩; clear E a; intro a E
  replace S : St _ _ _ [_, .obj _ _ [_]] := St.call (A := []) (R := [_]) S S_; clear S_
  refine Run.build (cs := #[.slice A2 k c3, .slice none 0 0]) [(0, .slice A2 k c3)] rfl E rfl rfl rfl (by kernel_rfl) ?_; clear E a; intro a E
  refine Run.box (cs := [.slice A2 k c3, .slice none 0 0]) rfl rfl E S rfl rfl rfl rfl ?_; clear E a S; intro b4 w a E S B_; clear B_
  refine Run.assign rfl E rfl rfl rfl ?_; clear E a; intro a E
  refine Run.assign rfl E rfl rfl rfl ?_; clear E a; intro a E
  refine Run.nil ?_
  refine then_n ?_
  refine wp_ret ?_
  have S : St _ _ _ [_, _, _] := S.sel [2, 0, 1] _ rfl rfl
  have S := S.drop1
  have S := (S.addNil 138 2).sel [1, 2, 0] [_, _, _] rfl rfl
  have e1 : (List.replicate k v).length = k := by simp
  exact ret2 E Try.results49 rfl rfl ⟨b4, A2, c3, rfl, by unfold Book; rw [e1]; exact S⟩

theorem un_mark (H : HoldsAll w0 (Book g A c B d now trail)) : Calls Try.prog 52 [.pointer (some ⟨g, 0, none⟩)].toArray w0 (fun r w' => r = .returned (.int .i64 (trail.length : Int)) ∧ Bel w0 w') := by
  have S := St.nil [] w0
  obtain ⟨hg, ha, hb, -⟩ := H
  refine fn_start Try.func52 rfl 8 rfl rfl [(0, _)] ⟨rfl, trivial⟩ ?_; intro a E
  refine wp_seq ?_
  refine region_plain (n := 1) [(0, .p)] rfl rfl ?_
  refine Run.assign rfl E rfl rfl rfl ?_; clear E a; intro a E
  refine Run.nil ?_
  refine then_n ?_
  refine wp_seq ?_
  refine region_plain (n := 6) [(0, .p), (1, .p), (2, .p), (3, .l), (4, .p), (5, .p)] rfl rfl ?_
  refine Run.move rfl E rfl rfl rfl ?_; clear E a; intro a E
  refine Run.nilCheck rfl E rfl rfl rfl ?_; clear E a; intro a E
  refine Run.fieldAddr rfl E rfl rfl rfl fo136_1 (rfl) ?_; clear E a; intro a E
  refine Run.load1 rfl rfl E S rfl rfl rfl one134 (fun _ s => roObj hg s rfl) ?_; clear E a; intro a E
  refine Run.len rfl E rfl rfl rfl Try.underlying134 ?_; clear E a; intro a E
  refine Run.assign rfl E rfl rfl rfl ?_; clear E a; intro a E
  refine Run.nil ?_
  refine then_n ?_
  refine wp_ret ?_
  exact ret1 E Try.results52 rfl ⟨rfl, S.belT⟩

theorem un_len (H : HoldsAll w0 (Book g A c B d now trail)) : Calls Try.prog 59 [.pointer (some ⟨g, 0, none⟩)].toArray w0 (fun r w' => r = .returned (.int .i64 (now.length : Int)) ∧ Bel w0 w') := by
  have S := St.nil [] w0
  obtain ⟨hg, ha, hb, -⟩ := H
  refine fn_start Try.func59 rfl 8 rfl rfl [(0, _)] ⟨rfl, trivial⟩ ?_; intro a E
  refine wp_seq ?_
  refine region_plain (n := 1) [(0, .p)] rfl rfl ?_
  refine Run.assign rfl E rfl rfl rfl ?_; clear E a; intro a E
  refine Run.nil ?_
  refine then_n ?_
  refine wp_seq ?_
  refine region_plain (n := 6) [(0, .p), (1, .p), (2, .p), (3, .l), (4, .p), (5, .p)] rfl rfl ?_
  refine Run.move rfl E rfl rfl rfl ?_; clear E a; intro a E
  refine Run.nilCheck rfl E rfl rfl rfl ?_; clear E a; intro a E
  refine Run.fieldAddr rfl E rfl rfl rfl fo136_0 (rfl) ?_; clear E a; intro a E
  refine Run.load1 rfl rfl E S rfl rfl rfl one32 (fun _ s => roObj hg s rfl) ?_; clear E a; intro a E
  refine Run.len rfl E rfl rfl rfl Try.underlying32 ?_; clear E a; intro a E
  refine Run.assign rfl E rfl rfl rfl ?_; clear E a; intro a E
  refine Run.nil ?_
  refine then_n ?_
  refine wp_ret ?_
  exact ret1 E Try.results59 rfl ⟨rfl, S.belT⟩

theorem un_get_low {i : Int} (H : HoldsAll w0 (Book g A c B d now trail)) (h : i < 0) : Calls Try.prog 55 [.pointer (some ⟨g, 0, none⟩), .int .i64 i].toArray w0 (fun r w' => r = .returned (.tuple #[.int .i64 0, .bool false]) ∧ Bel w0 w') := by
  have S := St.nil [] w0
  obtain ⟨hg, ha, hb, -⟩ := H
  refine fn_start Try.func55 rfl 24 rfl rfl [(0, _), (1, _)] ⟨rfl, rfl, trivial⟩ ?_; intro a E
  refine wp_seq ?_
  refine region_plain (n := 2) [(0, .p), (1, .p)] rfl rfl ?_
  refine Run.assign rfl E rfl rfl rfl ?_; clear E a; intro a E
  refine Run.assign rfl E rfl rfl rfl ?_; clear E a; intro a E
  refine Run.nil ?_
  refine then_n ?_
  refine wp_seq ?_
  refine wp_seq ?_
  refine region_plain (n := 11) [(0, .p), (1, .p), (2, .p), (3, .p), (4, .p), (5, .p), (6, .p), (7, .l), (8, .p), (9, .p), (10, .p)] rfl rfl ?_
  refine Run.move rfl E rfl rfl rfl ?_; clear E a; intro a E
  refine Run.lss rfl E rfl rfl rfl rfl (decide_eq_true (by omega)) ?_; clear E a; intro a E
  refine Run.move rfl E rfl rfl rfl ?_; clear E a; intro a E
  refine Run.off rfl E rfl rfl ?_; clear E a; intro a E
  refine Run.off rfl E rfl rfl ?_; clear E a; intro a E
  refine Run.off rfl E rfl rfl ?_; clear E a; intro a E
  refine Run.off rfl E rfl rfl ?_; clear E a; intro a E
  refine Run.off rfl E rfl rfl ?_; clear E a; intro a E
  refine Run.off rfl E rfl rfl ?_; clear E a; intro a E
  refine Run.off rfl E rfl rfl ?_; clear E a; intro a E
  refine Run.pickT rfl E rfl rfl rfl rfl ?_; clear E a; intro a E
  refine Run.nil ?_
  refine then_n ?_
  refine cond_T E rfl ?_
  refine wp_seq ?_
  refine region_plain (n := 2) [(0, .p), (1, .p)] rfl rfl ?_
  refine Run.assign rfl E rfl rfl rfl ?_; clear E a; intro a E
  refine Run.assign rfl E rfl rfl rfl ?_; clear E a; intro a E
  refine Run.nil ?_
  refine then_n ?_
  refine wp_ret ?_
  refine then_r ?_
  exact ret2 E Try.results55 rfl rfl ⟨rfl, S.belT⟩

theorem un_get_high {i : Int} (H : HoldsAll w0 (Book g A c B d now trail)) (h0 : 0 ≤ i) (h : (now.length : Int) ≤ i) : Calls Try.prog 55 [.pointer (some ⟨g, 0, none⟩), .int .i64 i].toArray w0 (fun r w' => r = .returned (.tuple #[.int .i64 0, .bool false]) ∧ Bel w0 w') := by
  have S := St.nil [] w0
  obtain ⟨hg, ha, hb, -⟩ := H
  refine fn_start Try.func55 rfl 24 rfl rfl [(0, _), (1, _)] ⟨rfl, rfl, trivial⟩ ?_; intro a E
  refine wp_seq ?_
  refine region_plain (n := 2) [(0, .p), (1, .p)] rfl rfl ?_
  refine Run.assign rfl E rfl rfl rfl ?_; clear E a; intro a E
  refine Run.assign rfl E rfl rfl rfl ?_; clear E a; intro a E
  refine Run.nil ?_
  refine then_n ?_
  refine wp_seq ?_
  refine wp_seq ?_
  refine region_plain (n := 11) [(0, .p), (1, .p), (2, .p), (3, .p), (4, .p), (5, .p), (6, .p), (7, .l), (8, .p), (9, .p), (10, .p)] rfl rfl ?_
  refine Run.move rfl E rfl rfl rfl ?_; clear E a; intro a E
  refine Run.lss rfl E rfl rfl rfl rfl (decide_eq_false (by omega)) ?_; clear E a; intro a E
  refine Run.move rfl E rfl rfl rfl ?_; clear E a; intro a E
  refine Run.move rfl E rfl rfl rfl ?_; clear E a; intro a E
  refine Run.move rfl E rfl rfl rfl ?_; clear E a; intro a E
  refine Run.nilCheck rfl E rfl rfl rfl ?_; clear E a; intro a E
  refine Run.fieldAddr rfl E rfl rfl rfl fo136_0 (rfl) ?_; clear E a; intro a E
  refine Run.load1 rfl rfl E S rfl rfl rfl one32 (fun _ s => roObj hg s rfl) ?_; clear E a; intro a E
  refine Run.len rfl E rfl rfl rfl Try.underlying32 ?_; clear E a; intro a E
  refine Run.geq rfl E rfl rfl rfl rfl (decide_eq_true (by omega)) ?_; clear E a; intro a E
  refine Run.pickF rfl E rfl rfl rfl rfl ?_; clear E a; intro a E
  refine Run.nil ?_
  refine then_n ?_
  refine cond_T E rfl ?_
  refine wp_seq ?_
  refine region_plain (n := 2) [(0, .p), (1, .p)] rfl rfl ?_
  refine Run.assign rfl E rfl rfl rfl ?_; clear E a; intro a E
  refine Run.assign rfl E rfl rfl rfl ?_; clear E a; intro a E
  refine Run.nil ?_
  refine then_n ?_
  refine wp_ret ?_
  refine then_r ?_
  exact ret2 E Try.results55 rfl rfl ⟨rfl, S.belT⟩

theorem un_get {k : Nat} {x : Int} (H : HoldsAll w0 (Book g A c B d now trail)) (hk : now[k]? = some x) (hl : now.length ≤ 140737488355328) : Calls Try.prog 55 [.pointer (some ⟨g, 0, none⟩), .int .i64 (k : Int)].toArray w0 (fun r w' => r = .returned (.tuple #[.int .i64 x, .bool true]) ∧ Bel w0 w') := by
  have S := St.nil [] w0
  obtain ⟨hg, ha, hb, -⟩ := H
  have hkl : k < now.length := (List.getElem?_eq_some_iff.1 hk).1
  obtain ⟨bA, oA, rfl, hA⟩ := (Rd.of_row ha).place (by omega)
  refine fn_start Try.func55 rfl 24 rfl rfl [(0, _), (1, _)] ⟨rfl, rfl, trivial⟩ ?_; intro a E
  refine wp_seq ?_
  refine region_plain (n := 2) [(0, .p), (1, .p)] rfl rfl ?_
  refine Run.assign rfl E rfl rfl rfl ?_; clear E a; intro a E
  refine Run.assign rfl E rfl rfl rfl ?_; clear E a; intro a E
  refine Run.nil ?_
  refine then_n ?_
  refine wp_seq ?_
  refine wp_seq ?_
  refine region_plain (n := 11) [(0, .p), (1, .p), (2, .p), (3, .p), (4, .p), (5, .p), (6, .p), (7, .l), (8, .p), (9, .p), (10, .p)] rfl rfl ?_
  refine Run.move rfl E rfl rfl rfl ?_; clear E a; intro a E
  refine Run.lss rfl E rfl rfl rfl rfl (decide_eq_false (by omega)) ?_; clear E a; intro a E
  refine Run.move rfl E rfl rfl rfl ?_; clear E a; intro a E
  refine Run.move rfl E rfl rfl rfl ?_; clear E a; intro a E
  refine Run.move rfl E rfl rfl rfl ?_; clear E a; intro a E
  refine Run.nilCheck rfl E rfl rfl rfl ?_; clear E a; intro a E
  refine Run.fieldAddr rfl E rfl rfl rfl fo136_0 (rfl) ?_; clear E a; intro a E
  refine Run.load1 rfl rfl E S rfl rfl rfl one32 (fun _ s => roObj hg s rfl) ?_; clear E a; intro a E
  refine Run.len rfl E rfl rfl rfl Try.underlying32 ?_; clear E a; intro a E
  refine Run.geq rfl E rfl rfl rfl rfl (decide_eq_false (by omega)) ?_; clear E a; intro a E
  refine Run.pickF rfl E rfl rfl rfl rfl ?_; clear E a; intro a E
  refine Run.nil ?_
  refine then_n ?_
  refine cond_F E rfl ?_
  refine wp_skip ?_
  refine then_n ?_
  refine wp_seq ?_
  refine region_plain (n := 9) [(0, .p), (1, .p), (2, .p), (3, .l), (4, .p), (5, .p), (6, .l), (7, .p), (8, .p)] rfl rfl ?_
  refine Run.move rfl E rfl rfl rfl ?_; clear E a; intro a E
  refine Run.nilCheck rfl E rfl rfl rfl ?_; clear E a; intro a E
  refine Run.fieldAddr rfl E rfl rfl rfl fo136_0 (rfl) ?_; clear E a; intro a E
  refine Run.load1 rfl rfl E S rfl rfl rfl one32 (fun _ s => roObj hg s rfl) ?_; clear E a; intro a E
  refine Run.move rfl E rfl rfl rfl ?_; clear E a; intro a E
  refine Run.indexAddr rfl E rfl rfl rfl rfl Try.underlying32 sz3 (by omega) (ix_at1 (m' := k) (by omega)) ?_; clear E a; intro a E
  refine Run.load1 rfl rfl E S rfl rfl rfl one3 (fun _ s_ => rdAt1 hA s_ (ints_get' (hk))) ?_; clear E a; intro a E
  refine Run.assign rfl E rfl rfl rfl ?_; clear E a; intro a E
  refine Run.assign rfl E rfl rfl rfl ?_; clear E a; intro a E
  refine Run.nil ?_
  refine then_n ?_
  refine wp_ret ?_
  exact ret2 E Try.results55 rfl rfl ⟨rfl, S.belT⟩

theorem un_set_low {i x : Int} (H : Own w0 (Book g A c B d now trail)) (h : i < 0) : Calls Try.prog 50 [.pointer (some ⟨g, 0, none⟩), .int .i64 i, .int .i64 x].toArray w0 (fun r w' => r = .returned (.bool false) ∧ St (fps (Book g A c B d now trail)) w0 w' (Book g A c B d now trail)) := by
  have S := H.st
  unfold Book at S ⊢
  refine fn_start Try.func50 rfl 52 rfl rfl [(0, _), (1, _), (2, _)] ⟨rfl, rfl, rfl, trivial⟩ ?_; intro a E
  refine wp_seq ?_
  refine region_plain (n := 1) [(0, .p)] rfl rfl ?_
  refine Run.assign rfl E rfl rfl rfl ?_; clear E a; intro a E
  refine Run.nil ?_
  refine then_n ?_
  refine wp_seq ?_
  refine wp_seq ?_
  refine region_plain (n := 11) [(0, .p), (1, .p), (2, .p), (3, .p), (4, .p), (5, .p), (6, .p), (7, .l), (8, .p), (9, .p), (10, .p)] rfl rfl ?_
  refine Run.move rfl E rfl rfl rfl ?_; clear E a; intro a E
  refine Run.lss rfl E rfl rfl rfl rfl (decide_eq_true (by omega)) ?_; clear E a; intro a E
  refine Run.move rfl E rfl rfl rfl ?_; clear E a; intro a E
  refine Run.off rfl E rfl rfl ?_; clear E a; intro a E
  refine Run.off rfl E rfl rfl ?_; clear E a; intro a E
  refine Run.off rfl E rfl rfl ?_; clear E a; intro a E
  refine Run.off rfl E rfl rfl ?_; clear E a; intro a E
  refine Run.off rfl E rfl rfl ?_; clear E a; intro a E
  refine Run.off rfl E rfl rfl ?_; clear E a; intro a E
  refine Run.off rfl E rfl rfl ?_; clear E a; intro a E
  refine Run.pickT rfl E rfl rfl rfl rfl ?_; clear E a; intro a E
  refine Run.nil ?_
  refine then_n ?_
  refine cond_T E rfl ?_
  refine wp_seq ?_
  refine region_plain (n := 1) [(0, .p)] rfl rfl ?_
  refine Run.assign rfl E rfl rfl rfl ?_; clear E a; intro a E
  refine Run.nil ?_
  refine then_n ?_
  refine wp_ret ?_
  refine then_r ?_
  exact ret1 E Try.results50 rfl ⟨rfl, S⟩

theorem un_set_high {i x : Int} (H : Own w0 (Book g A c B d now trail)) (h0 : 0 ≤ i) (h : (now.length : Int) ≤ i) : Calls Try.prog 50 [.pointer (some ⟨g, 0, none⟩), .int .i64 i, .int .i64 x].toArray w0 (fun r w' => r = .returned (.bool false) ∧ St (fps (Book g A c B d now trail)) w0 w' (Book g A c B d now trail)) := by
  have S := H.st
  unfold Book at S ⊢
  refine fn_start Try.func50 rfl 52 rfl rfl [(0, _), (1, _), (2, _)] ⟨rfl, rfl, rfl, trivial⟩ ?_; intro a E
  refine wp_seq ?_
  refine region_plain (n := 1) [(0, .p)] rfl rfl ?_
  refine Run.assign rfl E rfl rfl rfl ?_; clear E a; intro a E
  refine Run.nil ?_
  refine then_n ?_
  refine wp_seq ?_
  refine wp_seq ?_
  refine region_plain (n := 11) [(0, .p), (1, .p), (2, .p), (3, .p), (4, .p), (5, .p), (6, .p), (7, .l), (8, .p), (9, .p), (10, .p)] rfl rfl ?_
  refine Run.move rfl E rfl rfl rfl ?_; clear E a; intro a E
  refine Run.lss rfl E rfl rfl rfl rfl (decide_eq_false (by omega)) ?_; clear E a; intro a E
  refine Run.move rfl E rfl rfl rfl ?_; clear E a; intro a E
  refine Run.move rfl E rfl rfl rfl ?_; clear E a; intro a E
  refine Run.move rfl E rfl rfl rfl ?_; clear E a; intro a E
  refine Run.nilCheck rfl E rfl rfl rfl ?_; clear E a; intro a E
  refine Run.fieldAddr rfl E rfl rfl rfl fo136_0 (rfl) ?_; clear E a; intro a E
  refine Run.load1 rfl rfl E S rfl rfl rfl one32 (fun _ s => s.objCell 0 0 rfl rfl) ?_; clear E a; intro a E
  refine Run.len rfl E rfl rfl rfl Try.underlying32 ?_; clear E a; intro a E
  refine Run.geq rfl E rfl rfl rfl rfl (decide_eq_true (by omega)) ?_; clear E a; intro a E
  refine Run.pickF rfl E rfl rfl rfl rfl ?_; clear E a; intro a E
  refine Run.nil ?_
  refine then_n ?_
  refine cond_T E rfl ?_
  refine wp_seq ?_
  refine region_plain (n := 1) [(0, .p)] rfl rfl ?_
  refine Run.assign rfl E rfl rfl rfl ?_; clear E a; intro a E
  refine Run.nil ?_
  refine then_n ?_
  refine wp_ret ?_
  refine then_r ?_
  exact ret1 E Try.results50 rfl ⟨rfl, S⟩

theorem un_set_same {k : Nat} {x y : Int} (H : Own w0 (Book g A c B d now trail)) (hk : now[k]? = some y) (hl : now.length ≤ 140737488355328) (e : y = x) : Calls Try.prog 50 [.pointer (some ⟨g, 0, none⟩), .int .i64 (k : Int), .int .i64 x].toArray w0 (fun r w' => r = .returned (.bool true) ∧ St (fps (Book g A c B d now trail)) w0 w' (Book g A c B d now trail)) := by
  have S := H.st
  unfold Book at S
  have hkl : k < now.length := (List.getElem?_eq_some_iff.1 hk).1
  obtain ⟨bA, rfl⟩ := S.rowAddr 1 rfl (by omega)
  refine fn_start Try.func50 rfl 52 rfl rfl [(0, _), (1, _), (2, _)] ⟨rfl, rfl, rfl, trivial⟩ ?_; intro a E
  refine wp_seq ?_
  refine region_plain (n := 1) [(0, .p)] rfl rfl ?_
  refine Run.assign rfl E rfl rfl rfl ?_; clear E a; intro a E
  refine Run.nil ?_
  refine then_n ?_
  refine wp_seq ?_
  refine wp_seq ?_
  refine region_plain (n := 11) [(0, .p), (1, .p), (2, .p), (3, .p), (4, .p), (5, .p), (6, .p), (7, .l), (8, .p), (9, .p), (10, .p)] rfl rfl ?_
  refine Run.move rfl E rfl rfl rfl ?_; clear E a; intro a E
  refine Run.lss rfl E rfl rfl rfl rfl (decide_eq_false (by omega)) ?_; clear E a; intro a E
  refine Run.move rfl E rfl rfl rfl ?_; clear E a; intro a E
  refine Run.move rfl E rfl rfl rfl ?_; clear E a; intro a E
  refine Run.move rfl E rfl rfl rfl ?_; clear E a; intro a E
  refine Run.nilCheck rfl E rfl rfl rfl ?_; clear E a; intro a E
  refine Run.fieldAddr rfl E rfl rfl rfl fo136_0 (rfl) ?_; clear E a; intro a E
  refine Run.load1 rfl rfl E S rfl rfl rfl one32 (fun _ s => s.objCell 0 0 rfl rfl) ?_; clear E a; intro a E
  refine Run.len rfl E rfl rfl rfl Try.underlying32 ?_; clear E a; intro a E
  refine Run.geq rfl E rfl rfl rfl rfl (decide_eq_false (by omega)) ?_; clear E a; intro a E
  refine Run.pickF rfl E rfl rfl rfl rfl ?_; clear E a; intro a E
  refine Run.nil ?_
  refine then_n ?_
  refine cond_F E rfl ?_
  refine wp_skip ?_
  refine then_n ?_
  refine wp_seq ?_
  refine wp_seq ?_
  refine region_plain (n := 9) [(0, .p), (1, .p), (2, .p), (3, .l), (4, .p), (5, .p), (6, .l), (7, .p), (8, .p)] rfl rfl ?_
  refine Run.move rfl E rfl rfl rfl ?_; clear E a; intro a E
  refine Run.nilCheck rfl E rfl rfl rfl ?_; clear E a; intro a E
  refine Run.fieldAddr rfl E rfl rfl rfl fo136_0 (rfl) ?_; clear E a; intro a E
  refine Run.load1 rfl rfl E S rfl rfl rfl one32 (fun _ s => s.objCell 0 0 rfl rfl) ?_; clear E a; intro a E
  refine Run.move rfl E rfl rfl rfl ?_; clear E a; intro a E
  refine Run.indexAddr rfl E rfl rfl rfl rfl Try.underlying32 sz3 (by omega) (ix_at (m' := k) (o := k) (by omega) (Nat.mul_one _)) ?_; clear E a; intro a E
  refine Run.load1 rfl rfl E S rfl rfl rfl one3 (fun _ s => s.rowCell 1 rfl (ints_get' hk)) ?_; clear E a; intro a E
  refine Run.move rfl E rfl rfl rfl ?_; clear E a; intro a E
  refine Run.nei rfl E rfl rfl rfl rfl (decide_eq_false (fun h => h e)) ?_; clear E a; intro a E
  refine Run.nil ?_
  refine then_n ?_
  refine cond_F E rfl ?_
  refine wp_skip ?_
  refine then_n ?_
  refine wp_seq ?_
  refine region_plain (n := 1) [(0, .p)] rfl rfl ?_
  refine Run.assign rfl E rfl rfl rfl ?_; clear E a; intro a E
  refine Run.nil ?_
  refine then_n ?_
  refine wp_ret ?_
  exact ret1 E Try.results50 rfl ⟨rfl, S⟩

theorem un_set {k : Nat} {x y : Int} (H : Own w0 (Book g A c B d now trail)) (hk : now[k]? = some y) (hl : now.length ≤ 140737488355328) (hm : trail.length ≤ 65536) (e : y ≠ x) : Calls Try.prog 50 [.pointer (some ⟨g, 0, none⟩), .int .i64 (k : Int), .int .i64 x].toArray w0 (fun r w' => r = .returned (.bool true) ∧ ∃ B' d', St (fps (Book g A c B d now trail)) w0 w' (Book g A c B' d' (now.set k x) (trail ++ [⟨(k : Int), y⟩]))) := by
  have S := H.st
  unfold Book at S
  have hkl : k < now.length := (List.getElem?_eq_some_iff.1 hk).1
  obtain ⟨bA, rfl⟩ := S.rowAddr 1 rfl (by omega)
  refine fn_start Try.func50 rfl 52 rfl rfl [(0, _), (1, _), (2, _)] ⟨rfl, rfl, rfl, trivial⟩ ?_; intro a E
  refine wp_seq ?_
  refine region_plain (n := 1) [(0, .p)] rfl rfl ?_
  refine Run.assign rfl E rfl rfl rfl ?_; clear E a; intro a E
  refine Run.nil ?_
  refine then_n ?_
  refine wp_seq ?_
  refine wp_seq ?_
  refine region_plain (n := 11) [(0, .p), (1, .p), (2, .p), (3, .p), (4, .p), (5, .p), (6, .p), (7, .l), (8, .p), (9, .p), (10, .p)] rfl rfl ?_
  refine Run.move rfl E rfl rfl rfl ?_; clear E a; intro a E
  refine Run.lss rfl E rfl rfl rfl rfl (decide_eq_false (by omega)) ?_; clear E a; intro a E
  refine Run.move rfl E rfl rfl rfl ?_; clear E a; intro a E
  refine Run.move rfl E rfl rfl rfl ?_; clear E a; intro a E
  refine Run.move rfl E rfl rfl rfl ?_; clear E a; intro a E
  refine Run.nilCheck rfl E rfl rfl rfl ?_; clear E a; intro a E
  refine Run.fieldAddr rfl E rfl rfl rfl fo136_0 (rfl) ?_; clear E a; intro a E
  refine Run.load1 rfl rfl E S rfl rfl rfl one32 (fun _ s => s.objCell 0 0 rfl rfl) ?_; clear E a; intro a E
  refine Run.len rfl E rfl rfl rfl Try.underlying32 ?_; clear E a; intro a E
  refine Run.geq rfl E rfl rfl rfl rfl (decide_eq_false (by omega)) ?_; clear E a; intro a E
  refine Run.pickF rfl E rfl rfl rfl rfl ?_; clear E a; intro a E
  refine Run.nil ?_
  refine then_n ?_
  refine cond_F E rfl ?_
  refine wp_skip ?_
  refine then_n ?_
  refine wp_seq ?_
  refine wp_seq ?_
  refine region_plain (n := 9) [(0, .p), (1, .p), (2, .p), (3, .l), (4, .p), (5, .p), (6, .l), (7, .p), (8, .p)] rfl rfl ?_
  refine Run.move rfl E rfl rfl rfl ?_; clear E a; intro a E
  refine Run.nilCheck rfl E rfl rfl rfl ?_; clear E a; intro a E
  refine Run.fieldAddr rfl E rfl rfl rfl fo136_0 (rfl) ?_; clear E a; intro a E
  refine Run.load1 rfl rfl E S rfl rfl rfl one32 (fun _ s => s.objCell 0 0 rfl rfl) ?_; clear E a; intro a E
  refine Run.move rfl E rfl rfl rfl ?_; clear E a; intro a E
  refine Run.indexAddr rfl E rfl rfl rfl rfl Try.underlying32 sz3 (by omega) (ix_at (m' := k) (o := k) (by omega) (Nat.mul_one _)) ?_; clear E a; intro a E
  refine Run.load1 rfl rfl E S rfl rfl rfl one3 (fun _ s => s.rowCell 1 rfl (ints_get' hk)) ?_; clear E a; intro a E
  refine Run.move rfl E rfl rfl rfl ?_; clear E a; intro a E
  refine Run.nei rfl E rfl rfl rfl rfl (decide_eq_true (e)) ?_; clear E a; intro a E
  refine Run.nil ?_
  refine then_n ?_
  refine cond_T E rfl ?_
  refine wp_seq ?_
  refine region_drawS (n := 19) [(0, .p), (1, .p), (2, .p), (3, .p), (5, .p), (6, .p), (7, .p), (8, .p), (10, .p), (4, .t), (9, .t), (11, .p), (12, .t), (13, .p), (14, .e), (15, .l), (16, .p), (17, .p), (18, .l)] [0, 0, 2, 6, 14, 0, 0, 64, 192, 448, 0, 1984, 4032, 8160, 16352, 32766, 65535, 131071, 262143] S mixed rfl rfl (by kernel_rfl) (fun _ _ _ _ _ h => h) ?_; clear S; intro w S B_; clear B_
  refine Run.move rfl E rfl rfl rfl ?_; clear E a; intro a E
  refine Run.move rfl E rfl rfl rfl ?_; clear E a; intro a E
  refine Run.nilCheck rfl E rfl rfl rfl ?_; clear E a; intro a E
  refine Run.fieldAddr rfl E rfl rfl rfl fo136_1 (rfl) ?_; clear E a; intro a E
  refine Run.move rfl E rfl rfl rfl ?_; clear E a; intro a E
  refine Run.move rfl E rfl rfl rfl ?_; clear E a; intro a E
  refine Run.nilCheck rfl E rfl rfl rfl ?_; clear E a; intro a E
  refine Run.fieldAddr rfl E rfl rfl rfl fo136_0 (rfl) ?_; clear E a; intro a E
  refine Run.move rfl E rfl rfl rfl ?_; clear E a; intro a E
  refine Run.load1 rfl rfl E S rfl rfl rfl one134 (fun _ s => s.objCell 0 1 rfl rfl) ?_; clear E a; intro a E
  refine Run.load1 rfl rfl E S rfl rfl rfl one32 (fun _ s => s.objCell 0 0 rfl rfl) ?_; clear E a; intro a E
  refine Run.indexAddr rfl E rfl rfl rfl rfl Try.underlying32 sz3 (by omega) (ix_at (m' := k) (o := k) (by omega) (Nat.mul_one _)) ?_; clear E a; intro a E
  refine Run.load1 rfl rfl E S rfl rfl rfl one3 (fun _ s => s.rowCell 1 rfl (ints_get' hk)) ?_; clear E a; intro a E
  refine Run.build (cs := #[.int .i64 (k : Int), .int .i64 y]) [(0, .int .i64 (k : Int)), (1, .int .i64 y)] rfl E rfl rfl rfl (by kernel_rfl) ?_; clear E a; intro a E
  refine Run.buildSlice (cs := [.int .i64 (k : Int), .int .i64 y]) [(0, .agg #[.int .i64 (k : Int), .int .i64 y])] rfl rfl E S rfl rfl rfl Try.underlying134 (by kernel_rfl) ?_; clear E a S; intro b1 w a E S B_; clear B_
  refine Run.append (news := [.int .i64 (k : Int), .int .i64 y]) (nm := trail.length + 1) 3 rfl E S rfl rfl rfl rfl rfl Try.underlying134 I138 rfl rfl rfl (objNews S 0 rfl) (by simp [Value.oneCell']) (by omega) (by omega) (by omega) ?_; clear E a S; intro A2 c3 w a E S
  replace S : St _ _ _ [.obj _ _ [_, _], .obj _ _ [_, _], _, _] := S
  refine Run.nilCheck rfl E rfl rfl rfl ?_; clear E a; intro a E
  refine Run.fieldAddr rfl E rfl rfl rfl fo136_1 (rfl) ?_; clear E a; intro a E
  refine Run.store (news := [.slice A2 (trail.length + 1) c3]) (cs' := [_, _]) (hp' := [_, _, _, _]) 1 rfl E S rfl rfl rfl rfl rfl sz134 rfl rfl rfl rfl ?_; clear S; intro w S
  refine Run.nil ?_
  refine then_n ?_
  refine region_plain (n := 8) [(0, .p), (1, .p), (2, .p), (3, .l), (4, .p), (5, .p), (6, .p), (7, .l)] rfl rfl ?_
  refine Run.move rfl E rfl rfl rfl ?_; clear E a; intro a E
  refine Run.nilCheck rfl E rfl rfl rfl ?_; clear E a; intro a E
  refine Run.fieldAddr rfl E rfl rfl rfl fo136_0 (rfl) ?_; clear E a; intro a E
  refine Run.load1 rfl rfl E S rfl rfl rfl one32 (fun _ s => s.objCell 1 0 rfl rfl) ?_; clear E a; intro a E
  refine Run.move rfl E rfl rfl rfl ?_; clear E a; intro a E
  refine Run.move rfl E rfl rfl rfl ?_; clear E a; intro a E
  refine Run.indexAddr rfl E rfl rfl rfl rfl Try.underlying32 sz3 (by omega) (ix_at (m' := k) (o := k) (by omega) (Nat.mul_one _)) ?_; clear E a; intro a E
  refine Run.storeRow (hp' := [_, _, _, _]) 2 rfl E S rfl rfl rfl rfl (by simp [ints_len]; omega) sz3 rfl rfl ?_; clear S; intro w S
  refine Run.nil ?_
  refine then_n ?_
  refine wp_seq ?_
  refine region_plain (n := 1) [(0, .p)] rfl rfl ?_
  refine Run.assign rfl E rfl rfl rfl ?_; clear E a; intro a E
  refine Run.nil ?_
  refine then_n ?_
  refine wp_ret ?_
  have S : St _ _ _ [_, _, _, _] := S.sel [0, 1, 2, 3] _ rfl rfl
  have S := S.drop1
  have e1 : (now.set k x).length = now.length := by simp
  have e2 : (trail ++ [(⟨(k : Int), y⟩ : Note)]).length = trail.length + 1 := by simp
  have e3 : ints (now.set k x) = (ints now).set k (.int .i64 x) := by simp [ints, List.map_set]
  have e4 : notes (trail ++ [(⟨(k : Int), y⟩ : Note)]) = notes trail ++ [.int .i64 (k : Int), .int .i64 y] := (notes_snoc _ _).symm
  refine ret1 E Try.results50 rfl ⟨rfl, A2, c3, ?_⟩
  unfold Book; rw [e1, e2, e3, e4]; exact S

theorem un_part_none {f t : Int} (H : HoldsAll w0 (Book g A c B d now trail)) (hl : now.length ≤ 65536) (hc : min t (now.length : Int) ≤ max f 0) : Calls Try.prog 51 [.pointer (some ⟨g, 0, none⟩), .int .i64 f, .int .i64 t].toArray w0 (fun r w' => ∃ A' c', r = .returned (.slice A' (partOf now f t).length c') ∧ St [] w0 w' [.row (.slice A' (partOf now f t).length c') 3 1 (partOf now f t).length (ints (partOf now f t))]) := by
  have S := St.nil [] w0
  obtain ⟨hg, ha, hb, -⟩ := H
  obtain ⟨fn, hfn⟩ : ∃ fn : Nat, (fn : Int) = max f 0 := ⟨(max f 0).toNat, by omega⟩
  obtain ⟨tn, htn⟩ : ∃ tn : Int, tn = min t (now.length : Int) := ⟨_, rfl⟩
  have h : tn ≤ (fn : Int) := by omega
  refine fn_start Try.func51 rfl 34 rfl rfl [(0, _), (1, _), (2, _)] ⟨rfl, rfl, rfl, trivial⟩ ?_; intro a E
  refine wp_seq ?_
  refine region_plain (n := 1) [(0, .p)] rfl rfl ?_
  refine Run.assign rfl E rfl rfl rfl ?_; clear E a; intro a E
  refine Run.nil ?_
  refine then_n ?_
  refine wp_seq ?_
  refine region_drawS (n := 11) [(0, .p), (1, .p), (2, .p), (3, .p), (4, .p), (5, .p), (9, .p), (6, .t), (7, .p), (8, .p), (10, .p)] [0, 1, 0, 0, 8, 24, 56, 120, 252, 3, 1023] S mixed rfl rfl (by kernel_rfl) (fun _ _ _ _ _ h => h) ?_; clear S; intro w S B_; clear B_
  refine Run.move rfl E rfl rfl rfl ?_; clear E a; intro a E
  refine Run.max rfl E rfl rfl rfl rfl (q := (fn : Int)) (by rw [hfn]; split <;> omega) ?_; clear E a; intro a E
  refine Run.move rfl E rfl rfl rfl ?_; clear E a; intro a E
  refine Run.move rfl E rfl rfl rfl ?_; clear E a; intro a E
  refine Run.nilCheck rfl E rfl rfl rfl ?_; clear E a; intro a E
  refine Run.fieldAddr rfl E rfl rfl rfl fo136_0 (rfl) ?_; clear E a; intro a E
  refine Run.assign rfl E rfl rfl rfl ?_; clear E a; intro a E
  refine Run.load1 rfl rfl E S rfl rfl rfl one32 (fun _ s => roObj hg s rfl) ?_; clear E a; intro a E
  refine Run.len rfl E rfl rfl rfl Try.underlying32 ?_; clear E a; intro a E
  refine Run.min rfl E rfl rfl rfl rfl (q := tn) (by rw [htn]; split <;> omega) ?_; clear E a; intro a E
  refine Run.assign rfl E rfl rfl rfl ?_; clear E a; intro a E
  refine Run.nil ?_
  refine then_n ?_
  refine wp_seq ?_
  refine wp_seq ?_
  refine region_plain (n := 3) [(0, .p), (1, .p), (2, .p)] rfl rfl ?_
  refine Run.move rfl E rfl rfl rfl ?_; clear E a; intro a E
  refine Run.move rfl E rfl rfl rfl ?_; clear E a; intro a E
  refine Run.geq rfl E rfl rfl rfl rfl (decide_eq_true (h)) ?_; clear E a; intro a E
  refine Run.nil ?_
  refine then_n ?_
  refine cond_T E rfl ?_
  refine wp_seq ?_
  refine region_plain (n := 1) [(0, .p)] rfl rfl ?_
  refine Run.assign rfl E rfl rfl rfl ?_; clear E a; intro a E
  refine Run.nil ?_
  refine then_n ?_
  refine wp_ret ?_
  refine then_r ?_
  have e0 : partOf now f t = [] := by unfold partOf; rw [← hfn, ← htn]; simp; omega
  rw [e0]; refine ret1 E Try.results51 rfl ?_
  exact ⟨none, 0, rfl, S.addNil 3 1⟩

theorem un_part_some {f t : Int} (H : HoldsAll w0 (Book g A c B d now trail)) (hl : now.length ≤ 65536) (hc : max f 0 < min t (now.length : Int)) : Calls Try.prog 51 [.pointer (some ⟨g, 0, none⟩), .int .i64 f, .int .i64 t].toArray w0 (fun r w' => ∃ A' c', r = .returned (.slice A' (partOf now f t).length c') ∧ St [] w0 w' [.row (.slice A' (partOf now f t).length c') 3 1 (partOf now f t).length (ints (partOf now f t))]) := by
  have S := St.nil [] w0
  obtain ⟨hg, ha, hb, -⟩ := H
  obtain ⟨fn, hfn⟩ : ∃ fn : Nat, (fn : Int) = max f 0 := ⟨(max f 0).toNat, by omega⟩
  obtain ⟨tn, htn⟩ : ∃ tn : Int, tn = min t (now.length : Int) := ⟨_, rfl⟩
  obtain ⟨m, hm⟩ : ∃ m : Nat, (m : Int) = tn - (fn : Int) := ⟨(tn - fn).toNat, by omega⟩
  have hcap : now.length ≤ c := by rcases ha.2 with ⟨hv, hx⟩ | ⟨_, _, _, hv, _, _, hnc, _⟩
                                   · simp at hv; omega
                                   · simp at hv; omega
  obtain ⟨bA, oA, rfl, hA⟩ := (Rd.of_row ha).place (by omega)
  refine fn_start Try.func51 rfl 34 rfl rfl [(0, _), (1, _), (2, _)] ⟨rfl, rfl, rfl, trivial⟩ ?_; intro a E
  refine wp_seq ?_
  refine region_plain (n := 1) [(0, .p)] rfl rfl ?_
  refine Run.assign rfl E rfl rfl rfl ?_; clear E a; intro a E
  refine Run.nil ?_
  refine then_n ?_
  refine wp_seq ?_
  refine region_drawS (n := 11) [(0, .p), (1, .p), (2, .p), (3, .p), (4, .p), (5, .p), (9, .p), (6, .t), (7, .p), (8, .p), (10, .p)] [0, 1, 0, 0, 8, 24, 56, 120, 252, 3, 1023] S mixed rfl rfl (by kernel_rfl) (fun _ _ _ _ _ h => h) ?_; clear S; intro w S B_; clear B_
  refine Run.move rfl E rfl rfl rfl ?_; clear E a; intro a E
  refine Run.max rfl E rfl rfl rfl rfl (q := (fn : Int)) (by rw [hfn]; split <;> omega) ?_; clear E a; intro a E
  refine Run.move rfl E rfl rfl rfl ?_; clear E a; intro a E
  refine Run.move rfl E rfl rfl rfl ?_; clear E a; intro a E
  refine Run.nilCheck rfl E rfl rfl rfl ?_; clear E a; intro a E
  refine Run.fieldAddr rfl E rfl rfl rfl fo136_0 (rfl) ?_; clear E a; intro a E
  refine Run.assign rfl E rfl rfl rfl ?_; clear E a; intro a E
  refine Run.load1 rfl rfl E S rfl rfl rfl one32 (fun _ s => roObj hg s rfl) ?_; clear E a; intro a E
  refine Run.len rfl E rfl rfl rfl Try.underlying32 ?_; clear E a; intro a E
  refine Run.min rfl E rfl rfl rfl rfl (q := tn) (by rw [htn]; split <;> omega) ?_; clear E a; intro a E
  refine Run.assign rfl E rfl rfl rfl ?_; clear E a; intro a E
  refine Run.nil ?_
  refine then_n ?_
  refine wp_seq ?_
  refine wp_seq ?_
  refine region_plain (n := 3) [(0, .p), (1, .p), (2, .p)] rfl rfl ?_
  refine Run.move rfl E rfl rfl rfl ?_; clear E a; intro a E
  refine Run.move rfl E rfl rfl rfl ?_; clear E a; intro a E
  refine Run.geq rfl E rfl rfl rfl rfl (decide_eq_false (by omega)) ?_; clear E a; intro a E
  refine Run.nil ?_
  refine then_n ?_
  refine cond_F E rfl ?_
  refine wp_skip ?_
  refine then_n ?_
  refine wp_seq ?_
  refine region_plain (n := 5) [(0, .p), (1, .p), (2, .p), (3, .e), (4, .p)] rfl rfl ?_
  refine Run.move rfl E rfl rfl rfl ?_; clear E a; intro a E
  refine Run.move rfl E rfl rfl rfl ?_; clear E a; intro a E
  refine Run.sub rfl E rfl rfl rfl rfl (q := (m : Int)) (by rw [← hm]; exact i64_ok (by omega)) ?_; clear E a; intro a E
  refine Run.makeSlice (n := m) rfl rfl E S rfl rfl rfl rfl (by omega) (by omega) Try.underlying32 I3 (by omega) (by omega) ?_; clear E a S; intro b1 w a E S B_; clear B_
  replace S : St _ _ _ [_] := S
  refine Run.assign rfl E rfl rfl rfl ?_; clear E a; intro a E
  refine Run.nil ?_
  refine then_n ?_
  refine wp_seq ?_
  refine region_plain (n := 9) [(0, .p), (1, .p), (2, .p), (3, .p), (4, .l), (5, .p), (6, .p), (7, .p), (8, .l)] rfl rfl ?_
  refine Run.move rfl E rfl rfl rfl ?_; clear E a; intro a E
  refine Run.move rfl E rfl rfl rfl ?_; clear E a; intro a E
  refine Run.nilCheck rfl E rfl rfl rfl ?_; clear E a; intro a E
  refine Run.fieldAddr rfl E rfl rfl rfl fo136_0 (rfl) ?_; clear E a; intro a E
  refine Run.load1 rfl rfl E S rfl rfl rfl one32 (fun _ s => roObj hg s rfl) ?_; clear E a; intro a E
  refine Run.move rfl E rfl rfl rfl ?_; clear E a; intro a E
  refine Run.move rfl E rfl rfl rfl ?_; clear E a; intro a E
  refine Run.subLH (A' := some ⟨bA, oA + fn, none⟩) rfl E rfl rfl rfl rfl rfl Try.underlying32 sz3 (by omega) (ql := fn) (qh := tn.toNat) (by omega) (by omega) (by rw [sub_addr _ _ _ _ _ (by omega), Nat.mul_one]) ?_; clear E a; intro a E
  have hm2 : tn.toNat - fn = m := by omega
  have hpo : partOf now f t = (now.drop fn).take m := by unfold partOf; rw [← hfn, ← htn, Int.toNat_natCast, hm2]
  have hnl : ((ints now).drop fn).take m = ints (partOf now f t) := by rw [hpo]; simp [ints]
  have hpl : (partOf now f t).length = m := by rw [hpo]; simp; omega
  refine Run.copy (news := ints (partOf now f t)) 0 rfl E S rfl rfl rfl rfl rfl Try.underlying32 sz3 (by rw [ints_len, hpl]; omega) (by rw [ints_len, hpl]; omega) (fun j u hj => ?_) (ints_one _) ?_
  · rw [← hnl, List.getElem?_take] at hj; split at hj
    · rw [add_at, Nat.add_assoc]; rw [List.getElem?_drop] at hj; exact roCell (hA _ _ hj) S
    · cases hj
  clear E a S; intro w a E S
  have hfin : (madeCells (Value.int .i64 0).cells (m * 1)).toList.take 0 ++ ints (partOf now f t) ++ (madeCells (Value.int .i64 0).cells (m * 1)).toList.drop (0 + (ints (partOf now f t)).length) = ints (partOf now f t) := by rw [ints_len, hpl, List.take_zero, List.nil_append, List.drop_of_length_le (by rw [Array.length_toList, size_madeCells]; omega), List.append_nil]
  rw [hfin] at S
  replace S : St _ _ _ [_] := S
  refine Run.nil ?_
  refine then_n ?_
  refine wp_seq ?_
  refine region_plain (n := 2) [(0, .p), (1, .p)] rfl rfl ?_
  refine Run.move rfl E rfl rfl rfl ?_; clear E a; intro a E
  refine Run.assign rfl E rfl rfl rfl ?_; clear E a; intro a E
  refine Run.nil ?_
  refine then_n ?_
  refine wp_ret ?_
  rw [hpl]; refine ret1 E Try.results51 rfl ?_
  exact ⟨some ⟨b1, 0, none⟩, m, rfl, S⟩

theorem un_part {f t : Int} (H : HoldsAll w0 (Book g A c B d now trail)) (hl : now.length ≤ 65536) : Calls Try.prog 51 [.pointer (some ⟨g, 0, none⟩), .int .i64 f, .int .i64 t].toArray w0 (fun r w' => ∃ A' c', r = .returned (.slice A' (partOf now f t).length c') ∧ St [] w0 w' [.row (.slice A' (partOf now f t).length c') 3 1 (partOf now f t).length (ints (partOf now f t))]) := by
  rcases Int.lt_or_le (max f 0) (min t (now.length : Int)) with h | h
  · exact un_part_some H hl h
  · exact un_part_none H hl h

end
end Go.Proofs.Ytlcglefbhlhcpaa.K
